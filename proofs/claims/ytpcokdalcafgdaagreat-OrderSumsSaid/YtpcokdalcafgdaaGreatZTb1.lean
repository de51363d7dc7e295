/- The functions of the table, and the table. Conditions: none. -/
import Derived.Test.YtpcokdalcafgdaaGreatZMk
namespace Go.Proofs.Tryz.Run
open Go Go.Vf
noncomputable section
def n0:Nat:=nat_lit 0
def n1:Nat:=nat_lit 1
def n2:Nat:=nat_lit 2
def n3:Nat:=nat_lit 3
def n4:Nat:=nat_lit 4
def n5:Nat:=nat_lit 5
def n6:Nat:=nat_lit 6
def n7:Nat:=nat_lit 7
def n8:Nat:=nat_lit 8
def n9:Nat:=nat_lit 9
def n10:Nat:=nat_lit 10
def n11:Nat:=nat_lit 11
def n12:Nat:=nat_lit 12
def n13:Nat:=nat_lit 13
def n14:Nat:=nat_lit 14
def n15:Nat:=nat_lit 15
def n16:Nat:=nat_lit 16
def n17:Nat:=nat_lit 17
def n18:Nat:=nat_lit 18
def n19:Nat:=nat_lit 19
def n20:Nat:=nat_lit 20
def n21:Nat:=nat_lit 21
def n22:Nat:=nat_lit 22
def n23:Nat:=nat_lit 23
def n24:Nat:=nat_lit 24
def n25:Nat:=nat_lit 25
def n26:Nat:=nat_lit 26
def n27:Nat:=nat_lit 27
def n28:Nat:=nat_lit 28
def n29:Nat:=nat_lit 29
def n30:Nat:=nat_lit 30
def n31:Nat:=nat_lit 31
def n32:Nat:=nat_lit 32
def n33:Nat:=nat_lit 33
def n34:Nat:=nat_lit 34
def n35:Nat:=nat_lit 35
def n36:Nat:=nat_lit 36
def n37:Nat:=nat_lit 37
def n38:Nat:=nat_lit 38
def n39:Nat:=nat_lit 39
def n40:Nat:=nat_lit 40
def n41:Nat:=nat_lit 41
def n42:Nat:=nat_lit 42
def n43:Nat:=nat_lit 43
def n44:Nat:=nat_lit 44
def n45:Nat:=nat_lit 45
def n46:Nat:=nat_lit 46
def n47:Nat:=nat_lit 47
def n48:Nat:=nat_lit 48
def n49:Nat:=nat_lit 49
def n50:Nat:=nat_lit 50
def n51:Nat:=nat_lit 51
def n52:Nat:=nat_lit 52
def n53:Nat:=nat_lit 53
def n54:Nat:=nat_lit 54
def n55:Nat:=nat_lit 55
def n56:Nat:=nat_lit 56
def n57:Nat:=nat_lit 57
def n58:Nat:=nat_lit 58
def n59:Nat:=nat_lit 59
def n60:Nat:=nat_lit 60
def n61:Nat:=nat_lit 61
def n62:Nat:=nat_lit 62
def n63:Nat:=nat_lit 63
def n64:Nat:=nat_lit 64
def n65:Nat:=nat_lit 65
def n66:Nat:=nat_lit 66
def n67:Nat:=nat_lit 67
def n68:Nat:=nat_lit 68
def n69:Nat:=nat_lit 69
def n70:Nat:=nat_lit 70
def n71:Nat:=nat_lit 71
def n72:Nat:=nat_lit 72
def n73:Nat:=nat_lit 73
def n74:Nat:=nat_lit 74
def n75:Nat:=nat_lit 75
def n76:Nat:=nat_lit 76
def n77:Nat:=nat_lit 77
def n78:Nat:=nat_lit 78
def n79:Nat:=nat_lit 79
def n80:Nat:=nat_lit 80
def n81:Nat:=nat_lit 81
def n82:Nat:=nat_lit 82
def n83:Nat:=nat_lit 83
def n84:Nat:=nat_lit 84
def n85:Nat:=nat_lit 85
def n86:Nat:=nat_lit 86
def n87:Nat:=nat_lit 87
def n88:Nat:=nat_lit 88
def n89:Nat:=nat_lit 89
def n90:Nat:=nat_lit 90
def n91:Nat:=nat_lit 91
def n92:Nat:=nat_lit 92
def n93:Nat:=nat_lit 93
def n94:Nat:=nat_lit 94
def n95:Nat:=nat_lit 95
def n96:Nat:=nat_lit 96
def n97:Nat:=nat_lit 97
def n98:Nat:=nat_lit 98
def n99:Nat:=nat_lit 99
def n100:Nat:=nat_lit 100
def n101:Nat:=nat_lit 101
def n102:Nat:=nat_lit 102
def n103:Nat:=nat_lit 103
def n104:Nat:=nat_lit 104
def n105:Nat:=nat_lit 105
def n106:Nat:=nat_lit 106
def n107:Nat:=nat_lit 107
def n108:Nat:=nat_lit 108
def n109:Nat:=nat_lit 109
def n110:Nat:=nat_lit 110
def n111:Nat:=nat_lit 111
def n112:Nat:=nat_lit 112
def n113:Nat:=nat_lit 113
def n114:Nat:=nat_lit 114
def n115:Nat:=nat_lit 115
def n116:Nat:=nat_lit 116
def n117:Nat:=nat_lit 117
def n118:Nat:=nat_lit 118
def n119:Nat:=nat_lit 119
def n120:Nat:=nat_lit 120
def n121:Nat:=nat_lit 121
def n122:Nat:=nat_lit 122
def n123:Nat:=nat_lit 123
def n124:Nat:=nat_lit 124
def n125:Nat:=nat_lit 125
def n126:Nat:=nat_lit 126
def n127:Nat:=nat_lit 127
def n128:Nat:=nat_lit 128
def n129:Nat:=nat_lit 129
def n130:Nat:=nat_lit 130
def n131:Nat:=nat_lit 131
def n132:Nat:=nat_lit 132
def n133:Nat:=nat_lit 133
def n134:Nat:=nat_lit 134
def n135:Nat:=nat_lit 135
def n136:Nat:=nat_lit 136
def n137:Nat:=nat_lit 137
def n138:Nat:=nat_lit 138
def n139:Nat:=nat_lit 139
def n140:Nat:=nat_lit 140
def n141:Nat:=nat_lit 141
def n142:Nat:=nat_lit 142
def n143:Nat:=nat_lit 143
def n144:Nat:=nat_lit 144
def n145:Nat:=nat_lit 145
def n146:Nat:=nat_lit 146
def n147:Nat:=nat_lit 147
def n148:Nat:=nat_lit 148
def n149:Nat:=nat_lit 149
def n150:Nat:=nat_lit 150
def n151:Nat:=nat_lit 151
def n152:Nat:=nat_lit 152
def n153:Nat:=nat_lit 153
def n154:Nat:=nat_lit 154
def n155:Nat:=nat_lit 155
def n156:Nat:=nat_lit 156
def n157:Nat:=nat_lit 157
def n158:Nat:=nat_lit 158
def n159:Nat:=nat_lit 159
def n160:Nat:=nat_lit 160
def n161:Nat:=nat_lit 161
def n162:Nat:=nat_lit 162
def n163:Nat:=nat_lit 163
def n164:Nat:=nat_lit 164
def n165:Nat:=nat_lit 165
def n166:Nat:=nat_lit 166
def n167:Nat:=nat_lit 167
def n168:Nat:=nat_lit 168
def n169:Nat:=nat_lit 169
def n170:Nat:=nat_lit 170
def n171:Nat:=nat_lit 171
def n172:Nat:=nat_lit 172
def n173:Nat:=nat_lit 173
def n174:Nat:=nat_lit 174
def n175:Nat:=nat_lit 175
def n176:Nat:=nat_lit 176
def n177:Nat:=nat_lit 177
def n178:Nat:=nat_lit 178
def n179:Nat:=nat_lit 179
def n180:Nat:=nat_lit 180
def n181:Nat:=nat_lit 181
def n182:Nat:=nat_lit 182
def n183:Nat:=nat_lit 183
def n184:Nat:=nat_lit 184
def n185:Nat:=nat_lit 185
def n186:Nat:=nat_lit 186
def n187:Nat:=nat_lit 187
def n188:Nat:=nat_lit 188
def n189:Nat:=nat_lit 189
def n190:Nat:=nat_lit 190
def n191:Nat:=nat_lit 191
def n192:Nat:=nat_lit 192
def n193:Nat:=nat_lit 193
def n194:Nat:=nat_lit 194
def n195:Nat:=nat_lit 195
def n196:Nat:=nat_lit 196
def n197:Nat:=nat_lit 197
def n198:Nat:=nat_lit 198
def n199:Nat:=nat_lit 199
def n200:Nat:=nat_lit 200
def n201:Nat:=nat_lit 201
def n202:Nat:=nat_lit 202
def n203:Nat:=nat_lit 203
def n204:Nat:=nat_lit 204
def n205:Nat:=nat_lit 205
def n206:Nat:=nat_lit 206
def n207:Nat:=nat_lit 207
def n208:Nat:=nat_lit 208
def n209:Nat:=nat_lit 209
def n210:Nat:=nat_lit 210
def n211:Nat:=nat_lit 211
def n212:Nat:=nat_lit 212
def n213:Nat:=nat_lit 213
def n214:Nat:=nat_lit 214
def n215:Nat:=nat_lit 215
def n216:Nat:=nat_lit 216
def n217:Nat:=nat_lit 217
def n218:Nat:=nat_lit 218
def n219:Nat:=nat_lit 219
def n220:Nat:=nat_lit 220
def n221:Nat:=nat_lit 221
def n222:Nat:=nat_lit 222
def n223:Nat:=nat_lit 223
def n224:Nat:=nat_lit 224
def n225:Nat:=nat_lit 225
def n226:Nat:=nat_lit 226
def n227:Nat:=nat_lit 227
def n228:Nat:=nat_lit 228
def n229:Nat:=nat_lit 229
def n230:Nat:=nat_lit 230
def n231:Nat:=nat_lit 231
def n232:Nat:=nat_lit 232
def n233:Nat:=nat_lit 233
def n234:Nat:=nat_lit 234
def n235:Nat:=nat_lit 235
def n236:Nat:=nat_lit 236
def n237:Nat:=nat_lit 237
def n238:Nat:=nat_lit 238
def n239:Nat:=nat_lit 239
def n240:Nat:=nat_lit 240
def n241:Nat:=nat_lit 241
def n242:Nat:=nat_lit 242
def n243:Nat:=nat_lit 243
def n244:Nat:=nat_lit 244
def n245:Nat:=nat_lit 245
def n246:Nat:=nat_lit 246
def n247:Nat:=nat_lit 247
def n248:Nat:=nat_lit 248
def n256:Nat:=nat_lit 256
def n2000:Nat:=nat_lit 2000
def n3000:Nat:=nat_lit 3000
def n6000:Nat:=nat_lit 6000
def n9998:Nat:=nat_lit 9998
def n9999:Nat:=nat_lit 9999
def n65536:Nat:=nat_lit 65536
def n4294967296:Nat:=nat_lit 4294967296
def oq (d:Nat)(p:IOp):IOper:=⟨some d,none,p⟩
def og (d g:Nat)(b:Bool)(p:IOp):IOper:=⟨some d,some (g,b),p⟩
def om (d x:Nat):IOper:=⟨some d,none,.mv (.t x)⟩
def ol (d x:Nat):IOper:=⟨some d,none,.load none (.t x)⟩
def of (d n x:Nat):IOper:=⟨some d,none,.faddr n (.t x)⟩
def dz (o:IOper)(i s:Nat):DOper:=⟨o,i,s,[],[],false,false⟩
def dq (o:IOper)(i s:Nat)(a b:List Nat)(x y:Bool):DOper:=⟨o,i,s,a,b,x,y⟩
def i (n:Nat):Int:= .ofNat n
def k (n:Nat):IOpd:= .c (.d (.int .i64 (.l (.ofNat n))))
def t0:IOpd:=.t n0
def t1:IOpd:=.t n1
def t2:IOpd:=.t n2
def t3:IOpd:=.t n3
def t4:IOpd:=.t n4
def t5:IOpd:=.t n5
def t6:IOpd:=.t n6
def t7:IOpd:=.t n7
def t8:IOpd:=.t n8
def t9:IOpd:=.t n9
def t10:IOpd:=.t n10
def t11:IOpd:=.t n11
def t12:IOpd:=.t n12
def t13:IOpd:=.t n13
def t14:IOpd:=.t n14
def t15:IOpd:=.t n15
def t16:IOpd:=.t n16
def t17:IOpd:=.t n17
def t18:IOpd:=.t n18
def t19:IOpd:=.t n19
def t20:IOpd:=.t n20
def t21:IOpd:=.t n21
def t22:IOpd:=.t n22
def t23:IOpd:=.t n23
def t24:IOpd:=.t n24
def t25:IOpd:=.t n25
def t26:IOpd:=.t n26
def t27:IOpd:=.t n27
def t28:IOpd:=.t n28
def t29:IOpd:=.t n29
def t30:IOpd:=.t n30
def t31:IOpd:=.t n31
def t32:IOpd:=.t n32
def t33:IOpd:=.t n33
def t34:IOpd:=.t n34
def t35:IOpd:=.t n35
def t36:IOpd:=.t n36
def t37:IOpd:=.t n37
def t38:IOpd:=.t n38
def t39:IOpd:=.t n39
def t40:IOpd:=.t n40
def t41:IOpd:=.t n41
def t42:IOpd:=.t n42
def t43:IOpd:=.t n43
def t44:IOpd:=.t n44
def t45:IOpd:=.t n45
def t46:IOpd:=.t n46
def t47:IOpd:=.t n47
def t48:IOpd:=.t n48
def t49:IOpd:=.t n49
def t50:IOpd:=.t n50
def t51:IOpd:=.t n51
def t52:IOpd:=.t n52
def t53:IOpd:=.t n53
def t54:IOpd:=.t n54
def t55:IOpd:=.t n55
def t56:IOpd:=.t n56
def t57:IOpd:=.t n57
def t58:IOpd:=.t n58
def t59:IOpd:=.t n59
def t60:IOpd:=.t n60
def t61:IOpd:=.t n61
def t62:IOpd:=.t n62
def t63:IOpd:=.t n63
def t64:IOpd:=.t n64
def t65:IOpd:=.t n65
def t66:IOpd:=.t n66
def t67:IOpd:=.t n67
def t68:IOpd:=.t n68
def t69:IOpd:=.t n69
def t70:IOpd:=.t n70
def t71:IOpd:=.t n71
def t72:IOpd:=.t n72
def t73:IOpd:=.t n73
def t74:IOpd:=.t n74
def t75:IOpd:=.t n75
def t76:IOpd:=.t n76
def t77:IOpd:=.t n77
def t78:IOpd:=.t n78
def t79:IOpd:=.t n79
def t80:IOpd:=.t n80
def t81:IOpd:=.t n81
def t82:IOpd:=.t n82
def t83:IOpd:=.t n83
def t84:IOpd:=.t n84
def t85:IOpd:=.t n85
def t86:IOpd:=.t n86
def t87:IOpd:=.t n87
def t88:IOpd:=.t n88
def t89:IOpd:=.t n89
def t90:IOpd:=.t n90
def t91:IOpd:=.t n91
def t92:IOpd:=.t n92
def t93:IOpd:=.t n93
def t94:IOpd:=.t n94
def t95:IOpd:=.t n95
def t96:IOpd:=.t n96
def t97:IOpd:=.t n97
def t98:IOpd:=.t n98
def t99:IOpd:=.t n99
def t100:IOpd:=.t n100
def t101:IOpd:=.t n101
def t102:IOpd:=.t n102
def t103:IOpd:=.t n103
def t104:IOpd:=.t n104
def t105:IOpd:=.t n105
def t106:IOpd:=.t n106
def t107:IOpd:=.t n107
def t108:IOpd:=.t n108
def t109:IOpd:=.t n109
def t110:IOpd:=.t n110
def t111:IOpd:=.t n111
def t112:IOpd:=.t n112
def t113:IOpd:=.t n113
def t114:IOpd:=.t n114
def t115:IOpd:=.t n115
def t116:IOpd:=.t n116
def t117:IOpd:=.t n117
def t118:IOpd:=.t n118
def t119:IOpd:=.t n119
def t120:IOpd:=.t n120
def t121:IOpd:=.t n121
def t122:IOpd:=.t n122
def t123:IOpd:=.t n123
def t124:IOpd:=.t n124
def t125:IOpd:=.t n125
def t126:IOpd:=.t n126
def t127:IOpd:=.t n127
def t128:IOpd:=.t n128
def t129:IOpd:=.t n129
def t130:IOpd:=.t n130
def t131:IOpd:=.t n131
def t132:IOpd:=.t n132
def t133:IOpd:=.t n133
def t134:IOpd:=.t n134
def t135:IOpd:=.t n135
def t136:IOpd:=.t n136
def t137:IOpd:=.t n137
def t138:IOpd:=.t n138
def t139:IOpd:=.t n139
def t140:IOpd:=.t n140
def t141:IOpd:=.t n141
def t142:IOpd:=.t n142
def t143:IOpd:=.t n143
def t144:IOpd:=.t n144
def t145:IOpd:=.t n145
def t146:IOpd:=.t n146
def t147:IOpd:=.t n147
def t148:IOpd:=.t n148
def t149:IOpd:=.t n149
def t150:IOpd:=.t n150
def t151:IOpd:=.t n151
def t152:IOpd:=.t n152
def t153:IOpd:=.t n153
def t154:IOpd:=.t n154
def t155:IOpd:=.t n155
def t156:IOpd:=.t n156
def t157:IOpd:=.t n157
def t158:IOpd:=.t n158
def t159:IOpd:=.t n159
def t160:IOpd:=.t n160
def t161:IOpd:=.t n161
def t162:IOpd:=.t n162
def t163:IOpd:=.t n163
def t164:IOpd:=.t n164
def t165:IOpd:=.t n165
def t166:IOpd:=.t n166
def t167:IOpd:=.t n167
def t168:IOpd:=.t n168
def t169:IOpd:=.t n169
def t170:IOpd:=.t n170
def t171:IOpd:=.t n171
def t172:IOpd:=.t n172
def t173:IOpd:=.t n173
def t174:IOpd:=.t n174
def t175:IOpd:=.t n175
def t176:IOpd:=.t n176
def t178:IOpd:=.t n178
def t180:IOpd:=.t n180
def t181:IOpd:=.t n181
def t182:IOpd:=.t n182
def t184:IOpd:=.t n184
def t185:IOpd:=.t n185
def t186:IOpd:=.t n186
def t188:IOpd:=.t n188
def t189:IOpd:=.t n189
def t190:IOpd:=.t n190
def t192:IOpd:=.t n192
def t193:IOpd:=.t n193
def t194:IOpd:=.t n194
def t196:IOpd:=.t n196
def t197:IOpd:=.t n197
def t198:IOpd:=.t n198
def t200:IOpd:=.t n200
def t201:IOpd:=.t n201
def t202:IOpd:=.t n202
def t204:IOpd:=.t n204
def t205:IOpd:=.t n205
def t206:IOpd:=.t n206
def t208:IOpd:=.t n208
def t209:IOpd:=.t n209
def t210:IOpd:=.t n210
def t212:IOpd:=.t n212
def t213:IOpd:=.t n213
def t214:IOpd:=.t n214
def t216:IOpd:=.t n216
def t217:IOpd:=.t n217
def t218:IOpd:=.t n218
def t220:IOpd:=.t n220
def t221:IOpd:=.t n221
def t222:IOpd:=.t n222
def t224:IOpd:=.t n224
def t225:IOpd:=.t n225
def t226:IOpd:=.t n226
def t228:IOpd:=.t n228
def t229:IOpd:=.t n229
def t230:IOpd:=.t n230
def t231:IOpd:=.t n231
def t233:IOpd:=.t n233
def t234:IOpd:=.t n234
def t235:IOpd:=.t n235
def t236:IOpd:=.t n236
def t238:IOpd:=.t n238
def t239:IOpd:=.t n239
def t240:IOpd:=.t n240
def t241:IOpd:=.t n241
def t242:IOpd:=.t n242
def t243:IOpd:=.t n243
def t245:IOpd:=.t n245
def t246:IOpd:=.t n246
def k0:IOpd:=k n0
def k1:IOpd:=k n1
def k2:IOpd:=k n2
def k3:IOpd:=k n3
def k4:IOpd:=k n4
def k5:IOpd:=k n5
def k6:IOpd:=k n6
def k7:IOpd:=k n7
def k8:IOpd:=k n8
def k9:IOpd:=k n9
def k12:IOpd:=k n12
def k14:IOpd:=k n14
def k16:IOpd:=k n16
def k31:IOpd:=k n31
def k32:IOpd:=k n32
def k40:IOpd:=k n40
def k50:IOpd:=k n50
def k60:IOpd:=k n60
def k200:IOpd:=k n200
def k2000:IOpd:=k n2000
def k3000:IOpd:=k n3000
def k6000:IOpd:=k n6000
def k9999:IOpd:=k n9999
def a13:Ann:=⟨[(n1,n1,n1),(n2,n1,n0),(n3,n1,n1),(n4,n1,n1),(n5,n1,n0),(n6,n13,n0),(n8,n7,n0),(n9,n1,n1),(n10,n0,n0),(n11,n7,n1),(n12,n2,n1),(n13,n1,n1),(n14,n1,n1),(n15,n1,n1),(n16,n1,n1),(n17,n2,n1),(n18,n5,n1),(n19,n2,n1),(n20,n2,n1),(n21,n2,n1),(n22,n2,n1),(n23,n65,n0),(n23,n68,n0)],[]⟩
def c13:ICode:=
 (.seq (.ops [(oq n0 (.mv (.c (.d (.bool false)))))])
 (.seq (.ops [(oq n34 (.bslice n1 n4 [(.int .i64 (.l (i n0)))] [(n0,k0),(n1,k1),(n2,k2),(n3,k3)] false)),(oq n35 (.call (.c (.fn n45 [] [])) [t34] .share)),(om n33 n35),(oq n36 (.extract t33 n0)),(oq n37 (.extract t33 n1)),(om n1 n36),(om n2 n37)])
 (.seq (.ops [(om n39 n1),(oq n40 (.call (.c (.fn n18 [] [])) [t39] .borrow)),(om n38 n40),(oq n41 (.extract t38 n0)),(oq n42 (.extract t38 n1)),(om n3 n41),(om n4 n42)])
 (.seq (.ops [(om n44 n1),(oq n45 (.call (.c (.fn n20 [] [])) [t44] .share)),(om n43 n45),(oq n46 (.extract t43 n0)),(oq n47 (.extract t43 n1)),(om n5 n46),(om n6 n47)])
 (.seq (.ops [(om n49 n1),(oq n50 (.call (.c (.fn n37 [] [])) [t49,k2,k0] .share)),(om n48 n50),(oq n51 (.extract t48 n0)),(oq n52 (.extract t48 n1)),(om n7 n51),(om n8 n52)])
 (.seq (.ops [(om n54 n7),(oq n55 (.call (.c (.fn n18 [] [])) [t54] .borrow)),(om n53 n55),(oq n56 (.extract t53 n0)),(oq n57 (.extract t53 n1)),(om n9 n56),(om n10 n57)])
 (.seq (.seq (.ops [(om n58 n4),(oq n59 (.bin .neq t58 k0)),(om n60 n59),(og n61 n60 false (.mv t3)),(og n62 n60 false (.bin .neq t61 k6)),(oq n63 (.pick t60 (.c (.d (.bool true))) t62)),(om n64 n63),(og n65 n64 false (.mv t6)),(og n66 n64 false (.bin .neq t65 k0)),(oq n67 (.pick t64 (.c (.d (.bool true))) t66)),(om n68 n67),(og n69 n68 false (.mv t5)),(og n70 n68 false (.bslice n1 n4 [(.int .i64 (.l (i n0)))] [(n0,k1),(n1,k2),(n2,k1),(n3,k2)] false)),(og n71 n68 false (.call (.c (.fn n23 [] [])) [t69,t70] .borrow)),(og n72 n68 false (.un .not t71)),(oq n73 (.pick t68 (.c (.d (.bool true))) t72)),(om n74 n73),(og n75 n74 false (.mv t8)),(og n76 n74 false (.bin .neq t75 k0)),(oq n77 (.pick t74 (.c (.d (.bool true))) t76)),(om n78 n77),(og n79 n78 false (.mv t10)),(og n80 n78 false (.bin .neq t79 k0)),(oq n81 (.pick t78 (.c (.d (.bool true))) t80)),(om n82 n81),(og n83 n82 false (.mv t9)),(og n84 n82 false (.bin .neq t83 k9)),(oq n85 (.pick t82 (.c (.d (.bool true))) t84))])
 (.cond t85 (.seq (.ops [(oq n0 (.mv (.c (.d (.bool false)))))])
 .ret)
 .skip))
 (.seq (.draw n0 [(dz (om n87 n1) n0 n0),(dz (oq n88 (.iaddr n5 t87 k0)) n1 n0),(dz (om n90 n1) n3 n0),(dz (oq n91 (.iaddr n5 t90 k0)) n4 n0),(dz (oq n89 (.load (some n5) t88)) n2 n0),(dz (oq n92 (.load (some n5) t91)) n5 n0),(dq (oq n93 (.bslice n5 n2 [.nil,.nil,.nil,.nil,(.int .i64 (.l (i n0)))] [(n0,t89),(n1,t92)] false)) n6 n0 [] [n2,n5,n1,n0,n4,n3] true false),(dq (oq n94 (.call (.c (.fn n18 [] [])) [t93] .borrow)) n7 n0 [] [n6,n2,n5,n1,n0,n4,n3] true false),(dz (om n86 n94) n8 n0),(dz (oq n95 (.extract t86 n0)) n9 n0),(dz (oq n96 (.extract t86 n1)) n10 n0),(dz (om n11 n95) n11 n0),(dz (om n12 n96) n12 n0)])
 (.seq (.ops [(oq n98 (.bslice n1 n4 [(.int .i64 (.l (i n0)))] [(n0,k0),(n1,k2),(n2,k1),(n3,k3)] false)),(oq n99 (.call (.c (.fn n45 [] [])) [t98] .share)),(om n97 n99),(oq n100 (.extract t97 n0)),(oq n101 (.extract t97 n1)),(om n13 n100),(om n14 n101)])
 (.seq (.ops [(oq n103 (.call (.c (.fn n18 [] [])) [(.c (.d .nil))] .borrow)),(om n102 n103),(oq n104 (.extract t102 n0)),(oq n105 (.extract t102 n1)),(om n4 n105)])
 (.seq (.draw n0 [(dz (om n107 n1) n0 n0),(dz (oq n108 (.iaddr n5 t107 k0)) n1 n0),(dz (om n110 n13) n3 n0),(dz (oq n111 (.iaddr n5 t110 k0)) n4 n0),(dz (oq n109 (.load (some n5) t108)) n2 n0),(dz (oq n112 (.load (some n5) t111)) n5 n0),(dq (oq n113 (.bslice n5 n2 [.nil,.nil,.nil,.nil,(.int .i64 (.l (i n0)))] [(n0,t109),(n1,t112)] false)) n6 n0 [] [n2,n5,n1,n0,n4,n3] true false),(dq (oq n114 (.call (.c (.fn n20 [] [])) [t113] .share)) n7 n0 [] [n6,n2,n5,n1,n0,n4,n3] true false),(dz (om n106 n114) n8 n0),(dz (oq n115 (.extract t106 n0)) n9 n0),(dz (oq n116 (.extract t106 n1)) n10 n0),(dz (om n6 n116) n11 n0)])
 (.seq (.ops [(om n118 n1),(oq n119 (.bslice n1 n3 [(.int .i64 (.l (i n0)))] [(n0,k0),(n1,k1),(n2,k2)] false)),(oq n120 (.call (.c (.fn n40 [] [])) [t118,t119] .share)),(om n117 n120),(oq n121 (.extract t117 n0)),(oq n122 (.extract t117 n1)),(om n8 n122)])
 (.seq (.ops [(om n124 n1),(oq n125 (.call (.c (.fn n36 [] [])) [t124,k3] .share)),(om n123 n125),(oq n126 (.extract t123 n0)),(oq n127 (.extract t123 n1)),(om n10 n127)])
 (.seq (.ops [(om n129 n1),(oq n130 (.call (.c (.fn n36 [] [])) [t129,(.c (.d (.int .i64 (.l (.negSucc n0)))))] .share)),(om n128 n130),(oq n131 (.extract t128 n0)),(oq n132 (.extract t128 n1)),(om n15 n131),(om n16 n132)])
 (.seq (.ops [(om n134 n1),(oq n135 (.call (.c (.fn n37 [] [])) [t134,k4,k0] .share)),(om n133 n135),(oq n136 (.extract t133 n0)),(oq n137 (.extract t133 n1)),(om n17 n136),(om n18 n137)])
 (.seq (.ops [(om n139 n1),(oq n140 (.call (.c (.fn n37 [] [])) [t139,k0,k4] .share)),(om n138 n140),(oq n141 (.extract t138 n0)),(oq n142 (.extract t138 n1)),(om n19 n141),(om n20 n142)])
 (.seq (.ops [(oq n144 (.build [.nil,.nil,.nil,.nil,(.int .i64 (.l (i n0)))] [])),(oq n145 (.bslice n5 n1 [.nil,.nil,.nil,.nil,(.int .i64 (.l (i n0)))] [(n0,t144)] false)),(oq n146 (.call (.c (.fn n25 [] [])) [t145] .share)),(om n143 n146),(oq n147 (.extract t143 n0)),(oq n148 (.extract t143 n1)),(oq n149 (.extract t143 n2)),(om n21 n147),(om n22 n148),(om n23 n149)])
 (.seq (.ops [(oq n150 (.bslice n1 n6 [(.int .i64 (.l (i n0)))] [(n0,k2),(n1,k1),(n2,k1),(n3,k1),(n4,k1),(n5,k1)] false)),(oq n151 (.bslice n1 n6 [(.int .i64 (.l (i n0)))] [(n0,k0),(n1,k1),(n2,k2),(n3,k3),(n4,k4),(n5,k5)] false)),(oq n152 (.build [(.int .u8 (.l (i n0))),(.int .i64 (.l (i n0)))] [])),(oq n153 (.build [(.int .u8 (.l (i n0))),(.int .i64 (.l (i n0)))] [(n1,n1,k1)])),(oq n154 (.bslice n2 n2 [(.int .u8 (.l (i n0))),(.int .i64 (.l (i n0)))] [(n0,t152),(n1,t153)] false)),(oq n155 (.call (.c (.fn n46 [] [])) [t150,t151,t154] .share)),(oq n24 (.alloc [.nil,.nil,.nil,.nil,(.int .i64 (.l (i n0)))])),⟨none,none,.store n5 t24 t155⟩])
 (.seq (.ops [(oq n157 (.load (some n5) t24)),(oq n158 (.bslice n5 n1 [.nil,.nil,.nil,.nil,(.int .i64 (.l (i n0)))] [(n0,t157)] false)),(oq n159 (.call (.c (.fn n28 [] [])) [t158] .share)),(om n156 n159),(oq n160 (.extract t156 n0)),(oq n161 (.extract t156 n1)),(om n25 n160),(om n26 n161)])
 (.seq (.ops [(oq n163 (.bslice n1 n1 [(.int .i64 (.l (i n0)))] [(n0,k0)] false)),(oq n164 (.build [.nil,.nil,.nil] [(n2,n1,t163)])),(oq n165 (.call (.c (.fn n30 [] [])) [t164] .share)),(om n162 n165),(oq n166 (.extract t162 n0)),(oq n167 (.extract t162 n1)),(om n27 n166),(om n28 n167)])
 (.seq (.ops [(oq n168 (.build [(.int .u8 (.l (i n0))),(.int .i64 (.l (i n0)))] [(n1,n1,k3)])),(oq n169 (.bslice n2 n1 [(.int .u8 (.l (i n0))),(.int .i64 (.l (i n0)))] [(n0,t168)] false)),(oq n170 (.call (.c (.fn n46 [] [])) [(.c (.d .nil)),(.c (.d .nil)),t169] .share)),(oq n29 (.alloc [.nil,.nil,.nil,.nil,(.int .i64 (.l (i n0)))])),⟨none,none,.store n5 t29 t170⟩])
 (.seq (.ops [(oq n172 (.load (some n5) t29)),(oq n173 (.bslice n5 n1 [.nil,.nil,.nil,.nil,(.int .i64 (.l (i n0)))] [(n0,t172)] false)),(oq n174 (.call (.c (.fn n25 [] [])) [t173] .share)),(om n171 n174),(oq n175 (.extract t171 n0)),(oq n176 (.extract t171 n1)),(oq n177 (.extract t171 n2)),(om n30 n175),(om n31 n176),(om n32 n177)])
 (.seq (.draw n0 [(dz (om n178 n12) n0 n0),(dz (oq n179 (.bin .eql t178 k0)) n1 n0),(dz (om n180 n179) n2 n0),(dz (og n181 n180 true (.mv t11)) n3 n0),(dz (og n182 n180 true (.bin .eql t181 k6)) n4 n0),(dz (oq n183 (.pick t180 t182 (.c (.d (.bool false))))) n5 n0),(dz (om n184 n183) n6 n0),(dz (og n185 n184 true (.mv t4)) n7 n0),(dz (og n186 n184 true (.bin .eql t185 k7)) n8 n0),(dz (oq n187 (.pick t184 t186 (.c (.d (.bool false))))) n9 n0),(dz (om n188 n187) n10 n0),(dz (og n189 n188 true (.mv t6)) n11 n0),(dz (og n190 n188 true (.bin .eql t189 k2)) n12 n0),(dz (oq n191 (.pick t188 t190 (.c (.d (.bool false))))) n13 n0),(dz (om n192 n191) n14 n0),(dz (og n193 n192 true (.mv t8)) n15 n0),(dz (og n194 n192 true (.bin .eql t193 k4)) n16 n0),(dz (oq n195 (.pick t192 t194 (.c (.d (.bool false))))) n17 n0),(dz (om n196 n195) n18 n0),(dz (og n197 n196 true (.mv t10)) n19 n0),(dz (og n198 n196 true (.bin .eql t197 k3)) n20 n0),(dz (oq n199 (.pick t196 t198 (.c (.d (.bool false))))) n21 n0),(dz (om n200 n199) n22 n0),(dz (og n201 n200 true (.mv t16)) n23 n0),(dz (og n202 n200 true (.bin .eql t201 k3)) n24 n0),(dz (oq n203 (.pick t200 t202 (.c (.d (.bool false))))) n25 n0),(dz (om n204 n203) n26 n0),(dz (og n205 n204 true (.mv t18)) n27 n0),(dz (og n206 n204 true (.bin .eql t205 k3)) n28 n0),(dz (oq n207 (.pick t204 t206 (.c (.d (.bool false))))) n29 n0),(dz (om n208 n207) n30 n0),(dz (og n209 n208 true (.mv t20)) n31 n0),(dz (og n210 n208 true (.bin .eql t209 k3)) n32 n0),(dz (oq n211 (.pick t208 t210 (.c (.d (.bool false))))) n33 n0),(dz (om n212 n211) n34 n0),(dz (og n213 n212 true (.mv t23)) n35 n0),(dz (og n214 n212 true (.bin .eql t213 k4)) n36 n0),(dz (oq n215 (.pick t212 t214 (.c (.d (.bool false))))) n37 n0),(dz (om n216 n215) n38 n0),(dz (og n217 n216 true (.mv t26)) n39 n0),(dz (og n218 n216 true (.bin .eql t217 k5)) n40 n0),(dz (oq n219 (.pick t216 t218 (.c (.d (.bool false))))) n41 n0),(dz (om n220 n219) n42 n0),(dz (og n221 n220 true (.mv t28)) n43 n0),(dz (og n222 n220 true (.bin .eql t221 k4)) n44 n0),(dz (oq n223 (.pick t220 t222 (.c (.d (.bool false))))) n45 n0),(dz (om n224 n223) n46 n0),(dz (og n225 n224 true (.mv t32)) n47 n0),(dz (og n226 n224 true (.bin .eql t225 k0)) n48 n0),(dz (oq n227 (.pick t224 t226 (.c (.d (.bool false))))) n49 n0),(dz (om n228 n227) n50 n0),(dz (og n229 n228 true (.mv t31)) n51 n0),(dz (og n230 n228 true (.len t229)) n52 n0),(dz (og n231 n228 true (.bin .eql t230 k0)) n53 n0),(dz (oq n232 (.pick t228 t231 (.c (.d (.bool false))))) n54 n0),(dz (om n233 n232) n55 n0),(dz (og n234 n233 true (.mv t30)) n56 n0),(dz (og n235 n233 true (.len t234)) n57 n0),(dz (og n236 n233 true (.bin .eql t235 k1)) n58 n0),(dz (oq n237 (.pick t233 t236 (.c (.d (.bool false))))) n59 n0),(dz (om n238 n237) n60 n0),(dz (og n239 n238 true (.mv t30)) n61 n0),(dz (og n240 n238 true (.iaddr n5 t239 k0)) n62 n0),(dz (og n241 n238 true (.load (some n5) t240)) n63 n0),(dz (og n242 n238 true (.load (some n5) t29)) n64 n0),(dq (og n243 n238 true (.call (.c (.fn n47 [] [])) [t241,t242] .borrow)) n65 n0 [] [n63,n64,n60,n62,n61,n59,n55,n58,n54,n50,n53,n49,n46,n48,n45,n42,n44,n41,n38,n40,n37,n34,n36,n33,n30,n32,n29,n26,n28,n25,n22,n24,n21,n18,n20,n17,n14,n16,n13,n10,n12,n9,n6,n8,n5,n2,n4,n1,n0,n3,n7,n11,n15,n19,n23,n27,n31,n35,n39,n43,n47,n52,n51,n57,n56] true false),(dz (oq n244 (.pick t238 t243 (.c (.d (.bool false))))) n66 n0),(dz (om n245 n244) n67 n0),(dq (og n246 n245 true (.call (.c (.fn n17 [] [])) [] .borrow)) n68 n0 [] [n67,n66,n65,n60,n59,n55,n58,n54,n50,n53,n49,n46,n48,n45,n42,n44,n41,n38,n40,n37,n34,n36,n33,n30,n32,n29,n26,n28,n25,n22,n24,n21,n18,n20,n17,n14,n16,n13,n10,n12,n9,n6,n8,n5,n2,n4,n1,n0,n3,n7,n11,n15,n19,n23,n27,n31,n35,n39,n43,n47,n52,n51,n57,n56,n63,n64,n62,n61] true false),(dz (oq n247 (.pick t245 t246 (.c (.d (.bool false))))) n69 n0),(dz (om n0 n247) n70 n0)])
 .ret)))))))))))))))))))))))
def x13:XFn:=⟨a13,n248,[(.t n0)],c13⟩
def a17:Ann:=⟨[(n1,n1,n1),(n2,n1,n1),(n3,n1,n0),(n4,n1,n1),(n5,n1,n1),(n6,n1,n1),(n7,n1,n1),(n8,n1,n1),(n9,n1,n1),(n10,n7,n1),(n11,n13,n0),(n11,n22,n0),(n11,n28,n0),(n11,n34,n0),(n11,n39,n0),(n11,n48,n0),(n11,n57,n0)],[]⟩
def c17:ICode:=
 (.seq (.ops [(oq n0 (.mv (.c (.d (.bool false)))))])
 (.seq (.ops [(oq n23 (.bslice n1 n4 [(.int .i64 (.l (i n0)))] [(n0,k0),(n1,k1),(n2,k2),(n3,k3)] false)),(oq n24 (.call (.c (.fn n45 [] [])) [t23] .share)),(om n22 n24),(oq n25 (.extract t22 n0)),(oq n26 (.extract t22 n1)),(om n1 n25),(om n2 n26)])
 (.seq (.ops [(oq n28 (.bslice n1 n4 [(.int .i64 (.l (i n0)))] [(n0,k0),(n1,k2),(n2,k1),(n3,k3)] false)),(oq n29 (.call (.c (.fn n45 [] [])) [t28] .share)),(om n27 n29),(oq n30 (.extract t27 n0)),(oq n31 (.extract t27 n1)),(om n3 n30),(om n4 n31)])
 (.seq (.ops [(om n33 n3),(oq n34 (.call (.c (.fn n18 [] [])) [t33] .borrow)),(om n32 n34),(oq n35 (.extract t32 n0)),(oq n36 (.extract t32 n1)),(om n5 n35),(om n6 n36)])
 (.seq (.ops [(om n38 n3),(oq n39 (.call (.c (.fn n20 [] [])) [t38] .share)),(om n37 n39),(oq n40 (.extract t37 n0)),(oq n41 (.extract t37 n1)),(om n7 n40),(om n8 n41)])
 (.seq (.ops [(om n43 n3),(oq n44 (.call (.c (.fn n36 [] [])) [t43,k1] .share)),(om n42 n44),(oq n45 (.extract t42 n0)),(oq n46 (.extract t42 n1)),(om n9 n45),(om n10 n46)])
 (.seq (.ops [(om n48 n1),(oq n49 (.call (.c (.fn n37 [] [])) [t48,k2,k0] .share)),(om n47 n49),(oq n50 (.extract t47 n0)),(oq n51 (.extract t47 n1)),(om n11 n50),(om n12 n51)])
 (.seq (.ops [(om n53 n3),(oq n54 (.call (.c (.fn n25 [] [])) [t53] .share)),(om n52 n54),(oq n55 (.extract t52 n0)),(oq n56 (.extract t52 n1)),(oq n57 (.extract t52 n2)),(om n13 n55),(om n14 n56),(om n15 n57)])
 (.seq (.ops [(oq n59 (.bslice n1 n4 [(.int .i64 (.l (i n0)))] [(n0,k3),(n1,k1),(n2,k0),(n3,k2)] false)),(oq n60 (.call (.c (.fn n45 [] [])) [t59] .share)),(om n58 n60),(oq n61 (.extract t58 n0)),(oq n62 (.extract t58 n1)),(om n16 n61),(om n17 n62)])
 (.seq (.ops [(om n64 n16),(oq n65 (.call (.c (.fn n28 [] [])) [t64] .share)),(om n63 n65),(oq n66 (.extract t63 n0)),(oq n67 (.extract t63 n1)),(om n18 n66),(om n19 n67)])
 (.seq (.ops [(oq n69 (.mkslice n3 [(.str []),(.int .i64 (.l (i n0))),(.int .i64 (.l (i n0)))] n32 k3)),(oq n70 (.build [(.int .u8 (.l (i n0))),(.int .i64 (.l (i n0))),(.int .i64 (.l (i n0))),(.int .i64 (.l (i n0))),(.int .i64 (.l (i n0)))] [(n0,n1,(.c (.d (.int .u8 (.l (i n3))))))])),(oq n71 (.build [(.int .u8 (.l (i n0))),(.int .i64 (.l (i n0))),(.int .i64 (.l (i n0))),(.int .i64 (.l (i n0))),(.int .i64 (.l (i n0)))] [(n0,n1,(.c (.d (.int .u8 (.l (i n3)))))),(n4,n1,k1)])),(oq n72 (.build [(.int .u8 (.l (i n0))),(.int .i64 (.l (i n0))),(.int .i64 (.l (i n0))),(.int .i64 (.l (i n0))),(.int .i64 (.l (i n0)))] [(n0,n1,(.c (.d (.int .u8 (.l (i n3)))))),(n4,n1,k2)])),(oq n73 (.build [(.int .u8 (.l (i n0))),(.int .i64 (.l (i n0))),(.int .i64 (.l (i n0))),(.int .i64 (.l (i n0))),(.int .i64 (.l (i n0)))] [(n0,n1,(.c (.d (.int .u8 (.l (i n7)))))),(n1,n1,k2)])),(oq n74 (.bslice n5 n4 [(.int .u8 (.l (i n0))),(.int .i64 (.l (i n0))),(.int .i64 (.l (i n0))),(.int .i64 (.l (i n0))),(.int .i64 (.l (i n0)))] [(n0,t70),(n1,t71),(n2,t72),(n3,t73)] false)),(oq n75 (.build [.nil,.nil,.nil] [(n0,n1,t69),(n1,n1,t74)])),(oq n76 (.call (.c (.fn n30 [] [])) [t75] .share)),(om n68 n76),(oq n77 (.extract t68 n0)),(oq n78 (.extract t68 n1)),(om n20 n77),(om n21 n78)])
 (.seq (.ops [(om n79 n6),(oq n80 (.bin .eql t79 k0)),(om n81 n80),(og n82 n81 true (.mv t5)),(og n83 n81 true (.bin .eql t82 k9)),(oq n84 (.pick t81 t83 (.c (.d (.bool false))))),(om n85 n84),(og n86 n85 true (.mv t8)),(og n87 n85 true (.bin .eql t86 k0)),(oq n88 (.pick t85 t87 (.c (.d (.bool false))))),(om n89 n88),(og n90 n89 true (.mv t7)),(og n91 n89 true (.bslice n1 n4 [(.int .i64 (.l (i n0)))] [(n0,k1),(n1,k4),(n2,k2),(n3,k2)] false)),(og n92 n89 true (.call (.c (.fn n23 [] [])) [t90,t91] .borrow)),(oq n93 (.pick t89 t92 (.c (.d (.bool false))))),(om n94 n93),(og n95 n94 true (.mv t10)),(og n96 n94 true (.bin .eql t95 k0)),(oq n97 (.pick t94 t96 (.c (.d (.bool false))))),(om n98 n97),(og n99 n98 true (.mv t9)),(og n100 n98 true (.mv t1)),(og n101 n98 true (.call (.c (.fn n27 [] [])) [t99,t100] .borrow)),(oq n102 (.pick t98 t101 (.c (.d (.bool false))))),(om n103 n102),(og n104 n103 true (.mv t11)),(og n105 n103 true (.mv t12)),(og n106 n103 true (.bslice n1 n4 [(.int .i64 (.l (i n0)))] [(n0,k2),(n1,k0),(n2,k1),(n3,k3)] false)),(og n107 n103 true (.call (.c (.fn n53 [] [])) [t104,t105,t106] .borrow)),(oq n108 (.pick t103 t107 (.c (.d (.bool false))))),(om n109 n108),(og n110 n109 true (.mv t13)),(og n111 n109 true (.mv t15)),(og n112 n109 true (.bslice n1 n4 [(.int .i64 (.l (i n0)))] [(n0,k0),(n1,k1),(n2,k3),(n3,k2)] false)),(og n113 n109 true (.call (.c (.fn n53 [] [])) [t110,t111,t112] .borrow)),(oq n114 (.pick t109 t113 (.c (.d (.bool false))))),(om n115 n114),(og n116 n115 true (.mv t14)),(og n117 n115 true (.bslice n1 n4 [(.int .i64 (.l (i n0)))] [(n0,k0),(n1,k2),(n2,k2),(n3,k0)] false)),(og n118 n115 true (.call (.c (.fn n23 [] [])) [t116,t117] .borrow)),(oq n119 (.pick t115 t118 (.c (.d (.bool false))))),(om n120 n119),(og n121 n120 true (.mv t19)),(og n122 n120 true (.bin .eql t121 k0)),(oq n123 (.pick t120 t122 (.c (.d (.bool false))))),(om n124 n123),(og n125 n124 true (.mv t18)),(og n126 n124 true (.mv t1)),(og n127 n124 true (.call (.c (.fn n27 [] [])) [t125,t126] .borrow)),(oq n128 (.pick t124 t127 (.c (.d (.bool false))))),(om n129 n128),(og n130 n129 true (.mv t21)),(og n131 n129 true (.bin .eql t130 k0)),(oq n132 (.pick t129 t131 (.c (.d (.bool false))))),(om n133 n132),(og n134 n133 true (.mv t20)),(og n135 n133 true (.bslice n1 n3 [(.int .i64 (.l (i n0)))] [(n0,k2),(n1,k0),(n2,k1)] false)),(og n136 n133 true (.call (.c (.fn n23 [] [])) [t134,t135] .borrow)),(oq n137 (.pick t133 t136 (.c (.d (.bool false))))),(om n0 n137)])
 .ret))))))))))))
def x17:XFn:=⟨a17,n138,[(.t n0)],c17⟩
def a18:Ann:=⟨[(n1,n1,n1),(n4,n1,n0)],[]⟩
def c18:ICode:=
 (.seq (.ops [(oq n2 (.mv k0)),(oq n3 (.mv k0))])
 (.seq (.ops [(om n7 n0),(oq n8 (.call (.c (.fn n54 [] [])) [t7] .share)),(om n6 n8),(oq n9 (.extract t6 n0)),(oq n10 (.extract t6 n1)),(oq n4 (.alloc [.nil,.nil,.nil,.nil])),⟨none,none,.store n4 t4 t9⟩,(om n5 n10)])
 (.seq (.seq (.ops [(om n11 n5),(oq n12 (.bin .neq t11 k0))])
 (.cond t12 (.seq (.ops [(om n13 n5),(oq n2 (.mv k0)),(om n3 n13)])
 .ret)
 .skip))
 (.seq (.ops [(oq n14 (.load (some n4) t4)),(oq n15 (.call (.c (.fn n55 [] [])) [t14] .borrow)),(om n2 n15),(oq n3 (.mv k0))])
 .ret))))
def x18:XFn:=⟨a18,n16,[(.t n2),(.t n3)],c18⟩
def a20:Ann:=⟨[(n1,n2,n1)],[]⟩
def c20:ICode:=
 (.seq (.ops [(oq n2 (.mv (.c (.d .nil)))),(oq n3 (.mv k0))])
 (.seq (.ops [(oq n4 (.build [(.raw .nilFunc)] [(n0,n1,(.c (.fn n56 [] [])))])),(om n5 n0),(oq n6 (.call (.c (.fn n57 [] [])) [t4,t5] .share)),(oq n7 (.extract t6 n0)),(oq n8 (.extract t6 n1)),(om n2 n7),(om n3 n8)])
 .ret))
def x20:XFn:=⟨a20,n9,[(.t n2),(.t n3)],c20⟩
def a23:Ann:=⟨[],[]⟩
def c23:ICode:=
 (.seq (.ops [(oq n4 (.mv (.c (.d (.bool false)))))])
 (.seq (.seq (.ops [(om n6 n0),(oq n7 (.len t6)),(om n8 n1),(oq n9 (.len t8)),(oq n10 (.bin .neq t7 t9))])
 (.cond t10 (.seq (.ops [(oq n4 (.mv (.c (.d (.bool false)))))])
 .ret)
 .skip))
 (.seq (.seq (.ops [(oq n5 (.mv k0))])
 (.block n0 (.loop (.seq (.seq (.ops [(om n11 n5),(om n12 n0),(oq n13 (.len t12)),(oq n14 (.bin .lss t11 t13))])
 (.cond t14 .skip
 (.exit n0)))
 (.seq (.block n1 (.seq (.draw n0 [(dz (om n17 n0) n0 n0),(dz (om n18 n5) n1 n0),(dz (oq n19 (.iaddr n1 t17 t18)) n2 n0),(dz (om n21 n1) n4 n0),(dz (om n22 n5) n5 n0),(dz (oq n23 (.iaddr n1 t21 t22)) n6 n0),(dz (ol n20 n19) n3 n0),(dz (ol n24 n23) n7 n0),(dz (oq n25 (.bin .neq t20 t24)) n8 n0)])
 (.cond t25 (.seq (.ops [(oq n4 (.mv (.c (.d (.bool false)))))])
 .ret)
 .skip)))
 (.ops [(om n15 n5),(oq n16 (.bin .add t15 k1)),(om n5 n16)]))))))
 (.seq (.ops [(oq n4 (.mv (.c (.d (.bool true)))))])
 .ret))))
def x23:XFn:=⟨a23,n26,[(.t n4)],c23⟩
def a25:Ann:=⟨[(n1,n1,n1),(n5,n1,n1),(n8,n5,n3),(n10,n1,n2),(n18,n6,n3),(n18,n7,n3),(n19,n1,n0),(n23,n4,n3),(n25,n4,n1)],[]⟩
def c25:ICode:=
 (.seq (.ops [(oq n2 (.mv (.c (.d .nil)))),(oq n3 (.mv (.c (.d .nil)))),(oq n4 (.mv k0))])
 (.seq (.ops [(om n18 n0),(oq n19 (.call (.c (.fn n54 [] [])) [t18] .share)),(om n17 n19),(oq n20 (.extract t17 n0)),(oq n21 (.extract t17 n1)),(oq n5 (.alloc [.nil,.nil,.nil,.nil])),⟨none,none,.store n4 t5 t20⟩,(om n4 n21)])
 (.seq (.seq (.ops [(om n22 n4),(oq n23 (.bin .neq t22 k0))])
 (.cond t23 (.seq (.ops [(om n24 n4),(oq n2 (.mv (.c (.d .nil)))),(oq n3 (.mv (.c (.d .nil)))),(om n4 n24)])
 .ret)
 .skip))
 (.seq (.ops [(oq n6 (.mv (.c (.d .nil))))])
 (.seq (.seq (.ops [(oq n25 (.load (some n4) t5)),(oq n26 (.call (.c (.fn n56 [] [])) [t25] .share)),(oq n27 (.len t26)),(oq n28 (.mv k0))])
 (.block n0 (.loop (.seq (.ops [(oq n29 (.bin .lss t28 t27))])
 (.seq (.cond t29 .skip
 (.exit n0))
 (.seq (.block n1 (.seq (.ops [(om n30 n28),(oq n31 (.iaddr n1 t26 t28)),(ol n32 n31),(om n7 n30),(om n8 n32)])
 (.ops [(om n33 n6),(om n34 n7),(om n35 n8),(oq n36 (.build [(.int .i64 (.l (i n0))),(.int .i64 (.l (i n0)))] [(n0,n1,t34),(n1,n1,t35)])),(oq n37 (.bslice n2 n1 [(.int .i64 (.l (i n0))),(.int .i64 (.l (i n0)))] [(n0,t36)] false)),(oq n38 (.appendN n2 n16 t33 t37 true)),(om n6 n38)])))
 (.ops [(oq n39 (.bin .add t28 k1)),(om n28 n39)])))))))
 (.seq (.ops [(om n40 n6),(oq n41 (.call (.c (.fn n60 [] [])) [t40,(.c (.fn n61 [] []))] .raw))])
 (.seq (.seq (.ops [(om n42 n6),(oq n43 (.len t42)),(oq n44 (.mv k0))])
 (.block n2 (.loop (.seq (.ops [(oq n45 (.bin .lss t44 t43))])
 (.seq (.cond t45 .skip
 (.exit n2))
 (.seq (.block n3 (.seq (.ops [(oq n46 (.iaddr n2 t42 t44)),(oq n47 (.load (some n2) t46)),(oq n10 (.alloc [(.int .i64 (.l (i n0))),(.int .i64 (.l (i n0)))])),⟨none,none,.store n2 t10 t47⟩])
 (.seq (.ops [(oq n48 (.load (some n4) t5)),(oq n11 (.alloc [.nil,.nil,.nil,.nil])),⟨none,none,.store n4 t11 t48⟩,(oq n12 (.mv (.c (.d (.int .i64 (.l (.negSucc n0))))))),(oq n13 (.mv k0))])
 (.seq (.seq (.ops [(of n49 n0 n5),(of n50 n1 n49),(ol n51 n50),(oq n52 (.len t51)),(oq n53 (.mv k0))])
 (.block n4 (.loop (.seq (.ops [(oq n54 (.bin .lss t53 t52))])
 (.seq (.cond t54 .skip
 (.exit n4))
 (.seq (.block n5 (.seq (.ops [(om n55 n53),(om n14 n55)])
 (.seq (.draw n1 [(dz (of n57 n0 n5) n1 n0),(dz (of n59 n0 n10) n3 n0),(dz (om n61 n14) n5 n0),(dq (oq n56 (.load (some n4) t5)) n0 n0 [n0] [] false false),(dq (oq n58 (.load (some n2) t57)) n2 n0 [n0] [] false false),(dq (ol n60 n59) n4 n0 [n0] [] false false),(dz (oq n15 (.alloc [.nil,.nil,.nil,.nil])) n8 n0),(dz (oq n62 (.call (.c (.fn n65 [] [])) [t58,t60,t61] .data)) n6 n0),(dz (oq n63 (.call (.c (.fn n64 [] [])) [t56,t62] .data)) n7 n0),⟨⟨none,none,.store n4 t15 t63⟩,n9,n1,[],[n8,n7,n0,n1,n2,n3,n4,n5,n6],true,false⟩])
 (.seq (.ops [(oq n64 (.load (some n4) t15)),(oq n65 (.call (.c (.fn n55 [] [])) [t64] .borrow)),(om n16 n65)])
 (.seq (.ops [(om n66 n12),(oq n67 (.bin .lss t66 k0)),(om n68 n67),(og n69 n68 false (.mv t16)),(og n70 n68 false (.mv t12)),(og n71 n68 false (.bin .lss t69 t70)),(oq n72 (.pick t68 (.c (.d (.bool true))) t71))])
 (.cond t72 (.ops [(oq n73 (.load (some n4) t15)),(om n74 n16),(om n75 n14),⟨none,none,.store n4 t11 t73⟩,(om n12 n74),(om n13 n75)])
 .skip))))))
 (.ops [(oq n76 (.bin .add t53 k1)),(om n53 n76)])))))))
 (.draw n0 [(dq (om n78 n3) n1 n0 [] [] false true),(dz (om n79 n13) n2 n0),(dq (oq n77 (.load (some n4) t11)) n0 n0 [] [] false true),(dq (oq n80 (.bslice n1 n1 [(.int .i64 (.l (i n0)))] [(n0,t79)] false)) n3 n0 [] [n2] false false),(dq (oq n81 (.appendN n1 n8 t78 t80 true)) n4 n0 [] [n1,n3,n2] false false),⟨⟨none,none,.store n4 t5 t77⟩,n5,n0,[],[n0,n4,n1,n3,n2],true,false⟩,(dz (om n3 n81) n6 n0)])))))
 (.ops [(oq n82 (.bin .add t44 k1)),(om n44 n82)])))))))
 (.seq (.ops [(oq n83 (.load (some n4) t5)),(of n84 n0 n5),(of n85 n1 n84),(ol n86 n85),(oq n87 (.call (.c (.fn n64 [] [])) [t83,t86] .share)),(oq n88 (.field n2 none t87)),(om n89 n3),(om n2 n88),(om n3 n89),(oq n4 (.mv k0))])
 .ret))))))))
def x25:XFn:=⟨a25,n90,[(.t n2),(.t n3),(.t n4)],c25⟩
def a27:Ann:=⟨[(n6,n8,n0)],[]⟩
def c27:ICode:=
 (.seq (.ops [(oq n4 (.mv (.c (.d (.bool false)))))])
 (.seq (.seq (.ops [(om n6 n0),(oq n7 (.len t6)),(om n8 n1),(oq n9 (.len t8)),(oq n10 (.bin .neq t7 t9))])
 (.cond t10 (.seq (.ops [(oq n4 (.mv (.c (.d (.bool false)))))])
 .ret)
 .skip))
 (.seq (.seq (.ops [(oq n5 (.mv k0))])
 (.block n0 (.loop (.seq (.seq (.ops [(om n11 n5),(om n12 n0),(oq n13 (.len t12)),(oq n14 (.bin .lss t11 t13))])
 (.cond t14 .skip
 (.exit n0)))
 (.seq (.block n1 (.seq (.draw n0 [(dz (om n17 n0) n0 n0),(dz (om n18 n5) n1 n0),(dz (oq n19 (.iaddr n5 t17 t18)) n2 n0),(dz (om n21 n1) n4 n0),(dz (om n22 n5) n5 n0),(dz (oq n23 (.iaddr n5 t21 t22)) n6 n0),(dz (oq n20 (.load (some n5) t19)) n3 n0),(dz (oq n24 (.load (some n5) t23)) n7 n0),(dq (oq n25 (.call (.c (.fn n47 [] [])) [t20,t24] .borrow)) n8 n0 [] [n3,n7,n2,n0,n1,n6,n4,n5] true false),(dz (oq n26 (.un .not t25)) n9 n0)])
 (.cond t26 (.seq (.ops [(oq n4 (.mv (.c (.d (.bool false)))))])
 .ret)
 .skip)))
 (.ops [(om n15 n5),(oq n16 (.bin .add t15 k1)),(om n5 n16)]))))))
 (.seq (.ops [(oq n4 (.mv (.c (.d (.bool true)))))])
 .ret))))
def x27:XFn:=⟨a27,n27,[(.t n4)],c27⟩
def a28:Ann:=⟨[(n1,n1,n1),(n9,n2,n1),(n10,n1,n0)],[]⟩
def c28:ICode:=
 (.seq (.ops [(oq n2 (.mv (.c (.d .nil)))),(oq n3 (.mv k0))])
 (.seq (.ops [(om n12 n0),(oq n13 (.call (.c (.fn n54 [] [])) [t12] .share)),(om n11 n13),(oq n14 (.extract t11 n0)),(oq n15 (.extract t11 n1)),(oq n4 (.alloc [.nil,.nil,.nil,.nil])),⟨none,none,.store n4 t4 t14⟩,(om n5 n15)])
 (.seq (.block n0 (.seq (.ops [(om n17 n5),(oq n18 (.bin .neq t17 k0)),(om n16 n18)])
 (.cond t16 (.seq (.ops [(om n19 n5),(oq n2 (.mv (.c (.d .nil)))),(om n3 n19)])
 .ret)
 (.seq (.ops [(of n21 n0 n4),(of n22 n0 n21),(ol n23 n22),(oq n24 (.len t23)),(oq n25 (.bin .gtr t24 k5)),(om n20 n25)])
 (.cond t20 (.seq (.ops [(oq n2 (.mv (.c (.d .nil)))),(oq n3 (.mv k5))])
 .ret)
 .skip)))))
 (.seq (.ops [(oq n26 (.load (some n4) t4)),(oq n6 (.alloc [.nil,.nil,.nil,.nil])),(oq n7 (.alloc [(.int .i64 (.l (i n0)))])),⟨none,none,.store n4 t6 t26⟩,⟨none,none,.store n1 t7 (.c (.d (.int .i64 (.l (.negSucc n0)))))⟩])
 (.seq (.seq (.ops [(of n27 n0 n4),(oq n28 (.load (some n2) t27)),(oq n29 (.mkfn n67 [t28] []))])
 (.block n1 (.range t29 [n30] (.ops [(om n8 n30)]) (.block n2 (.seq (.ops [(oq n31 (.load (some n4) t4)),(om n32 n8),(oq n33 (.call (.c (.fn n64 [] [])) [t31,t32] .share)),(oq n9 (.alloc [.nil,.nil,.nil,.nil])),⟨none,none,.store n4 t9 t33⟩])
 (.seq (.ops [(oq n34 (.load (some n4) t9)),(oq n35 (.call (.c (.fn n55 [] [])) [t34] .borrow)),(om n10 n35)])
 (.seq (.ops [(ol n36 n7),(oq n37 (.bin .lss t36 k0)),(om n38 n37),(og n39 n38 false (.mv t10)),(og n40 n38 false (.load none t7)),(og n41 n38 false (.bin .lss t39 t40)),(oq n42 (.pick t38 (.c (.d (.bool true))) t41))])
 (.cond t42 (.ops [(oq n43 (.load (some n4) t9)),(om n44 n10),⟨none,none,.store n4 t6 t43⟩,⟨none,none,.store n1 t7 t44⟩])
 .skip))))))))
 (.seq (.ops [(of n45 n2 n6),(ol n46 n45),(om n2 n46),(oq n3 (.mv k0))])
 .ret))))))
def x28:XFn:=⟨a28,n47,[(.t n2),(.t n3)],c28⟩
def a30:Ann:=⟨[(n1,n1,n0),(n4,n0,n1),(n9,n1,n1),(n13,n7,n2),(n20,n2,n2)],[]⟩
def c30:ICode:=
 (.seq (.ops [(oq n1 (.box t0)),(oq n2 (.mv (.c (.d .nil)))),(oq n3 (.mv k0))])
 (.scope (.seq (.seq (.ops [(oq n13 (.load (some n3) t1)),(oq n14 (.call (.c (.fn n69 [] [])) [t13] .borrow)),(om n4 n14)])
 (.seq (.ops [(om n15 n4),(oq n16 (.bin .neq t15 k0))])
 (.cond t16 (.seq (.ops [(om n17 n4),(oq n2 (.mv (.c (.d .nil)))),(om n3 n17)])
 .ret)
 .skip)))
 (.seq (.draw n4 [(dq (of n19 n0 n1) n1 n1 [] [] false true),(dq (ol n20 n19) n2 n1 [n0,n1,n2,n3] [] false true),(dq (oq n21 (.len t20)) n3 n1 [] [] false true),(dz (oq n18 (.bnew n1)) n0 n0),(dq (oq n22 (.mkslice n1 [(.bool false)] n1 t21)) n4 n1 [] [] false true),(dz (oq n5 (.alloc [.nil])) n5 n2),(dz (oq n6 (.alloc [.nil])) n6 n3),⟨⟨none,none,.store n1 t5 t18⟩,n7,n4,[n1],[n5,n0,n6],false,false⟩,⟨⟨none,none,.store n1 t6 t22⟩,n8,n4,[],[n6,n4,n7,n0,n1,n2,n3,n5],true,false⟩])
 (.seq (.ops [(oq n23 (.mkfn n70 [] [t6,t5])),(om n7 n23)])
 (.seq (.label n0)
 (.seq (.seq (.ops [(of n24 n1 n1),(ol n25 n24),(oq n26 (.len t25)),(oq n27 (.mv k0))])
 (.block n0 (.loop (.seq (.ops [(oq n28 (.bin .lss t27 t26))])
 (.seq (.cond t28 .skip
 (.exit n0))
 (.seq (.block n1 (.seq (.ops [(oq n29 (.iaddr n5 t25 t27)),(oq n30 (.load (some n5) t29)),(oq n9 (.alloc [(.int .u8 (.l (i n0))),(.int .i64 (.l (i n0))),(.int .i64 (.l (i n0))),(.int .i64 (.l (i n0))),(.int .i64 (.l (i n0)))])),⟨none,none,.store n5 t9 t30⟩])
 (.seq (.ops [(oq n31 (.load (some n5) t9)),(oq n32 (.call (.c (.fn n71 [] [])) [t31] .share)),(oq n33 (.len t32)),(oq n34 (.mv k0))])
 (.block n2 (.loop (.seq (.ops [(oq n35 (.bin .lss t34 t33))])
 (.seq (.cond t35 .skip
 (.exit n2))
 (.seq (.block n3 (.seq (.ops [(oq n36 (.iaddr n1 t32 t34)),(ol n37 n36),(om n11 n37)])
 (.seq (.seq (.ops [(of n38 n1 n1),(ol n39 n38),(om n40 n11),(oq n41 (.iaddr n5 t39 t40)),(of n42 n0 n41),(ol n43 n42),(oq n44 (.bin .neq t43 (.c (.d (.int .u8 (.l (i n3)))))))])
 (.cond t44 (.exit n3)
 .skip))
 (.seq (.ops [(om n45 n7),(of n46 n1 n1),(ol n47 n46),(om n48 n11),(oq n49 (.iaddr n5 t47 t48)),(of n50 n4 n49),(ol n51 n50),(oq n52 (.call t45 [t51] .raw))])
 (.seq (.ops [(ol n53 n5),(oq n54 (.len t53)),(of n55 n0 n1),(ol n56 n55),(oq n57 (.len t56)),(oq n58 (.bin .eql t54 t57))])
 (.cond t58 (.exit n0)
 .skip))))))
 (.ops [(oq n59 (.bin .add t34 k1)),(om n34 n59)])))))))))
 (.ops [(oq n60 (.bin .add t27 k1)),(om n27 n60)])))))))
 (.seq (.seq (.ops [(of n61 n0 n1),(ol n62 n61),(oq n63 (.len t62)),(oq n64 (.mv k0))])
 (.block n4 (.loop (.seq (.ops [(oq n65 (.bin .lss t64 t63))])
 (.seq (.cond t65 .skip
 (.exit n4))
 (.seq (.block n5 (.seq (.ops [(om n66 n64),(om n12 n66)])
 (.ops [(om n67 n7),(om n68 n12),(oq n69 (.call t67 [t68] .raw))])))
 (.ops [(oq n70 (.bin .add t64 k1)),(om n64 n70)])))))))
 (.seq (.ops [(ol n71 n5),(om n2 n71),(oq n3 (.mv k0))])
 .ret)))))))))
def x30:XFn:=⟨a30,n72,[(.t n2),(.t n3)],c30⟩
def a36:Ann:=⟨[(n1,n1,n1),(n4,n7,n0),(n6,n11,n1),(n6,n12,n1)],[]⟩
def c36:ICode:=
 (.seq (.ops [(oq n4 (.mv (.c (.d .nil)))),(oq n5 (.mv k0))])
 (.seq (.ops [(om n9 n0),(oq n10 (.call (.c (.fn n54 [] [])) [t9] .share)),(om n8 n10),(oq n11 (.extract t8 n0)),(oq n12 (.extract t8 n1)),(oq n6 (.alloc [.nil,.nil,.nil,.nil])),⟨none,none,.store n4 t6 t11⟩,(om n7 n12)])
 (.seq (.block n0 (.seq (.ops [(om n14 n7),(oq n15 (.bin .neq t14 k0)),(om n13 n15)])
 (.cond t13 (.seq (.ops [(om n16 n7),(oq n4 (.mv (.c (.d .nil)))),(om n5 n16)])
 .ret)
 (.seq (.ops [(of n18 n0 n6),(of n19 n1 n18),(ol n20 n19),(oq n21 (.len t20)),(oq n22 (.bin .sub t21 k2)),(om n23 n1),(oq n24 (.bslice n1 n1 [(.int .i64 (.l (i n0)))] [(n0,t23)] false)),(oq n25 (.call (.c (.fn n78 [] [])) [k0,t22,t24] .borrow)),(oq n26 (.un .not t25)),(om n17 n26)])
 (.cond t17 (.seq (.ops [(oq n4 (.mv (.c (.d .nil)))),(oq n5 (.mv k3))])
 .ret)
 .skip)))))
 (.seq (.draw n0 [(dz (of n28 n0 n6) n1 n0),(dz (of n30 n0 n6) n3 n0),(dz (of n31 n1 n30) n4 n0),(dz (om n33 n1) n6 n0),(dz (om n36 n1) n9 n0),(dz (oq n37 (.bin .add t36 k1)) n10 n0),(dq (oq n27 (.load (some n4) t6)) n0 n0 [] [] false true),(dz (oq n29 (.load (some n2) t28)) n2 n0),(dz (ol n32 n31) n5 n0),(dz (oq n34 (.iaddr n1 t32 t33)) n7 n0),(dz (ol n35 n34) n8 n0),(dq (oq n38 (.call (.c (.fn n65 [] [])) [t29,t35,t37] .share)) n11 n0 [] [n2,n8,n10,n1,n7,n5,n6,n4,n3,n9] false false),(dq (oq n39 (.call (.c (.fn n64 [] [])) [t27,t38] .share)) n12 n0 [] [n0,n11,n2,n8,n10,n1,n7,n5,n6,n4,n3,n9] true false),(dz (oq n40 (.field n2 none t39)) n13 n0),(dz (om n4 n40) n14 n0),(dz (oq n5 (.mv k0)) n15 n0)])
 .ret))))
def x36:XFn:=⟨a36,n41,[(.t n4),(.t n5)],c36⟩
def a37:Ann:=⟨[(n1,n1,n1),(n4,n8,n0),(n6,n5,n1),(n6,n6,n1)],[]⟩
def c37:ICode:=
 (.seq (.ops [(oq n6 (.mv (.c (.d .nil)))),(oq n7 (.mv k0))])
 (.seq (.ops [(om n11 n0),(oq n12 (.call (.c (.fn n54 [] [])) [t11] .share)),(om n10 n12),(oq n13 (.extract t10 n0)),(oq n14 (.extract t10 n1)),(oq n8 (.alloc [.nil,.nil,.nil,.nil])),⟨none,none,.store n4 t8 t13⟩,(om n9 n14)])
 (.seq (.block n0 (.seq (.ops [(om n16 n9),(oq n17 (.bin .neq t16 k0)),(om n15 n17)])
 (.cond t15 (.seq (.ops [(om n18 n9),(oq n6 (.mv (.c (.d .nil)))),(om n7 n18)])
 .ret)
 (.seq (.ops [(of n20 n0 n8),(of n21 n1 n20),(ol n22 n21),(oq n23 (.len t22)),(oq n24 (.bin .sub t23 k1)),(om n25 n1),(om n26 n2),(oq n27 (.bslice n1 n2 [(.int .i64 (.l (i n0)))] [(n0,t25),(n1,t26)] false)),(oq n28 (.call (.c (.fn n78 [] [])) [k0,t24,t27] .borrow)),(oq n29 (.un .not t28)),(om n19 n29)])
 (.cond t19 (.seq (.ops [(oq n6 (.mv (.c (.d .nil)))),(oq n7 (.mv k3))])
 .ret)
 .skip)))))
 (.seq (.draw n0 [(dz (of n31 n0 n8) n1 n0),(dz (om n33 n1) n3 n0),(dz (om n34 n2) n4 n0),(dq (oq n30 (.load (some n4) t8)) n0 n0 [] [] false true),(dz (oq n32 (.load (some n2) t31)) n2 n0),(dq (oq n35 (.call (.c (.fn n65 [] [])) [t32,t33,t34] .share)) n5 n0 [] [n2,n3,n4,n1] false false),(dq (oq n36 (.call (.c (.fn n64 [] [])) [t30,t35] .share)) n6 n0 [] [n0,n5,n2,n3,n4,n1] true false),(dz (oq n37 (.field n2 none t36)) n7 n0),(dz (om n6 n37) n8 n0),(dz (oq n7 (.mv k0)) n9 n0)])
 .ret))))
def x37:XFn:=⟨a37,n38,[(.t n6),(.t n7)],c37⟩
def a40:Ann:=⟨[(n1,n1,n1),(n4,n3,n0),(n6,n2,n1)],[]⟩
def c40:ICode:=
 (.seq (.ops [(oq n4 (.mv (.c (.d .nil)))),(oq n5 (.mv k0))])
 (.seq (.ops [(om n9 n0),(oq n10 (.call (.c (.fn n54 [] [])) [t9] .share)),(om n8 n10),(oq n11 (.extract t8 n0)),(oq n12 (.extract t8 n1)),(oq n6 (.alloc [.nil,.nil,.nil,.nil])),⟨none,none,.store n4 t6 t11⟩,(om n7 n12)])
 (.seq (.block n0 (.seq (.ops [(om n14 n7),(oq n15 (.bin .neq t14 k0)),(om n13 n15)])
 (.cond t13 (.seq (.ops [(om n16 n7),(oq n4 (.mv (.c (.d .nil)))),(om n5 n16)])
 .ret)
 (.seq (.ops [(of n18 n0 n6),(oq n19 (.load (some n2) t18)),(om n20 n1),(oq n21 (.call (.c (.fn n79 [] [])) [t19,t20] .borrow)),(oq n22 (.un .not t21)),(om n17 n22)])
 (.cond t17 (.seq (.ops [(oq n4 (.mv (.c (.d .nil)))),(oq n5 (.mv k4))])
 .ret)
 .skip)))))
 (.seq (.ops [(oq n23 (.load (some n4) t6)),(om n24 n1),(oq n25 (.call (.c (.fn n64 [] [])) [t23,t24] .share)),(oq n26 (.field n2 none t25)),(om n4 n26),(oq n5 (.mv k0))])
 .ret))))
def x40:XFn:=⟨a40,n27,[(.t n4),(.t n5)],c40⟩
def a45:Ann:=⟨[(n8,n3,n3),(n9,n3,n1)],[]⟩
def c45:ICode:=
 (.seq (.ops [(oq n2 (.mv (.c (.d .nil)))),(oq n3 (.mv (.c (.d (.bool false)))))])
 (.seq (.ops [(oq n4 (.mv (.c (.d .nil))))])
 (.seq (.seq (.ops [(oq n5 (.mv k0))])
 (.block n0 (.loop (.seq (.seq (.ops [(om n7 n5),(oq n8 (.bin .lss t7 k16))])
 (.cond t8 .skip
 (.exit n0)))
 (.seq (.block n1 (.seq (.ops [(oq n11 (.build [(.int .u8 (.l (i n0))),(.int .i64 (.l (i n0)))] [])),(oq n6 (.alloc [(.int .u8 (.l (i n0))),(.int .i64 (.l (i n0)))])),⟨none,none,.store n2 t6 t11⟩])
 (.seq (.seq (.ops [(om n12 n5),(oq n13 (.bin .quo t12 k8)),(om n14 n5),(oq n15 (.bin .quo t14 k4)),(oq n16 (.bin .rem t15 k2)),(oq n17 (.bin .eql t13 t16)),(om n18 n17),(og n19 n18 true (.mv t5)),(og n20 n18 true (.bin .quo t19 k2)),(og n21 n18 true (.bin .rem t20 k2)),(og n22 n18 true (.mv t5)),(og n23 n18 true (.bin .rem t22 k2)),(og n24 n18 true (.bin .eql t21 t23)),(oq n25 (.pick t18 t24 (.c (.d (.bool false)))))])
 (.cond t25 (.ops [(of n26 n1 n6),⟨none,none,.store n1 t26 k1⟩])
 .skip))
 (.ops [(om n27 n4),(oq n28 (.load (some n2) t6)),(oq n29 (.bslice n2 n1 [(.int .u8 (.l (i n0))),(.int .i64 (.l (i n0)))] [(n0,t28)] false)),(oq n30 (.appendN n2 n16 t27 t29 true)),(om n4 n30)]))))
 (.ops [(om n9 n5),(oq n10 (.bin .add t9 k1)),(om n5 n10)]))))))
 (.seq (.ops [(oq n31 (.bslice n1 n4 [(.int .i64 (.l (i n0)))] [(n0,k2),(n1,k2),(n2,k2),(n3,k2)] false)),(om n32 n0),(om n33 n4),(oq n34 (.call (.c (.fn n46 [] [])) [t31,t32,t33] .share)),(oq n35 (.bslice n5 n1 [.nil,.nil,.nil,.nil,(.int .i64 (.l (i n0)))] [(n0,t34)] false)),(om n2 n35),(oq n3 (.mv (.c (.d (.bool true)))))])
 .ret))))
def x45:XFn:=⟨a45,n36,[(.t n2),(.t n3)],c45⟩
def a46:Ann:=⟨[(n1,n1,n3),(n1,n3,n3),(n2,n5,n1)],[]⟩
def c46:ICode:=
 (.seq (.ops [(oq n6 (.alloc [.nil,.nil,.nil,.nil,(.int .i64 (.l (i n0)))]))])
 (.seq (.ops [(om n8 n0),(oq n9 (.appendN n1 n8 (.c (.d .nil)) t8 true)),(om n10 n1),(oq n11 (.appendN n1 n8 (.c (.d .nil)) t10 true)),(oq n12 (.build [.nil,.nil,.nil,.nil,(.int .i64 (.l (i n0)))] [(n0,n1,t9),(n1,n1,t11)])),(oq n7 (.alloc [.nil,.nil,.nil,.nil,(.int .i64 (.l (i n0)))])),⟨none,none,.store n5 t7 t12⟩])
 (.seq (.draw n1 [(dz (om n15 n2) n1 n0),(dz (om n16 n0) n2 n0),(dz (oq n17 (.len t16)) n3 n0),(dq (oq n14 (.load (some n5) t7)) n0 n0 [n0] [] false false),(dz (oq n18 (.mkslice n1 [(.int .i64 (.l (i n0)))] n8 t17)) n4 n0),(dq (oq n19 (.call (.c (.fn n81 [] [])) [t14,t15,k0,t18] .share)) n5 n1 [] [n0,n1,n4,n3,n2] true false),(dz (om n13 n19) n6 n1),(dz (oq n20 (.extract t13 n0)) n7 n1),(dq (oq n21 (.extract t13 n1)) n8 n1 [] [] false true),⟨⟨none,none,.store n5 t7 t20⟩,n9,n1,[],[n7,n5,n0,n1,n2,n3,n4,n6],false,false⟩,(dz (of n22 n4 n7) n10 n1),⟨⟨none,none,.store n1 t22 t21⟩,n11,n1,[],[n10,n8,n9,n0,n1,n2,n3,n4,n5,n6,n7],true,false⟩])
 (.seq (.ops [(oq n23 (.load (some n5) t7)),⟨none,none,.store n5 t6 t23⟩])
 .ret))))
def x46:XFn:=⟨a46,n24,[(.c n6 (some n5))],c46⟩
def a47:Ann:=⟨[(n1,n4,n0),(n1,n11,n0),(n1,n19,n0),(n6,n26,n0)],[]⟩
def c47:ICode:=
 (.seq (.ops [(oq n2 (.box t0)),(oq n3 (.box t1)),(oq n4 (.mv (.c (.d (.bool false)))))])
 (.seq (.seq (.ops [(of n6 n0 n2),(ol n7 n6),(of n8 n0 n3),(ol n9 n8),(oq n10 (.call (.c (.fn n23 [] [])) [t7,t9] .borrow)),(oq n11 (.un .not t10)),(om n12 n11),(og n13 n12 false (.faddr n1 t2)),(og n14 n12 false (.load none t13)),(og n15 n12 false (.faddr n1 t3)),(og n16 n12 false (.load none t15)),(og n17 n12 false (.call (.c (.fn n23 [] [])) [t14,t16] .borrow)),(og n18 n12 false (.un .not t17)),(oq n19 (.pick t12 (.c (.d (.bool true))) t18)),(om n20 n19),(og n21 n20 false (.faddr n2 t2)),(og n22 n20 false (.load none t21)),(og n23 n20 false (.faddr n2 t3)),(og n24 n20 false (.load none t23)),(og n25 n20 false (.call (.c (.fn n82 [] [])) [t22,t24] .borrow)),(og n26 n20 false (.un .not t25)),(oq n27 (.pick t20 (.c (.d (.bool true))) t26)),(om n28 n27),(og n29 n28 false (.faddr n3 t2)),(og n30 n28 false (.load none t29)),(og n31 n28 false (.len t30)),(og n32 n28 false (.faddr n3 t3)),(og n33 n28 false (.load none t32)),(og n34 n28 false (.len t33)),(og n35 n28 false (.bin .neq t31 t34)),(oq n36 (.pick t28 (.c (.d (.bool true))) t35)),(om n37 n36),(og n38 n37 false (.faddr n4 t2)),(og n39 n37 false (.load none t38)),(og n40 n37 false (.faddr n4 t3)),(og n41 n37 false (.load none t40)),(og n42 n37 false (.bin .neq t39 t41)),(oq n43 (.pick t37 (.c (.d (.bool true))) t42))])
 (.cond t43 (.seq (.ops [(oq n4 (.mv (.c (.d (.bool false)))))])
 .ret)
 .skip))
 (.seq (.seq (.ops [(oq n5 (.mv k0))])
 (.block n0 (.loop (.seq (.seq (.ops [(om n44 n5),(of n45 n3 n2),(ol n46 n45),(oq n47 (.len t46)),(oq n48 (.bin .lss t44 t47))])
 (.cond t48 .skip
 (.exit n0)))
 (.seq (.block n1 (.seq (.draw n0 [(dz (of n51 n3 n2) n0 n0),(dz (om n53 n5) n2 n0),(dz (of n57 n3 n3) n6 n0),(dz (om n59 n5) n8 n0),(dz (ol n52 n51) n1 n0),(dz (oq n54 (.iaddr n2 t52 t53)) n3 n0),(dz (of n55 n0 n54) n4 n0),(dz (ol n56 n55) n5 n0),(dz (ol n58 n57) n7 n0),(dz (oq n60 (.iaddr n2 t58 t59)) n9 n0),(dz (of n61 n0 n60) n10 n0),(dz (ol n62 n61) n11 n0),(dz (oq n63 (.bin .neq t56 t62)) n12 n0),(dz (om n64 n63) n13 n0),(dz (og n65 n64 false (.faddr n3 t2)) n14 n0),(dz (og n67 n64 false (.mv t5)) n16 n0),(dz (og n71 n64 false (.faddr n3 t3)) n20 n0),(dz (og n73 n64 false (.mv t5)) n22 n0),(dz (og n66 n64 false (.load none t65)) n15 n0),(dz (og n68 n64 false (.iaddr n2 t66 t67)) n17 n0),(dz (og n69 n64 false (.faddr n1 t68)) n18 n0),(dz (og n70 n64 false (.load none t69)) n19 n0),(dz (og n72 n64 false (.load none t71)) n21 n0),(dz (og n74 n64 false (.iaddr n2 t72 t73)) n23 n0),(dz (og n75 n64 false (.faddr n1 t74)) n24 n0),(dz (og n76 n64 false (.load none t75)) n25 n0),(dq (og n77 n64 false (.call (.c (.fn n23 [] [])) [t70,t76] .borrow)) n26 n0 [] [n19,n25,n13,n18,n17,n15,n16,n14,n12,n5,n11,n4,n3,n1,n2,n0,n10,n9,n7,n8,n6,n24,n23,n21,n22,n20] true false),(dz (og n78 n64 false (.un .not t77)) n27 n0),(dz (oq n79 (.pick t64 (.c (.d (.bool true))) t78)) n28 n0)])
 (.cond t79 (.seq (.ops [(oq n4 (.mv (.c (.d (.bool false)))))])
 .ret)
 .skip)))
 (.ops [(om n49 n5),(oq n50 (.bin .add t49 k1)),(om n5 n50)]))))))
 (.seq (.ops [(oq n4 (.mv (.c (.d (.bool true)))))])
 .ret))))
def x47:XFn:=⟨a47,n80,[(.t n4)],c47⟩
def a53:Ann:=⟨[(n1,n13,n0)],[]⟩
def c53:ICode:=
 (.seq (.ops [(oq n6 (.mv (.c (.d (.bool false)))))])
 (.seq (.ops [(om n7 n1),(oq n8 (.bin .eql t7 k0)),(om n9 n8),(og n10 n9 true (.mv t0)),(og n11 n9 true (.len t10)),(og n12 n9 true (.bin .eql t11 k1)),(oq n13 (.pick t9 t12 (.c (.d (.bool false))))),(om n14 n13),(og n15 n14 true (.mv t0)),(og n16 n14 true (.iaddr n5 t15 k0)),(og n17 n14 true (.faddr n1 t16)),(og n18 n14 true (.load none t17)),(og n19 n14 true (.mv t2)),(og n20 n14 true (.call (.c (.fn n23 [] [])) [t18,t19] .borrow)),(oq n21 (.pick t14 t20 (.c (.d (.bool false))))),(om n6 n21)])
 .ret))
def x53:XFn:=⟨a53,n22,[(.t n6)],c53⟩
def a54:Ann:=⟨[(n7,n1,n1),(n10,n4,n3),(n12,n4,n2)],[]⟩
def c54:ICode:=
 (.seq (.ops [(oq n2 (.alloc [.nil,.nil,.nil,.nil])),(oq n3 (.mv k0))])
 (.seq (.seq (.ops [(om n8 n0),(oq n9 (.len t8)),(oq n10 (.bin .eql t9 k0))])
 (.cond t10 (.seq (.ops [(oq n11 (.load (some n4) t2)),⟨none,none,.store n4 t2 t11⟩,(oq n3 (.mv k7))])
 .ret)
 .skip))
 (.seq (.draw n0 [(dz (om n12 n0) n0 n0),(dz (oq n13 (.iaddr n5 t12 k0)) n1 n0),(dz (of n14 n0 n13) n2 n0),(dz (om n16 n0) n4 n0),(dz (oq n17 (.iaddr n5 t16 k0)) n5 n0),(dz (of n18 n1 n17) n6 n0),(dz (om n21 n0) n9 n0),(dz (ol n15 n14) n3 n0),(dz (ol n19 n18) n7 n0),(dz (oq n20 (.build [.nil,.nil] [(n0,n1,t15),(n1,n1,t19)])) n8 n0),(dz (oq n22 (.build [.nil,.nil,.nil,.nil] [(n0,n2,t20),(n2,n1,t21)])) n10 n0),⟨⟨none,none,.store n4 t2 t22⟩,n11,n0,[],[n10,n0,n1,n2,n3,n4,n5,n6,n7,n8,n9],true,false⟩])
 (.seq (.seq (.ops [(om n23 n0),(oq n24 (.len t23)),(oq n25 (.mv k0))])
 (.block n0 (.loop (.seq (.ops [(oq n26 (.bin .lss t25 t24))])
 (.seq (.cond t26 .skip
 (.exit n0))
 (.seq (.block n1 (.seq (.ops [(oq n27 (.iaddr n5 t23 t25)),(oq n28 (.load (some n5) t27)),(oq n5 (.alloc [.nil,.nil,.nil,.nil,(.int .i64 (.l (i n0)))])),⟨none,none,.store n5 t5 t28⟩])
 (.seq (.ops [(oq n30 (.load (some n5) t5)),(oq n31 (.call (.c (.fn n87 [] [])) [t30] .share)),(om n29 n31),(oq n32 (.extract t29 n0)),(oq n33 (.extract t29 n1)),(om n6 n32),(om n7 n33)])
 (.seq (.seq (.ops [(om n34 n7),(oq n35 (.bin .neq t34 k0))])
 (.cond t35 (.seq (.ops [(oq n36 (.load (some n4) t2)),(om n37 n7),⟨none,none,.store n4 t2 t36⟩,(om n3 n37)])
 .ret)
 .skip))
 (.ops [(of n38 n3 n2),(ol n39 n38),(om n40 n6),(oq n41 (.bslice n1 n1 [.nil] [(n0,t40)] false)),(oq n42 (.appendN n1 n24 t39 t41 true)),(of n43 n3 n2),⟨none,none,.store n1 t43 t42⟩])))))
 (.ops [(oq n44 (.bin .add t25 k1)),(om n25 n44)])))))))
 (.seq (.seq (.ops [(om n45 n0),(of n46 n0 n2),(oq n47 (.load (some n2) t46)),(oq n48 (.mkfn n89 [t47] [])),(oq n49 (.call (.c (.fn n88 [] [])) [t45,t48] .raw)),(oq n50 (.un .not t49))])
 (.cond t50 (.seq (.ops [(oq n51 (.load (some n4) t2)),⟨none,none,.store n4 t2 t51⟩,(oq n3 (.mv k2))])
 .ret)
 .skip))
 (.seq (.ops [(oq n52 (.load (some n4) t2)),⟨none,none,.store n4 t2 t52⟩,(oq n3 (.mv k0))])
 .ret))))))
def x54:XFn:=⟨a54,n53,[(.c n2 (some n4)),(.t n3)],c54⟩
def a55:Ann:=⟨[(n1,n1,n1)],[]⟩
def c55:ICode:=
 (.seq (.ops [(oq n1 (.box t0)),(oq n2 (.mv k0))])
 (.seq (.seq (.ops [(oq n5 (.load (some n4) t1)),(oq n6 (.call (.c (.fn n56 [] [])) [t5] .share)),(oq n7 (.len t6)),(oq n8 (.mv k0))])
 (.block n0 (.loop (.seq (.ops [(oq n9 (.bin .lss t8 t7))])
 (.seq (.cond t9 .skip
 (.exit n0))
 (.seq (.block n1 (.seq (.ops [(oq n10 (.iaddr n1 t6 t8)),(ol n11 n10),(om n4 n11)])
 (.ops [(om n12 n2),(om n13 n4),(oq n14 (.bin .add t12 t13)),(om n2 n14)])))
 (.ops [(oq n15 (.bin .add t8 k1)),(om n8 n15)])))))))
 (.seq (.ops [(om n16 n2),(om n2 n16)])
 .ret)))
def x55:XFn:=⟨a55,n17,[(.t n2)],c55⟩
def a56:Ann:=⟨[],[]⟩
def c56:ICode:=
 (.seq (.ops [(oq n1 (.box t0)),(oq n2 (.mv (.c (.d .nil))))])
 (.seq (.ops [(of n19 n0 n1),(of n20 n0 n19),(ol n21 n20),(oq n22 (.len t21)),(oq n23 (.mkslice n1 [(.int .i64 (.l (i n0)))] n8 t22)),(om n3 n23)])
 (.seq (.ops [(oq n24 (.mkmap true [.u8,.i64])),(oq n25 (.mkmap true [.i64,.i64,.i64,.i64,.i64,.i64,.i64,.i64,.i64,.i64,.i64,.i64,.i64])),(om n4 n24),(om n5 n25)])
 (.seq (.seq (.ops [(of n26 n2 n1),(ol n27 n26),(oq n28 (.len t27)),(oq n29 (.mv k0))])
 (.block n0 (.loop (.seq (.ops [(oq n30 (.bin .lss t29 t28))])
 (.seq (.cond t30 .skip
 (.exit n0))
 (.seq (.block n1 (.seq (.ops [(oq n31 (.iaddr n5 t27 t29)),(oq n32 (.load (some n5) t31)),(oq n7 (.alloc [.nil,.nil,.nil,.nil,(.int .i64 (.l (i n0)))])),⟨none,none,.store n5 t7 t32⟩])
 (.seq (.ops [(of n33 n3 n7),(ol n34 n33),(oq n35 (.len t34)),(oq n36 (.mkslice n1 [(.int .i64 (.l (i n0)))] n8 t35)),(om n8 n36)])
 (.seq (.ops [(of n37 n3 n7),(ol n38 n37),(oq n39 (.len t38)),(oq n40 (.mv k0))])
 (.block n2 (.loop (.seq (.ops [(oq n41 (.bin .lss t40 t39))])
 (.seq (.cond t41 .skip
 (.exit n2))
 (.seq (.block n3 (.seq (.ops [(om n42 n40),(oq n43 (.iaddr n2 t38 t40)),(oq n44 (.load (some n2) t43)),(oq n10 (.alloc [(.int .i64 (.l (i n0))),.nil])),(om n9 n42),⟨none,none,.store n2 t10 t44⟩])
 (.seq (.ops [(of n45 n0 n10),(ol n46 n45),(oq n47 (.build [(.int .i64 (.l (i n0))),(.int .i64 (.l (i n0))),(.int .i64 (.l (i n0))),(.int .i64 (.l (i n0))),(.int .i64 (.l (i n0))),(.int .i64 (.l (i n0))),(.int .i64 (.l (i n0))),(.int .i64 (.l (i n0))),(.int .i64 (.l (i n0))),(.int .i64 (.l (i n0))),(.int .i64 (.l (i n0))),(.int .i64 (.l (i n0))),(.int .i64 (.l (i n0)))] [(n0,n1,t46)])),(oq n11 (.alloc [(.int .i64 (.l (i n0))),(.int .i64 (.l (i n0))),(.int .i64 (.l (i n0))),(.int .i64 (.l (i n0))),(.int .i64 (.l (i n0))),(.int .i64 (.l (i n0))),(.int .i64 (.l (i n0))),(.int .i64 (.l (i n0))),(.int .i64 (.l (i n0))),(.int .i64 (.l (i n0))),(.int .i64 (.l (i n0))),(.int .i64 (.l (i n0))),(.int .i64 (.l (i n0)))])),⟨none,none,.store n13 t11 t47⟩])
 (.seq (.seq (.ops [(of n48 n1 n10),(ol n49 n48),(oq n50 (.len t49)),(oq n51 (.mv k0))])
 (.block n4 (.loop (.seq (.ops [(oq n52 (.bin .lss t51 t50))])
 (.seq (.cond t52 .skip
 (.exit n4))
 (.seq (.block n5 (.seq (.ops [(om n53 n51),(oq n54 (.iaddr n1 t49 t51)),(ol n55 n54),(om n12 n53),(om n13 n55)])
 (.seq (.seq (.ops [(om n56 n13),(oq n57 (.bin .geq t56 k0))])
 (.cond t57 (.seq (.ops [(om n58 n12),(om n59 n8),(om n60 n13),(oq n61 (.iaddr n1 t59 t60)),(ol n62 n61),(of n63 n1 n11),(oq n64 (.iaddrA n12 n1 t63 t58)),⟨none,none,.store n1 t64 t62⟩])
 (.exit n5))
 .skip))
 (.seq (.ops [(of n65 n2 n7),(ol n66 n65),(om n67 n13),(oq n68 (.bin .sub (.c (.d (.int .i64 (.l (.negSucc n0))))) t67)),(oq n69 (.iaddr n2 t66 t68)),(oq n70 (.load (some n2) t69)),(oq n14 (.alloc [(.int .u8 (.l (i n0))),(.int .i64 (.l (i n0)))])),⟨none,none,.store n2 t14 t70⟩])
 (.seq (.seq (.ops [(om n72 n4),(oq n73 (.load (some n2) t14)),(oq n74 (.lookup true [.u8,.i64] true t72 t73)),(om n71 n74),(oq n75 (.extract t71 n0)),(oq n76 (.extract t71 n1)),(om n15 n75),(om n16 n76)])
 (.seq (.ops [(om n77 n16),(oq n78 (.un .not t77))])
 (.cond t78 (.ops [(om n79 n4),(oq n80 (.load (some n2) t14)),(om n81 n4),(oq n82 (.lenm t81)),(oq n83 (.bin .sub (.c (.d (.int .i64 (.l (.negSucc n0))))) t82)),⟨none,none,.mapupd true [.u8,.i64] t79 t80 t83⟩])
 .skip)))
 (.ops [(om n84 n12),(om n85 n4),(oq n86 (.load (some n2) t14)),(oq n87 (.lookup true [.u8,.i64] false t85 t86)),(of n88 n1 n11),(oq n89 (.iaddrA n12 n1 t88 t84)),⟨none,none,.store n1 t89 t87⟩]))))))
 (.ops [(oq n90 (.bin .add t51 k1)),(om n51 n90)])))))))
 (.seq (.ops [(om n92 n5),(oq n93 (.load (some n13) t11)),(oq n94 (.lookup true [.i64,.i64,.i64,.i64,.i64,.i64,.i64,.i64,.i64,.i64,.i64,.i64,.i64] true t92 t93)),(om n91 n94),(oq n95 (.extract t91 n0)),(oq n96 (.extract t91 n1)),(om n17 n95),(om n18 n96)])
 (.seq (.seq (.ops [(om n97 n18),(oq n98 (.un .not t97))])
 (.cond t98 (.seq (.ops [(om n99 n5),(oq n100 (.lenm t99)),(om n17 n100)])
 (.seq (.ops [(om n101 n5),(oq n102 (.load (some n13) t11)),(om n103 n17),⟨none,none,.mapupd true [.i64,.i64,.i64,.i64,.i64,.i64,.i64,.i64,.i64,.i64,.i64,.i64,.i64] t101 t102 t103⟩])
 (.ops [(om n104 n3),(of n105 n0 n10),(ol n106 n105),(oq n107 (.iaddr n1 t104 t106)),(ol n108 n107),(oq n109 (.bin .add t108 k1)),(oq n110 (.iaddr n1 t104 t106)),⟨none,none,.store n1 t110 t109⟩])))
 .skip))
 (.ops [(om n111 n8),(om n112 n9),(om n113 n17),(oq n114 (.iaddr n1 t111 t112)),⟨none,none,.store n1 t114 t113⟩])))))))
 (.ops [(oq n115 (.bin .add t40 k1)),(om n40 n115)]))))))))))
 (.ops [(oq n116 (.bin .add t29 k1)),(om n29 n116)])))))))
 (.seq (.ops [(om n117 n3),(om n2 n117)])
 .ret)))))
def x56:XFn:=⟨a56,n118,[(.t n2)],c56⟩
def a57:Ann:=⟨[(n1,n1,n1),(n4,n3,n2)],[]⟩
def c57:ICode:=
 (.seq (.ops [(oq n2 (.box t0)),(oq n4 (.mv (.c (.d .nil)))),(oq n5 (.mv k0))])
 (.seq (.ops [(om n9 n1),(oq n10 (.call (.c (.fn n54 [] [])) [t9] .share)),(om n8 n10),(oq n11 (.extract t8 n0)),(oq n12 (.extract t8 n1)),(oq n6 (.alloc [.nil,.nil,.nil,.nil])),⟨none,none,.store n4 t6 t11⟩,(om n7 n12)])
 (.seq (.seq (.ops [(om n13 n7),(oq n14 (.bin .neq t13 k0))])
 (.cond t14 (.seq (.ops [(om n15 n7),(oq n4 (.mv (.c (.d .nil)))),(om n5 n15)])
 .ret)
 .skip))
 (.seq (.ops [(of n16 n0 n2),(ol n17 n16),(oq n18 (.load (some n4) t6)),(oq n19 (.call t17 [t18] .raw)),(om n4 n19),(oq n5 (.mv k0))])
 .ret))))
def x57:XFn:=⟨a57,n20,[(.t n4),(.t n5)],c57⟩
def a60:Ann:=⟨[(n1,n4,n0),(n1,n6,n2)],[]⟩
def c60:ICode:=
 (.seq (.ops [(om n5 n0),(oq n6 (.len t5)),(om n4 n6)])
 (.ops [(om n7 n0),(om n8 n4),(om n9 n4),(oq n10 (.conv .u64 t9)),(oq n11 (.call (.c (.fn n93 [] [])) [t10] .borrow)),(om n12 n1),(oq n13 (.call (.c (.fn n92 [] [])) [t7,k0,t8,t11,t12] .raw))]))
def x60:XFn:=⟨a60,n14,[],c60⟩
def a61:Ann:=⟨[(n1,n4,n0),(n1,n9,n0),(n1,n11,n0)],[]⟩
def c61:ICode:=
 (.seq (.ops [(oq n2 (.box t0)),(oq n3 (.box t1)),(oq n4 (.mv k0))])
 (.seq (.draw n0 [(dz (of n5 n1 n3) n0 n0),(dz (of n7 n1 n2) n2 n0),(dq (of n10 n0 n2) n5 n0 [] [] false true),(dq (of n12 n0 n3) n7 n0 [] [] false true),(dz (ol n6 n5) n1 n0),(dz (ol n8 n7) n3 n0),(dq (ol n11 n10) n6 n0 [] [] false true),(dq (ol n13 n12) n8 n0 [] [] false true),(dq (oq n9 (.call (.c (.fn n63 [] [])) [t6,t8] .borrow)) n4 n0 [] [n1,n3,n0,n2] false false),(dq (oq n14 (.call (.c (.fn n63 [] [])) [t11,t13] .borrow)) n9 n0 [] [n6,n8,n4,n5,n7,n1,n3,n0,n2] true false),(dq (oq n15 (.bslice n1 n2 [(.int .i64 (.l (i n0)))] [(n0,t9),(n1,t14)] false)) n10 n0 [] [n4,n9,n1,n3,n0,n2,n6,n8,n5,n7] true false),(dq (oq n16 (.call (.c (.fn n62 [] [])) [t15] .borrow)) n11 n0 [] [n10,n9,n4,n1,n3,n0,n2,n6,n8,n5,n7] true false),(dz (om n4 n16) n12 n0)])
 .ret))
def x61:XFn:=⟨a61,n17,[(.t n4)],c61⟩
def a62:Ann:=⟨[],[]⟩
def c62:ICode:=
 (.seq (.ops [(oq n2 (.mv k0))])
 (.seq (.ops [(oq n3 (.mv k0))])
 (.seq (.seq (.ops [(om n6 n0),(oq n7 (.len t6)),(oq n8 (.mv k0))])
 (.block n0 (.loop (.seq (.ops [(oq n9 (.bin .lss t8 t7))])
 (.seq (.cond t9 .skip
 (.exit n0))
 (.seq (.block n1 (.seq (.ops [(oq n10 (.iaddr n1 t6 t8)),(ol n11 n10),(om n5 n11)])
 (.seq (.ops [(om n12 n5),(om n13 n3),(oq n14 (.bin .neq t12 t13))])
 (.cond t14 (.seq (.ops [(om n15 n5),(om n2 n15)])
 .ret)
 .skip))))
 (.ops [(oq n16 (.bin .add t8 k1)),(om n8 n16)])))))))
 (.seq (.ops [(om n17 n3),(om n2 n17)])
 .ret))))
def x62:XFn:=⟨a62,n18,[(.t n2)],c62⟩
def a63:Ann:=⟨[(n1,n1,n0),(n2,n1,n0)],[]⟩
def c63:ICode:=
 (.seq (.ops [(oq n4 (.mv k0))])
 (.seq (.ops [(om n7 n0),(oq n8 (.call (.c (.fn n94 [] [])) [t7] .borrow)),(om n5 n8)])
 (.seq (.ops [(om n9 n1),(oq n10 (.call (.c (.fn n94 [] [])) [t9] .borrow)),(om n6 n10)])
 (.seq (.seq (.ops [(om n11 n5)])
 (.cond t11 (.seq (.seq (.ops [(om n12 n6)])
 (.cond t12 (.seq (.ops [(oq n4 (.mv k0))])
 .ret)
 .skip))
 (.seq (.ops [(oq n4 (.mv (.c (.d (.int .i64 (.l (.negSucc n0)))))))])
 .ret))
 .skip))
 (.seq (.seq (.ops [(om n13 n6)])
 (.cond t13 (.seq (.ops [(oq n4 (.mv k1))])
 .ret)
 .skip))
 (.seq (.seq (.ops [(om n14 n0),(om n15 n1),(oq n16 (.bin .lss t14 t15))])
 (.cond t16 (.seq (.ops [(oq n4 (.mv (.c (.d (.int .i64 (.l (.negSucc n0)))))))])
 .ret)
 .skip))
 (.seq (.seq (.ops [(om n17 n0),(om n18 n1),(oq n19 (.bin .gtr t17 t18))])
 (.cond t19 (.seq (.ops [(oq n4 (.mv k1))])
 .ret)
 .skip))
 (.seq (.ops [(oq n4 (.mv k0))])
 .ret))))))))
def x63:XFn:=⟨a63,n20,[(.t n4)],c63⟩
def a64:Ann:=⟨[(n5,n5,n1),(n6,n4,n3)],[]⟩
def c64:ICode:=
 (.seq (.ops [(oq n2 (.box t0)),(oq n4 (.alloc [.nil,.nil,.nil,.nil]))])
 (.seq (.ops [(of n10 n0 n2),(of n11 n0 n10),(ol n12 n11),(om n13 n1),(oq n14 (.build [.nil,.nil] [(n0,n1,t12),(n1,n1,t13)])),(of n15 n3 n2),(ol n16 n15),(oq n17 (.build [.nil,.nil,.nil,.nil] [(n0,n2,t14),(n3,n1,t16)])),(oq n5 (.alloc [.nil,.nil,.nil,.nil])),⟨none,none,.store n4 t5 t17⟩])
 (.seq (.seq (.ops [(of n18 n3 n2),(ol n19 n18),(oq n20 (.len t19)),(oq n21 (.mv k0))])
 (.block n0 (.loop (.seq (.ops [(oq n22 (.bin .lss t21 t20))])
 (.seq (.cond t22 .skip
 (.exit n0))
 (.seq (.block n1 (.seq (.ops [(oq n23 (.iaddr n1 t19 t21)),(ol n24 n23),(om n7 n24)])
 (.seq (.ops [(of n26 n0 n2),(of n27 n0 n26),(ol n28 n27),(om n29 n1),(om n30 n7),(oq n31 (.call (.c (.fn n95 [] [])) [t28,t29,t30] .share)),(om n25 n31),(oq n32 (.extract t25 n0)),(oq n33 (.extract t25 n1)),(oq n8 (.alloc [.nil,.nil,.nil,.nil,(.int .i64 (.l (i n0)))])),⟨none,none,.store n5 t8 t32⟩,(om n9 n33)])
 (.ops [(of n34 n2 n5),(ol n35 n34),(oq n36 (.load (some n5) t8)),(oq n37 (.bslice n5 n1 [.nil,.nil,.nil,.nil,(.int .i64 (.l (i n0)))] [(n0,t36)] false)),(oq n38 (.appendN n5 n104 t35 t37 true)),(of n39 n2 n5),⟨none,none,.store n1 t39 t38⟩]))))
 (.ops [(oq n40 (.bin .add t21 k1)),(om n21 n40)])))))))
 (.seq (.ops [(oq n41 (.load (some n4) t5)),⟨none,none,.store n4 t4 t41⟩])
 .ret))))
def x64:XFn:=⟨a64,n42,[(.c n4 (some n4))],c64⟩
def a65:Ann:=⟨[(n1,n3,n0),(n2,n2,n2),(n2,n6,n2),(n3,n3,n1),(n3,n4,n2)],[]⟩
def c65:ICode:=
 (.seq (.ops [(oq n3 (.box t0)),(oq n6 (.mv (.c (.d .nil))))])
 (.seq (.ops [(of n9 n1 n3),(ol n10 n9),(om n11 n1),(oq n12 (.call (.c (.fn n96 [] [])) [t10,t11] .borrow)),(om n7 n12)])
 (.seq (.ops [(of n13 n1 n3),(ol n14 n13),(oq n15 (.call (.c (.fn n98 [] [])) [t14] .raw)),(om n16 n7),(om n17 n7),(oq n18 (.bin .add t17 k1)),(oq n19 (.call (.c (.fn n97 [] [])) [t15,t16,t18] .raw)),(om n8 n19)])
 (.seq (.ops [(om n20 n8),(om n21 n2),(om n22 n1),(oq n23 (.bslice n1 n1 [(.int .i64 (.l (i n0)))] [(n0,t22)] true)),(oq n24 (.call (.c (.fn n99 [] [])) [t20,t21,t23] .raw)),(om n6 n24)])
 .ret))))
def x65:XFn:=⟨a65,n25,[(.t n6)],c65⟩
def a67:Ann:=⟨[(n3,n1,n2)],[]⟩
def c67:ICode:=
 (.seq (.ops [(oq n2 (.box t0)),(oq n3 (.box t1))])
 (.seq (.ops [(oq n4 (.alloc [(.raw .nilFunc)]))])
 (.seq (.ops [(oq n5 (.mkfn n100 [] [t2,t3,t4])),⟨none,none,.store n1 t4 t5⟩])
 (.ops [(ol n6 n4),(oq n7 (.call t6 [(.c (.d .nil))] .raw))]))))
def x67:XFn:=⟨a67,n8,[],c67⟩
def a69:Ann:=⟨[(n5,n2,n0),(n7,n6,n0),(n12,n2,n0)],[]⟩
def c69:ICode:=
 (.seq (.ops [(oq n1 (.box t0)),(oq n2 (.mv k0))])
 (.seq (.block n0 (.seq (.seq (.ops [(of n5 n0 n1),(ol n6 n5),(oq n7 (.len t6)),(oq n8 (.bin .gtr t7 k6)),(om n4 n8)])
 (.cond t4 .skip
 (.seq (.ops [(of n9 n1 n1),(ol n10 n9),(oq n11 (.len t10)),(oq n12 (.bin .gtr t11 k3000)),(om n4 n12)])
 (.cond t4 .skip
 (.ops [(of n13 n2 n1),(ol n14 n13),(oq n15 (.len t14)),(oq n16 (.bin .gtr t15 k3000)),(om n4 n16)])))))
 (.cond t4 (.seq (.ops [(oq n2 (.mv k5))])
 .ret)
 (.seq (.ops [(of n18 n0 n1),(ol n19 n18),(oq n20 (.call (.c (.fn n102 [] [])) [t19,(.c (.fn n103 [] []))] .borrow)),(om n17 n20)])
 (.cond t17 (.seq (.ops [(oq n2 (.mv k3))])
 .ret)
 (.seq (.ops [(of n22 n1 n1),(ol n23 n22),(oq n24 (.len t23)),(oq n25 (.bin .sub t24 k1)),(of n26 n2 n1),(ol n27 n26),(oq n28 (.call (.c (.fn n104 [] [])) [k0,t25,t27] .borrow)),(oq n29 (.un .not t28)),(om n21 n29)])
 (.cond t21 (.seq (.ops [(oq n2 (.mv k4))])
 .ret)
 .skip)))))))
 (.seq (.seq (.ops [(of n30 n1 n1),(ol n31 n30),(oq n32 (.len t31)),(oq n33 (.mv k0))])
 (.block n1 (.loop (.seq (.ops [(oq n34 (.bin .lss t33 t32))])
 (.seq (.cond t34 .skip
 (.exit n1))
 (.seq (.block n2 (.seq (.ops [(om n35 n33),(om n3 n35)])
 (.seq (.ops [(oq n36 (.load (some n3) t1)),(om n37 n3),(oq n38 (.call (.c (.fn n105 [] [])) [t36,t37] .borrow)),(oq n39 (.un .not t38))])
 (.cond t39 (.seq (.ops [(oq n2 (.mv k4))])
 .ret)
 .skip))))
 (.ops [(oq n40 (.bin .add t33 k1)),(om n33 n40)])))))))
 (.seq (.ops [(oq n2 (.mv k0))])
 .ret))))
def x69:XFn:=⟨a69,n41,[(.t n2)],c69⟩
def a70:Ann:=⟨[(n2,n3,n3)],[]⟩
def c70:ICode:=
 (.seq (.ops [(ol n4 n1),(om n5 n0),(oq n6 (.iaddr n1 t4 t5)),(ol n7 n6),(oq n8 (.un .not t7))])
 (.cond t8 (.seq (.ops [(ol n9 n1),(om n10 n0),(oq n11 (.iaddr n1 t9 t10)),⟨none,none,.store n1 t11 (.c (.d (.bool true)))⟩])
 (.ops [(ol n12 n2),(om n13 n0),(oq n14 (.bslice n1 n1 [(.int .i64 (.l (i n0)))] [(n0,t13)] false)),(oq n15 (.appendN n1 n8 t12 t14 true)),⟨none,none,.store n1 t2 t15⟩]))
 .skip))
def x70:XFn:=⟨a70,n16,[],c70⟩
def a71:Ann:=⟨[],[]⟩
def c71:ICode:=
 (.seq (.ops [(oq n1 (.box t0)),(oq n2 (.mv (.c (.d .nil))))])
 (.seq (.ops [(of n4 n1 n1),(ol n5 n4),(of n6 n2 n1),(ol n7 n6),(of n8 n3 n1),(ol n9 n8),(oq n10 (.bslice n1 n3 [(.int .i64 (.l (i n0)))] [(n0,t5),(n1,t7),(n2,t9)] false)),(om n3 n10)])
 (.seq (.block n0 (.seq (.ops [(of n12 n0 n1),(ol n13 n12),(oq n14 (.bin .lss t13 (.c (.d (.int .u8 (.l (i n5))))))),(om n11 n14)])
 (.cond t11 (.seq (.ops [(oq n2 (.mv (.c (.d .nil))))])
 .ret)
 (.seq (.ops [(of n16 n0 n1),(ol n17 n16),(oq n18 (.bin .leq t17 (.c (.d (.int .u8 (.l (i n6))))))),(om n15 n18)])
 (.cond t15 (.seq (.ops [(om n19 n3),(oq n20 (.slice n1 t19 none (some k1) none)),(om n2 n20)])
 .ret)
 (.seq (.ops [(of n22 n0 n1),(ol n23 n22),(oq n24 (.bin .lss t23 (.c (.d (.int .u8 (.l (i n17))))))),(om n21 n24)])
 (.cond t21 (.seq (.ops [(om n25 n3),(oq n26 (.slice n1 t25 none (some k2) none)),(om n2 n26)])
 .ret)
 .skip)))))))
 (.seq (.ops [(om n27 n3),(om n2 n27)])
 .ret))))
def x71:XFn:=⟨a71,n28,[(.t n2)],c71⟩
def a78:Ann:=⟨[(n1,n2,n2)],[]⟩
def c78:ICode:=
 (.seq (.ops [(oq n3 (.box t0)),(oq n4 (.box t1)),(oq n6 (.mv (.c (.d (.bool false)))))])
 (.seq (.ops [(om n7 n2),(oq n8 (.mkfn n108 [] [t3,t4])),(oq n9 (.call (.c (.fn n107 [] [])) [t7,t8] .raw)),(om n6 n9)])
 .ret))
def x78:XFn:=⟨a78,n10,[(.t n6)],c78⟩
def a79:Ann:=⟨[(n1,n3,n0)],[]⟩
def c79:ICode:=
 (.seq (.ops [(oq n2 (.box t0)),(oq n4 (.mv (.c (.d (.bool false)))))])
 (.seq (.ops [(of n5 n0 n2),(ol n6 n5),(om n7 n1),(oq n8 (.call (.c (.fn n109 [] [])) [t6,t7] .borrow)),(oq n9 (.bin .eql t8 k0)),(om n4 n9)])
 .ret))
def x79:XFn:=⟨a79,n10,[(.t n4)],c79⟩
def a81:Ann:=⟨[(n2,n4,n0),(n8,n4,n3),(n14,n1,n3),(n17,n5,n2),(n18,n4,n3),(n19,n1,n0),(n24,n18,n0),(n26,n4,n3)],[]⟩
def c81:ICode:=
 (.seq (.ops [(oq n4 (.box t0)),(oq n8 (.alloc [.nil,.nil,.nil,.nil,(.int .i64 (.l (i n0)))])),(oq n9 (.mv k0))])
 (.seq (.seq (.ops [(om n17 n2),(of n18 n1 n4),(ol n19 n18),(oq n20 (.len t19)),(oq n21 (.bin .eql t17 t20))])
 (.cond t21 (.seq (.ops [(om n22 n1),(of n23 n0 n4),(ol n24 n23),(om n25 n3),(oq n26 (.call (.c (.fn n112 [] [])) [t24,t25] .borrow)),(oq n27 (.iaddr n2 t22 t26)),(oq n28 (.load (some n2) t27)),(oq n10 (.alloc [(.int .u8 (.l (i n0))),(.int .i64 (.l (i n0)))])),⟨none,none,.store n2 t10 t28⟩])
 (.seq (.seq (.ops [(oq n11 (.mv k0))])
 (.block n0 (.loop (.seq (.seq (.ops [(om n29 n11),(of n30 n2 n4),(ol n31 n30),(oq n32 (.len t31)),(oq n33 (.bin .lss t29 t32))])
 (.cond t33 .skip
 (.exit n0)))
 (.seq (.block n1 (.seq (.draw n0 [(dz (of n36 n2 n4) n0 n0),(dz (om n38 n11) n2 n0),(dz (ol n37 n36) n1 n0),(dz (oq n39 (.iaddr n2 t37 t38)) n3 n0),(dz (oq n40 (.load (some n2) t39)) n4 n0),(dz (oq n41 (.load (some n2) t10)) n5 n0),(dz (oq n42 (.aeq false [.u8,.i64] t40 t41)) n6 n0)])
 (.cond t42 (.seq (.ops [(oq n43 (.load (some n5) t4)),(om n44 n11),(oq n45 (.bin .sub (.c (.d (.int .i64 (.l (.negSucc n0))))) t44)),⟨none,none,.store n5 t8 t43⟩,(om n9 n45)])
 .ret)
 .skip)))
 (.ops [(om n34 n11),(oq n35 (.bin .add t34 k1)),(om n11 n35)]))))))
 (.seq (.ops [(of n46 n2 n4),(ol n47 n46),(oq n48 (.load (some n2) t10)),(oq n49 (.bslice n2 n1 [(.int .u8 (.l (i n0))),(.int .i64 (.l (i n0)))] [(n0,t48)] false)),(oq n50 (.appendN n2 n16 t47 t49 true)),(of n51 n2 n4),⟨none,none,.store n1 t51 t50⟩])
 (.seq (.draw n0 [(dq (of n53 n2 n4) n1 n0 [] [] false true),(dz (oq n52 (.load (some n5) t4)) n0 n0),(dq (ol n54 n53) n2 n0 [] [] false true),(dq (oq n55 (.len t54)) n3 n0 [] [] false true),(dq (oq n56 (.un .neg t55)) n4 n0 [] [] false true),⟨⟨none,none,.store n5 t8 t52⟩,n5,n0,[],[n0],false,false⟩,(dz (om n9 n56) n6 n0)])
 .ret))))
 .skip))
 (.seq (.ops [(of n57 n1 n4),(ol n58 n57),(om n59 n2),(oq n60 (.iaddr n1 t58 t59)),(ol n61 n60),(oq n62 (.build [(.int .i64 (.l (i n0))),.nil] [(n0,n1,t61)])),(oq n12 (.alloc [(.int .i64 (.l (i n0))),.nil])),⟨none,none,.store n2 t12 t62⟩])
 (.seq (.seq (.ops [(oq n13 (.mv k0))])
 (.block n2 (.loop (.seq (.seq (.ops [(om n63 n13),(of n64 n0 n4),(ol n65 n64),(of n66 n0 n12),(ol n67 n66),(oq n68 (.iaddr n1 t65 t67)),(ol n69 n68),(oq n70 (.bin .lss t63 t69))])
 (.cond t70 .skip
 (.exit n2)))
 (.seq (.block n3 (.seq (.ops [(om n73 n3),(oq n74 (.appendN n1 n8 (.c (.d .nil)) t73 true)),(om n14 n74)])
 (.seq (.ops [(om n75 n14),(of n76 n0 n12),(ol n77 n76),(om n78 n13),(oq n79 (.iaddr n1 t75 t77)),⟨none,none,.store n1 t79 t78⟩])
 (.seq (.ops [(oq n15 (.mv k0))])
 (.seq (.ops [(oq n81 (.load (some n5) t4)),(om n82 n1),(om n83 n2),(oq n84 (.bin .add t83 k1)),(om n85 n14),(oq n86 (.call (.c (.fn n81 [] [])) [t81,t82,t84,t85] .raw)),(om n80 n86),(oq n87 (.extract t80 n0)),(oq n88 (.extract t80 n1)),⟨none,none,.store n5 t4 t87⟩,(om n15 n88)])
 (.ops [(of n89 n1 n12),(ol n90 n89),(om n91 n15),(oq n92 (.bslice n1 n1 [(.int .i64 (.l (i n0)))] [(n0,t91)] false)),(oq n93 (.appendN n1 n8 t90 t92 true)),(of n94 n1 n12),⟨none,none,.store n1 t94 t93⟩]))))))
 (.ops [(om n71 n13),(oq n72 (.bin .add t71 k1)),(om n13 n72)]))))))
 (.seq (.seq (.ops [(oq n95 (.load (some n2) t12)),(oq n96 (.call (.c (.fn n113 [] [])) [t95] .borrow))])
 (.cond t96 (.seq (.draw n0 [(dq (of n98 n1 n12) n1 n0 [] [] false true),(dz (oq n97 (.load (some n5) t4)) n0 n0),(dq (ol n99 n98) n2 n0 [] [] false true),(dq (oq n100 (.iaddr n1 t99 k0)) n3 n0 [] [] false true),(dq (ol n101 n100) n4 n0 [] [] false true),⟨⟨none,none,.store n5 t8 t97⟩,n5,n0,[],[n0],false,false⟩,(dz (om n9 n101) n6 n0)])
 .ret)
 .skip))
 (.seq (.seq (.ops [(oq n16 (.mv k0))])
 (.block n4 (.loop (.seq (.seq (.ops [(om n102 n16),(of n103 n3 n4),(ol n104 n103),(oq n105 (.len t104)),(oq n106 (.bin .lss t102 t105))])
 (.cond t106 .skip
 (.exit n4)))
 (.seq (.block n5 (.seq (.draw n0 [(dz (of n109 n3 n4) n0 n0),(dz (om n111 n16) n2 n0),(dz (of n115 n0 n12) n6 n0),(dz (ol n110 n109) n1 n0),(dz (oq n112 (.iaddr n2 t110 t111)) n3 n0),(dz (of n113 n0 n112) n4 n0),(dz (ol n114 n113) n5 n0),(dz (ol n116 n115) n7 n0),(dz (oq n117 (.bin .eql t114 t116)) n8 n0),(dz (om n118 n117) n9 n0),(dz (og n119 n118 true (.faddr n3 t4)) n10 n0),(dz (og n121 n118 true (.mv t16)) n12 n0),(dz (og n125 n118 true (.faddr n1 t12)) n16 n0),(dz (og n120 n118 true (.load none t119)) n11 n0),(dz (og n122 n118 true (.iaddr n2 t120 t121)) n13 n0),(dz (og n123 n118 true (.faddr n1 t122)) n14 n0),(dz (og n124 n118 true (.load none t123)) n15 n0),(dz (og n126 n118 true (.load none t125)) n17 n0),(dq (og n127 n118 true (.call (.c (.fn n23 [] [])) [t124,t126] .borrow)) n18 n0 [] [n15,n17,n9,n14,n13,n11,n12,n10,n8,n5,n7,n4,n3,n1,n2,n0,n6,n16] true false),(dz (oq n128 (.pick t118 t127 (.c (.d (.bool false))))) n19 n0)])
 (.cond t128 (.seq (.ops [(oq n129 (.load (some n5) t4)),(om n130 n16),⟨none,none,.store n5 t8 t129⟩,(om n9 n130)])
 .ret)
 .skip)))
 (.ops [(om n107 n16),(oq n108 (.bin .add t107 k1)),(om n16 n108)]))))))
 (.seq (.ops [(of n131 n3 n4),(ol n132 n131),(oq n133 (.load (some n2) t12)),(oq n134 (.bslice n2 n1 [(.int .i64 (.l (i n0))),.nil] [(n0,t133)] false)),(oq n135 (.appendN n2 n32 t132 t134 true)),(of n136 n3 n4),⟨none,none,.store n1 t136 t135⟩])
 (.seq (.draw n0 [(dq (of n138 n3 n4) n1 n0 [] [] false true),(dz (oq n137 (.load (some n5) t4)) n0 n0),(dq (ol n139 n138) n2 n0 [] [] false true),(dq (oq n140 (.len t139)) n3 n0 [] [] false true),(dq (oq n141 (.bin .sub t140 k1)) n4 n0 [] [] false true),⟨⟨none,none,.store n5 t8 t137⟩,n5,n0,[],[n0],false,false⟩,(dz (om n9 n141) n6 n0)])
 .ret))))))))
def x81:XFn:=⟨a81,n142,[(.c n8 (some n5)),(.t n9)],c81⟩
def a82:Ann:=⟨[],[]⟩
def c82:ICode:=
 (.seq (.ops [(oq n4 (.mv (.c (.d (.bool false)))))])
 (.seq (.seq (.ops [(om n6 n0),(oq n7 (.len t6)),(om n8 n1),(oq n9 (.len t8)),(oq n10 (.bin .neq t7 t9))])
 (.cond t10 (.seq (.ops [(oq n4 (.mv (.c (.d (.bool false)))))])
 .ret)
 .skip))
 (.seq (.seq (.ops [(oq n5 (.mv k0))])
 (.block n0 (.loop (.seq (.seq (.ops [(om n11 n5),(om n12 n0),(oq n13 (.len t12)),(oq n14 (.bin .lss t11 t13))])
 (.cond t14 .skip
 (.exit n0)))
 (.seq (.block n1 (.seq (.draw n0 [(dz (om n17 n0) n0 n0),(dz (om n18 n5) n1 n0),(dz (oq n19 (.iaddr n2 t17 t18)) n2 n0),(dz (om n21 n1) n4 n0),(dz (om n22 n5) n5 n0),(dz (oq n23 (.iaddr n2 t21 t22)) n6 n0),(dz (oq n20 (.load (some n2) t19)) n3 n0),(dz (oq n24 (.load (some n2) t23)) n7 n0),(dz (oq n25 (.aeq true [.u8,.i64] t20 t24)) n8 n0)])
 (.cond t25 (.seq (.ops [(oq n4 (.mv (.c (.d (.bool false)))))])
 .ret)
 .skip)))
 (.ops [(om n15 n5),(oq n16 (.bin .add t15 k1)),(om n5 n16)]))))))
 (.seq (.ops [(oq n4 (.mv (.c (.d (.bool true)))))])
 .ret))))
def x82:XFn:=⟨a82,n26,[(.t n4)],c82⟩
def a87:Ann:=⟨[(n1,n1,n1),(n4,n1,n1)],[]⟩
def c87:ICode:=
 (.seq (.ops [(oq n1 (.box t0)),(oq n2 (.mv (.c (.d .nil)))),(oq n3 (.mv k0))])
 (.seq (.ops [(oq n7 (.load (some n5) t1)),(oq n8 (.call (.c (.fn n118 [] [])) [t7] .share)),(om n6 n8),(oq n9 (.extract t6 n0)),(oq n10 (.extract t6 n1)),(oq n4 (.alloc [.nil,.nil,.nil,.nil,.nil,.nil,(.int .i64 (.l (i n0)))])),⟨none,none,.store n7 t4 t9⟩,(om n5 n10)])
 (.seq (.seq (.ops [(om n11 n5),(oq n12 (.bin .neq t11 k0))])
 (.cond t12 (.seq (.ops [(om n13 n5),(oq n2 (.mv (.c (.d .nil)))),(om n3 n13)])
 .ret)
 .skip))
 (.seq (.ops [(oq n14 (.load (some n7) t4)),(oq n15 (.call (.c (.fn n119 [] [])) [t14] .share)),(om n2 n15),(oq n3 (.mv k0))])
 .ret))))
def x87:XFn:=⟨a87,n16,[(.t n2),(.t n3)],c87⟩
def a88:Ann:=⟨[(n1,n2,n2)],[]⟩
def c88:ICode:=
 (.seq (.ops [(oq n3 (.box t1)),(oq n4 (.mv (.c (.d (.bool false)))))])
 (.seq (.ops [(om n5 n0),(oq n6 (.mkfn n121 [] [t3])),(oq n7 (.call (.c (.fn n120 [] [])) [t5,t6] .raw)),(oq n8 (.un .not t7)),(om n4 n8)])
 .ret))
def x88:XFn:=⟨a88,n9,[(.t n4)],c88⟩
def a89:Ann:=⟨[(n1,n4,n0),(n1,n10,n0)],[]⟩
def c89:ICode:=
 (.seq (.ops [(oq n2 (.box t0)),(oq n3 (.box t1)),(oq n4 (.mv (.c (.d (.bool false)))))])
 (.seq (.ops [(of n5 n0 n3),(ol n6 n5),(of n7 n0 n2),(ol n8 n7),(oq n9 (.call (.c (.fn n122 [] [])) [t6,t8] .borrow)),(om n10 n9),(og n11 n10 true (.faddr n1 t3)),(og n12 n10 true (.load none t11)),(og n13 n10 true (.faddr n1 t2)),(og n14 n10 true (.load none t13)),(og n15 n10 true (.call (.c (.fn n122 [] [])) [t12,t14] .borrow)),(oq n16 (.pick t10 t15 (.c (.d (.bool false))))),(om n4 n16)])
 .ret))
def x89:XFn:=⟨a89,n17,[(.t n4)],c89⟩
def a92:Ann:=⟨[(n4,n4,n2),(n6,n4,n2),(n8,n4,n2),(n10,n4,n2),(n12,n4,n2),(n16,n4,n2),(n17,n13,n2),(n18,n5,n2),(n20,n5,n2),(n26,n5,n2),(n29,n6,n2)],[]⟩
def c92:ICode:=
 (.seq (.ops [(oq n10 (.mv (.c (.d (.bool true)))))])
 (.seq (.ops [(oq n11 (.mv (.c (.d (.bool true)))))])
 (.block n0 (.loop (.block n1 (.seq (.ops [(om n21 n2),(om n22 n1),(oq n23 (.bin .sub t21 t22)),(om n12 n23)])
 (.seq (.seq (.ops [(om n24 n12),(oq n25 (.bin .leq t24 k12))])
 (.cond t25 (.seq (.ops [(om n26 n0),(om n27 n1),(om n28 n2),(om n29 n4),(oq n30 (.call (.c (.fn n123 [] [])) [t26,t27,t28,t29] .raw))])
 .ret)
 .skip))
 (.seq (.seq (.ops [(om n31 n3),(oq n32 (.bin .eql t31 k0))])
 (.cond t32 (.seq (.ops [(om n33 n0),(om n34 n1),(om n35 n2),(om n36 n4),(oq n37 (.call (.c (.fn n124 [] [])) [t33,t34,t35,t36] .raw))])
 .ret)
 .skip))
 (.seq (.seq (.ops [(om n38 n10),(oq n39 (.un .not t38))])
 (.cond t39 (.seq (.ops [(om n40 n0),(om n41 n1),(om n42 n2),(om n43 n4),(oq n44 (.call (.c (.fn n125 [] [])) [t40,t41,t42,t43] .raw))])
 (.ops [(om n45 n3),(oq n46 (.bin .sub t45 k1)),(om n3 n46)]))
 .skip))
 (.seq (.ops [(om n48 n0),(om n49 n1),(om n50 n2),(om n51 n4),(oq n52 (.call (.c (.fn n126 [] [])) [t48,t49,t50,t51] .raw)),(om n47 n52),(oq n53 (.extract t47 n0)),(oq n54 (.extract t47 n1)),(om n13 n53),(om n14 n54)])
 (.seq (.seq (.ops [(om n55 n14),(oq n56 (.bin .eql t55 k2))])
 (.cond t56 (.seq (.ops [(om n57 n0),(om n58 n1),(om n59 n2),(om n60 n4),(oq n61 (.call (.c (.fn n127 [] [])) [t57,t58,t59,t60] .raw))])
 (.seq (.ops [(om n62 n2),(oq n63 (.bin .sub t62 k1)),(om n64 n13),(om n65 n1),(oq n66 (.bin .sub t64 t65)),(oq n67 (.bin .sub t63 t66)),(om n13 n67)])
 (.ops [(oq n14 (.mv k1))])))
 .skip))
 (.seq (.seq (.ops [(om n68 n10),(om n69 n68),(og n70 n69 true (.mv t11)),(oq n71 (.pick t69 t70 (.c (.d (.bool false))))),(om n72 n71),(og n73 n72 true (.mv t14)),(og n74 n72 true (.bin .eql t73 k1)),(oq n75 (.pick t72 t74 (.c (.d (.bool false)))))])
 (.cond t75 (.seq (.ops [(om n76 n0),(om n77 n1),(om n78 n2),(om n79 n4),(oq n80 (.call (.c (.fn n128 [] [])) [t76,t77,t78,t79] .raw))])
 (.cond t80 .ret
 .skip))
 .skip))
 (.seq (.seq (.draw n0 [(dz (om n81 n1) n0 n0),(dz (oq n82 (.bin .gtr t81 k0)) n1 n0),(dz (om n83 n82) n2 n0),(dz (og n84 n83 true (.mv t4)) n3 n0),(dz (og n85 n83 true (.mv t0)) n4 n0),(dz (og n86 n83 true (.mv t1)) n5 n0),(dz (og n87 n83 true (.bin .sub t86 k1)) n6 n0),(dz (og n88 n83 true (.iaddr n2 t85 t87)) n7 n0),(dz (og n90 n83 true (.mv t0)) n9 n0),(dz (og n91 n83 true (.mv t13)) n10 n0),(dz (og n92 n83 true (.iaddr n2 t90 t91)) n11 n0),(dz (og n89 n83 true (.load (some n2) t88)) n8 n0),(dz (og n93 n83 true (.load (some n2) t92)) n12 n0),(dq (og n94 n83 true (.call t84 [t89,t93] .raw)) n13 n0 [] [n3,n8,n12,n2,n1,n0,n7,n4,n6,n5,n11,n9,n10] true false),(dz (og n95 n83 true (.bin .lss t94 k0)) n14 n0),(dz (og n96 n83 true (.un .not t95)) n15 n0),(dz (oq n97 (.pick t83 t96 (.c (.d (.bool false))))) n16 n0)])
 (.cond t97 (.seq (.ops [(om n98 n0),(om n99 n1),(om n100 n2),(om n101 n13),(om n102 n4),(oq n103 (.call (.c (.fn n129 [] [])) [t98,t99,t100,t101,t102] .raw)),(om n15 n103)])
 (.seq (.ops [(om n104 n15),(om n1 n104)])
 (.exit n1)))
 .skip))
 (.seq (.ops [(om n106 n0),(om n107 n1),(om n108 n2),(om n109 n13),(om n110 n4),(oq n111 (.call (.c (.fn n130 [] [])) [t106,t107,t108,t109,t110] .raw)),(om n105 n111),(oq n112 (.extract t105 n0)),(oq n113 (.extract t105 n1)),(om n16 n112),(om n17 n113)])
 (.seq (.ops [(om n114 n17),(om n11 n114)])
 (.seq (.ops [(om n115 n16),(om n116 n1),(oq n117 (.bin .sub t115 t116)),(om n118 n2),(om n119 n16),(oq n120 (.bin .sub t118 t119)),(om n18 n117),(om n19 n120)])
 (.seq (.ops [(om n121 n12),(oq n122 (.bin .quo t121 k8)),(om n20 n122)])
 (.seq (.ops [(om n123 n18),(om n124 n19),(oq n125 (.bin .lss t123 t124))])
 (.cond t125 (.seq (.ops [(om n126 n18),(om n127 n20),(oq n128 (.bin .geq t126 t127)),(om n10 n128)])
 (.seq (.ops [(om n129 n0),(om n130 n1),(om n131 n16),(om n132 n3),(om n133 n4),(oq n134 (.call (.c (.fn n92 [] [])) [t129,t130,t131,t132,t133] .raw))])
 (.ops [(om n135 n16),(oq n136 (.bin .add t135 k1)),(om n1 n136)])))
 (.seq (.ops [(om n137 n19),(om n138 n20),(oq n139 (.bin .geq t137 t138)),(om n10 n139)])
 (.seq (.ops [(om n140 n0),(om n141 n16),(oq n142 (.bin .add t141 k1)),(om n143 n2),(om n144 n3),(om n145 n4),(oq n146 (.call (.c (.fn n92 [] [])) [t140,t142,t143,t144,t145] .raw))])
 (.ops [(om n147 n16),(om n2 n147)]))))))))))))))))))))))
def x92:XFn:=⟨a92,n148,[],c92⟩
def a93:Ann:=⟨[(n1,n2,n0),(n2,n1,n0)],[]⟩
def c93:ICode:=
 (.seq (.ops [(oq n2 (.mv k0))])
 (.seq (.cond (.c (.d (.bool false))) (.seq (.ops [(om n3 n0),(oq n4 (.conv .u32 t3)),(oq n5 (.call (.c (.fn n131 [] [])) [t4] .borrow)),(om n2 n5)])
 .ret)
 .skip)
 (.seq (.ops [(om n6 n0),(oq n7 (.call (.c (.fn n132 [] [])) [t6] .borrow)),(om n2 n7)])
 .ret)))
def x93:XFn:=⟨a93,n8,[(.t n2)],c93⟩
def a94:Ann:=⟨[],[]⟩
def c94:ICode:=
 (.seq (.ops [(oq n2 (.mv (.c (.d (.bool false)))))])
 (.seq (.ops [(om n3 n0),(om n4 n0),(oq n5 (.bin .neq t3 t4)),(om n2 n5)])
 .ret))
def x94:XFn:=⟨a94,n6,[(.t n2)],c94⟩
def a95:Ann:=⟨[(n1,n2,n0),(n4,n3,n2),(n6,n1,n2),(n11,n6,n0),(n15,n2,n2)],[]⟩
def c95:ICode:=
 (.seq (.ops [(oq n3 (.box t0)),(oq n4 (.box t1)),(oq n5 (.box t2)),(oq n6 (.alloc [.nil,.nil,.nil,.nil,(.int .i64 (.l (i n0)))])),(oq n7 (.mv k0))])
 (.seq (.seq (.ops [(ol n15 n3),(ol n16 n4),(oq n17 (.call (.c (.fn n109 [] [])) [t15,t16] .borrow)),(om n8 n17)])
 (.seq (.ops [(om n18 n8),(oq n19 (.bin .neq t18 k0))])
 (.cond t19 (.seq (.ops [(oq n20 (.build [.nil,.nil,.nil,.nil,(.int .i64 (.l (i n0)))] [])),(om n21 n8),⟨none,none,.store n5 t6 t20⟩,(om n7 n21)])
 .ret)
 .skip)))
 (.seq (.ops [(ol n22 n3),(ol n23 n4),(oq n24 (.build [.nil,.nil] [(n0,n1,t22),(n1,n1,t23)])),(oq n25 (.call (.c (.fn n133 [] [])) [t24] .raw)),(oq n9 (.alloc [(.raw (.pointer none))])),⟨none,none,.store n1 t9 t25⟩])
 (.seq (.ops [(ol n26 n3),(oq n27 (.len t26)),(oq n28 (.mkslice n1 [(.int .i64 (.l (i n0)))] n8 t27)),(oq n10 (.alloc [.nil])),(oq n11 (.alloc [(.int .i64 (.l (i n0)))])),⟨none,none,.store n1 t10 t28⟩,⟨none,none,.store n1 t11 k1⟩])
 (.seq (.seq (.ops [(ol n29 n3),(oq n30 (.call (.c (.fn n134 [] [])) [t29] .raw))])
 (.block n0 (.range t30 [n31,n32] (.seq (.ops [(om n12 n31)])
 (.ops [(om n13 n32)])) (.block n1 (.seq (.ops [(ol n33 n10),(om n34 n12),(ol n35 n11),(oq n36 (.iaddr n1 t33 t34)),⟨none,none,.store n1 t36 t35⟩])
 (.ops [(ol n37 n11),(om n38 n13),(oq n39 (.bin .mul t37 t38)),⟨none,none,.store n1 t11 t39⟩]))))))
 (.seq (.seq (.ops [(ol n40 n5),(oq n41 (.len t40)),(ol n42 n11),(oq n43 (.bin .neq t41 t42)),(om n44 n43),(og n45 n44 false (.load none t5)),(og n46 n44 false (.call (.c (.fn n135 [] [])) [t45,(.c (.fn n136 [] []))] .borrow)),(og n47 n44 false (.un .not t46)),(oq n48 (.pick t44 (.c (.d (.bool true))) t47))])
 (.cond t48 (.seq (.ops [(oq n49 (.build [.nil,.nil,.nil,.nil,(.int .i64 (.l (i n0)))] [])),⟨none,none,.store n5 t6 t49⟩,(oq n7 (.mv k4))])
 .ret)
 .skip))
 (.seq (.ops [(oq n14 (.alloc [(.raw .nilFunc)]))])
 (.seq (.ops [(oq n50 (.mkfn n137 [] [t4,t9,t5,t3,t14,t10])),⟨none,none,.store n1 t14 t50⟩])
 (.seq (.draw n0 [(dq (ol n51 n9) n0 n0 [] [] false true),(dz (ol n52 n14) n1 n0),(dq (oq n53 (.call t52 [k0,k0] .raw)) n2 n0 [] [n1] false false),(dz (oq n54 (.nilchk t51)) n3 n0),(dz (of n55 n2 n54) n4 n0),(dz (of n56 n4 n55) n5 n0),⟨⟨none,none,.store n1 t56 t53⟩,n6,n0,[],[n5,n2,n0,n1,n4,n3],true,false⟩])
 (.seq (.ops [(ol n57 n9),(oq n58 (.nilchk t57)),(of n59 n2 n58),(oq n60 (.load (some n5) t59)),⟨none,none,.store n5 t6 t60⟩,(oq n7 (.mv k0))])
 .ret))))))))))
def x95:XFn:=⟨a95,n61,[(.c n6 (some n5)),(.t n7)],c95⟩
def a96:Ann:=⟨[],[]⟩
def c96:ICode:=
 (.seq (.ops [(oq n4 (.mv k0))])
 (.seq (.seq (.ops [(om n6 n0),(oq n7 (.len t6)),(oq n8 (.mv k0))])
 (.block n0 (.loop (.seq (.ops [(oq n9 (.bin .lss t8 t7))])
 (.seq (.cond t9 .skip
 (.exit n0))
 (.seq (.block n1 (.seq (.ops [(om n10 n8),(om n5 n10)])
 (.seq (.ops [(om n11 n1),(om n12 n0),(om n13 n5),(oq n14 (.iaddr n1 t12 t13)),(ol n15 n14),(oq n16 (.bin .eql t11 t15))])
 (.cond t16 (.seq (.ops [(om n17 n5),(om n4 n17)])
 .ret)
 .skip))))
 (.ops [(oq n18 (.bin .add t8 k1)),(om n8 n18)])))))))
 (.seq (.ops [(oq n4 (.mv (.c (.d (.int .i64 (.l (.negSucc n0)))))))])
 .ret)))
def x96:XFn:=⟨a96,n19,[(.t n4)],c96⟩
def a97:Ann:=⟨[(n1,n5,n2),(n5,n6,n2),(n6,n4,n1)],[]⟩
def c97:ICode:=
 (.seq (.ops [(oq n6 (.mv (.c (.d .nil))))])
 (.seq (.ops [(om n8 n0),(om n9 n1),(om n10 n2),(om n11 n0),(oq n12 (.len t11)),(oq n13 (.slchk n1 t8 (some t9) (some t10) (some t12)))])
 (.seq (.seq (.ops [(om n14 n1),(om n15 n2),(oq n16 (.bin .eql t14 t15))])
 (.cond t16 (.seq (.ops [(om n17 n0),(om n6 n17)])
 .ret)
 .skip))
 (.seq (.ops [(om n18 n0),(oq n19 (.len t18)),(om n7 n19)])
 (.seq (.draw n0 [(dz (om n20 n0) n0 n0),(dz (om n21 n1) n1 n0),(dz (oq n22 (.slice n1 t20 none (some t21) none)) n2 n0),(dz (om n23 n0) n3 n0),(dz (om n24 n2) n4 n0),(dz (oq n25 (.slice n1 t23 (some t24) none none)) n5 n0),(dq (oq n26 (.appendIn n1 t22 t25)) n6 n0 [] [n2,n5,n0,n1,n3,n4] true false),(dz (om n0 n26) n7 n0)])
 (.seq (.ops [(om n27 n0),(om n28 n0),(oq n29 (.len t28)),(om n30 n7),(oq n31 (.slicex n1 t27 (some t29) (some t30))),⟨none,none,.clear n1 [(.int .i64 (.l (i n0)))] t31⟩])
 (.seq (.ops [(om n32 n0),(om n6 n32)])
 .ret)))))))
def x97:XFn:=⟨a97,n33,[(.t n6)],c97⟩
def a98:Ann:=⟨[(n3,n0,n1),(n3,n2,n3)],[]⟩
def c98:ICode:=
 (.seq (.ops [(oq n2 (.mv (.c (.d .nil))))])
 (.seq (.seq (.ops [(om n3 n0),(oq n4 (.isnil false t3))])
 (.cond t4 (.seq (.ops [(oq n2 (.mv (.c (.d .nil))))])
 .ret)
 .skip))
 (.seq (.ops [(oq n5 (.bnew n1)),(om n6 n0),(oq n7 (.appendN n1 n8 t5 t6 true)),(om n2 n7)])
 .ret)))
def x98:XFn:=⟨a98,n8,[(.t n2)],c98⟩
def a99:Ann:=⟨[(n7,n2,n2),(n9,n8,n3),(n13,n4,n1),(n14,n6,n0),(n19,n4,n2)],[]⟩
def c99:ICode:=
 (.seq (.ops [(oq n6 (.mv (.c (.d .nil))))])
 (.seq (.ops [(om n10 n0),(om n11 n1),(oq n12 (.slice n1 t10 (some t11) none none))])
 (.seq (.ops [(om n13 n2),(oq n14 (.len t13)),(om n7 n14)])
 (.seq (.seq (.ops [(om n15 n7),(oq n16 (.bin .eql t15 k0))])
 (.cond t16 (.seq (.ops [(om n17 n0),(om n6 n17)])
 .ret)
 .skip))
 (.seq (.ops [(om n18 n0),(oq n19 (.len t18)),(om n8 n19)])
 (.seq (.seq (.ops [(om n20 n1),(om n21 n8),(oq n22 (.bin .eql t20 t21))])
 (.cond t22 (.seq (.ops [(om n23 n0),(om n24 n2),(oq n25 (.appendIn n1 t23 t24)),(om n6 n25)])
 .ret)
 .skip))
 (.seq (.seq (.ops [(om n26 n8),(om n27 n7),(oq n28 (.bin .add t26 t27)),(om n29 n0),(oq n30 (.cap t29)),(oq n31 (.bin .gtr t28 t30))])
 (.cond t31 (.seq (.ops [(om n32 n0),(om n33 n1),(oq n34 (.slice n1 t32 none (some t33) none)),(om n35 n8),(om n36 n7),(oq n37 (.bin .add t35 t36)),(om n38 n1),(oq n39 (.bin .sub t37 t38)),(oq n40 (.bad)),(om n9 n40)])
 (.seq (.ops [(om n41 n9),(om n42 n1),(oq n43 (.slice n1 t41 (some t42) none none)),(om n44 n2),(oq n45 (.copy n1 t43 t44))])
 (.seq (.draw n0 [(dz (om n46 n9) n0 n0),(dz (om n47 n1) n1 n0),(dz (om n48 n7) n2 n0),(dz (oq n49 (.bin .add t47 t48)) n3 n0),(dz (oq n50 (.slice n1 t46 (some t49) none none)) n4 n0),(dz (om n51 n0) n5 n0),(dz (om n52 n1) n6 n0),(dz (oq n53 (.slice n1 t51 (some t52) none none)) n7 n0),(dq (oq n54 (.copy n1 t50 t53)) n8 n0 [] [n4,n7,n0,n3,n1,n2,n5,n6] true false)])
 (.seq (.ops [(om n55 n9),(om n6 n55)])
 .ret))))
 .skip))
 (.seq (.ops [(om n56 n0),(om n57 n8),(om n58 n7),(oq n59 (.bin .add t57 t58)),(oq n60 (.slicex n1 t56 none (some t59))),(om n0 n60)])
 (.seq (.seq (.ops [(om n61 n2),(om n62 n0),(om n63 n1),(om n64 n7),(oq n65 (.bin .add t63 t64)),(oq n66 (.slice n1 t62 (some t65) none none)),(oq n67 (.ovl t61 t66)),(oq n68 (.un .not t67))])
 (.cond t68 (.seq (.draw n0 [(dz (om n69 n0) n0 n0),(dz (om n70 n1) n1 n0),(dz (om n71 n7) n2 n0),(dz (oq n72 (.bin .add t70 t71)) n3 n0),(dz (oq n73 (.slice n1 t69 (some t72) none none)) n4 n0),(dz (om n74 n0) n5 n0),(dz (om n75 n1) n6 n0),(dz (oq n76 (.slice n1 t74 (some t75) none none)) n7 n0),(dq (oq n77 (.copy n1 t73 t76)) n8 n0 [] [n4,n7,n0,n3,n1,n2,n5,n6] true false)])
 (.seq (.ops [(om n78 n0),(om n79 n1),(oq n80 (.slice n1 t78 (some t79) none none)),(om n81 n2),(oq n82 (.copy n1 t80 t81))])
 (.seq (.ops [(om n83 n0),(om n6 n83)])
 .ret)))
 .skip))
 (.seq (.ops [(om n84 n0),(om n85 n8),(oq n86 (.slice n1 t84 (some t85) none none)),(om n87 n2),(oq n88 (.copy n1 t86 t87))])
 (.seq (.ops [(om n89 n0),(om n90 n1),(oq n91 (.slice n1 t89 (some t90) none none)),(om n92 n7),(oq n93 (.call (.c (.fn n141 [] [])) [t91,t92] .raw))])
 (.seq (.ops [(om n94 n0),(om n6 n94)])
 .ret))))))))))))
def x99:XFn:=⟨a99,n95,[(.t n6)],c99⟩
def a100:Ann:=⟨[(n2,n2,n2),(n6,n2,n0),(n6,n14,n3),(n6,n15,n2)],[]⟩
def c100:ICode:=
 (.seq (.ops [(oq n5 (.mv (.c (.d (.bool false)))))])
 (.seq (.seq (.ops [(om n7 n0),(oq n8 (.len t7)),(of n9 n0 n1),(ol n10 n9),(oq n11 (.len t10)),(oq n12 (.bin .eql t8 t11))])
 (.cond t12 (.seq (.ops [(ol n13 n2),(om n14 n0),(oq n15 (.call t13 [t14] .raw)),(om n5 n15)])
 .ret)
 .skip))
 (.seq (.seq (.ops [(of n16 n0 n1),(ol n17 n16),(oq n18 (.len t17)),(oq n19 (.mv k0))])
 (.block n0 (.loop (.seq (.ops [(oq n20 (.bin .lss t19 t18))])
 (.seq (.cond t20 .skip
 (.exit n0))
 (.seq (.block n1 (.seq (.ops [(om n21 n19),(om n6 n21)])
 (.seq (.draw n0 [(dz (om n22 n0) n0 n0),(dz (om n23 n6) n1 n0),(dq (oq n24 (.call (.c (.fn n101 [] [])) [t22,t23] .borrow)) n2 n0 [] [n0,n1] true false),(dz (oq n25 (.un .not t24)) n3 n0),(dz (om n26 n25) n4 n0),(dq (og n28 n26 true (.mv t0)) n6 n0 [] [] false true),(dq (og n29 n26 true (.mv t0)) n7 n0 [] [] false true),(dq (og n30 n26 true (.len t29)) n8 n0 [] [] false true),(dq (og n31 n26 true (.mv t0)) n9 n0 [] [] false true),(dq (og n32 n26 true (.len t31)) n10 n0 [] [] false true),(dq (og n33 n26 true (.slice n1 t28 none (some t30) (some t32))) n11 n0 [] [] false true),(dz (og n34 n26 true (.mv t6)) n12 n0),(dq (og n27 n26 true (.load none t3)) n5 n0 [] [] false true),(dq (og n35 n26 true (.bslice n1 n1 [(.int .i64 (.l (i n0)))] [(n0,t34)] false)) n13 n0 [] [n12,n4,n3,n2,n0,n1] false false),(dq (og n36 n26 true (.appendN n1 n8 t33 t35 true)) n14 n0 [] [n11,n13,n4,n6,n8,n10,n3,n2,n0,n1,n7,n9,n12] false false),(dq (og n37 n26 true (.call t27 [t36] .raw)) n15 n0 [] [n5,n14,n4,n3,n2,n0,n1,n11,n13,n6,n8,n10,n7,n9,n12] true false),(dz (og n38 n26 true (.un .not t37)) n16 n0),(dz (oq n39 (.pick t26 t38 (.c (.d (.bool false))))) n17 n0)])
 (.cond t39 (.seq (.ops [(oq n5 (.mv (.c (.d (.bool false)))))])
 .ret)
 .skip))))
 (.ops [(oq n40 (.bin .add t19 k1)),(om n19 n40)])))))))
 (.seq (.ops [(oq n5 (.mv (.c (.d (.bool true)))))])
 .ret))))
def x100:XFn:=⟨a100,n41,[(.t n5)],c100⟩
def a101:Ann:=⟨[(n1,n2,n0)],[]⟩
def c101:ICode:=
 (.seq (.ops [(oq n4 (.mv (.c (.d (.bool false)))))])
 (.seq (.ops [(om n5 n0),(om n6 n1),(oq n7 (.call (.c (.fn n96 [] [])) [t5,t6] .borrow)),(oq n8 (.bin .geq t7 k0)),(om n4 n8)])
 .ret))
def x101:XFn:=⟨a101,n9,[(.t n4)],c101⟩
def a102:Ann:=⟨[(n1,n2,n2)],[]⟩
def c102:ICode:=
 (.seq (.ops [(oq n4 (.mv (.c (.d (.bool false)))))])
 (.seq (.ops [(om n5 n0),(om n6 n1),(oq n7 (.call (.c (.fn n142 [] [])) [t5,t6] .raw)),(oq n8 (.bin .geq t7 k0)),(om n4 n8)])
 .ret))
def x102:XFn:=⟨a102,n9,[(.t n4)],c102⟩
def a103:Ann:=⟨[(n1,n5,n0),(n1,n15,n0)],[]⟩
def c103:ICode:=
 (.seq (.ops [(oq n1 (.box t0)),(oq n2 (.mv (.c (.d (.bool false)))))])
 (.seq (.ops [(of n3 n1 n1),(ol n4 n3),(of n5 n2 n1),(ol n6 n5),(oq n7 (.bslice n1 n2 [(.int .i64 (.l (i n0)))] [(n0,t4),(n1,t6)] false)),(oq n8 (.call (.c (.fn n104 [] [])) [(.c (.d (.int .i64 (.l (.negSucc n9998))))),k9999,t7] .borrow)),(oq n9 (.un .not t8)),(om n10 n9),(og n11 n10 false (.faddr n2 t1)),(og n12 n10 false (.load none t11)),(og n13 n10 false (.faddr n1 t1)),(og n14 n10 false (.load none t13)),(og n15 n10 false (.bin .sub t12 t14)),(og n16 n10 false (.bin .add t15 k1)),(og n17 n10 false (.bslice n1 n1 [(.int .i64 (.l (i n0)))] [(n0,t16)] false)),(og n18 n10 false (.call (.c (.fn n104 [] [])) [k1,k12,t17] .borrow)),(og n19 n10 false (.un .not t18)),(oq n20 (.pick t10 (.c (.d (.bool true))) t19)),(om n2 n20)])
 .ret))
def x103:XFn:=⟨a103,n21,[(.t n2)],c103⟩
def a104:Ann:=⟨[(n1,n2,n2)],[]⟩
def c104:ICode:=
 (.seq (.ops [(oq n3 (.box t0)),(oq n4 (.box t1)),(oq n6 (.mv (.c (.d (.bool false)))))])
 (.seq (.ops [(om n7 n2),(oq n8 (.mkfn n144 [] [t3,t4])),(oq n9 (.call (.c (.fn n143 [] [])) [t7,t8] .raw)),(oq n10 (.un .not t9)),(om n6 n10)])
 .ret))
def x104:XFn:=⟨a104,n11,[(.t n6)],c104⟩
def a105:Ann:=⟨[(n2,n11,n0),(n4,n1,n3),(n4,n4,n3),(n5,n4,n0),(n5,n8,n0)],[]⟩
def c105:ICode:=
 (.seq (.ops [(oq n2 (.box t0)),(oq n4 (.mv (.c (.d (.bool false)))))])
 (.seq (.ops [(of n8 n1 n2),(ol n9 n8),(om n10 n1),(oq n11 (.iaddr n5 t9 t10)),(oq n12 (.load (some n5) t11)),(oq n5 (.alloc [(.int .u8 (.l (i n0))),(.int .i64 (.l (i n0))),(.int .i64 (.l (i n0))),(.int .i64 (.l (i n0))),(.int .i64 (.l (i n0)))])),⟨none,none,.store n5 t5 t12⟩])
 (.seq (.seq (.ops [(of n13 n0 n5),(ol n14 n13),(oq n15 (.bin .lss t14 (.c (.d (.int .u8 (.l (i n1))))))),(om n16 n15),(og n17 n16 false (.faddr n0 t5)),(og n18 n16 false (.load none t17)),(og n19 n16 false (.bin .gtr t18 (.c (.d (.int .u8 (.l (i n17))))))),(oq n20 (.pick t16 (.c (.d (.bool true))) t19)),(om n21 n20),(og n22 n21 false (.load (some n3) t2)),(og n23 n21 false (.load (some n5) t5)),(og n24 n21 false (.call (.c (.fn n145 [] [])) [t22,t23] .borrow)),(og n25 n21 false (.un .not t24)),(oq n26 (.pick t21 (.c (.d (.bool true))) t25))])
 (.cond t26 (.seq (.ops [(oq n4 (.mv (.c (.d (.bool false)))))])
 .ret)
 .skip))
 (.seq (.draw n1 [(dz (of n29 n0 n5) n2 n0),(dq (oq n27 (.load (some n5) t5)) n0 n0 [n0] [] false false),(dq (ol n30 n29) n3 n0 [n0] [] false false),(dz (oq n6 (.alloc [(.int .i64 (.l (i n0))),(.int .i64 (.l (i n0))),(.int .i64 (.l (i n0)))])) n5 n0),(dz (oq n28 (.call (.c (.fn n146 [] [])) [t27] .data)) n1 n0),(dz (oq n31 (.call (.c (.fn n147 [] [])) [t30] .data)) n4 n0),⟨⟨none,none,.store n3 t6 t28⟩,n6,n1,[],[n5,n1,n4,n0,n3,n2],true,false⟩,(dz (om n7 n31) n7 n1)])
 (.seq (.ops [(om n32 n1),(oq n33 (.bin .sub t32 k1)),(om n34 n7),(oq n35 (.slarr n3 t6 none (some t34))),(oq n36 (.call (.c (.fn n104 [] [])) [k0,t33,t35] .borrow)),(om n37 n36),(og n38 n37 true (.mv t7)),(og n39 n37 true (.slarr n3 t6 (some t38) none)),(og n40 n37 true (.call (.c (.fn n104 [] [])) [k0,k0,t39] .borrow)),(oq n41 (.pick t37 t40 (.c (.d (.bool false))))),(om n4 n41)])
 .ret)))))
def x105:XFn:=⟨a105,n42,[(.t n4)],c105⟩
def a107:Ann:=⟨[(n1,n2,n2)],[]⟩
def c107:ICode:=
 (.seq (.ops [(oq n3 (.box t1)),(oq n4 (.mv (.c (.d (.bool false)))))])
 (.seq (.ops [(om n5 n0),(oq n6 (.mkfn n148 [] [t3])),(oq n7 (.call (.c (.fn n143 [] [])) [t5,t6] .raw)),(oq n8 (.un .not t7)),(om n4 n8)])
 .ret))
def x107:XFn:=⟨a107,n9,[(.t n4)],c107⟩
def a108:Ann:=⟨[],[]⟩
def c108:ICode:=
 (.seq (.ops [(oq n4 (.mv (.c (.d (.bool false)))))])
 (.seq (.ops [(om n5 n0),(ol n6 n1),(oq n7 (.bin .geq t5 t6)),(om n8 n7),(og n9 n8 true (.mv t0)),(og n10 n8 true (.load none t2)),(og n11 n8 true (.bin .leq t9 t10)),(oq n12 (.pick t8 t11 (.c (.d (.bool false))))),(om n4 n12)])
 .ret))
def x108:XFn:=⟨a108,n13,[(.t n4)],c108⟩
def a109:Ann:=⟨[(n3,n1,n0),(n13,n1,n2),(n14,n1,n2),(n15,n3,n1),(n15,n4,n0)],[]⟩
def c109:ICode:=
 (.seq (.ops [(oq n4 (.mv k0))])
 (.seq (.block n0 (.seq (.ops [(om n10 n0),(oq n11 (.len t10)),(oq n12 (.bin .gtr t11 k6)),(om n9 n12)])
 (.cond t9 (.seq (.ops [(oq n4 (.mv k5))])
 .ret)
 (.seq (.ops [(om n14 n0),(oq n15 (.call (.c (.fn n149 [] [])) [k1,k12,t14] .borrow)),(oq n16 (.un .not t15)),(om n13 n16)])
 (.cond t13 (.seq (.ops [(oq n4 (.mv k3))])
 .ret)
 .skip)))))
 (.seq (.ops [(oq n5 (.mv k1))])
 (.seq (.seq (.ops [(om n17 n0),(oq n18 (.len t17)),(oq n19 (.mv k0))])
 (.block n1 (.loop (.seq (.ops [(oq n20 (.bin .lss t19 t18))])
 (.seq (.cond t20 .skip
 (.exit n1))
 (.seq (.block n2 (.seq (.ops [(oq n21 (.iaddr n1 t17 t19)),(ol n22 n21),(om n7 n22)])
 (.ops [(om n23 n5),(om n24 n7),(oq n25 (.bin .mul t23 t24)),(om n5 n25)])))
 (.ops [(oq n26 (.bin .add t19 k1)),(om n19 n26)])))))))
 (.seq (.seq (.ops [(om n27 n5),(oq n28 (.bin .gtr t27 k2000))])
 (.cond t28 (.seq (.ops [(oq n4 (.mv k5))])
 .ret)
 .skip))
 (.seq (.ops [(om n29 n1),(oq n30 (.call (.c (.fn n98 [] [])) [t29] .raw)),(om n8 n30)])
 (.seq (.ops [(om n31 n8),(oq n32 (.call (.c (.fn n150 [] [])) [t31] .raw))])
 (.seq (.seq (.ops [(om n33 n8),(om n34 n0),(oq n35 (.len t34)),(oq n36 (.call (.c (.fn n151 [] [])) [t35] .share)),(oq n37 (.call (.c (.fn n122 [] [])) [t33,t36] .borrow)),(oq n38 (.un .not t37))])
 (.cond t38 (.seq (.ops [(oq n4 (.mv k4))])
 .ret)
 .skip))
 (.seq (.ops [(oq n4 (.mv k0))])
 .ret)))))))))
def x109:XFn:=⟨a109,n39,[(.t n4)],c109⟩
def a112:Ann:=⟨[],[]⟩
def c112:ICode:=
 (.seq (.ops [(oq n4 (.mv k0))])
 (.seq (.ops [(oq n5 (.mv k0))])
 (.seq (.seq (.ops [(oq n6 (.mv k0))])
 (.block n0 (.loop (.seq (.seq (.ops [(om n7 n6),(om n8 n0),(oq n9 (.len t8)),(oq n10 (.bin .lss t7 t9))])
 (.cond t10 .skip
 (.exit n0)))
 (.seq (.block n1 (.draw n0 [(dz (om n13 n5) n0 n0),(dz (om n14 n0) n1 n0),(dz (om n15 n6) n2 n0),(dz (oq n16 (.iaddr n1 t14 t15)) n3 n0),(dz (om n19 n1) n6 n0),(dz (om n20 n6) n7 n0),(dz (oq n21 (.iaddr n1 t19 t20)) n8 n0),(dz (ol n17 n16) n4 n0),(dz (oq n18 (.bin .mul t13 t17)) n5 n0),(dz (ol n22 n21) n9 n0),(dz (oq n23 (.bin .add t18 t22)) n10 n0),(dz (om n5 n23) n11 n0)]))
 (.ops [(om n11 n6),(oq n12 (.bin .add t11 k1)),(om n6 n12)]))))))
 (.seq (.ops [(om n24 n5),(om n4 n24)])
 .ret))))
def x112:XFn:=⟨a112,n25,[(.t n4)],c112⟩
def a113:Ann:=⟨[],[]⟩
def c113:ICode:=
 (.seq (.ops [(oq n1 (.box t0)),(oq n2 (.mv (.c (.d (.bool false)))))])
 (.seq (.seq (.ops [(oq n3 (.mv k1))])
 (.block n0 (.loop (.seq (.seq (.ops [(om n4 n3),(of n5 n1 n1),(ol n6 n5),(oq n7 (.len t6)),(oq n8 (.bin .lss t4 t7))])
 (.cond t8 .skip
 (.exit n0)))
 (.seq (.block n1 (.seq (.draw n0 [(dz (of n11 n1 n1) n0 n0),(dz (om n13 n3) n2 n0),(dz (of n16 n1 n1) n5 n0),(dz (ol n12 n11) n1 n0),(dz (oq n14 (.iaddr n1 t12 t13)) n3 n0),(dz (ol n15 n14) n4 n0),(dz (ol n17 n16) n6 n0),(dz (oq n18 (.iaddr n1 t17 k0)) n7 n0),(dz (ol n19 n18) n8 n0),(dz (oq n20 (.bin .neq t15 t19)) n9 n0)])
 (.cond t20 (.seq (.ops [(oq n2 (.mv (.c (.d (.bool false)))))])
 .ret)
 .skip)))
 (.ops [(om n9 n3),(oq n10 (.bin .add t9 k1)),(om n3 n10)]))))))
 (.seq (.ops [(oq n2 (.mv (.c (.d (.bool true)))))])
 .ret)))
def x113:XFn:=⟨a113,n21,[(.t n2)],c113⟩
def a118:Ann:=⟨[(n1,n1,n1),(n2,n4,n1),(n2,n6,n0)],[]⟩
def c118:ICode:=
 (.seq (.ops [(oq n1 (.box t0)),(oq n2 (.alloc [.nil,.nil,.nil,.nil,.nil,.nil,(.int .i64 (.l (i n0)))])),(oq n3 (.mv k0))])
 (.seq (.ops [(oq n5 (.load (some n5) t1)),(oq n6 (.call (.c (.fn n156 [] [])) [t5] .share)),(om n4 n6),(oq n7 (.extract t4 n0)),(oq n8 (.extract t4 n1)),⟨none,none,.store n7 t2 t7⟩,(om n3 n8)])
 (.seq (.seq (.draw n0 [(dz (om n9 n3) n0 n0),(dz (oq n10 (.bin .eql t9 k0)) n1 n0),(dz (om n11 n10) n2 n0),(dz (og n12 n11 true (.load (some n7) t2)) n3 n0),(dq (og n14 n11 true (.load (some n5) t1)) n5 n0 [] [] false true),(dq (og n13 n11 true (.call (.c (.fn n158 [] [])) [t12] .share)) n4 n0 [] [n3,n2,n1,n0] false false),(dq (og n15 n11 true (.call (.c (.fn n157 [] [])) [t13,t14] .borrow)) n6 n0 [] [n4,n5,n2,n3,n1,n0] true false),(dz (og n16 n11 true (.un .not t15)) n7 n0),(dz (oq n17 (.pick t11 t16 (.c (.d (.bool false))))) n8 n0)])
 (.cond t17 (.seq (.ops [(oq n18 (.load (some n7) t2)),⟨none,none,.store n7 t2 t18⟩,(oq n3 (.mv k4))])
 .ret)
 .skip))
 (.seq (.ops [(oq n19 (.load (some n7) t2)),(om n20 n3),⟨none,none,.store n7 t2 t19⟩,(om n3 n20)])
 .ret))))
def x118:XFn:=⟨a118,n21,[(.c n2 (some n7)),(.t n3)],c118⟩
def a119:Ann:=⟨[(n3,n6,n0),(n3,n10,n3)],[]⟩
def c119:ICode:=
 (.seq (.ops [(oq n1 (.box t0)),(oq n2 (.alloc [.nil]))])
 (.seq (.seq (.ops [(of n5 n0 n1),(oq n6 (.load (some n2) t5)),(oq n7 (.mkfn n159 [t6] []))])
 (.block n0 (.range t7 [n8,n9] (.ops [(om n4 n9)]) (.block n1 (.draw n0 [(dq (of n11 n2 n1) n1 n0 [] [] false true),(dq (of n12 n2 n11) n2 n0 [] [] false true),(dz (om n15 n4) n5 n0),(dq (ol n10 n2) n0 n0 [] [] false true),(dq (ol n13 n12) n3 n0 [] [] false true),(dz (oq n14 (.load (some n7) t1)) n4 n0),(dq (oq n16 (.call (.c (.fn n160 [] [])) [t14,t15,(.c (.fn n161 [] []))] .borrow)) n6 n0 [] [n4,n5] false false),(dz (oq n17 (.iaddr n2 t13 t16)) n7 n0),(dz (oq n18 (.load (some n2) t17)) n8 n0),(dq (oq n19 (.bslice n2 n1 [(.int .u8 (.l (i n0))),(.int .i64 (.l (i n0)))] [(n0,t18)] false)) n9 n0 [] [n8,n7,n3,n6,n2,n1,n4,n5] false false),(dq (oq n20 (.appendN n2 n16 t10 t19 true)) n10 n0 [] [n0,n9,n6,n8,n7,n3,n2,n1,n4,n5] true false),⟨⟨none,none,.store n1 t2 t20⟩,n11,n0,[],[n10,n0,n1,n2,n3,n4,n5,n6,n7,n8,n9],true,false⟩])))))
 (.seq (.ops [(ol n21 n2),⟨none,none,.store n1 t2 t21⟩])
 .ret)))
def x119:XFn:=⟨a119,n22,[(.c n2 none)],c119⟩
def a120:Ann:=⟨[(n1,n2,n2)],[]⟩
def c120:ICode:=
 (.seq (.ops [(oq n4 (.mv (.c (.d (.bool false)))))])
 (.seq (.ops [(om n5 n0),(om n6 n1),(oq n7 (.call (.c (.fn n162 [] [])) [t5,t6] .raw)),(oq n8 (.bin .geq t7 k0)),(om n4 n8)])
 .ret))
def x120:XFn:=⟨a120,n9,[(.t n4)],c120⟩
def a121:Ann:=⟨[(n1,n2,n2)],[]⟩
def c121:ICode:=
 (.seq (.ops [(oq n2 (.box t0)),(oq n3 (.mv (.c (.d (.bool false)))))])
 (.seq (.ops [(ol n4 n1),(oq n5 (.load (some n5) t2)),(oq n6 (.call t4 [t5] .raw)),(oq n7 (.un .not t6)),(om n3 n7)])
 .ret))
def x121:XFn:=⟨a121,n8,[(.t n3)],c121⟩
def a122:Ann:=⟨[],[]⟩
def c122:ICode:=
 (.seq (.ops [(oq n4 (.mv (.c (.d (.bool false)))))])
 (.seq (.seq (.ops [(om n6 n0),(oq n7 (.len t6)),(om n8 n1),(oq n9 (.len t8)),(oq n10 (.bin .neq t7 t9))])
 (.cond t10 (.seq (.ops [(oq n4 (.mv (.c (.d (.bool false)))))])
 .ret)
 .skip))
 (.seq (.seq (.ops [(om n11 n0),(oq n12 (.len t11)),(oq n13 (.mv k0))])
 (.block n0 (.loop (.seq (.ops [(oq n14 (.bin .lss t13 t12))])
 (.seq (.cond t14 .skip
 (.exit n0))
 (.seq (.block n1 (.seq (.ops [(om n15 n13),(om n5 n15)])
 (.seq (.draw n0 [(dz (om n16 n0) n0 n0),(dz (om n17 n5) n1 n0),(dz (oq n18 (.iaddr n1 t16 t17)) n2 n0),(dz (om n20 n1) n4 n0),(dz (om n21 n5) n5 n0),(dz (oq n22 (.iaddr n1 t20 t21)) n6 n0),(dz (ol n19 n18) n3 n0),(dz (ol n23 n22) n7 n0),(dz (oq n24 (.bin .neq t19 t23)) n8 n0)])
 (.cond t24 (.seq (.ops [(oq n4 (.mv (.c (.d (.bool false)))))])
 .ret)
 .skip))))
 (.ops [(oq n25 (.bin .add t13 k1)),(om n13 n25)])))))))
 (.seq (.ops [(oq n4 (.mv (.c (.d (.bool true)))))])
 .ret))))
def x122:XFn:=⟨a122,n26,[(.t n4)],c122⟩
def a123:Ann:=⟨[(n4,n14,n2)],[]⟩
def c123:ICode:=
 (.seq (.ops [(om n10 n1),(oq n11 (.bin .add t10 k1)),(om n8 n11)])
 (.block n0 (.loop (.seq (.seq (.ops [(om n12 n8),(om n13 n2),(oq n14 (.bin .lss t12 t13))])
 (.cond t14 .skip
 (.exit n0)))
 (.seq (.block n1 (.seq (.ops [(om n17 n8),(om n9 n17)])
 (.block n2 (.loop (.seq (.seq (.draw n0 [(dz (om n18 n9) n0 n0),(dz (om n19 n1) n1 n0),(dz (oq n20 (.bin .gtr t18 t19)) n2 n0),(dz (om n21 n20) n3 n0),(dz (og n22 n21 true (.mv t3)) n4 n0),(dz (og n23 n21 true (.mv t0)) n5 n0),(dz (og n24 n21 true (.mv t9)) n6 n0),(dz (og n25 n21 true (.iaddr n2 t23 t24)) n7 n0),(dz (og n27 n21 true (.mv t0)) n9 n0),(dz (og n28 n21 true (.mv t9)) n10 n0),(dz (og n29 n21 true (.bin .sub t28 k1)) n11 n0),(dz (og n30 n21 true (.iaddr n2 t27 t29)) n12 n0),(dz (og n26 n21 true (.load (some n2) t25)) n8 n0),(dz (og n31 n21 true (.load (some n2) t30)) n13 n0),(dq (og n32 n21 true (.call t22 [t26,t31] .raw)) n14 n0 [] [n4,n8,n13,n3,n2,n0,n1,n7,n5,n6,n12,n9,n11,n10] true false),(dz (og n33 n21 true (.bin .lss t32 k0)) n15 n0),(dz (oq n34 (.pick t21 t33 (.c (.d (.bool false))))) n16 n0)])
 (.cond t34 .skip
 (.exit n2)))
 (.seq (.block n3 (.draw n0 [(dz (om n37 n0) n0 n0),(dz (om n38 n9) n1 n0),(dq (om n39 n0) n2 n0 [] [] false true),(dq (om n40 n9) n3 n0 [] [] false true),(dq (oq n41 (.bin .sub t40 k1)) n4 n0 [] [] false true),(dz (om n42 n0) n5 n0),(dz (om n43 n9) n6 n0),(dz (oq n44 (.bin .sub t43 k1)) n7 n0),(dz (oq n45 (.iaddr n2 t42 t44)) n8 n0),(dz (om n47 n0) n10 n0),(dz (om n48 n9) n11 n0),(dz (oq n49 (.iaddr n2 t47 t48)) n12 n0),(dz (oq n46 (.load (some n2) t45)) n9 n0),(dz (oq n50 (.load (some n2) t49)) n13 n0),(dz (oq n51 (.iaddr n2 t37 t38)) n14 n0),⟨⟨none,none,.store n2 t51 t46⟩,n15,n0,[],[n14,n9,n0,n1,n5,n6,n7,n8,n13,n12,n10,n11],false,false⟩,(dz (oq n52 (.iaddr n2 t39 t41)) n16 n0),⟨⟨none,none,.store n2 t52 t50⟩,n17,n0,[],[n16,n13,n15,n0,n1,n2,n3,n4,n5,n6,n7,n8,n9,n10,n11,n12,n14],true,false⟩]))
 (.ops [(om n35 n9),(oq n36 (.bin .sub t35 k1)),(om n9 n36)])))))))
 (.ops [(om n15 n8),(oq n16 (.bin .add t15 k1)),(om n8 n16)]))))))
def x123:XFn:=⟨a123,n53,[],c123⟩
def a124:Ann:=⟨[(n6,n5,n2),(n11,n5,n2)],[]⟩
def c124:ICode:=
 (.seq (.ops [(om n13 n1),(om n8 n13)])
 (.seq (.ops [(oq n9 (.mv k0))])
 (.seq (.ops [(om n14 n2),(om n15 n1),(oq n16 (.bin .sub t14 t15)),(om n10 n16)])
 (.seq (.seq (.ops [(om n17 n10),(oq n18 (.bin .sub t17 k1)),(oq n19 (.bin .quo t18 k2)),(om n11 n19)])
 (.block n0 (.loop (.seq (.seq (.ops [(om n20 n11),(oq n21 (.bin .geq t20 k0))])
 (.cond t21 .skip
 (.exit n0)))
 (.seq (.block n1 (.ops [(om n24 n0),(om n25 n11),(om n26 n10),(om n27 n8),(om n28 n3),(oq n29 (.call (.c (.fn n163 [] [])) [t24,t25,t26,t27,t28] .raw))]))
 (.ops [(om n22 n11),(oq n23 (.bin .sub t22 k1)),(om n11 n23)]))))))
 (.seq (.ops [(om n30 n10),(oq n31 (.bin .sub t30 k1)),(om n12 n31)])
 (.block n2 (.loop (.seq (.seq (.ops [(om n32 n12),(oq n33 (.bin .geq t32 k0))])
 (.cond t33 .skip
 (.exit n2)))
 (.seq (.block n3 (.seq (.draw n0 [(dz (om n36 n0) n0 n0),(dz (om n37 n8) n1 n0),(dq (om n38 n0) n2 n0 [] [] false true),(dq (om n39 n8) n3 n0 [] [] false true),(dq (om n40 n12) n4 n0 [] [] false true),(dq (oq n41 (.bin .add t39 t40)) n5 n0 [] [] false true),(dz (om n42 n0) n6 n0),(dz (om n43 n8) n7 n0),(dz (om n44 n12) n8 n0),(dz (oq n45 (.bin .add t43 t44)) n9 n0),(dz (oq n46 (.iaddr n2 t42 t45)) n10 n0),(dz (om n48 n0) n12 n0),(dz (om n49 n8) n13 n0),(dz (oq n50 (.iaddr n2 t48 t49)) n14 n0),(dz (oq n47 (.load (some n2) t46)) n11 n0),(dz (oq n51 (.load (some n2) t50)) n15 n0),(dz (oq n52 (.iaddr n2 t36 t37)) n16 n0),⟨⟨none,none,.store n2 t52 t47⟩,n17,n0,[],[n16,n11,n0,n1,n6,n7,n8,n9,n10,n15,n14,n12,n13],false,false⟩,(dz (oq n53 (.iaddr n2 t38 t41)) n18 n0),⟨⟨none,none,.store n2 t53 t51⟩,n19,n0,[],[n18,n15,n17,n0,n1,n2,n3,n4,n5,n6,n7,n8,n9,n10,n11,n12,n13,n14,n16],true,false⟩])
 (.ops [(om n54 n0),(om n55 n9),(om n56 n12),(om n57 n8),(om n58 n3),(oq n59 (.call (.c (.fn n163 [] [])) [t54,t55,t56,t57,t58] .raw))])))
 (.ops [(om n34 n12),(oq n35 (.bin .sub t34 k1)),(om n12 n35)]))))))))))
def x124:XFn:=⟨a124,n60,[],c124⟩
def a125:Ann:=⟨[(n3,n1,n0),(n7,n0,n0)],[]⟩
def c125:ICode:=
 (.seq (.ops [(om n13 n2),(om n14 n1),(oq n15 (.bin .sub t13 t14)),(om n8 n15)])
 (.seq (.ops [(om n16 n8),(oq n17 (.bin .geq t16 k8))])
 (.cond t17 (.seq (.ops [(om n18 n8),(oq n19 (.conv .u64 t18)),(oq n9 (.alloc [(.int .u64 (.l (i n0)))])),⟨none,none,.store n1 t9 t19⟩])
 (.seq (.ops [(om n20 n8),(oq n21 (.call (.c (.fn n164 [] [])) [t20] .borrow)),(om n10 n21)])
 (.seq (.ops [(om n22 n1),(om n23 n8),(oq n24 (.bin .quo t23 k4)),(oq n25 (.bin .mul t24 k2)),(oq n26 (.bin .add t22 t25)),(oq n27 (.bin .sub t26 k1)),(om n11 n27)])
 (.block n0 (.loop (.seq (.seq (.ops [(om n28 n11),(om n29 n1),(om n30 n8),(oq n31 (.bin .quo t30 k4)),(oq n32 (.bin .mul t31 k2)),(oq n33 (.bin .add t29 t32)),(oq n34 (.bin .add t33 k1)),(oq n35 (.bin .leq t28 t34))])
 (.cond t35 .skip
 (.exit n0)))
 (.seq (.block n1 (.seq (.ops [(oq n38 (.call (.c (.fn n165 [] [])) [t9] .borrow)),(om n39 n10),(oq n40 (.bin .sub t39 (.c (.d (.int .u64 (.l (i n1))))))),(oq n41 (.bin .and t38 t40)),(oq n42 (.conv .i64 t41)),(om n12 n42)])
 (.seq (.seq (.ops [(om n43 n12),(om n44 n8),(oq n45 (.bin .geq t43 t44))])
 (.cond t45 (.ops [(om n46 n12),(om n47 n8),(oq n48 (.bin .sub t46 t47)),(om n12 n48)])
 .skip))
 (.draw n0 [(dz (om n49 n0) n0 n0),(dz (om n50 n11) n1 n0),(dq (om n51 n0) n2 n0 [] [] false true),(dq (om n52 n1) n3 n0 [] [] false true),(dq (om n53 n12) n4 n0 [] [] false true),(dq (oq n54 (.bin .add t52 t53)) n5 n0 [] [] false true),(dz (om n55 n0) n6 n0),(dz (om n56 n1) n7 n0),(dz (om n57 n12) n8 n0),(dz (oq n58 (.bin .add t56 t57)) n9 n0),(dz (oq n59 (.iaddr n2 t55 t58)) n10 n0),(dz (om n61 n0) n12 n0),(dz (om n62 n11) n13 n0),(dz (oq n63 (.iaddr n2 t61 t62)) n14 n0),(dz (oq n60 (.load (some n2) t59)) n11 n0),(dz (oq n64 (.load (some n2) t63)) n15 n0),(dz (oq n65 (.iaddr n2 t49 t50)) n16 n0),⟨⟨none,none,.store n2 t65 t60⟩,n17,n0,[],[n16,n11,n0,n1,n6,n7,n8,n9,n10,n15,n14,n12,n13],false,false⟩,(dz (oq n66 (.iaddr n2 t51 t54)) n18 n0),⟨⟨none,none,.store n2 t66 t64⟩,n19,n0,[],[n18,n15,n17,n0,n1,n2,n3,n4,n5,n6,n7,n8,n9,n10,n11,n12,n13,n14,n16],true,false⟩]))))
 (.ops [(om n36 n11),(oq n37 (.bin .add t36 k1)),(om n11 n37)]))))))))
 .skip)))
def x125:XFn:=⟨a125,n67,[],c125⟩
def a126:Ann:=⟨[(n8,n3,n2),(n9,n3,n2),(n10,n3,n2),(n11,n5,n2)],[]⟩
def c126:ICode:=
 (.seq (.ops [(oq n8 (.mv k0)),(oq n9 (.mv k0))])
 (.seq (.ops [(om n15 n2),(om n16 n1),(oq n17 (.bin .sub t15 t16)),(om n10 n17)])
 (.seq (.ops [(oq n11 (.alloc [(.int .i64 (.l (i n0)))]))])
 (.seq (.ops [(om n18 n1),(om n19 n10),(oq n20 (.bin .quo t19 k4)),(oq n21 (.bin .mul t20 k1)),(oq n22 (.bin .add t18 t21)),(om n12 n22)])
 (.seq (.ops [(om n23 n1),(om n24 n10),(oq n25 (.bin .quo t24 k4)),(oq n26 (.bin .mul t25 k2)),(oq n27 (.bin .add t23 t26)),(om n13 n27)])
 (.seq (.ops [(om n28 n1),(om n29 n10),(oq n30 (.bin .quo t29 k4)),(oq n31 (.bin .mul t30 k3)),(oq n32 (.bin .add t28 t31)),(om n14 n32)])
 (.seq (.seq (.ops [(om n33 n10),(oq n34 (.bin .geq t33 k8))])
 (.cond t34 (.seq (.seq (.ops [(om n35 n10),(oq n36 (.bin .geq t35 k50))])
 (.cond t36 (.seq (.ops [(om n37 n0),(om n38 n12),(om n39 n3),(oq n40 (.call (.c (.fn n166 [] [])) [t37,t38,t11,t39] .raw)),(om n12 n40)])
 (.seq (.ops [(om n41 n0),(om n42 n13),(om n43 n3),(oq n44 (.call (.c (.fn n166 [] [])) [t41,t42,t11,t43] .raw)),(om n13 n44)])
 (.ops [(om n45 n0),(om n46 n14),(om n47 n3),(oq n48 (.call (.c (.fn n166 [] [])) [t45,t46,t11,t47] .raw)),(om n14 n48)])))
 .skip))
 (.ops [(om n49 n0),(om n50 n12),(om n51 n13),(om n52 n14),(om n53 n3),(oq n54 (.call (.c (.fn n167 [] [])) [t49,t50,t51,t52,t11,t53] .raw)),(om n13 n54)]))
 .skip))
 (.seq (.ops [(ol n55 n11)])
 (.block n0 (.seq (.ops [(oq n58 (.bin .eql t55 k0)),(om n57 n58)])
 (.cond t57 (.seq (.ops [(om n59 n13),(om n8 n59),(oq n9 (.mv k1))])
 .ret)
 (.seq (.ops [(oq n61 (.bin .eql t55 k12)),(om n60 n61)])
 (.cond t60 (.seq (.ops [(om n62 n13),(om n8 n62),(oq n9 (.mv k2))])
 .ret)
 (.seq (.ops [(om n56 n13),(om n8 n56),(oq n9 (.mv k0))])
 .ret))))))))))))))
def x126:XFn:=⟨a126,n63,[(.t n8),(.t n9)],c126⟩
def a127:Ann:=⟨[],[]⟩
def c127:ICode:=
 (.seq (.ops [(om n10 n1),(om n8 n10)])
 (.seq (.ops [(om n11 n2),(oq n12 (.bin .sub t11 k1)),(om n9 n12)])
 (.block n0 (.loop (.seq (.seq (.ops [(om n13 n8),(om n14 n9),(oq n15 (.bin .lss t13 t14))])
 (.cond t15 .skip
 (.exit n0)))
 (.block n1 (.seq (.draw n0 [(dz (om n16 n0) n0 n0),(dz (om n17 n8) n1 n0),(dq (om n18 n0) n2 n0 [] [] false true),(dq (om n19 n9) n3 n0 [] [] false true),(dz (om n20 n0) n4 n0),(dz (om n21 n9) n5 n0),(dz (oq n22 (.iaddr n2 t20 t21)) n6 n0),(dz (om n24 n0) n8 n0),(dz (om n25 n8) n9 n0),(dz (oq n26 (.iaddr n2 t24 t25)) n10 n0),(dz (oq n23 (.load (some n2) t22)) n7 n0),(dz (oq n27 (.load (some n2) t26)) n11 n0),(dz (oq n28 (.iaddr n2 t16 t17)) n12 n0),⟨⟨none,none,.store n2 t28 t23⟩,n13,n0,[],[n12,n7,n0,n1,n4,n5,n6,n11,n10,n8,n9],false,false⟩,(dz (oq n29 (.iaddr n2 t18 t19)) n14 n0),⟨⟨none,none,.store n2 t29 t27⟩,n15,n0,[],[n14,n11,n13,n0,n1,n2,n3,n4,n5,n6,n7,n8,n9,n10,n12],true,false⟩])
 (.seq (.ops [(om n30 n8),(oq n31 (.bin .add t30 k1)),(om n8 n31)])
 (.ops [(om n32 n9),(oq n33 (.bin .sub t32 k1)),(om n9 n33)])))))))))
def x127:XFn:=⟨a127,n34,[],c127⟩
def a128:Ann:=⟨[(n5,n14,n2),(n16,n10,n2),(n22,n10,n2)],[]⟩
def c128:ICode:=
 (.seq (.ops [(oq n8 (.mv (.c (.d (.bool false)))))])
 (.seq (.ops [(om n13 n1),(oq n14 (.bin .add t13 k1)),(om n9 n14)])
 (.seq (.seq (.ops [(oq n10 (.mv k0))])
 (.block n0 (.loop (.seq (.seq (.ops [(om n15 n10),(oq n16 (.bin .lss t15 k5))])
 (.cond t16 .skip
 (.exit n0)))
 (.seq (.block n1 (.seq (.block n2 (.loop (.seq (.seq (.draw n0 [(dz (om n19 n9) n0 n0),(dz (om n20 n2) n1 n0),(dz (oq n21 (.bin .lss t19 t20)) n2 n0),(dz (om n22 n21) n3 n0),(dz (og n23 n22 true (.mv t3)) n4 n0),(dz (og n24 n22 true (.mv t0)) n5 n0),(dz (og n25 n22 true (.mv t9)) n6 n0),(dz (og n26 n22 true (.iaddr n2 t24 t25)) n7 n0),(dz (og n28 n22 true (.mv t0)) n9 n0),(dz (og n29 n22 true (.mv t9)) n10 n0),(dz (og n30 n22 true (.bin .sub t29 k1)) n11 n0),(dz (og n31 n22 true (.iaddr n2 t28 t30)) n12 n0),(dz (og n27 n22 true (.load (some n2) t26)) n8 n0),(dz (og n32 n22 true (.load (some n2) t31)) n13 n0),(dq (og n33 n22 true (.call t23 [t27,t32] .raw)) n14 n0 [] [n4,n8,n13,n3,n2,n0,n1,n7,n5,n6,n12,n9,n11,n10] true false),(dz (og n34 n22 true (.bin .lss t33 k0)) n15 n0),(dz (og n35 n22 true (.un .not t34)) n16 n0),(dz (oq n36 (.pick t22 t35 (.c (.d (.bool false))))) n17 n0)])
 (.cond t36 .skip
 (.exit n2)))
 (.block n3 (.ops [(om n37 n9),(oq n38 (.bin .add t37 k1)),(om n9 n38)])))))
 (.seq (.seq (.ops [(om n39 n9),(om n40 n2),(oq n41 (.bin .eql t39 t40))])
 (.cond t41 (.seq (.ops [(oq n8 (.mv (.c (.d (.bool true)))))])
 .ret)
 .skip))
 (.seq (.seq (.ops [(om n42 n2),(om n43 n1),(oq n44 (.bin .sub t42 t43)),(oq n45 (.bin .lss t44 k50))])
 (.cond t45 (.seq (.ops [(oq n8 (.mv (.c (.d (.bool false)))))])
 .ret)
 .skip))
 (.seq (.draw n0 [(dz (om n46 n0) n0 n0),(dz (om n47 n9) n1 n0),(dq (om n48 n0) n2 n0 [] [] false true),(dq (om n49 n9) n3 n0 [] [] false true),(dq (oq n50 (.bin .sub t49 k1)) n4 n0 [] [] false true),(dz (om n51 n0) n5 n0),(dz (om n52 n9) n6 n0),(dz (oq n53 (.bin .sub t52 k1)) n7 n0),(dz (oq n54 (.iaddr n2 t51 t53)) n8 n0),(dz (om n56 n0) n10 n0),(dz (om n57 n9) n11 n0),(dz (oq n58 (.iaddr n2 t56 t57)) n12 n0),(dz (oq n55 (.load (some n2) t54)) n9 n0),(dz (oq n59 (.load (some n2) t58)) n13 n0),(dz (oq n60 (.iaddr n2 t46 t47)) n14 n0),⟨⟨none,none,.store n2 t60 t55⟩,n15,n0,[],[n14,n9,n0,n1,n5,n6,n7,n8,n13,n12,n10,n11],false,false⟩,(dz (oq n61 (.iaddr n2 t48 t50)) n16 n0),⟨⟨none,none,.store n2 t61 t59⟩,n17,n0,[],[n16,n13,n15,n0,n1,n2,n3,n4,n5,n6,n7,n8,n9,n10,n11,n12,n14],true,false⟩])
 (.seq (.seq (.ops [(om n62 n9),(om n63 n1),(oq n64 (.bin .sub t62 t63)),(oq n65 (.bin .geq t64 k2))])
 (.cond t65 (.seq (.ops [(om n66 n9),(oq n67 (.bin .sub t66 k1)),(om n11 n67)])
 (.block n4 (.loop (.seq (.seq (.ops [(om n68 n11),(oq n69 (.bin .geq t68 k1))])
 (.cond t69 .skip
 (.exit n4)))
 (.seq (.block n5 (.seq (.seq (.draw n0 [(dz (om n72 n3) n0 n0),(dz (om n73 n0) n1 n0),(dz (om n74 n11) n2 n0),(dz (oq n75 (.iaddr n2 t73 t74)) n3 n0),(dz (om n77 n0) n5 n0),(dz (om n78 n11) n6 n0),(dz (oq n79 (.bin .sub t78 k1)) n7 n0),(dz (oq n80 (.iaddr n2 t77 t79)) n8 n0),(dz (oq n76 (.load (some n2) t75)) n4 n0),(dz (oq n81 (.load (some n2) t80)) n9 n0),(dq (oq n82 (.call t72 [t76,t81] .raw)) n10 n0 [] [n0,n4,n9,n3,n1,n2,n8,n5,n7,n6] true false),(dz (oq n83 (.bin .lss t82 k0)) n11 n0),(dz (oq n84 (.un .not t83)) n12 n0)])
 (.cond t84 (.exit n4)
 .skip))
 (.draw n0 [(dz (om n85 n0) n0 n0),(dz (om n86 n11) n1 n0),(dq (om n87 n0) n2 n0 [] [] false true),(dq (om n88 n11) n3 n0 [] [] false true),(dq (oq n89 (.bin .sub t88 k1)) n4 n0 [] [] false true),(dz (om n90 n0) n5 n0),(dz (om n91 n11) n6 n0),(dz (oq n92 (.bin .sub t91 k1)) n7 n0),(dz (oq n93 (.iaddr n2 t90 t92)) n8 n0),(dz (om n95 n0) n10 n0),(dz (om n96 n11) n11 n0),(dz (oq n97 (.iaddr n2 t95 t96)) n12 n0),(dz (oq n94 (.load (some n2) t93)) n9 n0),(dz (oq n98 (.load (some n2) t97)) n13 n0),(dz (oq n99 (.iaddr n2 t85 t86)) n14 n0),⟨⟨none,none,.store n2 t99 t94⟩,n15,n0,[],[n14,n9,n0,n1,n5,n6,n7,n8,n13,n12,n10,n11],false,false⟩,(dz (oq n100 (.iaddr n2 t87 t89)) n16 n0),⟨⟨none,none,.store n2 t100 t98⟩,n17,n0,[],[n16,n13,n15,n0,n1,n2,n3,n4,n5,n6,n7,n8,n9,n10,n11,n12,n14],true,false⟩])))
 (.ops [(om n70 n11),(oq n71 (.bin .sub t70 k1)),(om n11 n71)]))))))
 .skip))
 (.seq (.ops [(om n101 n2),(om n102 n9),(oq n103 (.bin .sub t101 t102)),(oq n104 (.bin .geq t103 k2))])
 (.cond t104 (.seq (.ops [(om n105 n9),(oq n106 (.bin .add t105 k1)),(om n12 n106)])
 (.block n6 (.loop (.seq (.seq (.ops [(om n107 n12),(om n108 n2),(oq n109 (.bin .lss t107 t108))])
 (.cond t109 .skip
 (.exit n6)))
 (.seq (.block n7 (.seq (.seq (.draw n0 [(dz (om n112 n3) n0 n0),(dz (om n113 n0) n1 n0),(dz (om n114 n12) n2 n0),(dz (oq n115 (.iaddr n2 t113 t114)) n3 n0),(dz (om n117 n0) n5 n0),(dz (om n118 n12) n6 n0),(dz (oq n119 (.bin .sub t118 k1)) n7 n0),(dz (oq n120 (.iaddr n2 t117 t119)) n8 n0),(dz (oq n116 (.load (some n2) t115)) n4 n0),(dz (oq n121 (.load (some n2) t120)) n9 n0),(dq (oq n122 (.call t112 [t116,t121] .raw)) n10 n0 [] [n0,n4,n9,n3,n1,n2,n8,n5,n7,n6] true false),(dz (oq n123 (.bin .lss t122 k0)) n11 n0),(dz (oq n124 (.un .not t123)) n12 n0)])
 (.cond t124 (.exit n6)
 .skip))
 (.draw n0 [(dz (om n125 n0) n0 n0),(dz (om n126 n12) n1 n0),(dq (om n127 n0) n2 n0 [] [] false true),(dq (om n128 n12) n3 n0 [] [] false true),(dq (oq n129 (.bin .sub t128 k1)) n4 n0 [] [] false true),(dz (om n130 n0) n5 n0),(dz (om n131 n12) n6 n0),(dz (oq n132 (.bin .sub t131 k1)) n7 n0),(dz (oq n133 (.iaddr n2 t130 t132)) n8 n0),(dz (om n135 n0) n10 n0),(dz (om n136 n12) n11 n0),(dz (oq n137 (.iaddr n2 t135 t136)) n12 n0),(dz (oq n134 (.load (some n2) t133)) n9 n0),(dz (oq n138 (.load (some n2) t137)) n13 n0),(dz (oq n139 (.iaddr n2 t125 t126)) n14 n0),⟨⟨none,none,.store n2 t139 t134⟩,n15,n0,[],[n14,n9,n0,n1,n5,n6,n7,n8,n13,n12,n10,n11],false,false⟩,(dz (oq n140 (.iaddr n2 t127 t129)) n16 n0),⟨⟨none,none,.store n2 t140 t138⟩,n17,n0,[],[n16,n13,n15,n0,n1,n2,n3,n4,n5,n6,n7,n8,n9,n10,n11,n12,n14],true,false⟩])))
 (.ops [(om n110 n12),(oq n111 (.bin .add t110 k1)),(om n12 n111)]))))))
 .skip))))))))
 (.ops [(om n17 n10),(oq n18 (.bin .add t17 k1)),(om n10 n18)]))))))
 (.seq (.ops [(oq n8 (.mv (.c (.d (.bool false)))))])
 .ret))))
def x128:XFn:=⟨a128,n141,[(.t n8)],c128⟩
def a129:Ann:=⟨[(n3,n13,n2),(n5,n13,n2)],[]⟩
def c129:ICode:=
 (.seq (.ops [(oq n10 (.mv k0))])
 (.seq (.draw n0 [(dz (om n13 n0) n0 n0),(dz (om n14 n1) n1 n0),(dq (om n15 n0) n2 n0 [] [] false true),(dq (om n16 n3) n3 n0 [] [] false true),(dz (om n17 n0) n4 n0),(dz (om n18 n3) n5 n0),(dz (oq n19 (.iaddr n2 t17 t18)) n6 n0),(dz (om n21 n0) n8 n0),(dz (om n22 n1) n9 n0),(dz (oq n23 (.iaddr n2 t21 t22)) n10 n0),(dz (oq n20 (.load (some n2) t19)) n7 n0),(dz (oq n24 (.load (some n2) t23)) n11 n0),(dz (oq n25 (.iaddr n2 t13 t14)) n12 n0),⟨⟨none,none,.store n2 t25 t20⟩,n13,n0,[],[n12,n7,n0,n1,n4,n5,n6,n11,n10,n8,n9],false,false⟩,(dz (oq n26 (.iaddr n2 t15 t16)) n14 n0),⟨⟨none,none,.store n2 t26 t24⟩,n15,n0,[],[n14,n11,n13,n0,n1,n2,n3,n4,n5,n6,n7,n8,n9,n10,n12],true,false⟩])
 (.seq (.ops [(om n27 n1),(oq n28 (.bin .add t27 k1)),(om n29 n2),(oq n30 (.bin .sub t29 k1)),(om n11 n28),(om n12 n30)])
 (.seq (.block n0 (.loop (.block n1 (.seq (.block n2 (.loop (.seq (.seq (.draw n0 [(dz (om n31 n11) n0 n0),(dz (om n32 n12) n1 n0),(dz (oq n33 (.bin .leq t31 t32)) n2 n0),(dz (om n34 n33) n3 n0),(dz (og n35 n34 true (.mv t4)) n4 n0),(dz (og n36 n34 true (.mv t0)) n5 n0),(dz (og n37 n34 true (.mv t1)) n6 n0),(dz (og n38 n34 true (.iaddr n2 t36 t37)) n7 n0),(dz (og n40 n34 true (.mv t0)) n9 n0),(dz (og n41 n34 true (.mv t11)) n10 n0),(dz (og n42 n34 true (.iaddr n2 t40 t41)) n11 n0),(dz (og n39 n34 true (.load (some n2) t38)) n8 n0),(dz (og n43 n34 true (.load (some n2) t42)) n12 n0),(dq (og n44 n34 true (.call t35 [t39,t43] .raw)) n13 n0 [] [n4,n8,n12,n3,n2,n0,n1,n7,n5,n6,n11,n9,n10] true false),(dz (og n45 n34 true (.bin .lss t44 k0)) n14 n0),(dz (og n46 n34 true (.un .not t45)) n15 n0),(dz (oq n47 (.pick t34 t46 (.c (.d (.bool false))))) n16 n0)])
 (.cond t47 .skip
 (.exit n2)))
 (.block n3 (.ops [(om n48 n11),(oq n49 (.bin .add t48 k1)),(om n11 n49)])))))
 (.seq (.block n4 (.loop (.seq (.seq (.draw n0 [(dz (om n50 n11) n0 n0),(dz (om n51 n12) n1 n0),(dz (oq n52 (.bin .leq t50 t51)) n2 n0),(dz (om n53 n52) n3 n0),(dz (og n54 n53 true (.mv t4)) n4 n0),(dz (og n55 n53 true (.mv t0)) n5 n0),(dz (og n56 n53 true (.mv t1)) n6 n0),(dz (og n57 n53 true (.iaddr n2 t55 t56)) n7 n0),(dz (og n59 n53 true (.mv t0)) n9 n0),(dz (og n60 n53 true (.mv t12)) n10 n0),(dz (og n61 n53 true (.iaddr n2 t59 t60)) n11 n0),(dz (og n58 n53 true (.load (some n2) t57)) n8 n0),(dz (og n62 n53 true (.load (some n2) t61)) n12 n0),(dq (og n63 n53 true (.call t54 [t58,t62] .raw)) n13 n0 [] [n4,n8,n12,n3,n2,n0,n1,n7,n5,n6,n11,n9,n10] true false),(dz (og n64 n53 true (.bin .lss t63 k0)) n14 n0),(dz (oq n65 (.pick t53 t64 (.c (.d (.bool false))))) n15 n0)])
 (.cond t65 .skip
 (.exit n4)))
 (.block n5 (.ops [(om n66 n12),(oq n67 (.bin .sub t66 k1)),(om n12 n67)])))))
 (.seq (.seq (.ops [(om n68 n11),(om n69 n12),(oq n70 (.bin .gtr t68 t69))])
 (.cond t70 (.exit n0)
 .skip))
 (.seq (.draw n0 [(dz (om n71 n0) n0 n0),(dz (om n72 n11) n1 n0),(dq (om n73 n0) n2 n0 [] [] false true),(dq (om n74 n12) n3 n0 [] [] false true),(dz (om n75 n0) n4 n0),(dz (om n76 n12) n5 n0),(dz (oq n77 (.iaddr n2 t75 t76)) n6 n0),(dz (om n79 n0) n8 n0),(dz (om n80 n11) n9 n0),(dz (oq n81 (.iaddr n2 t79 t80)) n10 n0),(dz (oq n78 (.load (some n2) t77)) n7 n0),(dz (oq n82 (.load (some n2) t81)) n11 n0),(dz (oq n83 (.iaddr n2 t71 t72)) n12 n0),⟨⟨none,none,.store n2 t83 t78⟩,n13,n0,[],[n12,n7,n0,n1,n4,n5,n6,n11,n10,n8,n9],false,false⟩,(dz (oq n84 (.iaddr n2 t73 t74)) n14 n0),⟨⟨none,none,.store n2 t84 t82⟩,n15,n0,[],[n14,n11,n13,n0,n1,n2,n3,n4,n5,n6,n7,n8,n9,n10,n12],true,false⟩])
 (.seq (.ops [(om n85 n11),(oq n86 (.bin .add t85 k1)),(om n11 n86)])
 (.ops [(om n87 n12),(oq n88 (.bin .sub t87 k1)),(om n12 n88)])))))))))
 (.seq (.ops [(om n89 n11),(om n10 n89)])
 .ret)))))
def x129:XFn:=⟨a129,n90,[(.t n10)],c129⟩
def a130:Ann:=⟨[(n3,n13,n2),(n5,n13,n2),(n13,n13,n2),(n15,n13,n2)],[]⟩
def c130:ICode:=
 (.seq (.ops [(oq n10 (.mv k0)),(oq n11 (.mv (.c (.d (.bool false)))))])
 (.seq (.draw n0 [(dz (om n14 n0) n0 n0),(dz (om n15 n1) n1 n0),(dq (om n16 n0) n2 n0 [] [] false true),(dq (om n17 n3) n3 n0 [] [] false true),(dz (om n18 n0) n4 n0),(dz (om n19 n3) n5 n0),(dz (oq n20 (.iaddr n2 t18 t19)) n6 n0),(dz (om n22 n0) n8 n0),(dz (om n23 n1) n9 n0),(dz (oq n24 (.iaddr n2 t22 t23)) n10 n0),(dz (oq n21 (.load (some n2) t20)) n7 n0),(dz (oq n25 (.load (some n2) t24)) n11 n0),(dz (oq n26 (.iaddr n2 t14 t15)) n12 n0),⟨⟨none,none,.store n2 t26 t21⟩,n13,n0,[],[n12,n7,n0,n1,n4,n5,n6,n11,n10,n8,n9],false,false⟩,(dz (oq n27 (.iaddr n2 t16 t17)) n14 n0),⟨⟨none,none,.store n2 t27 t25⟩,n15,n0,[],[n14,n11,n13,n0,n1,n2,n3,n4,n5,n6,n7,n8,n9,n10,n12],true,false⟩])
 (.seq (.ops [(om n28 n1),(oq n29 (.bin .add t28 k1)),(om n30 n2),(oq n31 (.bin .sub t30 k1)),(om n12 n29),(om n13 n31)])
 (.seq (.block n0 (.loop (.seq (.seq (.draw n0 [(dz (om n32 n12) n0 n0),(dz (om n33 n13) n1 n0),(dz (oq n34 (.bin .leq t32 t33)) n2 n0),(dz (om n35 n34) n3 n0),(dz (og n36 n35 true (.mv t4)) n4 n0),(dz (og n37 n35 true (.mv t0)) n5 n0),(dz (og n38 n35 true (.mv t12)) n6 n0),(dz (og n39 n35 true (.iaddr n2 t37 t38)) n7 n0),(dz (og n41 n35 true (.mv t0)) n9 n0),(dz (og n42 n35 true (.mv t1)) n10 n0),(dz (og n43 n35 true (.iaddr n2 t41 t42)) n11 n0),(dz (og n40 n35 true (.load (some n2) t39)) n8 n0),(dz (og n44 n35 true (.load (some n2) t43)) n12 n0),(dq (og n45 n35 true (.call t36 [t40,t44] .raw)) n13 n0 [] [n4,n8,n12,n3,n2,n0,n1,n7,n5,n6,n11,n9,n10] true false),(dz (og n46 n35 true (.bin .lss t45 k0)) n14 n0),(dz (oq n47 (.pick t35 t46 (.c (.d (.bool false))))) n15 n0)])
 (.cond t47 .skip
 (.exit n0)))
 (.block n1 (.ops [(om n48 n12),(oq n49 (.bin .add t48 k1)),(om n12 n49)])))))
 (.seq (.block n2 (.loop (.seq (.seq (.draw n0 [(dz (om n50 n12) n0 n0),(dz (om n51 n13) n1 n0),(dz (oq n52 (.bin .leq t50 t51)) n2 n0),(dz (om n53 n52) n3 n0),(dz (og n54 n53 true (.mv t4)) n4 n0),(dz (og n55 n53 true (.mv t0)) n5 n0),(dz (og n56 n53 true (.mv t13)) n6 n0),(dz (og n57 n53 true (.iaddr n2 t55 t56)) n7 n0),(dz (og n59 n53 true (.mv t0)) n9 n0),(dz (og n60 n53 true (.mv t1)) n10 n0),(dz (og n61 n53 true (.iaddr n2 t59 t60)) n11 n0),(dz (og n58 n53 true (.load (some n2) t57)) n8 n0),(dz (og n62 n53 true (.load (some n2) t61)) n12 n0),(dq (og n63 n53 true (.call t54 [t58,t62] .raw)) n13 n0 [] [n4,n8,n12,n3,n2,n0,n1,n7,n5,n6,n11,n9,n10] true false),(dz (og n64 n53 true (.bin .lss t63 k0)) n14 n0),(dz (og n65 n53 true (.un .not t64)) n15 n0),(dz (oq n66 (.pick t53 t65 (.c (.d (.bool false))))) n16 n0)])
 (.cond t66 .skip
 (.exit n2)))
 (.block n3 (.ops [(om n67 n13),(oq n68 (.bin .sub t67 k1)),(om n13 n68)])))))
 (.seq (.seq (.ops [(om n69 n12),(om n70 n13),(oq n71 (.bin .gtr t69 t70))])
 (.cond t71 (.seq (.draw n0 [(dz (om n72 n0) n0 n0),(dz (om n73 n13) n1 n0),(dq (om n74 n0) n2 n0 [] [] false true),(dq (om n75 n1) n3 n0 [] [] false true),(dz (om n76 n0) n4 n0),(dz (om n77 n1) n5 n0),(dz (oq n78 (.iaddr n2 t76 t77)) n6 n0),(dz (om n80 n0) n8 n0),(dz (om n81 n13) n9 n0),(dz (oq n82 (.iaddr n2 t80 t81)) n10 n0),(dz (oq n79 (.load (some n2) t78)) n7 n0),(dz (oq n83 (.load (some n2) t82)) n11 n0),(dz (oq n84 (.iaddr n2 t72 t73)) n12 n0),⟨⟨none,none,.store n2 t84 t79⟩,n13,n0,[],[n12,n7,n0,n1,n4,n5,n6,n11,n10,n8,n9],false,false⟩,(dz (oq n85 (.iaddr n2 t74 t75)) n14 n0),⟨⟨none,none,.store n2 t85 t83⟩,n15,n0,[],[n14,n11,n13,n0,n1,n2,n3,n4,n5,n6,n7,n8,n9,n10,n12],true,false⟩])
 (.seq (.ops [(om n86 n13),(om n10 n86),(oq n11 (.mv (.c (.d (.bool true)))))])
 .ret))
 .skip))
 (.seq (.draw n0 [(dz (om n87 n0) n0 n0),(dz (om n88 n12) n1 n0),(dq (om n89 n0) n2 n0 [] [] false true),(dq (om n90 n13) n3 n0 [] [] false true),(dz (om n91 n0) n4 n0),(dz (om n92 n13) n5 n0),(dz (oq n93 (.iaddr n2 t91 t92)) n6 n0),(dz (om n95 n0) n8 n0),(dz (om n96 n12) n9 n0),(dz (oq n97 (.iaddr n2 t95 t96)) n10 n0),(dz (oq n94 (.load (some n2) t93)) n7 n0),(dz (oq n98 (.load (some n2) t97)) n11 n0),(dz (oq n99 (.iaddr n2 t87 t88)) n12 n0),⟨⟨none,none,.store n2 t99 t94⟩,n13,n0,[],[n12,n7,n0,n1,n4,n5,n6,n11,n10,n8,n9],false,false⟩,(dz (oq n100 (.iaddr n2 t89 t90)) n14 n0),⟨⟨none,none,.store n2 t100 t98⟩,n15,n0,[],[n14,n11,n13,n0,n1,n2,n3,n4,n5,n6,n7,n8,n9,n10,n12],true,false⟩])
 (.seq (.ops [(om n101 n12),(oq n102 (.bin .add t101 k1)),(om n12 n102)])
 (.seq (.ops [(om n103 n13),(oq n104 (.bin .sub t103 k1)),(om n13 n104)])
 (.seq (.block n4 (.loop (.block n5 (.seq (.block n6 (.loop (.seq (.seq (.draw n0 [(dz (om n105 n12) n0 n0),(dz (om n106 n13) n1 n0),(dz (oq n107 (.bin .leq t105 t106)) n2 n0),(dz (om n108 n107) n3 n0),(dz (og n109 n108 true (.mv t4)) n4 n0),(dz (og n110 n108 true (.mv t0)) n5 n0),(dz (og n111 n108 true (.mv t12)) n6 n0),(dz (og n112 n108 true (.iaddr n2 t110 t111)) n7 n0),(dz (og n114 n108 true (.mv t0)) n9 n0),(dz (og n115 n108 true (.mv t1)) n10 n0),(dz (og n116 n108 true (.iaddr n2 t114 t115)) n11 n0),(dz (og n113 n108 true (.load (some n2) t112)) n8 n0),(dz (og n117 n108 true (.load (some n2) t116)) n12 n0),(dq (og n118 n108 true (.call t109 [t113,t117] .raw)) n13 n0 [] [n4,n8,n12,n3,n2,n0,n1,n7,n5,n6,n11,n9,n10] true false),(dz (og n119 n108 true (.bin .lss t118 k0)) n14 n0),(dz (oq n120 (.pick t108 t119 (.c (.d (.bool false))))) n15 n0)])
 (.cond t120 .skip
 (.exit n6)))
 (.block n7 (.ops [(om n121 n12),(oq n122 (.bin .add t121 k1)),(om n12 n122)])))))
 (.seq (.block n8 (.loop (.seq (.seq (.draw n0 [(dz (om n123 n12) n0 n0),(dz (om n124 n13) n1 n0),(dz (oq n125 (.bin .leq t123 t124)) n2 n0),(dz (om n126 n125) n3 n0),(dz (og n127 n126 true (.mv t4)) n4 n0),(dz (og n128 n126 true (.mv t0)) n5 n0),(dz (og n129 n126 true (.mv t13)) n6 n0),(dz (og n130 n126 true (.iaddr n2 t128 t129)) n7 n0),(dz (og n132 n126 true (.mv t0)) n9 n0),(dz (og n133 n126 true (.mv t1)) n10 n0),(dz (og n134 n126 true (.iaddr n2 t132 t133)) n11 n0),(dz (og n131 n126 true (.load (some n2) t130)) n8 n0),(dz (og n135 n126 true (.load (some n2) t134)) n12 n0),(dq (og n136 n126 true (.call t127 [t131,t135] .raw)) n13 n0 [] [n4,n8,n12,n3,n2,n0,n1,n7,n5,n6,n11,n9,n10] true false),(dz (og n137 n126 true (.bin .lss t136 k0)) n14 n0),(dz (og n138 n126 true (.un .not t137)) n15 n0),(dz (oq n139 (.pick t126 t138 (.c (.d (.bool false))))) n16 n0)])
 (.cond t139 .skip
 (.exit n8)))
 (.block n9 (.ops [(om n140 n13),(oq n141 (.bin .sub t140 k1)),(om n13 n141)])))))
 (.seq (.seq (.ops [(om n142 n12),(om n143 n13),(oq n144 (.bin .gtr t142 t143))])
 (.cond t144 (.exit n4)
 .skip))
 (.seq (.draw n0 [(dz (om n145 n0) n0 n0),(dz (om n146 n12) n1 n0),(dq (om n147 n0) n2 n0 [] [] false true),(dq (om n148 n13) n3 n0 [] [] false true),(dz (om n149 n0) n4 n0),(dz (om n150 n13) n5 n0),(dz (oq n151 (.iaddr n2 t149 t150)) n6 n0),(dz (om n153 n0) n8 n0),(dz (om n154 n12) n9 n0),(dz (oq n155 (.iaddr n2 t153 t154)) n10 n0),(dz (oq n152 (.load (some n2) t151)) n7 n0),(dz (oq n156 (.load (some n2) t155)) n11 n0),(dz (oq n157 (.iaddr n2 t145 t146)) n12 n0),⟨⟨none,none,.store n2 t157 t152⟩,n13,n0,[],[n12,n7,n0,n1,n4,n5,n6,n11,n10,n8,n9],false,false⟩,(dz (oq n158 (.iaddr n2 t147 t148)) n14 n0),⟨⟨none,none,.store n2 t158 t156⟩,n15,n0,[],[n14,n11,n13,n0,n1,n2,n3,n4,n5,n6,n7,n8,n9,n10,n12],true,false⟩])
 (.seq (.ops [(om n159 n12),(oq n160 (.bin .add t159 k1)),(om n12 n160)])
 (.ops [(om n161 n13),(oq n162 (.bin .sub t161 k1)),(om n13 n162)])))))))))
 (.seq (.draw n0 [(dz (om n163 n0) n0 n0),(dz (om n164 n13) n1 n0),(dq (om n165 n0) n2 n0 [] [] false true),(dq (om n166 n1) n3 n0 [] [] false true),(dz (om n167 n0) n4 n0),(dz (om n168 n1) n5 n0),(dz (oq n169 (.iaddr n2 t167 t168)) n6 n0),(dz (om n171 n0) n8 n0),(dz (om n172 n13) n9 n0),(dz (oq n173 (.iaddr n2 t171 t172)) n10 n0),(dz (oq n170 (.load (some n2) t169)) n7 n0),(dz (oq n174 (.load (some n2) t173)) n11 n0),(dz (oq n175 (.iaddr n2 t163 t164)) n12 n0),⟨⟨none,none,.store n2 t175 t170⟩,n13,n0,[],[n12,n7,n0,n1,n4,n5,n6,n11,n10,n8,n9],false,false⟩,(dz (oq n176 (.iaddr n2 t165 t166)) n14 n0),⟨⟨none,none,.store n2 t176 t174⟩,n15,n0,[],[n14,n11,n13,n0,n1,n2,n3,n4,n5,n6,n7,n8,n9,n10,n12],true,false⟩])
 (.seq (.ops [(om n177 n13),(om n10 n177),(oq n11 (.mv (.c (.d (.bool false)))))])
 .ret))))))))))))
def x130:XFn:=⟨a130,n178,[(.t n10),(.t n11)],c130⟩
def a131:Ann:=⟨[],[]⟩
def c131:ICode:=
 (.seq (.ops [(oq n2 (.mv k0))])
 (.seq (.seq (.ops [(om n3 n0),(oq n4 (.bin .geq t3 (.c (.d (.int .u32 (.l (i n65536)))))))])
 (.cond t4 (.seq (.ops [(om n5 n0),(oq n6 (.bin .shr t5 (.c (.d (.int .u64 (.l (i n16))))))),(om n0 n6)])
 (.ops [(oq n2 (.mv k16))]))
 .skip))
 (.seq (.seq (.ops [(om n7 n0),(oq n8 (.bin .geq t7 (.c (.d (.int .u32 (.l (i n256)))))))])
 (.cond t8 (.seq (.ops [(om n9 n0),(oq n10 (.bin .shr t9 (.c (.d (.int .u64 (.l (i n8))))))),(om n0 n10)])
 (.ops [(om n11 n2),(oq n12 (.bin .add t11 k8)),(om n2 n12)]))
 .skip))
 (.seq (.ops [(om n13 n2),(om n14 n0),(oq n15 (.conv .u8 t14)),(oq n16 (.idxs [0,1,2,2,3,3,3,3,4,4,4,4,4,4,4,4,5,5,5,5,5,5,5,5,5,5,5,5,5,5,5,5,6,6,6,6,6,6,6,6,6,6,6,6,6,6,6,6,6,6,6,6,6,6,6,6,6,6,6,6,6,6,6,6,7,7,7,7,7,7,7,7,7,7,7,7,7,7,7,7,7,7,7,7,7,7,7,7,7,7,7,7,7,7,7,7,7,7,7,7,7,7,7,7,7,7,7,7,7,7,7,7,7,7,7,7,7,7,7,7,7,7,7,7,7,7,7,7,8,8,8,8,8,8,8,8,8,8,8,8,8,8,8,8,8,8,8,8,8,8,8,8,8,8,8,8,8,8,8,8,8,8,8,8,8,8,8,8,8,8,8,8,8,8,8,8,8,8,8,8,8,8,8,8,8,8,8,8,8,8,8,8,8,8,8,8,8,8,8,8,8,8,8,8,8,8,8,8,8,8,8,8,8,8,8,8,8,8,8,8,8,8,8,8,8,8,8,8,8,8,8,8,8,8,8,8,8,8,8,8,8,8,8,8,8,8,8,8,8,8,8,8,8,8,8,8] t15)),(oq n17 (.conv .i64 t16)),(oq n18 (.bin .add t13 t17)),(om n2 n18)])
 .ret))))
def x131:XFn:=⟨a131,n19,[(.t n2)],c131⟩
def a132:Ann:=⟨[],[]⟩
def c132:ICode:=
 (.seq (.ops [(oq n2 (.mv k0))])
 (.seq (.seq (.ops [(om n3 n0),(oq n4 (.bin .geq t3 (.c (.d (.int .u64 (.l (i n4294967296)))))))])
 (.cond t4 (.seq (.ops [(om n5 n0),(oq n6 (.bin .shr t5 (.c (.d (.int .u64 (.l (i n32))))))),(om n0 n6)])
 (.ops [(oq n2 (.mv k32))]))
 .skip))
 (.seq (.seq (.ops [(om n7 n0),(oq n8 (.bin .geq t7 (.c (.d (.int .u64 (.l (i n65536)))))))])
 (.cond t8 (.seq (.ops [(om n9 n0),(oq n10 (.bin .shr t9 (.c (.d (.int .u64 (.l (i n16))))))),(om n0 n10)])
 (.ops [(om n11 n2),(oq n12 (.bin .add t11 k16)),(om n2 n12)]))
 .skip))
 (.seq (.seq (.ops [(om n13 n0),(oq n14 (.bin .geq t13 (.c (.d (.int .u64 (.l (i n256)))))))])
 (.cond t14 (.seq (.ops [(om n15 n0),(oq n16 (.bin .shr t15 (.c (.d (.int .u64 (.l (i n8))))))),(om n0 n16)])
 (.ops [(om n17 n2),(oq n18 (.bin .add t17 k8)),(om n2 n18)]))
 .skip))
 (.seq (.ops [(om n19 n2),(om n20 n0),(oq n21 (.conv .u8 t20)),(oq n22 (.idxs [0,1,2,2,3,3,3,3,4,4,4,4,4,4,4,4,5,5,5,5,5,5,5,5,5,5,5,5,5,5,5,5,6,6,6,6,6,6,6,6,6,6,6,6,6,6,6,6,6,6,6,6,6,6,6,6,6,6,6,6,6,6,6,6,7,7,7,7,7,7,7,7,7,7,7,7,7,7,7,7,7,7,7,7,7,7,7,7,7,7,7,7,7,7,7,7,7,7,7,7,7,7,7,7,7,7,7,7,7,7,7,7,7,7,7,7,7,7,7,7,7,7,7,7,7,7,7,7,8,8,8,8,8,8,8,8,8,8,8,8,8,8,8,8,8,8,8,8,8,8,8,8,8,8,8,8,8,8,8,8,8,8,8,8,8,8,8,8,8,8,8,8,8,8,8,8,8,8,8,8,8,8,8,8,8,8,8,8,8,8,8,8,8,8,8,8,8,8,8,8,8,8,8,8,8,8,8,8,8,8,8,8,8,8,8,8,8,8,8,8,8,8,8,8,8,8,8,8,8,8,8,8,8,8,8,8,8,8,8,8,8,8,8,8,8,8,8,8,8,8,8,8,8,8,8,8] t21)),(oq n23 (.conv .i64 t22)),(oq n24 (.bin .add t19 t23)),(om n2 n24)])
 .ret)))))
def x132:XFn:=⟨a132,n25,[(.t n2)],c132⟩
def a133:Ann:=⟨[(n1,n3,n3),(n1,n6,n3)],[]⟩
def c133:ICode:=
 (.seq (.ops [(oq n1 (.box t0)),(oq n2 (.mv (.c (.d (.raw (.pointer none))))))])
 (.seq (.draw n3 [(dz (of n4 n0 n1) n1 n0),(dz (of n7 n1 n1) n4 n0),(dq (oq n3 (.load (some n2) t1)) n0 n0 [n0,n1,n2] [] false false),(dq (ol n5 n4) n2 n0 [n0,n1,n2] [] false false),(dq (ol n8 n7) n5 n0 [n0,n1,n2] [] false false),(dz (oq n11 (.mkmap true [.u8,.i64])) n8 n0),(dz (oq n12 (.mkmap true [.i64,.i64,.i64,.i64,.i64,.i64,.i64,.i64,.i64,.i64,.i64,.i64,.i64])) n9 n1),(dz (oq n6 (.call (.c (.fn n98 [] [])) [t5] .data)) n3 n0),(dz (oq n9 (.call (.c (.fn n98 [] [])) [t8] .data)) n6 n0),(dz (oq n10 (.build [.nil,.nil,.nil,.nil,(.int .i64 (.l (i n0)))] [(n0,n1,t6),(n1,n1,t9)])) n7 n0),(dz (oq n13 (.build [.nil,.nil,.nil,.nil,.nil,.nil,(.int .i64 (.l (i n0))),(.raw (.map none)),(.raw (.map none))] [(n0,n2,t3),(n2,n5,t10),(n7,n1,t11),(n8,n1,t12)])) n10 n2),(dz (oq n14 (.box t13)) n11 n2),(dz (om n2 n14) n12 n3)])
 .ret))
def x133:XFn:=⟨a133,n15,[(.t n2)],c133⟩
def a134:Ann:=⟨[],[]⟩
def c134:ICode:=
 (.seq (.ops [(oq n1 (.box t0)),(oq n2 (.mv (.c (.d (.raw .nilFunc)))))])
 (.seq (.ops [(oq n3 (.mkfn n168 [] [t1])),(om n2 n3)])
 .ret))
def x134:XFn:=⟨a134,n4,[(.t n2)],c134⟩
def a135:Ann:=⟨[(n1,n2,n2)],[]⟩
def c135:ICode:=
 (.seq (.ops [(oq n3 (.box t1)),(oq n4 (.mv (.c (.d (.bool false)))))])
 (.seq (.ops [(om n5 n0),(oq n6 (.mkfn n170 [] [t3])),(oq n7 (.call (.c (.fn n169 [] [])) [t5,t6] .raw)),(oq n8 (.un .not t7)),(om n4 n8)])
 .ret))
def x135:XFn:=⟨a135,n9,[(.t n4)],c135⟩
def a136:Ann:=⟨[(n3,n3,n0)],[]⟩
def c136:ICode:=
 (.seq (.ops [(oq n1 (.box t0)),(oq n2 (.mv (.c (.d (.bool false)))))])
 (.seq (.seq (.ops [(of n3 n0 n1),(ol n4 n3),(oq n5 (.bin .gtr t4 (.c (.d (.int .u8 (.l (i n0)))))))])
 (.cond t5 (.seq (.ops [(of n6 n0 n1),(ol n7 n6),(oq n8 (.bin .leq t7 (.c (.d (.int .u8 (.l (i n4))))))),(om n9 n8),(og n10 n9 true (.faddr n1 t1)),(og n11 n9 true (.load none t10)),(og n12 n9 true (.bin .eql t11 k0)),(oq n13 (.pick t9 t12 (.c (.d (.bool false))))),(om n2 n13)])
 .ret)
 .skip))
 (.seq (.ops [(of n14 n1 n1),(ol n15 n14),(oq n16 (.bslice n1 n1 [(.int .i64 (.l (i n0)))] [(n0,t15)] false)),(oq n17 (.call (.c (.fn n149 [] [])) [(.c (.d (.int .i64 (.l (.negSucc n9998))))),k9999,t16] .borrow)),(om n2 n17)])
 .ret)))
def x136:XFn:=⟨a136,n18,[(.t n2)],c136⟩
def a137:Ann:=⟨[(n2,n5,n2),(n8,n13,n2),(n10,n3,n2)],[]⟩
def c137:ICode:=
 (.seq (.ops [(oq n10 (.mv k0))])
 (.seq (.seq (.ops [(om n14 n0),(ol n15 n2),(oq n16 (.len t15)),(oq n17 (.bin .eql t14 t16))])
 (.cond t17 (.seq (.draw n0 [(dz (om n20 n1) n2 n0),(dz (ol n18 n3) n0 n0),(dz (ol n19 n4) n1 n0),(dz (oq n21 (.iaddr n2 t19 t20)) n3 n0),(dz (oq n22 (.load (some n2) t21)) n4 n0),(dq (oq n23 (.call (.c (.fn n138 [] [])) [t18,t22] .raw)) n5 n0 [] [n0,n4,n3,n1,n2] true false),(dz (om n10 n23) n6 n0)])
 .ret)
 .skip))
 (.seq (.ops [(ol n24 n2),(om n25 n0),(oq n26 (.iaddr n1 t24 t25)),(ol n27 n26),(om n11 n27)])
 (.seq (.ops [(ol n28 n5),(om n29 n11),(oq n30 (.iaddr n1 t28 t29)),(ol n31 n30),(oq n32 (.mkslice n1 [(.int .i64 (.l (i n0)))] n8 t31)),(om n12 n32)])
 (.seq (.seq (.ops [(om n33 n12),(oq n34 (.len t33)),(oq n35 (.mv k0))])
 (.block n0 (.loop (.seq (.ops [(oq n36 (.bin .lss t35 t34))])
 (.seq (.cond t36 .skip
 (.exit n0))
 (.seq (.block n1 (.seq (.ops [(om n37 n35),(om n13 n37)])
 (.draw n0 [(dq (om n38 n12) n0 n0 [] [] false true),(dq (om n39 n13) n1 n0 [] [] false true),(dz (om n41 n0) n3 n0),(dz (oq n42 (.bin .add t41 k1)) n4 n0),(dz (om n43 n1) n5 n0),(dz (om n44 n13) n6 n0),(dz (om n46 n11) n8 n0),(dz (ol n40 n6) n2 n0),(dz (ol n45 n7) n7 n0),(dz (oq n47 (.iaddr n1 t45 t46)) n9 n0),(dz (ol n48 n47) n10 n0),(dz (oq n49 (.bin .mul t44 t48)) n11 n0),(dz (oq n50 (.bin .add t43 t49)) n12 n0),(dq (oq n51 (.call t40 [t42,t50] .raw)) n13 n0 [] [n2,n4,n12,n3,n5,n11,n6,n10,n9,n7,n8] false false),(dz (oq n52 (.iaddr n1 t38 t39)) n14 n0),⟨⟨none,none,.store n1 t52 t51⟩,n15,n0,[],[n14,n13,n0,n1,n2,n3,n4,n5,n6,n7,n8,n9,n10,n11,n12],true,false⟩])))
 (.ops [(oq n53 (.bin .add t35 k1)),(om n35 n53)])))))))
 (.seq (.ops [(ol n54 n3),(om n55 n11),(om n56 n12),(oq n57 (.call (.c (.fn n139 [] [])) [t54,t55,t56] .raw)),(om n10 n57)])
 .ret))))))
def x137:XFn:=⟨a137,n58,[(.t n10)],c137⟩
def a138:Ann:=⟨[(n5,n8,n3),(n6,n1,n0)],[]⟩
def c138:ICode:=
 (.seq (.ops [(oq n3 (.box t1)),(oq n4 (.mv k0))])
 (.seq (.draw n0 [(dz (om n8 n0) n0 n0),(dz (oq n9 (.nilchk t8)) n1 n0),(dz (of n10 n7 n9) n2 n0),(dz (ol n11 n10) n3 n0),(dz (oq n12 (.load (some n2) t3)) n4 n0),(dz (oq n13 (.lookup true [.u8,.i64] true t11 t12)) n5 n0),(dz (om n7 n13) n6 n0),(dz (oq n14 (.extract t7 n0)) n7 n0),(dz (oq n15 (.extract t7 n1)) n8 n0),(dz (om n5 n14) n9 n0),(dz (om n6 n15) n10 n0)])
 (.seq (.seq (.ops [(om n16 n6),(oq n17 (.un .not t16))])
 (.cond t17 (.seq (.ops [(om n18 n0),(oq n19 (.nilchk t18)),(of n20 n2 n19),(of n21 n2 n20),(ol n22 n21),(oq n23 (.len t22)),(om n5 n23)])
 (.seq (.draw n0 [(dz (om n24 n0) n0 n0),(dz (oq n25 (.nilchk t24)) n1 n0),(dz (of n26 n7 n25) n2 n0),(dz (om n29 n5) n5 n0),(dz (ol n27 n26) n3 n0),(dz (oq n28 (.load (some n2) t3)) n4 n0),⟨⟨none,none,.mapupd true [.u8,.i64] t27 t28 t29⟩,n6,n0,[],[n3,n4,n5,n0,n1,n2],true,false⟩])
 (.draw n0 [(dq (om n30 n0) n0 n0 [] [] false true),(dq (om n31 n0) n1 n0 [] [] false true),(dq (oq n32 (.nilchk t31)) n2 n0 [] [] false true),(dq (of n33 n2 n32) n3 n0 [] [] false true),(dq (of n34 n2 n33) n4 n0 [] [] false true),(dq (ol n35 n34) n5 n0 [] [] false true),(dz (oq n36 (.load (some n2) t3)) n6 n0),(dq (oq n37 (.bslice n2 n1 [(.int .u8 (.l (i n0))),(.int .i64 (.l (i n0)))] [(n0,t36)] false)) n7 n0 [] [n6] false false),(dq (oq n38 (.appendN n2 n16 t35 t37 true)) n8 n0 [] [n5,n7,n4,n3,n2,n1,n6] false false),(dz (oq n39 (.nilchk t30)) n9 n0),(dz (of n40 n2 n39) n10 n0),(dz (of n41 n2 n40) n11 n0),⟨⟨none,none,.store n1 t41 t38⟩,n12,n0,[],[n11,n8,n0,n1,n2,n3,n4,n5,n6,n7,n10,n9],true,false⟩])))
 .skip))
 (.seq (.ops [(om n42 n5),(oq n43 (.call (.c (.fn n171 [] [])) [t42] .borrow)),(om n4 n43)])
 .ret))))
def x138:XFn:=⟨a138,n44,[(.t n4)],c138⟩
def a139:Ann:=⟨[(n1,n2,n2),(n9,n10,n3)],[]⟩
def c139:ICode:=
 (.seq (.ops [(oq n5 (.box t2)),(oq n6 (.mv k0))])
 (.seq (.seq (.ops [(ol n10 n5),(oq n11 (.mkfn n173 [] [t5])),(oq n12 (.call (.c (.fn n172 [] [])) [t10,t11] .raw))])
 (.cond t12 (.seq (.ops [(ol n13 n5),(oq n14 (.iaddr n1 t13 k0)),(ol n15 n14),(om n6 n15)])
 .ret)
 .skip))
 (.seq (.ops [(om n16 n1),(oq n17 (.build [(.int .i64 (.l (i n0))),(.int .i64 (.l (i n0))),(.int .i64 (.l (i n0))),(.int .i64 (.l (i n0))),(.int .i64 (.l (i n0))),(.int .i64 (.l (i n0))),(.int .i64 (.l (i n0))),(.int .i64 (.l (i n0))),(.int .i64 (.l (i n0))),(.int .i64 (.l (i n0))),(.int .i64 (.l (i n0))),(.int .i64 (.l (i n0))),(.int .i64 (.l (i n0)))] [(n0,n1,t16)])),(oq n7 (.alloc [(.int .i64 (.l (i n0))),(.int .i64 (.l (i n0))),(.int .i64 (.l (i n0))),(.int .i64 (.l (i n0))),(.int .i64 (.l (i n0))),(.int .i64 (.l (i n0))),(.int .i64 (.l (i n0))),(.int .i64 (.l (i n0))),(.int .i64 (.l (i n0))),(.int .i64 (.l (i n0))),(.int .i64 (.l (i n0))),(.int .i64 (.l (i n0))),(.int .i64 (.l (i n0)))])),⟨none,none,.store n13 t7 t17⟩])
 (.seq (.draw n0 [(dz (of n18 n1 n7) n0 n0),(dz (oq n19 (.slarr n12 t18 none none)) n1 n0),(dz (ol n20 n5) n2 n0),(dq (oq n21 (.copy n1 t19 t20)) n3 n0 [] [n1,n2,n0] true false)])
 (.seq (.draw n0 [(dz (om n23 n0) n0 n0),(dz (oq n24 (.nilchk t23)) n1 n0),(dz (of n25 n8 n24) n2 n0),(dz (ol n26 n25) n3 n0),(dz (oq n27 (.load (some n13) t7)) n4 n0),(dz (oq n28 (.lookup true [.i64,.i64,.i64,.i64,.i64,.i64,.i64,.i64,.i64,.i64,.i64,.i64,.i64] true t26 t27)) n5 n0),(dz (om n22 n28) n6 n0),(dz (oq n29 (.extract t22 n0)) n7 n0),(dz (oq n30 (.extract t22 n1)) n8 n0),(dz (om n8 n29) n9 n0),(dz (om n9 n30) n10 n0)])
 (.seq (.seq (.ops [(om n31 n9),(oq n32 (.un .not t31))])
 (.cond t32 (.seq (.ops [(om n33 n0),(oq n34 (.nilchk t33)),(of n35 n2 n34),(of n36 n3 n35),(ol n37 n36),(oq n38 (.len t37)),(om n8 n38)])
 (.seq (.draw n0 [(dz (om n39 n0) n0 n0),(dz (oq n40 (.nilchk t39)) n1 n0),(dz (of n41 n8 n40) n2 n0),(dz (om n44 n8) n5 n0),(dz (ol n42 n41) n3 n0),(dz (oq n43 (.load (some n13) t7)) n4 n0),⟨⟨none,none,.mapupd true [.i64,.i64,.i64,.i64,.i64,.i64,.i64,.i64,.i64,.i64,.i64,.i64,.i64] t42 t43 t44⟩,n6,n0,[],[n3,n4,n5,n0,n1,n2],true,false⟩])
 (.draw n0 [(dq (om n45 n0) n0 n0 [] [] false true),(dq (om n46 n0) n1 n0 [] [] false true),(dq (oq n47 (.nilchk t46)) n2 n0 [] [] false true),(dq (of n48 n2 n47) n3 n0 [] [] false true),(dq (of n49 n3 n48) n4 n0 [] [] false true),(dz (om n51 n1) n6 n0),(dq (ol n50 n49) n5 n0 [] [] false true),(dz (ol n52 n5) n7 n0),(dz (oq n53 (.build [(.int .i64 (.l (i n0))),.nil] [(n0,n1,t51),(n1,n1,t52)])) n8 n0),(dq (oq n54 (.bslice n2 n1 [(.int .i64 (.l (i n0))),.nil] [(n0,t53)] false)) n9 n0 [] [n8,n6,n7] false false),(dq (oq n55 (.appendN n2 n32 t50 t54 true)) n10 n0 [] [n5,n9,n4,n3,n2,n1,n8,n6,n7] false false),(dz (oq n56 (.nilchk t45)) n11 n0),(dz (of n57 n2 n56) n12 n0),(dz (of n58 n3 n57) n13 n0),⟨⟨none,none,.store n1 t58 t55⟩,n14,n0,[],[n13,n10,n0,n1,n2,n3,n4,n5,n6,n7,n8,n9,n12,n11],true,false⟩])))
 .skip))
 (.seq (.ops [(om n59 n8),(om n6 n59)])
 .ret)))))))
def x139:XFn:=⟨a139,n60,[(.t n6)],c139⟩
def a141:Ann:=⟨[(n0,n5,n2)],[]⟩
def c141:ICode:=
 (.ops [(om n4 n0),(om n5 n0),(oq n6 (.len t5)),(om n7 n1),(oq n8 (.bin .sub t6 t7)),(oq n9 (.call (.c (.fn n174 [] [])) [t4,t8] .raw))])
def x141:XFn:=⟨a141,n10,[],c141⟩
def a142:Ann:=⟨[(n4,n5,n2)],[]⟩
def c142:ICode:=
 (.seq (.ops [(oq n4 (.mv k0))])
 (.seq (.seq (.ops [(om n6 n0),(oq n7 (.len t6)),(oq n8 (.mv k0))])
 (.block n0 (.loop (.seq (.ops [(oq n9 (.bin .lss t8 t7))])
 (.seq (.cond t9 .skip
 (.exit n0))
 (.seq (.block n1 (.seq (.ops [(om n10 n8),(om n5 n10)])
 (.seq (.ops [(om n11 n1),(om n12 n0),(om n13 n5),(oq n14 (.iaddr n3 t12 t13)),(oq n15 (.load (some n3) t14)),(oq n16 (.call t11 [t15] .raw))])
 (.cond t16 (.seq (.ops [(om n17 n5),(om n4 n17)])
 .ret)
 .skip))))
 (.ops [(oq n18 (.bin .add t8 k1)),(om n8 n18)])))))))
 (.seq (.ops [(oq n4 (.mv (.c (.d (.int .i64 (.l (.negSucc n0)))))))])
 .ret)))
def x142:XFn:=⟨a142,n19,[(.t n4)],c142⟩
def a143:Ann:=⟨[(n1,n2,n2)],[]⟩
def c143:ICode:=
 (.seq (.ops [(oq n4 (.mv (.c (.d (.bool false)))))])
 (.seq (.ops [(om n5 n0),(om n6 n1),(oq n7 (.call (.c (.fn n175 [] [])) [t5,t6] .raw)),(oq n8 (.bin .geq t7 k0)),(om n4 n8)])
 .ret))
def x143:XFn:=⟨a143,n9,[(.t n4)],c143⟩
def a144:Ann:=⟨[],[]⟩
def c144:ICode:=
 (.seq (.ops [(oq n4 (.mv (.c (.d (.bool false)))))])
 (.seq (.ops [(om n5 n0),(ol n6 n1),(oq n7 (.bin .lss t5 t6)),(om n8 n7),(og n9 n8 false (.mv t0)),(og n10 n8 false (.load none t2)),(og n11 n8 false (.bin .gtr t9 t10)),(oq n12 (.pick t8 (.c (.d (.bool true))) t11)),(om n4 n12)])
 .ret))
def x144:XFn:=⟨a144,n13,[(.t n4)],c144⟩
def a145:Ann:=⟨[(n3,n3,n0),(n5,n3,n0),(n7,n7,n0),(n9,n3,n0)],[]⟩
def c145:ICode:=
 (.seq (.ops [(oq n2 (.box t0)),(oq n3 (.box t1)),(oq n4 (.mv (.c (.d (.bool false)))))])
 (.seq (.seq (.ops [(of n5 n0 n3),(ol n6 n5)])
 (.block n0 (.seq (.ops [(oq n8 (.bin .eql t6 (.c (.d (.int .u8 (.l (i n1))))))),(om n7 n8)])
 (.cond t7 (.seq (.ops [(of n9 n4 n3),(ol n10 n9),(oq n11 (.bslice n1 n1 [(.int .i64 (.l (i n0)))] [(n0,t10)] false)),(oq n12 (.call (.c (.fn n104 [] [])) [(.c (.d (.int .i64 (.l (.negSucc n9998))))),k9999,t11] .borrow)),(om n4 n12)])
 .ret)
 (.seq (.ops [(oq n14 (.bin .eql t6 (.c (.d (.int .u8 (.l (i n2))))))),(om n13 n14)])
 (.cond t13 (.seq (.ops [(of n15 n4 n3),(ol n16 n15),(oq n17 (.bslice n1 n1 [(.int .i64 (.l (i n0)))] [(n0,t16)] false)),(oq n18 (.call (.c (.fn n104 [] [])) [k1,k4,t17] .borrow)),(om n4 n18)])
 .ret)
 (.seq (.ops [(oq n20 (.bin .eql t6 (.c (.d (.int .u8 (.l (i n3))))))),(om n19 n20)])
 (.cond t19 (.seq (.ops [(of n21 n0 n2),(ol n22 n21),(oq n23 (.len t22)),(oq n24 (.bin .sub t23 k1)),(of n25 n4 n3),(ol n26 n25),(oq n27 (.bslice n1 n1 [(.int .i64 (.l (i n0)))] [(n0,t26)] false)),(oq n28 (.call (.c (.fn n104 [] [])) [k0,t24,t27] .borrow)),(om n4 n28)])
 .ret)
 (.seq (.ops [(oq n30 (.bin .eql t6 (.c (.d (.int .u8 (.l (i n4))))))),(om n29 n30)])
 (.cond t29 (.seq (.ops [(of n31 n4 n3),(ol n32 n31),(oq n33 (.bslice n1 n1 [(.int .i64 (.l (i n0)))] [(n0,t32)] false)),(oq n34 (.call (.c (.fn n104 [] [])) [k0,k31,t33] .borrow)),(om n4 n34)])
 .ret)
 .skip))))))))))
 (.seq (.ops [(of n35 n4 n3),(ol n36 n35),(oq n37 (.bin .eql t36 k0)),(om n4 n37)])
 .ret)))
def x145:XFn:=⟨a145,n38,[(.t n4)],c145⟩
def a146:Ann:=⟨[],[]⟩
def c146:ICode:=
 (.seq (.ops [(oq n1 (.box t0)),(oq n2 (.alloc [(.int .i64 (.l (i n0))),(.int .i64 (.l (i n0))),(.int .i64 (.l (i n0)))]))])
 (.seq (.ops [(of n3 n1 n1),(ol n4 n3),(of n5 n2 n1),(ol n6 n5),(of n7 n3 n1),(ol n8 n7),(oq n9 (.build [(.int .i64 (.l (i n0))),(.int .i64 (.l (i n0))),(.int .i64 (.l (i n0)))] [(n0,n1,t4),(n1,n1,t6),(n2,n1,t8)])),⟨none,none,.store n3 t2 t9⟩])
 .ret))
def x146:XFn:=⟨a146,n10,[(.c n2 (some n3))],c146⟩
def a147:Ann:=⟨[],[]⟩
def c147:ICode:=
 (.seq (.ops [(oq n2 (.mv k0))])
 (.seq (.block n0 (.seq (.ops [(om n4 n0),(oq n5 (.bin .leq t4 (.c (.d (.int .u8 (.l (i n4))))))),(om n3 n5)])
 (.cond t3 (.seq (.ops [(oq n2 (.mv k0))])
 .ret)
 (.seq (.ops [(om n7 n0),(oq n8 (.bin .leq t7 (.c (.d (.int .u8 (.l (i n6))))))),(om n6 n8)])
 (.cond t6 (.seq (.ops [(oq n2 (.mv k1))])
 .ret)
 (.seq (.ops [(om n10 n0),(oq n11 (.bin .leq t10 (.c (.d (.int .u8 (.l (i n16))))))),(om n9 n11)])
 (.cond t9 (.seq (.ops [(oq n2 (.mv k2))])
 .ret)
 .skip)))))))
 (.seq (.ops [(oq n2 (.mv k3))])
 .ret)))
def x147:XFn:=⟨a147,n12,[(.t n2)],c147⟩
def a148:Ann:=⟨[(n1,n2,n2)],[]⟩
def c148:ICode:=
 (.seq (.ops [(oq n3 (.mv (.c (.d (.bool false)))))])
 (.seq (.ops [(ol n4 n1),(om n5 n0),(oq n6 (.call t4 [t5] .raw)),(oq n7 (.un .not t6)),(om n3 n7)])
 .ret))
def x148:XFn:=⟨a148,n8,[(.t n3)],c148⟩
def a149:Ann:=⟨[(n1,n2,n2)],[]⟩
def c149:ICode:=
 (.seq (.ops [(oq n3 (.box t0)),(oq n4 (.box t1)),(oq n6 (.mv (.c (.d (.bool false)))))])
 (.seq (.ops [(om n7 n2),(oq n8 (.mkfn n176 [] [t3,t4])),(oq n9 (.call (.c (.fn n143 [] [])) [t7,t8] .raw)),(oq n10 (.un .not t9)),(om n6 n10)])
 .ret))
def x149:XFn:=⟨a149,n11,[(.t n6)],c149⟩
def a150:Ann:=⟨[(n1,n4,n0),(n1,n5,n2)],[]⟩
def c150:ICode:=
 (.seq (.ops [(om n3 n0),(oq n4 (.len t3)),(om n2 n4)])
 (.ops [(om n5 n0),(om n6 n2),(om n7 n2),(oq n8 (.conv .u64 t7)),(oq n9 (.call (.c (.fn n93 [] [])) [t8] .borrow)),(oq n10 (.call (.c (.fn n177 [] [])) [t5,k0,t6,t9] .raw))]))
def x150:XFn:=⟨a150,n11,[],c150⟩
def a151:Ann:=⟨[],[]⟩
def c151:ICode:=
 (.seq (.ops [(oq n2 (.mv (.c (.d .nil))))])
 (.seq (.ops [(om n5 n0),(oq n6 (.mkslice n1 [(.int .i64 (.l (i n0)))] n8 t5)),(om n3 n6)])
 (.seq (.seq (.ops [(om n7 n0),(oq n8 (.mv k0))])
 (.block n0 (.loop (.seq (.ops [(oq n9 (.bin .lss t8 t7))])
 (.seq (.cond t9 .skip
 (.exit n0))
 (.seq (.block n1 (.seq (.ops [(om n10 n8),(om n4 n10)])
 (.ops [(om n11 n3),(om n12 n4),(om n13 n4),(oq n14 (.iaddr n1 t11 t12)),⟨none,none,.store n1 t14 t13⟩])))
 (.ops [(oq n15 (.bin .add t8 k1)),(om n8 n15)])))))))
 (.seq (.ops [(om n16 n3),(om n2 n16)])
 .ret))))
def x151:XFn:=⟨a151,n17,[(.t n2)],c151⟩
def a156:Ann:=⟨[(n1,n4,n0),(n7,n2,n0),(n8,n3,n1),(n8,n6,n2),(n9,n6,n0)],[]⟩
def c156:ICode:=
 (.seq (.ops [(oq n1 (.box t0)),(oq n2 (.alloc [.nil,.nil,.nil,.nil,.nil,.nil,(.int .i64 (.l (i n0)))])),(oq n3 (.mv k0))])
 (.seq (.seq (.ops [(of n5 n0 n1),(ol n6 n5),(of n7 n1 n1),(ol n8 n7),(oq n9 (.call (.c (.fn n109 [] [])) [t6,t8] .borrow)),(om n4 n9)])
 (.seq (.ops [(om n10 n4),(oq n11 (.bin .neq t10 k0))])
 (.cond t11 (.seq (.ops [(oq n12 (.load (some n7) t2)),(om n13 n4),⟨none,none,.store n7 t2 t12⟩,(om n3 n13)])
 .ret)
 .skip)))
 (.seq (.ops [(of n14 n0 n1),(ol n15 n14),(of n16 n1 n1),(ol n17 n16),(oq n18 (.build [.nil,.nil] [(n0,n1,t15),(n1,n1,t17)])),(oq n19 (.load (some n5) t1)),(oq n20 (.build [.nil,.nil,.nil,.nil,.nil,.nil,(.int .i64 (.l (i n0)))] [(n0,n2,t18),(n2,n5,t19)])),⟨none,none,.store n7 t2 t20⟩])
 (.seq (.block n0 (.seq (.ops [(of n22 n3 n1),(ol n23 n22),(oq n24 (.len t23)),(oq n25 (.bin .gtr t24 k6000)),(om n21 n25)])
 (.cond t21 (.seq (.ops [(oq n26 (.load (some n7) t2)),⟨none,none,.store n7 t2 t26⟩,(oq n3 (.mv k5))])
 .ret)
 (.seq (.seq (.ops [(of n28 n2 n1),(ol n29 n28),(oq n30 (.call (.c (.fn n135 [] [])) [t29,(.c (.fn n136 [] []))] .borrow)),(oq n31 (.un .not t30)),(om n27 n31)])
 (.cond t27 .skip
 (.seq (.draw n0 [(dz (of n32 n3 n1) n0 n0),(dz (ol n33 n32) n1 n0),(dz (oq n34 (.len t33)) n2 n0),(dq (oq n36 (.load (some n7) t2)) n4 n0 [] [] false true),(dq (oq n37 (.mkfn n178 [t36] [])) n5 n0 [] [] false true),(dq (oq n35 (.call (.c (.fn n151 [] [])) [t34] .share)) n3 n0 [] [n2,n1,n0] false false),(dq (oq n38 (.call (.c (.fn n172 [] [])) [t35,t37] .raw)) n6 n0 [] [n3,n5,n2,n1,n0,n4] true false),(dz (oq n39 (.un .not t38)) n7 n0),(dz (om n27 n39) n8 n0)])
 (.cond t27 .skip
 (.ops [(oq n40 (.load (some n7) t2)),(of n41 n4 n1),(ol n42 n41),(of n43 n3 n1),(ol n44 n43),(oq n45 (.len t44)),(oq n46 (.call (.c (.fn n179 [] [])) [t40,t42,t45,(.c (.d (.int .i64 (.l (.negSucc n0)))))] .borrow)),(oq n47 (.un .not t46)),(om n27 n47)])))))
 (.cond t27 (.seq (.ops [(oq n48 (.load (some n7) t2)),⟨none,none,.store n7 t2 t48⟩,(oq n3 (.mv k4))])
 .ret)
 .skip)))))
 (.seq (.ops [(oq n49 (.load (some n7) t2)),⟨none,none,.store n7 t2 t49⟩,(oq n3 (.mv k0))])
 .ret)))))
def x156:XFn:=⟨a156,n50,[(.c n2 (some n7)),(.t n3)],c156⟩
def a157:Ann:=⟨[(n2,n4,n0),(n2,n10,n0),(n2,n17,n0),(n2,n25,n2)],[]⟩
def c157:ICode:=
 (.seq (.ops [(oq n2 (.box t0)),(oq n3 (.box t1)),(oq n4 (.mv (.c (.d (.bool false)))))])
 (.seq (.ops [(oq n5 (.mv (.c (.fn n180 [] []))))])
 (.seq (.ops [(of n6 n0 n2),(ol n7 n6),(of n8 n0 n3),(ol n9 n8),(oq n10 (.call (.c (.fn n122 [] [])) [t7,t9] .borrow)),(om n11 n10),(og n12 n11 true (.faddr n1 t2)),(og n13 n11 true (.load none t12)),(og n14 n11 true (.faddr n1 t3)),(og n15 n11 true (.load none t14)),(og n16 n11 true (.call (.c (.fn n122 [] [])) [t13,t15] .borrow)),(oq n17 (.pick t11 t16 (.c (.d (.bool false))))),(om n18 n17),(og n19 n18 true (.faddr n2 t2)),(og n20 n18 true (.load none t19)),(og n21 n18 true (.faddr n2 t3)),(og n22 n18 true (.load none t21)),(og n23 n18 true (.call (.c (.fn n181 [] [])) [t20,t22] .borrow)),(oq n24 (.pick t18 t23 (.c (.d (.bool false))))),(om n25 n24),(og n26 n25 true (.faddr n3 t2)),(og n27 n25 true (.load none t26)),(og n28 n25 true (.faddr n3 t3)),(og n29 n25 true (.load none t28)),(og n30 n25 true (.mv t5)),(og n31 n25 true (.call (.c (.fn n182 [] [])) [t27,t29,t30] .raw)),(oq n32 (.pick t25 t31 (.c (.d (.bool false))))),(om n33 n32),(og n34 n33 true (.faddr n4 t2)),(og n35 n33 true (.load none t34)),(og n36 n33 true (.faddr n4 t3)),(og n37 n33 true (.load none t36)),(og n38 n33 true (.bin .eql t35 t37)),(oq n39 (.pick t33 t38 (.c (.d (.bool false))))),(om n4 n39)])
 .ret)))
def x157:XFn:=⟨a157,n40,[(.t n4)],c157⟩
def a158:Ann:=⟨[(n1,n2,n2),(n5,n5,n2)],[]⟩
def c158:ICode:=
 (.seq (.ops [(oq n1 (.box t0)),(oq n2 (.alloc [.nil,.nil,.nil,.nil,(.int .i64 (.l (i n0)))]))])
 (.seq (.ops [(of n6 n0 n1),(oq n7 (.load (some n2) t6)),(oq n8 (.call (.c (.fn n133 [] [])) [t7] .raw)),(oq n3 (.alloc [(.raw (.pointer none))])),⟨none,none,.store n1 t3 t8⟩])
 (.seq (.ops [(oq n9 (.mkmap false [.i64])),(oq n4 (.alloc [(.raw (.map none))])),⟨none,none,.store n1 t4 t9⟩])
 (.seq (.ops [(oq n5 (.alloc [(.raw .nilFunc)]))])
 (.seq (.ops [(oq n10 (.mkfn n183 [] [t3,t1,t4,t5])),⟨none,none,.store n1 t5 t10⟩])
 (.seq (.draw n0 [(dz (of n13 n2 n1) n2 n0),(dz (of n14 n4 n13) n3 n0),(dq (ol n11 n3) n0 n0 [] [] false true),(dz (ol n12 n5) n1 n0),(dz (ol n15 n14) n4 n0),(dq (oq n16 (.call t12 [t15] .raw)) n5 n0 [] [n1,n4,n3,n2] false false),(dz (oq n17 (.nilchk t11)) n6 n0),(dz (of n18 n2 n17) n7 n0),(dz (of n19 n4 n18) n8 n0),⟨⟨none,none,.store n1 t19 t16⟩,n9,n0,[],[n8,n5,n0,n1,n2,n3,n4,n7,n6],true,false⟩])
 (.seq (.ops [(ol n20 n3),(oq n21 (.nilchk t20)),(of n22 n2 n21),(oq n23 (.load (some n5) t22)),⟨none,none,.store n5 t2 t23⟩])
 .ret)))))))
def x158:XFn:=⟨a158,n24,[(.c n2 (some n5))],c158⟩
def a159:Ann:=⟨[(n4,n3,n2)],[]⟩
def c159:ICode:=
 (.seq (.ops [(oq n2 (.box t0))])
 (.seq (.ops [(of n7 n0 n2),(ol n8 n7),(oq n9 (.len t8)),(oq n10 (.mkslice n1 [(.int .i64 (.l (i n0)))] n8 t9)),(om n4 n10)])
 (.seq (.ops [(oq n5 (.mv k0))])
 (.block n0 (.loop (.seq (.block n1 (.seq (.seq (.ops [(om n13 n1),(om n14 n5),(om n15 n4),(oq n16 (.call t13 [t14,t15] .raw)),(oq n17 (.un .not t16))])
 (.cond t17 .ret
 .skip))
 (.seq (.ops [(om n18 n4),(oq n19 (.len t18)),(oq n20 (.bin .sub t19 k1)),(om n6 n20)])
 (.seq (.block n2 (.loop (.seq (.seq (.draw n0 [(dz (om n21 n6) n0 n0),(dz (oq n22 (.bin .geq t21 k0)) n1 n0),(dz (om n23 n22) n2 n0),(dz (og n24 n23 true (.mv t4)) n3 n0),(dz (og n25 n23 true (.mv t6)) n4 n0),(dz (og n26 n23 true (.iaddr n1 t24 t25)) n5 n0),(dz (og n28 n23 true (.faddr n0 t2)) n7 n0),(dz (og n30 n23 true (.mv t6)) n9 n0),(dz (og n27 n23 true (.load none t26)) n6 n0),(dz (og n29 n23 true (.load none t28)) n8 n0),(dz (og n31 n23 true (.iaddr n1 t29 t30)) n10 n0),(dz (og n32 n23 true (.load none t31)) n11 n0),(dz (og n33 n23 true (.bin .sub t32 k1)) n12 n0),(dz (og n34 n23 true (.bin .eql t27 t33)) n13 n0),(dz (oq n35 (.pick t23 t34 (.c (.d (.bool false))))) n14 n0)])
 (.cond t35 .skip
 (.exit n2)))
 (.block n3 (.seq (.ops [(om n36 n4),(om n37 n6),(oq n38 (.iaddr n1 t36 t37)),⟨none,none,.store n1 t38 k0⟩])
 (.ops [(om n39 n6),(oq n40 (.bin .sub t39 k1)),(om n6 n40)]))))))
 (.seq (.seq (.ops [(om n41 n6),(oq n42 (.bin .lss t41 k0))])
 (.cond t42 .ret
 .skip))
 (.ops [(om n43 n4),(om n44 n6),(oq n45 (.iaddr n1 t43 t44)),(ol n46 n45),(oq n47 (.bin .add t46 k1)),(oq n48 (.iaddr n1 t43 t44)),⟨none,none,.store n1 t48 t47⟩]))))))
 (.ops [(om n11 n5),(oq n12 (.bin .add t11 k1)),(om n5 n12)])))))))
def x159:XFn:=⟨a159,n49,[],c159⟩
def a160:Ann:=⟨[(n3,n2,n2),(n5,n1,n0)],[]⟩
def c160:ICode:=
 (.seq (.ops [(oq n3 (.box t0)),(oq n6 (.mv k0))])
 (.seq (.ops [(of n8 n2 n3),(of n9 n4 n8),(ol n10 n9),(om n7 n10)])
 (.seq (.block n0 (.loop (.seq (.seq (.ops [(om n11 n7),(oq n12 (.bin .geq t11 k0))])
 (.cond t12 .skip
 (.exit n0)))
 (.block n1 (.seq (.ops [(om n13 n2),(om n14 n7),(oq n15 (.call t13 [t14] .raw))])
 (.draw n0 [(dz (of n16 n2 n3) n0 n0),(dz (of n17 n3 n16) n1 n0),(dz (om n19 n7) n3 n0),(dz (om n23 n1) n7 n0),(dz (of n24 n2 n3) n8 n0),(dz (of n25 n3 n24) n9 n0),(dz (om n27 n7) n11 n0),(dz (ol n18 n17) n2 n0),(dz (oq n20 (.iaddr n2 t18 t19)) n4 n0),(dz (of n21 n1 n20) n5 n0),(dz (ol n22 n21) n6 n0),(dz (ol n26 n25) n10 n0),(dz (oq n28 (.iaddr n2 t26 t27)) n12 n0),(dz (of n29 n0 n28) n13 n0),(dz (ol n30 n29) n14 n0),(dz (oq n31 (.iaddr n1 t23 t30)) n15 n0),(dz (ol n32 n31) n16 n0),(dz (oq n33 (.iaddr n1 t22 t32)) n17 n0),(dz (ol n34 n33) n18 n0),(dz (om n7 n34) n19 n0)]))))))
 (.seq (.ops [(om n35 n7),(oq n36 (.call (.c (.fn n171 [] [])) [t35] .borrow)),(om n6 n36)])
 .ret))))
def x160:XFn:=⟨a160,n37,[(.t n6)],c160⟩
def a161:Ann:=⟨[],[]⟩
def c161:ICode:=
 .skip
def x161:XFn:=⟨a161,n2,[],c161⟩
def a162:Ann:=⟨[(n4,n5,n2)],[]⟩
def c162:ICode:=
 (.seq (.ops [(oq n4 (.mv k0))])
 (.seq (.seq (.ops [(om n6 n0),(oq n7 (.len t6)),(oq n8 (.mv k0))])
 (.block n0 (.loop (.seq (.ops [(oq n9 (.bin .lss t8 t7))])
 (.seq (.cond t9 .skip
 (.exit n0))
 (.seq (.block n1 (.seq (.ops [(om n10 n8),(om n5 n10)])
 (.seq (.ops [(om n11 n1),(om n12 n0),(om n13 n5),(oq n14 (.iaddr n5 t12 t13)),(oq n15 (.load (some n5) t14)),(oq n16 (.call t11 [t15] .raw))])
 (.cond t16 (.seq (.ops [(om n17 n5),(om n4 n17)])
 .ret)
 .skip))))
 (.ops [(oq n18 (.bin .add t8 k1)),(om n8 n18)])))))))
 (.seq (.ops [(oq n4 (.mv (.c (.d (.int .i64 (.l (.negSucc n0)))))))])
 .ret)))
def x162:XFn:=⟨a162,n19,[(.t n4)],c162⟩
def a163:Ann:=⟨[(n3,n19,n2),(n5,n13,n2)],[]⟩
def c163:ICode:=
 (.seq (.ops [(om n12 n1),(om n10 n12)])
 (.block n0 (.loop (.block n1 (.seq (.ops [(om n13 n10),(oq n14 (.bin .mul k2 t13)),(oq n15 (.bin .add t14 k1)),(om n11 n15)])
 (.seq (.seq (.ops [(om n16 n11),(om n17 n2),(oq n18 (.bin .geq t16 t17))])
 (.cond t18 (.exit n0)
 .skip))
 (.seq (.seq (.draw n0 [(dz (om n19 n11) n0 n0),(dz (oq n20 (.bin .add t19 k1)) n1 n0),(dz (om n21 n2) n2 n0),(dz (oq n22 (.bin .lss t20 t21)) n3 n0),(dz (om n23 n22) n4 n0),(dz (og n24 n23 true (.mv t4)) n5 n0),(dz (og n25 n23 true (.mv t0)) n6 n0),(dz (og n26 n23 true (.mv t3)) n7 n0),(dz (og n27 n23 true (.mv t11)) n8 n0),(dz (og n28 n23 true (.bin .add t26 t27)) n9 n0),(dz (og n29 n23 true (.iaddr n2 t25 t28)) n10 n0),(dz (og n31 n23 true (.mv t0)) n12 n0),(dz (og n32 n23 true (.mv t3)) n13 n0),(dz (og n33 n23 true (.mv t11)) n14 n0),(dz (og n34 n23 true (.bin .add t32 t33)) n15 n0),(dz (og n35 n23 true (.bin .add t34 k1)) n16 n0),(dz (og n36 n23 true (.iaddr n2 t31 t35)) n17 n0),(dz (og n30 n23 true (.load (some n2) t29)) n11 n0),(dz (og n37 n23 true (.load (some n2) t36)) n18 n0),(dq (og n38 n23 true (.call t24 [t30,t37] .raw)) n19 n0 [] [n5,n11,n18,n4,n3,n1,n2,n0,n10,n6,n9,n7,n8,n17,n12,n16,n15,n13,n14] true false),(dz (og n39 n23 true (.bin .lss t38 k0)) n20 n0),(dz (oq n40 (.pick t23 t39 (.c (.d (.bool false))))) n21 n0)])
 (.cond t40 (.ops [(om n41 n11),(oq n42 (.bin .add t41 k1)),(om n11 n42)])
 .skip))
 (.seq (.seq (.draw n0 [(dz (om n43 n4) n0 n0),(dz (om n44 n0) n1 n0),(dz (om n45 n3) n2 n0),(dz (om n46 n10) n3 n0),(dz (oq n47 (.bin .add t45 t46)) n4 n0),(dz (oq n48 (.iaddr n2 t44 t47)) n5 n0),(dz (om n50 n0) n7 n0),(dz (om n51 n3) n8 n0),(dz (om n52 n11) n9 n0),(dz (oq n53 (.bin .add t51 t52)) n10 n0),(dz (oq n54 (.iaddr n2 t50 t53)) n11 n0),(dz (oq n49 (.load (some n2) t48)) n6 n0),(dz (oq n55 (.load (some n2) t54)) n12 n0),(dq (oq n56 (.call t43 [t49,t55] .raw)) n13 n0 [] [n0,n6,n12,n5,n1,n4,n2,n3,n11,n7,n10,n8,n9] true false),(dz (oq n57 (.bin .lss t56 k0)) n14 n0),(dz (oq n58 (.un .not t57)) n15 n0)])
 (.cond t58 .ret
 .skip))
 (.seq (.draw n0 [(dz (om n59 n0) n0 n0),(dz (om n60 n3) n1 n0),(dz (om n61 n10) n2 n0),(dz (oq n62 (.bin .add t60 t61)) n3 n0),(dq (om n63 n0) n4 n0 [] [] false true),(dq (om n64 n3) n5 n0 [] [] false true),(dq (om n65 n11) n6 n0 [] [] false true),(dq (oq n66 (.bin .add t64 t65)) n7 n0 [] [] false true),(dz (om n67 n0) n8 n0),(dz (om n68 n3) n9 n0),(dz (om n69 n11) n10 n0),(dz (oq n70 (.bin .add t68 t69)) n11 n0),(dz (oq n71 (.iaddr n2 t67 t70)) n12 n0),(dz (om n73 n0) n14 n0),(dz (om n74 n3) n15 n0),(dz (om n75 n10) n16 n0),(dz (oq n76 (.bin .add t74 t75)) n17 n0),(dz (oq n77 (.iaddr n2 t73 t76)) n18 n0),(dz (oq n72 (.load (some n2) t71)) n13 n0),(dz (oq n78 (.load (some n2) t77)) n19 n0),(dz (oq n79 (.iaddr n2 t59 t62)) n20 n0),⟨⟨none,none,.store n2 t79 t72⟩,n21,n0,[],[n20,n13,n0,n1,n2,n3,n8,n9,n10,n11,n12,n19,n18,n14,n17,n15,n16],false,false⟩,(dz (oq n80 (.iaddr n2 t63 t66)) n22 n0),⟨⟨none,none,.store n2 t80 t78⟩,n23,n0,[],[n22,n19,n21,n0,n1,n2,n3,n4,n5,n6,n7,n8,n9,n10,n11,n12,n13,n14,n15,n16,n17,n18,n20],true,false⟩])
 (.ops [(om n81 n11),(om n10 n81)]))))))))))
def x163:XFn:=⟨a163,n82,[],c163⟩
def a164:Ann:=⟨[(n1,n2,n0)],[]⟩
def c164:ICode:=
 (.seq (.ops [(oq n2 (.mv (.c (.d (.int .u64 (.l (i n0)))))))])
 (.seq (.ops [(om n3 n0),(oq n4 (.conv .u64 t3)),(oq n5 (.call (.c (.fn n93 [] [])) [t4] .borrow)),(oq n6 (.bin .shl (.c (.d (.int .u64 (.l (i n1))))) t5)),(om n2 n6)])
 .ret))
def x164:XFn:=⟨a164,n7,[(.t n2)],c164⟩
def a165:Ann:=⟨[],[]⟩
def c165:ICode:=
 (.seq (.ops [(oq n2 (.mv (.c (.d (.int .u64 (.l (i n0)))))))])
 (.seq (.draw n0 [(dz (om n3 n0) n0 n0),(dz (oq n4 (.nilchk t3)) n1 n0),(dz (om n6 n0) n3 n0),(dz (oq n7 (.nilchk t6)) n4 n0),(dz (ol n5 n4) n2 n0),(dz (ol n8 n7) n5 n0),(dz (oq n9 (.bin .shl t8 (.c (.d (.int .u64 (.l (i n13))))))) n6 n0),(dz (oq n10 (.bin .xor t5 t9)) n7 n0),(dz (oq n11 (.nilchk t3)) n8 n0),⟨⟨none,none,.store n1 t11 t10⟩,n9,n0,[],[n8,n7,n0,n1,n2,n3,n4,n5,n6],true,false⟩])
 (.seq (.draw n0 [(dz (om n12 n0) n0 n0),(dz (oq n13 (.nilchk t12)) n1 n0),(dz (om n15 n0) n3 n0),(dz (oq n16 (.nilchk t15)) n4 n0),(dz (ol n14 n13) n2 n0),(dz (ol n17 n16) n5 n0),(dz (oq n18 (.bin .shr t17 (.c (.d (.int .u64 (.l (i n7))))))) n6 n0),(dz (oq n19 (.bin .xor t14 t18)) n7 n0),(dz (oq n20 (.nilchk t12)) n8 n0),⟨⟨none,none,.store n1 t20 t19⟩,n9,n0,[],[n8,n7,n0,n1,n2,n3,n4,n5,n6],true,false⟩])
 (.seq (.draw n0 [(dz (om n21 n0) n0 n0),(dz (oq n22 (.nilchk t21)) n1 n0),(dz (om n24 n0) n3 n0),(dz (oq n25 (.nilchk t24)) n4 n0),(dz (ol n23 n22) n2 n0),(dz (ol n26 n25) n5 n0),(dz (oq n27 (.bin .shl t26 (.c (.d (.int .u64 (.l (i n17))))))) n6 n0),(dz (oq n28 (.bin .xor t23 t27)) n7 n0),(dz (oq n29 (.nilchk t21)) n8 n0),⟨⟨none,none,.store n1 t29 t28⟩,n9,n0,[],[n8,n7,n0,n1,n2,n3,n4,n5,n6],true,false⟩])
 (.seq (.ops [(om n30 n0),(oq n31 (.nilchk t30)),(ol n32 n31),(om n2 n32)])
 .ret)))))
def x165:XFn:=⟨a165,n33,[(.t n2)],c165⟩
def a166:Ann:=⟨[(n1,n8,n2)],[]⟩
def c166:ICode:=
 (.seq (.ops [(oq n8 (.mv k0))])
 (.seq (.ops [(om n9 n0),(om n10 n1),(oq n11 (.bin .sub t10 k1)),(om n12 n1),(om n13 n1),(oq n14 (.bin .add t13 k1)),(om n15 n2),(om n16 n3),(oq n17 (.call (.c (.fn n167 [] [])) [t9,t11,t12,t14,t15,t16] .raw)),(om n8 n17)])
 .ret))
def x166:XFn:=⟨a166,n18,[(.t n8)],c166⟩
def a167:Ann:=⟨[(n1,n5,n2),(n2,n5,n2),(n3,n5,n2)],[]⟩
def c167:ICode:=
 (.seq (.ops [(oq n12 (.mv k0))])
 (.seq (.ops [(om n14 n0),(om n15 n1),(om n16 n2),(om n17 n4),(om n18 n5),(oq n19 (.call (.c (.fn n184 [] [])) [t14,t15,t16,t17,t18] .raw)),(om n13 n19),(oq n20 (.extract t13 n0)),(oq n21 (.extract t13 n1)),(om n1 n20),(om n2 n21)])
 (.seq (.ops [(om n23 n0),(om n24 n2),(om n25 n3),(om n26 n4),(om n27 n5),(oq n28 (.call (.c (.fn n184 [] [])) [t23,t24,t25,t26,t27] .raw)),(om n22 n28),(oq n29 (.extract t22 n0)),(oq n30 (.extract t22 n1)),(om n2 n29),(om n3 n30)])
 (.seq (.ops [(om n32 n0),(om n33 n1),(om n34 n2),(om n35 n4),(om n36 n5),(oq n37 (.call (.c (.fn n184 [] [])) [t32,t33,t34,t35,t36] .raw)),(om n31 n37),(oq n38 (.extract t31 n0)),(oq n39 (.extract t31 n1)),(om n1 n38),(om n2 n39)])
 (.seq (.ops [(om n40 n2),(om n12 n40)])
 .ret)))))
def x167:XFn:=⟨a167,n41,[(.t n12)],c167⟩
def a168:Ann:=⟨[(n3,n6,n2)],[]⟩
def c168:ICode:=
 (.seq (.ops [(ol n4 n1),(oq n5 (.len t4)),(oq n6 (.bin .sub t5 k1)),(om n3 n6)])
 (.block n0 (.loop (.seq (.seq (.ops [(om n7 n3),(oq n8 (.bin .geq t7 k0))])
 (.cond t8 .skip
 (.exit n0)))
 (.seq (.block n1 (.seq (.ops [(om n11 n0),(om n12 n3),(ol n13 n1),(om n14 n3),(oq n15 (.iaddr n1 t13 t14)),(ol n16 n15),(oq n17 (.call t11 [t12,t16] .raw)),(oq n18 (.un .not t17))])
 (.cond t18 .ret
 .skip)))
 (.ops [(om n9 n3),(oq n10 (.bin .sub t9 k1)),(om n3 n10)]))))))
def x168:XFn:=⟨a168,n19,[],c168⟩
def a169:Ann:=⟨[(n1,n2,n2)],[]⟩
def c169:ICode:=
 (.seq (.ops [(oq n4 (.mv (.c (.d (.bool false)))))])
 (.seq (.ops [(om n5 n0),(om n6 n1),(oq n7 (.call (.c (.fn n185 [] [])) [t5,t6] .raw)),(oq n8 (.bin .geq t7 k0)),(om n4 n8)])
 .ret))
def x169:XFn:=⟨a169,n9,[(.t n4)],c169⟩
def a170:Ann:=⟨[(n1,n2,n2)],[]⟩
def c170:ICode:=
 (.seq (.ops [(oq n2 (.box t0)),(oq n3 (.mv (.c (.d (.bool false)))))])
 (.seq (.ops [(ol n4 n1),(oq n5 (.load (some n2) t2)),(oq n6 (.call t4 [t5] .raw)),(oq n7 (.un .not t6)),(om n3 n7)])
 .ret))
def x170:XFn:=⟨a170,n8,[(.t n3)],c170⟩
def a171:Ann:=⟨[],[]⟩
def c171:ICode:=
 (.seq (.ops [(oq n2 (.mv k0))])
 (.seq (.ops [(om n3 n0),(oq n4 (.bin .sub (.c (.d (.int .i64 (.l (.negSucc n0))))) t3)),(om n2 n4)])
 .ret))
def x171:XFn:=⟨a171,n5,[(.t n2)],c171⟩
def a172:Ann:=⟨[(n1,n2,n2)],[]⟩
def c172:ICode:=
 (.seq (.ops [(oq n3 (.box t1)),(oq n4 (.mv (.c (.d (.bool false)))))])
 (.seq (.ops [(om n5 n0),(oq n6 (.mkfn n186 [] [t3])),(oq n7 (.call (.c (.fn n143 [] [])) [t5,t6] .raw)),(oq n8 (.un .not t7)),(om n4 n8)])
 .ret))
def x172:XFn:=⟨a172,n9,[(.t n4)],c172⟩
def a173:Ann:=⟨[],[]⟩
def c173:ICode:=
 (.seq (.ops [(oq n3 (.mv (.c (.d (.bool false)))))])
 (.seq (.ops [(om n4 n0),(ol n5 n1),(oq n6 (.iaddr n1 t5 k0)),(ol n7 n6),(oq n8 (.bin .eql t4 t7)),(om n3 n8)])
 .ret))
def x173:XFn:=⟨a173,n9,[(.t n3)],c173⟩
def a174:Ann:=⟨[(n0,n3,n2),(n1,n3,n2),(n2,n1,n2)],[]⟩
def c174:ICode:=
 (.seq (.ops [(om n4 n0),(om n5 n1),(oq n6 (.slice n1 t4 none (some t5) none)),(oq n7 (.call (.c (.fn n187 [] [])) [t6] .raw))])
 (.seq (.ops [(om n8 n0),(om n9 n1),(oq n10 (.slice n1 t8 (some t9) none none)),(oq n11 (.call (.c (.fn n187 [] [])) [t10] .raw))])
 (.ops [(om n12 n0),(oq n13 (.call (.c (.fn n187 [] [])) [t12] .raw))])))
def x174:XFn:=⟨a174,n14,[],c174⟩
def a175:Ann:=⟨[(n4,n5,n2)],[]⟩
def c175:ICode:=
 (.seq (.ops [(oq n4 (.mv k0))])
 (.seq (.seq (.ops [(om n6 n0),(oq n7 (.len t6)),(oq n8 (.mv k0))])
 (.block n0 (.loop (.seq (.ops [(oq n9 (.bin .lss t8 t7))])
 (.seq (.cond t9 .skip
 (.exit n0))
 (.seq (.block n1 (.seq (.ops [(om n10 n8),(om n5 n10)])
 (.seq (.ops [(om n11 n1),(om n12 n0),(om n13 n5),(oq n14 (.iaddr n1 t12 t13)),(ol n15 n14),(oq n16 (.call t11 [t15] .raw))])
 (.cond t16 (.seq (.ops [(om n17 n5),(om n4 n17)])
 .ret)
 .skip))))
 (.ops [(oq n18 (.bin .add t8 k1)),(om n8 n18)])))))))
 (.seq (.ops [(oq n4 (.mv (.c (.d (.int .i64 (.l (.negSucc n0)))))))])
 .ret)))
def x175:XFn:=⟨a175,n19,[(.t n4)],c175⟩
def a176:Ann:=⟨[],[]⟩
def c176:ICode:=
 (.seq (.ops [(oq n4 (.mv (.c (.d (.bool false)))))])
 (.seq (.ops [(om n5 n0),(ol n6 n1),(oq n7 (.bin .lss t5 t6)),(om n8 n7),(og n9 n8 false (.mv t0)),(og n10 n8 false (.load none t2)),(og n11 n8 false (.bin .gtr t9 t10)),(oq n12 (.pick t8 (.c (.d (.bool true))) t11)),(om n4 n12)])
 .ret))
def x176:XFn:=⟨a176,n13,[(.t n4)],c176⟩
def a177:Ann:=⟨[(n4,n3,n2),(n6,n3,n2),(n8,n3,n2),(n10,n3,n2),(n12,n3,n2),(n16,n3,n2),(n17,n12,n0),(n18,n4,n2),(n20,n4,n2),(n26,n4,n2),(n29,n5,n2)],[]⟩
def c177:ICode:=
 (.seq (.ops [(oq n8 (.mv (.c (.d (.bool true)))))])
 (.seq (.ops [(oq n9 (.mv (.c (.d (.bool true)))))])
 (.block n0 (.loop (.block n1 (.seq (.ops [(om n19 n2),(om n20 n1),(oq n21 (.bin .sub t19 t20)),(om n10 n21)])
 (.seq (.seq (.ops [(om n22 n10),(oq n23 (.bin .leq t22 k12))])
 (.cond t23 (.seq (.ops [(om n24 n0),(om n25 n1),(om n26 n2),(oq n27 (.call (.c (.fn n188 [] [])) [t24,t25,t26] .raw))])
 .ret)
 .skip))
 (.seq (.seq (.ops [(om n28 n3),(oq n29 (.bin .eql t28 k0))])
 (.cond t29 (.seq (.ops [(om n30 n0),(om n31 n1),(om n32 n2),(oq n33 (.call (.c (.fn n189 [] [])) [t30,t31,t32] .raw))])
 .ret)
 .skip))
 (.seq (.seq (.ops [(om n34 n8),(oq n35 (.un .not t34))])
 (.cond t35 (.seq (.ops [(om n36 n0),(om n37 n1),(om n38 n2),(oq n39 (.call (.c (.fn n190 [] [])) [t36,t37,t38] .raw))])
 (.ops [(om n40 n3),(oq n41 (.bin .sub t40 k1)),(om n3 n41)]))
 .skip))
 (.seq (.ops [(om n43 n0),(om n44 n1),(om n45 n2),(oq n46 (.call (.c (.fn n191 [] [])) [t43,t44,t45] .raw)),(om n42 n46),(oq n47 (.extract t42 n0)),(oq n48 (.extract t42 n1)),(om n11 n47),(om n12 n48)])
 (.seq (.seq (.ops [(om n49 n12),(oq n50 (.bin .eql t49 k2))])
 (.cond t50 (.seq (.ops [(om n51 n0),(om n52 n1),(om n53 n2),(oq n54 (.call (.c (.fn n192 [] [])) [t51,t52,t53] .raw))])
 (.seq (.ops [(om n55 n2),(oq n56 (.bin .sub t55 k1)),(om n57 n11),(om n58 n1),(oq n59 (.bin .sub t57 t58)),(oq n60 (.bin .sub t56 t59)),(om n11 n60)])
 (.ops [(oq n12 (.mv k1))])))
 .skip))
 (.seq (.seq (.ops [(om n61 n8),(om n62 n61),(og n63 n62 true (.mv t9)),(oq n64 (.pick t62 t63 (.c (.d (.bool false))))),(om n65 n64),(og n66 n65 true (.mv t12)),(og n67 n65 true (.bin .eql t66 k1)),(oq n68 (.pick t65 t67 (.c (.d (.bool false)))))])
 (.cond t68 (.seq (.ops [(om n69 n0),(om n70 n1),(om n71 n2),(oq n72 (.call (.c (.fn n193 [] [])) [t69,t70,t71] .raw))])
 (.cond t72 .ret
 .skip))
 .skip))
 (.seq (.seq (.draw n0 [(dz (om n73 n1) n0 n0),(dz (oq n74 (.bin .gtr t73 k0)) n1 n0),(dz (om n75 n74) n2 n0),(dz (og n76 n75 true (.mv t0)) n3 n0),(dz (og n77 n75 true (.mv t1)) n4 n0),(dz (og n78 n75 true (.bin .sub t77 k1)) n5 n0),(dz (og n79 n75 true (.iaddr n1 t76 t78)) n6 n0),(dz (og n81 n75 true (.mv t0)) n8 n0),(dz (og n82 n75 true (.mv t11)) n9 n0),(dz (og n83 n75 true (.iaddr n1 t81 t82)) n10 n0),(dz (og n80 n75 true (.load none t79)) n7 n0),(dz (og n84 n75 true (.load none t83)) n11 n0),(dq (og n85 n75 true (.call (.c (.fn n194 [] [])) [t80,t84] .borrow)) n12 n0 [] [n7,n11,n2,n6,n3,n5,n1,n0,n4,n10,n8,n9] true false),(dz (og n86 n75 true (.un .not t85)) n13 n0),(dz (oq n87 (.pick t75 t86 (.c (.d (.bool false))))) n14 n0)])
 (.cond t87 (.seq (.ops [(om n88 n0),(om n89 n1),(om n90 n2),(om n91 n11),(oq n92 (.call (.c (.fn n195 [] [])) [t88,t89,t90,t91] .raw)),(om n13 n92)])
 (.seq (.ops [(om n93 n13),(om n1 n93)])
 (.exit n1)))
 .skip))
 (.seq (.ops [(om n95 n0),(om n96 n1),(om n97 n2),(om n98 n11),(oq n99 (.call (.c (.fn n196 [] [])) [t95,t96,t97,t98] .raw)),(om n94 n99),(oq n100 (.extract t94 n0)),(oq n101 (.extract t94 n1)),(om n14 n100),(om n15 n101)])
 (.seq (.ops [(om n102 n15),(om n9 n102)])
 (.seq (.ops [(om n103 n14),(om n104 n1),(oq n105 (.bin .sub t103 t104)),(om n106 n2),(om n107 n14),(oq n108 (.bin .sub t106 t107)),(om n16 n105),(om n17 n108)])
 (.seq (.ops [(om n109 n10),(oq n110 (.bin .quo t109 k8)),(om n18 n110)])
 (.seq (.ops [(om n111 n16),(om n112 n17),(oq n113 (.bin .lss t111 t112))])
 (.cond t113 (.seq (.ops [(om n114 n16),(om n115 n18),(oq n116 (.bin .geq t114 t115)),(om n8 n116)])
 (.seq (.ops [(om n117 n0),(om n118 n1),(om n119 n14),(om n120 n3),(oq n121 (.call (.c (.fn n177 [] [])) [t117,t118,t119,t120] .raw))])
 (.ops [(om n122 n14),(oq n123 (.bin .add t122 k1)),(om n1 n123)])))
 (.seq (.ops [(om n124 n17),(om n125 n18),(oq n126 (.bin .geq t124 t125)),(om n8 n126)])
 (.seq (.ops [(om n127 n0),(om n128 n14),(oq n129 (.bin .add t128 k1)),(om n130 n2),(om n131 n3),(oq n132 (.call (.c (.fn n177 [] [])) [t127,t129,t130,t131] .raw))])
 (.ops [(om n133 n14),(om n2 n133)]))))))))))))))))))))))
def x177:XFn:=⟨a177,n134,[],c177⟩
def a178:Ann:=⟨[(n2,n8,n0),(n4,n3,n2)],[]⟩
def c178:ICode:=
 (.seq (.ops [(oq n2 (.box t0)),(oq n3 (.box t1)),(oq n4 (.mv (.c (.d (.bool false)))))])
 (.seq (.ops [(of n6 n2 n2),(of n7 n3 n6),(ol n8 n7),(ol n9 n3),(oq n10 (.iaddr n2 t8 t9)),(oq n11 (.load (some n2) t10)),(oq n5 (.alloc [(.int .i64 (.l (i n0))),.nil])),⟨none,none,.store n2 t5 t11⟩])
 (.seq (.seq (.draw n0 [(dq (of n12 n0 n2) n0 n0 [] [] false true),(dq (of n13 n0 n12) n1 n0 [] [] false true),(dz (of n17 n0 n5) n5 n0),(dq (ol n14 n13) n2 n0 [] [] false true),(dq (oq n15 (.len t14)) n3 n0 [] [] false true),(dq (oq n16 (.bin .sub t15 k1)) n4 n0 [] [] false true),(dz (ol n18 n17) n6 n0),(dq (oq n19 (.bslice n1 n1 [(.int .i64 (.l (i n0)))] [(n0,t18)] false)) n7 n0 [] [n6,n5] false false),(dq (oq n20 (.call (.c (.fn n149 [] [])) [k0,t16,t19] .borrow)) n8 n0 [] [n4,n7,n3,n2,n1,n0,n6,n5] true false),(dz (oq n21 (.un .not t20)) n9 n0),(dz (om n22 n21) n10 n0),(dz (og n23 n22 false (.faddr n1 t5)) n11 n0),(dz (og n26 n22 false (.faddr n0 t2)) n14 n0),(dz (og n27 n22 false (.faddr n0 t26)) n15 n0),(dz (og n29 n22 false (.faddr n0 t5)) n17 n0),(dz (og n24 n22 false (.load none t23)) n12 n0),(dz (og n25 n22 false (.len t24)) n13 n0),(dz (og n28 n22 false (.load none t27)) n16 n0),(dz (og n30 n22 false (.load none t29)) n18 n0),(dz (og n31 n22 false (.iaddr n1 t28 t30)) n19 n0),(dz (og n32 n22 false (.load none t31)) n20 n0),(dz (og n33 n22 false (.bin .neq t25 t32)) n21 n0),(dz (oq n34 (.pick t22 (.c (.d (.bool true))) t33)) n22 n0)])
 (.cond t34 (.seq (.ops [(oq n4 (.mv (.c (.d (.bool false)))))])
 .ret)
 .skip))
 (.seq (.ops [(of n35 n1 n5),(ol n36 n35),(oq n37 (.mkfn n197 [] [t2,t3,t5])),(oq n38 (.call (.c (.fn n172 [] [])) [t36,t37] .raw)),(om n4 n38)])
 .ret))))
def x178:XFn:=⟨a178,n39,[(.t n4)],c178⟩
def a179:Ann:=⟨[(n2,n1,n0),(n3,n13,n0)],[]⟩
def c179:ICode:=
 (.seq (.ops [(oq n4 (.box t0)),(oq n8 (.mv (.c (.d (.bool false)))))])
 (.seq (.seq (.ops [(om n9 n1),(oq n10 (.bin .lss t9 k0))])
 (.cond t10 (.seq (.draw n0 [(dz (om n11 n1) n0 n0),(dq (of n13 n2 n4) n2 n0 [] [] false true),(dq (of n14 n2 n13) n3 n0 [] [] false true),(dq (ol n15 n14) n4 n0 [] [] false true),(dq (oq n16 (.len t15)) n5 n0 [] [] false true),(dq (oq n12 (.call (.c (.fn n171 [] [])) [t11] .borrow)) n1 n0 [] [n0] false false),(dz (oq n17 (.bin .lss t12 t16)) n6 n0),(dz (om n8 n17) n7 n0)])
 .ret)
 .skip))
 (.seq (.draw n0 [(dz (om n18 n1) n0 n0),(dz (om n19 n2) n1 n0),(dz (oq n20 (.bin .lss t18 t19)) n2 n0),(dz (om n21 n20) n3 n0),(dz (og n22 n21 true (.faddr n0 t4)) n4 n0),(dz (og n24 n21 true (.faddr n2 t4)) n6 n0),(dz (og n25 n21 true (.faddr n3 t24)) n7 n0),(dz (og n27 n21 true (.mv t1)) n9 n0),(dq (og n32 n21 true (.mv t3)) n14 n0 [] [] false true),(dz (og n23 n21 true (.load (some n2) t22)) n5 n0),(dz (og n26 n21 true (.load none t25)) n8 n0),(dz (og n28 n21 true (.iaddr n2 t26 t27)) n10 n0),(dz (og n29 n21 true (.faddr n0 t28)) n11 n0),(dz (og n30 n21 true (.load none t29)) n12 n0),(dq (og n31 n21 true (.call (.c (.fn n198 [] [])) [t23,t30] .borrow)) n13 n0 [] [n5,n12,n3,n4,n2,n0,n1,n11,n10,n8,n9,n7,n6] false false),(dz (og n33 n21 true (.bin .gtr t31 t32)) n15 n0),(dz (oq n34 (.pick t21 t33 (.c (.d (.bool false))))) n16 n0),(dz (om n8 n34) n17 n0)])
 .ret)))
def x179:XFn:=⟨a179,n35,[(.t n8)],c179⟩
def a180:Ann:=⟨[(n1,n10,n0)],[]⟩
def c180:ICode:=
 (.seq (.ops [(oq n2 (.box t0)),(oq n3 (.box t1)),(oq n4 (.mv (.c (.d (.bool false)))))])
 (.seq (.ops [(of n5 n0 n2),(ol n6 n5),(of n7 n0 n3),(ol n8 n7),(oq n9 (.bin .eql t6 t8)),(om n10 n9),(og n11 n10 true (.faddr n1 t2)),(og n12 n10 true (.load none t11)),(og n13 n10 true (.faddr n1 t3)),(og n14 n10 true (.load none t13)),(og n15 n10 true (.call (.c (.fn n122 [] [])) [t12,t14] .borrow)),(oq n16 (.pick t10 t15 (.c (.d (.bool false))))),(om n4 n16)])
 .ret))
def x180:XFn:=⟨a180,n17,[(.t n4)],c180⟩
def a181:Ann:=⟨[],[]⟩
def c181:ICode:=
 (.seq (.ops [(oq n4 (.mv (.c (.d (.bool false)))))])
 (.seq (.seq (.ops [(om n6 n0),(oq n7 (.len t6)),(om n8 n1),(oq n9 (.len t8)),(oq n10 (.bin .neq t7 t9))])
 (.cond t10 (.seq (.ops [(oq n4 (.mv (.c (.d (.bool false)))))])
 .ret)
 .skip))
 (.seq (.seq (.ops [(om n11 n0),(oq n12 (.len t11)),(oq n13 (.mv k0))])
 (.block n0 (.loop (.seq (.ops [(oq n14 (.bin .lss t13 t12))])
 (.seq (.cond t14 .skip
 (.exit n0))
 (.seq (.block n1 (.seq (.ops [(om n15 n13),(om n5 n15)])
 (.seq (.draw n0 [(dz (om n16 n0) n0 n0),(dz (om n17 n5) n1 n0),(dz (oq n18 (.iaddr n2 t16 t17)) n2 n0),(dz (om n20 n1) n4 n0),(dz (om n21 n5) n5 n0),(dz (oq n22 (.iaddr n2 t20 t21)) n6 n0),(dz (oq n19 (.load (some n2) t18)) n3 n0),(dz (oq n23 (.load (some n2) t22)) n7 n0),(dz (oq n24 (.aeq true [.u8,.i64] t19 t23)) n8 n0)])
 (.cond t24 (.seq (.ops [(oq n4 (.mv (.c (.d (.bool false)))))])
 .ret)
 .skip))))
 (.ops [(oq n25 (.bin .add t13 k1)),(om n13 n25)])))))))
 (.seq (.ops [(oq n4 (.mv (.c (.d (.bool true)))))])
 .ret))))
def x181:XFn:=⟨a181,n26,[(.t n4)],c181⟩
def a182:Ann:=⟨[(n7,n3,n2)],[]⟩
def c182:ICode:=
 (.seq (.ops [(oq n6 (.mv (.c (.d (.bool false)))))])
 (.seq (.seq (.ops [(om n10 n0),(oq n11 (.len t10)),(om n12 n1),(oq n13 (.len t12)),(oq n14 (.bin .neq t11 t13))])
 (.cond t14 (.seq (.ops [(oq n6 (.mv (.c (.d (.bool false)))))])
 .ret)
 .skip))
 (.seq (.seq (.ops [(om n15 n0),(oq n16 (.len t15)),(oq n17 (.mv k0))])
 (.block n0 (.loop (.seq (.ops [(oq n18 (.bin .lss t17 t16))])
 (.seq (.cond t18 .skip
 (.exit n0))
 (.seq (.block n1 (.seq (.ops [(om n19 n17),(oq n20 (.iaddr n2 t15 t17)),(oq n21 (.load (some n2) t20)),(oq n8 (.alloc [(.int .i64 (.l (i n0))),.nil])),(om n7 n19),⟨none,none,.store n2 t8 t21⟩])
 (.seq (.ops [(om n22 n1),(om n23 n7),(oq n24 (.iaddr n2 t22 t23)),(oq n25 (.load (some n2) t24)),(oq n9 (.alloc [(.int .i64 (.l (i n0))),.nil])),⟨none,none,.store n2 t9 t25⟩])
 (.seq (.ops [(om n26 n2),(oq n27 (.load (some n2) t8)),(oq n28 (.load (some n2) t9)),(oq n29 (.call t26 [t27,t28] .raw)),(oq n30 (.un .not t29))])
 (.cond t30 (.seq (.ops [(oq n6 (.mv (.c (.d (.bool false)))))])
 .ret)
 .skip)))))
 (.ops [(oq n31 (.bin .add t17 k1)),(om n17 n31)])))))))
 (.seq (.ops [(oq n6 (.mv (.c (.d (.bool true)))))])
 .ret))))
def x182:XFn:=⟨a182,n32,[(.t n6)],c182⟩
def a183:Ann:=⟨[(n2,n5,n0),(n2,n8,n2),(n11,n4,n2),(n13,n6,n2)],[]⟩
def c183:ICode:=
 (.seq (.ops [(oq n6 (.mv k0))])
 (.seq (.seq (.ops [(om n13 n0),(oq n14 (.bin .lss t13 k0))])
 (.cond t14 (.seq (.draw n0 [(dq (of n16 n2 n2) n1 n0 [] [] false true),(dq (of n17 n2 n16) n2 n0 [] [] false true),(dz (om n19 n0) n4 n0),(dq (ol n15 n1) n0 n0 [] [] false true),(dq (ol n18 n17) n3 n0 [] [] false true),(dq (oq n20 (.call (.c (.fn n171 [] [])) [t19] .borrow)) n5 n0 [] [n4] false false),(dz (oq n21 (.iaddr n2 t18 t20)) n6 n0),(dz (oq n22 (.load (some n2) t21)) n7 n0),(dq (oq n23 (.call (.c (.fn n138 [] [])) [t15,t22] .raw)) n8 n0 [] [n0,n7,n5,n6,n3,n2,n1,n4] true false),(dz (om n6 n23) n9 n0)])
 .ret)
 .skip))
 (.seq (.seq (.ops [(ol n25 n3),(om n26 n0),(oq n27 (.lookup false [.i64] true t25 t26)),(om n24 n27),(oq n28 (.extract t24 n0)),(oq n29 (.extract t24 n1)),(om n7 n28),(om n8 n29)])
 (.seq (.ops [(om n30 n8)])
 (.cond t30 (.seq (.ops [(om n31 n7),(om n6 n31)])
 .ret)
 .skip)))
 (.seq (.ops [(of n32 n2 n2),(of n33 n3 n32),(ol n34 n33),(om n35 n0),(oq n36 (.iaddr n2 t34 t35)),(oq n37 (.load (some n2) t36)),(oq n9 (.alloc [(.int .i64 (.l (i n0))),.nil])),⟨none,none,.store n2 t9 t37⟩])
 (.seq (.ops [(of n38 n1 n9),(ol n39 n38),(oq n40 (.len t39)),(oq n41 (.mkslice n1 [(.int .i64 (.l (i n0)))] n8 t40)),(om n10 n41)])
 (.seq (.seq (.ops [(of n42 n1 n9),(ol n43 n42),(oq n44 (.len t43)),(oq n45 (.mv k0))])
 (.block n0 (.loop (.seq (.ops [(oq n46 (.bin .lss t45 t44))])
 (.seq (.cond t46 .skip
 (.exit n0))
 (.seq (.block n1 (.seq (.ops [(om n47 n45),(oq n48 (.iaddr n1 t43 t45)),(ol n49 n48),(om n11 n47),(om n12 n49)])
 (.ops [(om n50 n10),(om n51 n11),(ol n52 n4),(om n53 n12),(oq n54 (.call t52 [t53] .raw)),(oq n55 (.iaddr n1 t50 t51)),⟨none,none,.store n1 t55 t54⟩])))
 (.ops [(oq n56 (.bin .add t45 k1)),(om n45 n56)])))))))
 (.seq (.draw n0 [(dq (om n58 n0) n1 n0 [] [] false true),(dz (of n60 n0 n9) n3 n0),(dz (om n62 n10) n5 n0),(dq (ol n57 n3) n0 n0 [] [] false true),(dz (ol n59 n1) n2 n0),(dz (ol n61 n60) n4 n0),(dq (oq n63 (.call (.c (.fn n139 [] [])) [t59,t61,t62] .raw)) n6 n0 [] [n2,n4,n5,n3] false false),⟨⟨none,none,.mapupd false [.i64] t57 t58 t63⟩,n7,n0,[],[n0,n1,n6,n2,n3,n4,n5],true,false⟩])
 (.seq (.ops [(ol n64 n3),(om n65 n0),(oq n66 (.lookup false [.i64] false t64 t65)),(om n6 n66)])
 .ret))))))))
def x183:XFn:=⟨a183,n67,[(.t n6)],c183⟩
def a184:Ann:=⟨[(n1,n9,n2)],[]⟩
def c184:ICode:=
 (.seq (.ops [(oq n10 (.mv k0)),(oq n11 (.mv k0))])
 (.seq (.seq (.draw n0 [(dz (om n12 n4) n0 n0),(dz (om n13 n0) n1 n0),(dz (om n14 n2) n2 n0),(dz (oq n15 (.iaddr n2 t13 t14)) n3 n0),(dz (om n17 n0) n5 n0),(dz (om n18 n1) n6 n0),(dz (oq n19 (.iaddr n2 t17 t18)) n7 n0),(dz (oq n16 (.load (some n2) t15)) n4 n0),(dz (oq n20 (.load (some n2) t19)) n8 n0),(dq (oq n21 (.call t12 [t16,t20] .raw)) n9 n0 [] [n0,n4,n8,n3,n1,n2,n7,n5,n6] true false),(dz (oq n22 (.bin .lss t21 k0)) n10 n0)])
 (.cond t22 (.seq (.ops [(om n23 n3),(oq n24 (.nilchk t23)),(ol n25 n24),(oq n26 (.bin .add t25 k1)),(oq n27 (.nilchk t23)),⟨none,none,.store n1 t27 t26⟩])
 (.seq (.ops [(om n28 n2),(om n29 n1),(om n10 n28),(om n11 n29)])
 .ret))
 .skip))
 (.seq (.ops [(om n30 n1),(om n31 n2),(om n10 n30),(om n11 n31)])
 .ret)))
def x184:XFn:=⟨a184,n32,[(.t n10),(.t n11)],c184⟩
def a185:Ann:=⟨[(n4,n5,n2)],[]⟩
def c185:ICode:=
 (.seq (.ops [(oq n4 (.mv k0))])
 (.seq (.seq (.ops [(om n6 n0),(oq n7 (.len t6)),(oq n8 (.mv k0))])
 (.block n0 (.loop (.seq (.ops [(oq n9 (.bin .lss t8 t7))])
 (.seq (.cond t9 .skip
 (.exit n0))
 (.seq (.block n1 (.seq (.ops [(om n10 n8),(om n5 n10)])
 (.seq (.ops [(om n11 n1),(om n12 n0),(om n13 n5),(oq n14 (.iaddr n2 t12 t13)),(oq n15 (.load (some n2) t14)),(oq n16 (.call t11 [t15] .raw))])
 (.cond t16 (.seq (.ops [(om n17 n5),(om n4 n17)])
 .ret)
 .skip))))
 (.ops [(oq n18 (.bin .add t8 k1)),(om n8 n18)])))))))
 (.seq (.ops [(oq n4 (.mv (.c (.d (.int .i64 (.l (.negSucc n0)))))))])
 .ret)))
def x185:XFn:=⟨a185,n19,[(.t n4)],c185⟩
def a186:Ann:=⟨[(n1,n2,n2)],[]⟩
def c186:ICode:=
 (.seq (.ops [(oq n3 (.mv (.c (.d (.bool false)))))])
 (.seq (.ops [(ol n4 n1),(om n5 n0),(oq n6 (.call t4 [t5] .raw)),(oq n7 (.un .not t6)),(om n3 n7)])
 .ret))
def x186:XFn:=⟨a186,n8,[(.t n3)],c186⟩
def a187:Ann:=⟨[],[]⟩
def c187:ICode:=
 (.seq (.ops [(om n4 n0),(oq n5 (.len t4)),(oq n6 (.bin .sub t5 k1)),(oq n2 (.mv k0)),(om n3 n6)])
 (.block n0 (.loop (.seq (.seq (.ops [(om n7 n2),(om n8 n3),(oq n9 (.bin .lss t7 t8))])
 (.cond t9 .skip
 (.exit n0)))
 (.seq (.block n1 (.draw n0 [(dz (om n14 n0) n0 n0),(dz (om n15 n2) n1 n0),(dq (om n16 n0) n2 n0 [] [] false true),(dq (om n17 n3) n3 n0 [] [] false true),(dz (om n18 n0) n4 n0),(dz (om n19 n3) n5 n0),(dz (oq n20 (.iaddr n1 t18 t19)) n6 n0),(dz (om n22 n0) n8 n0),(dz (om n23 n2) n9 n0),(dz (oq n24 (.iaddr n1 t22 t23)) n10 n0),(dz (ol n21 n20) n7 n0),(dz (ol n25 n24) n11 n0),(dz (oq n26 (.iaddr n1 t14 t15)) n12 n0),⟨⟨none,none,.store n1 t26 t21⟩,n13,n0,[],[n12,n7,n0,n1,n4,n5,n6,n11,n10,n8,n9],false,false⟩,(dz (oq n27 (.iaddr n1 t16 t17)) n14 n0),⟨⟨none,none,.store n1 t27 t25⟩,n15,n0,[],[n14,n11,n13,n0,n1,n2,n3,n4,n5,n6,n7,n8,n9,n10,n12],true,false⟩]))
 (.ops [(om n10 n2),(oq n11 (.bin .add t10 k1)),(om n12 n3),(oq n13 (.bin .sub t12 k1)),(om n2 n11),(om n3 n13)]))))))
def x187:XFn:=⟨a187,n28,[],c187⟩
def a188:Ann:=⟨[(n4,n13,n0)],[]⟩
def c188:ICode:=
 (.seq (.ops [(om n8 n1),(oq n9 (.bin .add t8 k1)),(om n6 n9)])
 (.block n0 (.loop (.seq (.seq (.ops [(om n10 n6),(om n11 n2),(oq n12 (.bin .lss t10 t11))])
 (.cond t12 .skip
 (.exit n0)))
 (.seq (.block n1 (.seq (.ops [(om n15 n6),(om n7 n15)])
 (.block n2 (.loop (.seq (.seq (.draw n0 [(dz (om n16 n7) n0 n0),(dz (om n17 n1) n1 n0),(dz (oq n18 (.bin .gtr t16 t17)) n2 n0),(dz (om n19 n18) n3 n0),(dz (og n20 n19 true (.mv t0)) n4 n0),(dz (og n21 n19 true (.mv t7)) n5 n0),(dz (og n22 n19 true (.iaddr n1 t20 t21)) n6 n0),(dz (og n24 n19 true (.mv t0)) n8 n0),(dz (og n25 n19 true (.mv t7)) n9 n0),(dz (og n26 n19 true (.bin .sub t25 k1)) n10 n0),(dz (og n27 n19 true (.iaddr n1 t24 t26)) n11 n0),(dz (og n23 n19 true (.load none t22)) n7 n0),(dz (og n28 n19 true (.load none t27)) n12 n0),(dq (og n29 n19 true (.call (.c (.fn n194 [] [])) [t23,t28] .borrow)) n13 n0 [] [n7,n12,n3,n6,n4,n5,n2,n0,n1,n11,n8,n10,n9] true false),(dz (oq n30 (.pick t19 t29 (.c (.d (.bool false))))) n14 n0)])
 (.cond t30 .skip
 (.exit n2)))
 (.seq (.block n3 (.draw n0 [(dz (om n33 n0) n0 n0),(dz (om n34 n7) n1 n0),(dq (om n35 n0) n2 n0 [] [] false true),(dq (om n36 n7) n3 n0 [] [] false true),(dq (oq n37 (.bin .sub t36 k1)) n4 n0 [] [] false true),(dz (om n38 n0) n5 n0),(dz (om n39 n7) n6 n0),(dz (oq n40 (.bin .sub t39 k1)) n7 n0),(dz (oq n41 (.iaddr n1 t38 t40)) n8 n0),(dz (om n43 n0) n10 n0),(dz (om n44 n7) n11 n0),(dz (oq n45 (.iaddr n1 t43 t44)) n12 n0),(dz (ol n42 n41) n9 n0),(dz (ol n46 n45) n13 n0),(dz (oq n47 (.iaddr n1 t33 t34)) n14 n0),⟨⟨none,none,.store n1 t47 t42⟩,n15,n0,[],[n14,n9,n0,n1,n5,n6,n7,n8,n13,n12,n10,n11],false,false⟩,(dz (oq n48 (.iaddr n1 t35 t37)) n16 n0),⟨⟨none,none,.store n1 t48 t46⟩,n17,n0,[],[n16,n13,n15,n0,n1,n2,n3,n4,n5,n6,n7,n8,n9,n10,n11,n12,n14],true,false⟩]))
 (.ops [(om n31 n7),(oq n32 (.bin .sub t31 k1)),(om n7 n32)])))))))
 (.ops [(om n13 n6),(oq n14 (.bin .add t13 k1)),(om n6 n14)]))))))
def x188:XFn:=⟨a188,n49,[],c188⟩
def a189:Ann:=⟨[(n6,n4,n2),(n11,n4,n2)],[]⟩
def c189:ICode:=
 (.seq (.ops [(om n11 n1),(om n6 n11)])
 (.seq (.ops [(oq n7 (.mv k0))])
 (.seq (.ops [(om n12 n2),(om n13 n1),(oq n14 (.bin .sub t12 t13)),(om n8 n14)])
 (.seq (.seq (.ops [(om n15 n8),(oq n16 (.bin .sub t15 k1)),(oq n17 (.bin .quo t16 k2)),(om n9 n17)])
 (.block n0 (.loop (.seq (.seq (.ops [(om n18 n9),(oq n19 (.bin .geq t18 k0))])
 (.cond t19 .skip
 (.exit n0)))
 (.seq (.block n1 (.ops [(om n22 n0),(om n23 n9),(om n24 n8),(om n25 n6),(oq n26 (.call (.c (.fn n199 [] [])) [t22,t23,t24,t25] .raw))]))
 (.ops [(om n20 n9),(oq n21 (.bin .sub t20 k1)),(om n9 n21)]))))))
 (.seq (.ops [(om n27 n8),(oq n28 (.bin .sub t27 k1)),(om n10 n28)])
 (.block n2 (.loop (.seq (.seq (.ops [(om n29 n10),(oq n30 (.bin .geq t29 k0))])
 (.cond t30 .skip
 (.exit n2)))
 (.seq (.block n3 (.seq (.draw n0 [(dz (om n33 n0) n0 n0),(dz (om n34 n6) n1 n0),(dq (om n35 n0) n2 n0 [] [] false true),(dq (om n36 n6) n3 n0 [] [] false true),(dq (om n37 n10) n4 n0 [] [] false true),(dq (oq n38 (.bin .add t36 t37)) n5 n0 [] [] false true),(dz (om n39 n0) n6 n0),(dz (om n40 n6) n7 n0),(dz (om n41 n10) n8 n0),(dz (oq n42 (.bin .add t40 t41)) n9 n0),(dz (oq n43 (.iaddr n1 t39 t42)) n10 n0),(dz (om n45 n0) n12 n0),(dz (om n46 n6) n13 n0),(dz (oq n47 (.iaddr n1 t45 t46)) n14 n0),(dz (ol n44 n43) n11 n0),(dz (ol n48 n47) n15 n0),(dz (oq n49 (.iaddr n1 t33 t34)) n16 n0),⟨⟨none,none,.store n1 t49 t44⟩,n17,n0,[],[n16,n11,n0,n1,n6,n7,n8,n9,n10,n15,n14,n12,n13],false,false⟩,(dz (oq n50 (.iaddr n1 t35 t38)) n18 n0),⟨⟨none,none,.store n1 t50 t48⟩,n19,n0,[],[n18,n15,n17,n0,n1,n2,n3,n4,n5,n6,n7,n8,n9,n10,n11,n12,n13,n14,n16],true,false⟩])
 (.ops [(om n51 n0),(om n52 n7),(om n53 n10),(om n54 n6),(oq n55 (.call (.c (.fn n199 [] [])) [t51,t52,t53,t54] .raw))])))
 (.ops [(om n31 n10),(oq n32 (.bin .sub t31 k1)),(om n10 n32)]))))))))))
def x189:XFn:=⟨a189,n56,[],c189⟩
def a190:Ann:=⟨[(n3,n1,n0),(n7,n0,n0)],[]⟩
def c190:ICode:=
 (.seq (.ops [(om n11 n2),(om n12 n1),(oq n13 (.bin .sub t11 t12)),(om n6 n13)])
 (.seq (.ops [(om n14 n6),(oq n15 (.bin .geq t14 k8))])
 (.cond t15 (.seq (.ops [(om n16 n6),(oq n17 (.conv .u64 t16)),(oq n7 (.alloc [(.int .u64 (.l (i n0)))])),⟨none,none,.store n1 t7 t17⟩])
 (.seq (.ops [(om n18 n6),(oq n19 (.call (.c (.fn n164 [] [])) [t18] .borrow)),(om n8 n19)])
 (.seq (.ops [(om n20 n1),(om n21 n6),(oq n22 (.bin .quo t21 k4)),(oq n23 (.bin .mul t22 k2)),(oq n24 (.bin .add t20 t23)),(oq n25 (.bin .sub t24 k1)),(om n9 n25)])
 (.block n0 (.loop (.seq (.seq (.ops [(om n26 n9),(om n27 n1),(om n28 n6),(oq n29 (.bin .quo t28 k4)),(oq n30 (.bin .mul t29 k2)),(oq n31 (.bin .add t27 t30)),(oq n32 (.bin .add t31 k1)),(oq n33 (.bin .leq t26 t32))])
 (.cond t33 .skip
 (.exit n0)))
 (.seq (.block n1 (.seq (.ops [(oq n36 (.call (.c (.fn n165 [] [])) [t7] .borrow)),(om n37 n8),(oq n38 (.bin .sub t37 (.c (.d (.int .u64 (.l (i n1))))))),(oq n39 (.bin .and t36 t38)),(oq n40 (.conv .i64 t39)),(om n10 n40)])
 (.seq (.seq (.ops [(om n41 n10),(om n42 n6),(oq n43 (.bin .geq t41 t42))])
 (.cond t43 (.ops [(om n44 n10),(om n45 n6),(oq n46 (.bin .sub t44 t45)),(om n10 n46)])
 .skip))
 (.draw n0 [(dz (om n47 n0) n0 n0),(dz (om n48 n9) n1 n0),(dq (om n49 n0) n2 n0 [] [] false true),(dq (om n50 n1) n3 n0 [] [] false true),(dq (om n51 n10) n4 n0 [] [] false true),(dq (oq n52 (.bin .add t50 t51)) n5 n0 [] [] false true),(dz (om n53 n0) n6 n0),(dz (om n54 n1) n7 n0),(dz (om n55 n10) n8 n0),(dz (oq n56 (.bin .add t54 t55)) n9 n0),(dz (oq n57 (.iaddr n1 t53 t56)) n10 n0),(dz (om n59 n0) n12 n0),(dz (om n60 n9) n13 n0),(dz (oq n61 (.iaddr n1 t59 t60)) n14 n0),(dz (ol n58 n57) n11 n0),(dz (ol n62 n61) n15 n0),(dz (oq n63 (.iaddr n1 t47 t48)) n16 n0),⟨⟨none,none,.store n1 t63 t58⟩,n17,n0,[],[n16,n11,n0,n1,n6,n7,n8,n9,n10,n15,n14,n12,n13],false,false⟩,(dz (oq n64 (.iaddr n1 t49 t52)) n18 n0),⟨⟨none,none,.store n1 t64 t62⟩,n19,n0,[],[n18,n15,n17,n0,n1,n2,n3,n4,n5,n6,n7,n8,n9,n10,n11,n12,n13,n14,n16],true,false⟩]))))
 (.ops [(om n34 n9),(oq n35 (.bin .add t34 k1)),(om n9 n35)]))))))))
 .skip)))
def x190:XFn:=⟨a190,n65,[],c190⟩
end
end Go.Proofs.Tryz.Run
