/- The functions of the table, and the table. Conditions: none. -/
import Derived.Test.YtbglklaocjifhaaGreatMk
namespace Go.Proofs.Tryz.Run
open Go Go.Vf
noncomputable section
def n0 : Nat := nat_lit 0
def n1 : Nat := nat_lit 1
def n2 : Nat := nat_lit 2
def n3 : Nat := nat_lit 3
def n4 : Nat := nat_lit 4
def n5 : Nat := nat_lit 5
def n6 : Nat := nat_lit 6
def n7 : Nat := nat_lit 7
def n8 : Nat := nat_lit 8
def n9 : Nat := nat_lit 9
def n10 : Nat := nat_lit 10
def n11 : Nat := nat_lit 11
def n12 : Nat := nat_lit 12
def n13 : Nat := nat_lit 13
def n14 : Nat := nat_lit 14
def n15 : Nat := nat_lit 15
def n16 : Nat := nat_lit 16
def n17 : Nat := nat_lit 17
def n18 : Nat := nat_lit 18
def n19 : Nat := nat_lit 19
def n20 : Nat := nat_lit 20
def n21 : Nat := nat_lit 21
def n22 : Nat := nat_lit 22
def n23 : Nat := nat_lit 23
def n24 : Nat := nat_lit 24
def n25 : Nat := nat_lit 25
def n26 : Nat := nat_lit 26
def n27 : Nat := nat_lit 27
def n28 : Nat := nat_lit 28
def n29 : Nat := nat_lit 29
def n30 : Nat := nat_lit 30
def n31 : Nat := nat_lit 31
def n32 : Nat := nat_lit 32
def n33 : Nat := nat_lit 33
def n34 : Nat := nat_lit 34
def n35 : Nat := nat_lit 35
def n36 : Nat := nat_lit 36
def n37 : Nat := nat_lit 37
def n38 : Nat := nat_lit 38
def n39 : Nat := nat_lit 39
def n40 : Nat := nat_lit 40
def n41 : Nat := nat_lit 41
def n42 : Nat := nat_lit 42
def n43 : Nat := nat_lit 43
def n44 : Nat := nat_lit 44
def n45 : Nat := nat_lit 45
def n46 : Nat := nat_lit 46
def n47 : Nat := nat_lit 47
def n48 : Nat := nat_lit 48
def n49 : Nat := nat_lit 49
def n50 : Nat := nat_lit 50
def n51 : Nat := nat_lit 51
def n52 : Nat := nat_lit 52
def n53 : Nat := nat_lit 53
def n54 : Nat := nat_lit 54
def n55 : Nat := nat_lit 55
def n56 : Nat := nat_lit 56
def n57 : Nat := nat_lit 57
def n58 : Nat := nat_lit 58
def n59 : Nat := nat_lit 59
def n60 : Nat := nat_lit 60
def n61 : Nat := nat_lit 61
def n62 : Nat := nat_lit 62
def n63 : Nat := nat_lit 63
def n64 : Nat := nat_lit 64
def n65 : Nat := nat_lit 65
def n66 : Nat := nat_lit 66
def n67 : Nat := nat_lit 67
def n68 : Nat := nat_lit 68
def n69 : Nat := nat_lit 69
def n70 : Nat := nat_lit 70
def n71 : Nat := nat_lit 71
def n72 : Nat := nat_lit 72
def n73 : Nat := nat_lit 73
def n74 : Nat := nat_lit 74
def n75 : Nat := nat_lit 75
def n76 : Nat := nat_lit 76
def n77 : Nat := nat_lit 77
def n78 : Nat := nat_lit 78
def n79 : Nat := nat_lit 79
def n80 : Nat := nat_lit 80
def n81 : Nat := nat_lit 81
def n82 : Nat := nat_lit 82
def n83 : Nat := nat_lit 83
def n84 : Nat := nat_lit 84
def n85 : Nat := nat_lit 85
def n86 : Nat := nat_lit 86
def n87 : Nat := nat_lit 87
def n88 : Nat := nat_lit 88
def n89 : Nat := nat_lit 89
def n90 : Nat := nat_lit 90
def n91 : Nat := nat_lit 91
def n92 : Nat := nat_lit 92
def n93 : Nat := nat_lit 93
def n94 : Nat := nat_lit 94
def n95 : Nat := nat_lit 95
def n96 : Nat := nat_lit 96
def n97 : Nat := nat_lit 97
def n98 : Nat := nat_lit 98
def n99 : Nat := nat_lit 99
def n100 : Nat := nat_lit 100
def n101 : Nat := nat_lit 101
def n102 : Nat := nat_lit 102
def n103 : Nat := nat_lit 103
def n104 : Nat := nat_lit 104
def n105 : Nat := nat_lit 105
def n106 : Nat := nat_lit 106
def n107 : Nat := nat_lit 107
def n108 : Nat := nat_lit 108
def n109 : Nat := nat_lit 109
def n110 : Nat := nat_lit 110
def n111 : Nat := nat_lit 111
def n112 : Nat := nat_lit 112
def n113 : Nat := nat_lit 113
def n114 : Nat := nat_lit 114
def n115 : Nat := nat_lit 115
def n116 : Nat := nat_lit 116
def n117 : Nat := nat_lit 117
def n118 : Nat := nat_lit 118
def n119 : Nat := nat_lit 119
def n120 : Nat := nat_lit 120
def n121 : Nat := nat_lit 121
def n122 : Nat := nat_lit 122
def n123 : Nat := nat_lit 123
def n124 : Nat := nat_lit 124
def n125 : Nat := nat_lit 125
def n126 : Nat := nat_lit 126
def n127 : Nat := nat_lit 127
def n128 : Nat := nat_lit 128
def n129 : Nat := nat_lit 129
def n130 : Nat := nat_lit 130
def n131 : Nat := nat_lit 131
def n132 : Nat := nat_lit 132
def n133 : Nat := nat_lit 133
def n134 : Nat := nat_lit 134
def n135 : Nat := nat_lit 135
def n136 : Nat := nat_lit 136
def n137 : Nat := nat_lit 137
def n138 : Nat := nat_lit 138
def n139 : Nat := nat_lit 139
def n140 : Nat := nat_lit 140
def n141 : Nat := nat_lit 141
def n142 : Nat := nat_lit 142
def n143 : Nat := nat_lit 143
def n144 : Nat := nat_lit 144
def n145 : Nat := nat_lit 145
def n146 : Nat := nat_lit 146
def n147 : Nat := nat_lit 147
def n148 : Nat := nat_lit 148
def n149 : Nat := nat_lit 149
def n150 : Nat := nat_lit 150
def n151 : Nat := nat_lit 151
def n152 : Nat := nat_lit 152
def n153 : Nat := nat_lit 153
def n154 : Nat := nat_lit 154
def n155 : Nat := nat_lit 155
def n156 : Nat := nat_lit 156
def n157 : Nat := nat_lit 157
def n158 : Nat := nat_lit 158
def n159 : Nat := nat_lit 159
def n160 : Nat := nat_lit 160
def n161 : Nat := nat_lit 161
def n162 : Nat := nat_lit 162
def n163 : Nat := nat_lit 163
def n164 : Nat := nat_lit 164
def n165 : Nat := nat_lit 165
def n166 : Nat := nat_lit 166
def n167 : Nat := nat_lit 167
def n168 : Nat := nat_lit 168
def n169 : Nat := nat_lit 169
def n170 : Nat := nat_lit 170
def n171 : Nat := nat_lit 171
def n172 : Nat := nat_lit 172
def n173 : Nat := nat_lit 173
def n174 : Nat := nat_lit 174
def n175 : Nat := nat_lit 175
def n176 : Nat := nat_lit 176
def n177 : Nat := nat_lit 177
def n178 : Nat := nat_lit 178
def n179 : Nat := nat_lit 179
def n180 : Nat := nat_lit 180
def n181 : Nat := nat_lit 181
def n182 : Nat := nat_lit 182
def n183 : Nat := nat_lit 183
def n184 : Nat := nat_lit 184
def n185 : Nat := nat_lit 185
def n186 : Nat := nat_lit 186
def n187 : Nat := nat_lit 187
def n188 : Nat := nat_lit 188
def n189 : Nat := nat_lit 189
def n190 : Nat := nat_lit 190
def n191 : Nat := nat_lit 191
def n192 : Nat := nat_lit 192
def n193 : Nat := nat_lit 193
def n194 : Nat := nat_lit 194
def n195 : Nat := nat_lit 195
def n196 : Nat := nat_lit 196
def n197 : Nat := nat_lit 197
def n198 : Nat := nat_lit 198
def n199 : Nat := nat_lit 199
def n200 : Nat := nat_lit 200
def n201 : Nat := nat_lit 201
def n202 : Nat := nat_lit 202
def n203 : Nat := nat_lit 203
def n204 : Nat := nat_lit 204
def n205 : Nat := nat_lit 205
def n206 : Nat := nat_lit 206
def n207 : Nat := nat_lit 207
def n208 : Nat := nat_lit 208
def n209 : Nat := nat_lit 209
def n210 : Nat := nat_lit 210
def n211 : Nat := nat_lit 211
def n212 : Nat := nat_lit 212
def n213 : Nat := nat_lit 213
def n214 : Nat := nat_lit 214
def n215 : Nat := nat_lit 215
def n216 : Nat := nat_lit 216
def n217 : Nat := nat_lit 217
def n218 : Nat := nat_lit 218
def n219 : Nat := nat_lit 219
def n220 : Nat := nat_lit 220
def n221 : Nat := nat_lit 221
def n222 : Nat := nat_lit 222
def n223 : Nat := nat_lit 223
def n224 : Nat := nat_lit 224
def n225 : Nat := nat_lit 225
def n226 : Nat := nat_lit 226
def n227 : Nat := nat_lit 227
def n228 : Nat := nat_lit 228
def n229 : Nat := nat_lit 229
def n230 : Nat := nat_lit 230
def n231 : Nat := nat_lit 231
def n232 : Nat := nat_lit 232
def n233 : Nat := nat_lit 233
def n234 : Nat := nat_lit 234
def n235 : Nat := nat_lit 235
def n236 : Nat := nat_lit 236
def n237 : Nat := nat_lit 237
def n238 : Nat := nat_lit 238
def n239 : Nat := nat_lit 239
def n240 : Nat := nat_lit 240
def n241 : Nat := nat_lit 241
def n242 : Nat := nat_lit 242
def n243 : Nat := nat_lit 243
def n244 : Nat := nat_lit 244
def n245 : Nat := nat_lit 245
def n246 : Nat := nat_lit 246
def n247 : Nat := nat_lit 247
def n248 : Nat := nat_lit 248
def n249 : Nat := nat_lit 249
def n250 : Nat := nat_lit 250
def n251 : Nat := nat_lit 251
def n252 : Nat := nat_lit 252
def n253 : Nat := nat_lit 253
def n254 : Nat := nat_lit 254
def n255 : Nat := nat_lit 255
def n256 : Nat := nat_lit 256
def n257 : Nat := nat_lit 257
def n258 : Nat := nat_lit 258
def n259 : Nat := nat_lit 259
def n260 : Nat := nat_lit 260
def n261 : Nat := nat_lit 261
def n262 : Nat := nat_lit 262
def n263 : Nat := nat_lit 263
def n264 : Nat := nat_lit 264
def n265 : Nat := nat_lit 265
def n266 : Nat := nat_lit 266
def n267 : Nat := nat_lit 267
def n268 : Nat := nat_lit 268
def n269 : Nat := nat_lit 269
def n270 : Nat := nat_lit 270
def n271 : Nat := nat_lit 271
def n272 : Nat := nat_lit 272
def n273 : Nat := nat_lit 273
def n274 : Nat := nat_lit 274
def n275 : Nat := nat_lit 275
def n276 : Nat := nat_lit 276
def n277 : Nat := nat_lit 277
def n278 : Nat := nat_lit 278
def n279 : Nat := nat_lit 279
def n280 : Nat := nat_lit 280
def n281 : Nat := nat_lit 281
def n282 : Nat := nat_lit 282
def n283 : Nat := nat_lit 283
def n284 : Nat := nat_lit 284
def n285 : Nat := nat_lit 285
def n286 : Nat := nat_lit 286
def n287 : Nat := nat_lit 287
def n288 : Nat := nat_lit 288
def n289 : Nat := nat_lit 289
def n290 : Nat := nat_lit 290
def n291 : Nat := nat_lit 291
def n292 : Nat := nat_lit 292
def n293 : Nat := nat_lit 293
def n294 : Nat := nat_lit 294
def n295 : Nat := nat_lit 295
def n296 : Nat := nat_lit 296
def n297 : Nat := nat_lit 297
def n298 : Nat := nat_lit 298
def n299 : Nat := nat_lit 299
def n300 : Nat := nat_lit 300
def n301 : Nat := nat_lit 301
def n302 : Nat := nat_lit 302
def n303 : Nat := nat_lit 303
def n304 : Nat := nat_lit 304
def n305 : Nat := nat_lit 305
def n306 : Nat := nat_lit 306
def n307 : Nat := nat_lit 307
def n308 : Nat := nat_lit 308
def n309 : Nat := nat_lit 309
def n310 : Nat := nat_lit 310
def n311 : Nat := nat_lit 311
def n312 : Nat := nat_lit 312
def n313 : Nat := nat_lit 313
def n314 : Nat := nat_lit 314
def n315 : Nat := nat_lit 315
def n316 : Nat := nat_lit 316
def n317 : Nat := nat_lit 317
def n318 : Nat := nat_lit 318
def n319 : Nat := nat_lit 319
def n320 : Nat := nat_lit 320
def n321 : Nat := nat_lit 321
def n322 : Nat := nat_lit 322
def n323 : Nat := nat_lit 323
def n324 : Nat := nat_lit 324
def n325 : Nat := nat_lit 325
def n326 : Nat := nat_lit 326
def n327 : Nat := nat_lit 327
def n328 : Nat := nat_lit 328
def n329 : Nat := nat_lit 329
def n330 : Nat := nat_lit 330
def n331 : Nat := nat_lit 331
def n332 : Nat := nat_lit 332
def n333 : Nat := nat_lit 333
def n334 : Nat := nat_lit 334
def n335 : Nat := nat_lit 335
def n336 : Nat := nat_lit 336
def n337 : Nat := nat_lit 337
def n338 : Nat := nat_lit 338
def n339 : Nat := nat_lit 339
def n340 : Nat := nat_lit 340
def n341 : Nat := nat_lit 341
def n342 : Nat := nat_lit 342
def n343 : Nat := nat_lit 343
def n344 : Nat := nat_lit 344
def n345 : Nat := nat_lit 345
def n346 : Nat := nat_lit 346
def n347 : Nat := nat_lit 347
def n348 : Nat := nat_lit 348
def n349 : Nat := nat_lit 349
def n350 : Nat := nat_lit 350
def n351 : Nat := nat_lit 351
def n352 : Nat := nat_lit 352
def n353 : Nat := nat_lit 353
def n354 : Nat := nat_lit 354
def n355 : Nat := nat_lit 355
def n356 : Nat := nat_lit 356
def n357 : Nat := nat_lit 357
def n358 : Nat := nat_lit 358
def n359 : Nat := nat_lit 359
def n360 : Nat := nat_lit 360
def n361 : Nat := nat_lit 361
def n362 : Nat := nat_lit 362
def n363 : Nat := nat_lit 363
def n364 : Nat := nat_lit 364
def n365 : Nat := nat_lit 365
def n366 : Nat := nat_lit 366
def n367 : Nat := nat_lit 367
def n368 : Nat := nat_lit 368
def n369 : Nat := nat_lit 369
def n370 : Nat := nat_lit 370
def n371 : Nat := nat_lit 371
def n372 : Nat := nat_lit 372
def n373 : Nat := nat_lit 373
def n374 : Nat := nat_lit 374
def n375 : Nat := nat_lit 375
def n376 : Nat := nat_lit 376
def n377 : Nat := nat_lit 377
def n378 : Nat := nat_lit 378
def n379 : Nat := nat_lit 379
def n380 : Nat := nat_lit 380
def n381 : Nat := nat_lit 381
def n382 : Nat := nat_lit 382
def n383 : Nat := nat_lit 383
def n384 : Nat := nat_lit 384
def n385 : Nat := nat_lit 385
def n386 : Nat := nat_lit 386
def n387 : Nat := nat_lit 387
def n388 : Nat := nat_lit 388
def n389 : Nat := nat_lit 389
def n390 : Nat := nat_lit 390
def n391 : Nat := nat_lit 391
def n392 : Nat := nat_lit 392
def n393 : Nat := nat_lit 393
def n394 : Nat := nat_lit 394
def n395 : Nat := nat_lit 395
def n396 : Nat := nat_lit 396
def n397 : Nat := nat_lit 397
def n398 : Nat := nat_lit 398
def n399 : Nat := nat_lit 399
def n400 : Nat := nat_lit 400
def n401 : Nat := nat_lit 401
def n402 : Nat := nat_lit 402
def n403 : Nat := nat_lit 403
def n404 : Nat := nat_lit 404
def n405 : Nat := nat_lit 405
def n406 : Nat := nat_lit 406
def n2000 : Nat := nat_lit 2000
def n6000 : Nat := nat_lit 6000
def n9998 : Nat := nat_lit 9998
def n9999 : Nat := nat_lit 9999
def n10000 : Nat := nat_lit 10000
def n65536 : Nat := nat_lit 65536
def n4294967296 : Nat := nat_lit 4294967296
def oq (d : Nat) (p : IOp) : IOper := ⟨some d, none, p⟩
def og (d g : Nat) (b : Bool) (p : IOp) : IOper := ⟨some d, some (g, b), p⟩
def om (d x : Nat) : IOper := ⟨some d, none, .mv (.t x)⟩
def ol (d x : Nat) : IOper := ⟨some d, none, .load none (.t x)⟩
def of (d n x : Nat) : IOper := ⟨some d, none, .faddr n (.t x)⟩
def dz (o : IOper) (i s : Nat) : DOper := ⟨o, i, s, [], [], false, false⟩
def dq (o : IOper) (i s : Nat) (a b : List Nat) (x y : Bool) : DOper := ⟨o, i, s, a, b, x, y⟩
def i (n : Nat) : Int := .ofNat n
def k (n : Nat) : IOpd := .c (.d (.int .i64 (.l (.ofNat n))))
def a15 : Ann := ⟨[(n1,n1,n1),(n1,n2,n1),(n1,n4,n1),(n1,n5,n1),(n1,n7,n1),(n1,n8,n1),(n3,n1,n1),(n4,n1,n1),(n5,n1,n1),(n6,n1,n1),(n7,n1,n1),(n8,n1,n1),(n9,n1,n1),(n10,n1,n1),(n11,n1,n1),(n11,n2,n2),(n11,n3,n1),(n12,n1,n0),(n13,n0,n1),(n13,n1,n0),(n14,n8,n1),(n14,n10,n1),(n14,n11,n0),(n14,n21,n0),(n14,n69,n0),(n14,n75,n0),(n14,n93,n0),(n17,n1,n1),(n18,n0,n2),(n18,n3,n3),(n18,n8,n2),(n18,n9,n3),(n20,n1,n1),(n21,n1,n1),(n22,n1,n1),(n23,n1,n1),(n24,n1,n1),(n25,n1,n2),(n25,n2,n1),(n25,n3,n2),(n25,n4,n1),(n26,n1,n2),(n26,n2,n1),(n26,n3,n2),(n26,n4,n1),(n27,n1,n1),(n27,n2,n2),(n27,n3,n1),(n28,n5,n1),(n28,n9,n1),(n28,n11,n1),(n28,n13,n1),(n32,n4,n1),(n32,n5,n0),(n34,n0,n1),(n39,n16,n0),(n39,n21,n0),(n39,n42,n1),(n39,n43,n0),(n39,n51,n1),(n39,n52,n0),(n39,n57,n1),(n39,n58,n0),(n39,n63,n1),(n39,n64,n0),(n39,n69,n1),(n39,n70,n0),(n39,n75,n1),(n39,n76,n0),(n39,n80,n0)],[]⟩
def c15 : ICode :=
 (.seq (.ops [(oq n0 (.mv (.c (.d (.bool false)))))])
 (.seq (.ops [(oq n35 (.bslice n1 n6 [(.int .i64 (.l (i n0)))] [(n0,(k n0)),(n1,(k n0)),(n2,(k n0)),(n3,(k n0)),(n4,(k n1)),(n5,(k n1))] false)),(oq n36 (.call (.c (.fn n64 [] [])) [(.t n35)] .share)),(oq n37 (.call (.c (.fn n63 [] [])) [(.t n36)] .share)),(oq n38 (.bslice n1 n6 [(.int .i64 (.l (i n0)))] [(n0,(k n0)),(n1,(k n0)),(n2,(k n0)),(n3,(k n0)),(n4,(k n0)),(n5,(k n1))] false)),(oq n39 (.call (.c (.fn n64 [] [])) [(.t n38)] .share)),(oq n40 (.call (.c (.fn n63 [] [])) [(.t n39)] .share)),(oq n41 (.bslice n1 n6 [(.int .i64 (.l (i n0)))] [(n0,(k n0)),(n1,(k n0)),(n2,(k n1)),(n3,(k n0)),(n4,(k n1)),(n5,(k n0))] false)),(oq n42 (.call (.c (.fn n64 [] [])) [(.t n41)] .share)),(oq n43 (.call (.c (.fn n63 [] [])) [(.t n42)] .share)),(oq n1 (.alloc [.nil,.nil,.nil,.nil,.nil,.nil,.nil,(.int .i64 (.l (i n0))),.nil,.nil,.nil,.nil,(.int .i64 (.l (i n0)))])),(oq n2 (.alloc [.nil,.nil,.nil,.nil,.nil,.nil,.nil,(.int .i64 (.l (i n0))),.nil,.nil,.nil,.nil,(.int .i64 (.l (i n0)))])),(oq n3 (.alloc [.nil,.nil,.nil,.nil,.nil,.nil,.nil,(.int .i64 (.l (i n0))),.nil,.nil,.nil,.nil,(.int .i64 (.l (i n0)))])),⟨none,none,.store n13 (.t n1) (.t n37)⟩,⟨none,none,.store n13 (.t n2) (.t n40)⟩,⟨none,none,.store n13 (.t n3) (.t n43)⟩])
 (.seq (.ops [(oq n44 (.load (some n13) (.t n1))),(oq n4 (.alloc [.nil,.nil,.nil,.nil,.nil,.nil,.nil,(.int .i64 (.l (i n0))),.nil,.nil,.nil,.nil,(.int .i64 (.l (i n0)))])),⟨none,none,.store n13 (.t n4) (.t n44)⟩])
 (.seq (.ops [(oq n45 (.bslice n1 n6 [(.int .i64 (.l (i n0)))] [(n0,(k n0)),(n1,(k n0)),(n2,(k n0)),(n3,(k n1)),(n4,(k n1)),(n5,(k n1))] false)),(oq n46 (.call (.c (.fn n64 [] [])) [(.t n45)] .share)),(of n47 n3 n4),⟨none,none,.store n5 (.t n47) (.t n46)⟩])
 (.seq (.ops [(oq n49 (.load (some n13) (.t n4))),(oq n50 (.call (.c (.fn n20 [] [])) [(.t n49)] .share)),(om n48 n50),(oq n51 (.extract (.t n48) n0)),(oq n52 (.extract (.t n48) n1)),(oq n53 (.extract (.t n48) n2)),(oq n5 (.alloc [(.int .i64 (.l (i n0))),.nil,.nil])),⟨none,none,.store n3 (.t n5) (.t n51)⟩,(om n6 n52),(om n7 n53)])
 (.seq (.ops [(oq n55 (.load (some n13) (.t n2))),(oq n56 (.call (.c (.fn n28 [] [])) [(.t n55)] .share)),(om n54 n56),(oq n57 (.extract (.t n54) n0)),(oq n58 (.extract (.t n54) n1)),(om n8 n57),(om n9 n58)])
 (.seq (.ops [(oq n60 (.load (some n13) (.t n3))),(oq n61 (.call (.c (.fn n20 [] [])) [(.t n60)] .share)),(om n59 n61),(oq n62 (.extract (.t n59) n0)),(oq n63 (.extract (.t n59) n1)),(oq n64 (.extract (.t n59) n2)),(oq n10 (.alloc [(.int .i64 (.l (i n0))),.nil,.nil])),⟨none,none,.store n3 (.t n10) (.t n62)⟩,(om n11 n63),(om n12 n64)])
 (.seq (.ops [(oq n66 (.load (some n13) (.t n1))),(oq n67 (.call (.c (.fn n58 [] [])) [(.t n66),(k n1)] .share)),(om n65 n67),(oq n68 (.extract (.t n65) n0)),(oq n69 (.extract (.t n65) n1)),(oq n70 (.extract (.t n65) n2)),(om n13 n68),(om n14 n69),(om n15 n70)])
 (.seq (.ops [(oq n71 (.load (some n13) (.t n3))),(oq n72 (.call (.c (.fn n30 [] [])) [(.t n71),(k n1)] .share)),(oq n16 (.alloc [.nil,.nil,.nil,.nil,.nil,.nil,.nil,(.int .i64 (.l (i n0))),.nil,.nil,.nil,.nil,(.int .i64 (.l (i n0)))])),⟨none,none,.store n13 (.t n16) (.t n72)⟩])
 (.seq (.ops [(oq n74 (.load (some n13) (.t n16))),(oq n75 (.call (.c (.fn n20 [] [])) [(.t n74)] .share)),(om n73 n75),(oq n76 (.extract (.t n73) n0)),(oq n77 (.extract (.t n73) n1)),(oq n78 (.extract (.t n73) n2)),(oq n17 (.alloc [(.int .i64 (.l (i n0))),.nil,.nil])),⟨none,none,.store n3 (.t n17) (.t n76)⟩,(om n18 n77),(om n19 n78)])
 (.seq (.ops [(oq n80 (.load (some n13) (.t n16))),(oq n81 (.call (.c (.fn n28 [] [])) [(.t n80)] .share)),(om n79 n81),(oq n82 (.extract (.t n79) n0)),(oq n83 (.extract (.t n79) n1)),(om n20 n82),(om n21 n83)])
 (.seq (.draw n0 [(dq (oq n87 (.bsliceP n1 n2 [(.int .i64 (.l (i n0)))] [(n0,(k n0)),(n1,(k n2))])) n2 n0 [] [] false true),(dq (oq n85 (.load (some n13) (.t n1))) n0 n0 [] [] false true),(dz (oq n86 (.call (.c (.fn n65 [] [])) [] .share)) n1 n0),(dq (oq n88 (.call (.c (.fn n38 [] [])) [(.t n85),(.t n86),(.t n87)] .share)) n3 n0 [] [n0,n1,n2] true false),(dz (om n84 n88) n4 n0),(dz (oq n89 (.extract (.t n84) n0)) n5 n0),(dz (oq n90 (.extract (.t n84) n1)) n6 n0),(dz (om n22 n89) n7 n0),(dz (om n23 n90) n8 n0)])
 (.seq (.ops [(oq n92 (.load (some n13) (.t n1))),(oq n93 (.call (.c (.fn n57 [] [])) [(.t n92)] .borrow)),(om n91 n93),(oq n94 (.extract (.t n91) n0)),(oq n95 (.extract (.t n91) n1)),(om n24 n94),(om n25 n95)])
 (.seq (.ops [(oq n97 (.call (.c (.fn n65 [] [])) [] .share)),(oq n98 (.call (.c (.fn n37 [] [])) [(.t n97)] .borrow)),(om n96 n98),(oq n99 (.extract (.t n96) n0)),(oq n100 (.extract (.t n96) n1)),(om n26 n99),(om n27 n100)])
 (.seq (.seq (.ops [(om n101 n7),(oq n102 (.bin .neq (.t n101) (k n0))),(om n103 n102),(og n104 n103 false (.mv (.t n6))),(og n105 n103 false (.bin .neq (.t n104) (k n1))),(oq n106 (.pick (.t n103) (.c (.d (.bool true))) (.t n105))),(om n107 n106),(og n108 n107 false (.load (some n3) (.t n5))),(og n109 n107 false (.call (.c (.fn n36 [] [])) [(.t n108)] .share)),(og n110 n107 false (.bslice n1 n3 [(.int .i64 (.l (i n0)))] [(n0,(k n0)),(n1,(k n1)),(n2,(k n2))] false)),(og n111 n107 false (.call (.c (.fn n66 [] [])) [(k n1),(.t n110)] .share)),(og n112 n107 false (.call (.c (.fn n25 [] [])) [(.t n109),(.t n111)] .borrow)),(og n113 n107 false (.un .not (.t n112))),(oq n114 (.pick (.t n107) (.c (.d (.bool true))) (.t n113))),(om n115 n114),(og n116 n115 false (.mv (.t n9))),(og n117 n115 false (.bin .neq (.t n116) (k n0))),(oq n118 (.pick (.t n115) (.c (.d (.bool true))) (.t n117))),(om n119 n118),(og n120 n119 false (.mv (.t n8))),(og n121 n119 false (.bslice n1 n3 [(.int .i64 (.l (i n0)))] [(n0,(k n0)),(n1,(k n0)),(n2,(k n1))] false)),(og n122 n119 false (.call (.c (.fn n33 [] [])) [(.t n120),(.t n121)] .borrow)),(og n123 n119 false (.un .not (.t n122))),(oq n124 (.pick (.t n119) (.c (.d (.bool true))) (.t n123))),(om n125 n124),(og n126 n125 false (.mv (.t n12))),(og n127 n125 false (.bin .neq (.t n126) (k n0))),(oq n128 (.pick (.t n125) (.c (.d (.bool true))) (.t n127))),(om n129 n128),(og n130 n129 false (.mv (.t n11))),(og n131 n129 false (.bin .neq (.t n130) (k n2))),(oq n132 (.pick (.t n129) (.c (.d (.bool true))) (.t n131))),(om n133 n132),(og n134 n133 false (.faddr n0 (.t n10))),(og n135 n133 false (.load none (.t n134))),(og n136 n133 false (.bin .neq (.t n135) (k n0))),(oq n137 (.pick (.t n133) (.c (.d (.bool true))) (.t n136))),(om n138 n137),(og n139 n138 false (.faddr n2 (.t n10))),(og n140 n138 false (.load none (.t n139))),(og n141 n138 false (.len (.t n140))),(og n142 n138 false (.bin .neq (.t n141) (k n2))),(oq n143 (.pick (.t n138) (.c (.d (.bool true))) (.t n142))),(om n144 n143),(og n145 n144 false (.faddr n2 (.t n10))),(og n146 n144 false (.load none (.t n145))),(og n147 n144 false (.iaddr n3 (.t n146) (k n0))),(og n148 n144 false (.faddr n0 (.t n147))),(og n149 n144 false (.load none (.t n148))),(og n150 n144 false (.bin .neq (.t n149) (k n1))),(oq n151 (.pick (.t n144) (.c (.d (.bool true))) (.t n150))),(om n152 n151),(og n153 n152 false (.faddr n2 (.t n10))),(og n154 n152 false (.load none (.t n153))),(og n155 n152 false (.iaddr n3 (.t n154) (k n1))),(og n156 n152 false (.faddr n0 (.t n155))),(og n157 n152 false (.load none (.t n156))),(og n158 n152 false (.bin .neq (.t n157) (k n1))),(oq n159 (.pick (.t n152) (.c (.d (.bool true))) (.t n158))),(om n160 n159),(og n161 n160 false (.mv (.t n15))),(og n162 n160 false (.bin .neq (.t n161) (k n0))),(oq n163 (.pick (.t n160) (.c (.d (.bool true))) (.t n162))),(om n164 n163),(og n165 n164 false (.mv (.t n13))),(og n166 n164 false (.build [(.int .u8 (.l (i n0))),(.int .i64 (.l (i n0)))] [])),(og n167 n164 false (.build [(.int .u8 (.l (i n0))),(.int .i64 (.l (i n0)))] [(n1,n1,(k n1))])),(og n168 n164 false (.build [(.int .u8 (.l (i n0))),(.int .i64 (.l (i n0)))] [(n1,n1,(k n2))])),(og n169 n164 false (.bslice n2 n3 [(.int .u8 (.l (i n0))),(.int .i64 (.l (i n0)))] [(n0,(.t n166)),(n1,(.t n167)),(n2,(.t n168))] false)),(og n170 n164 false (.call (.c (.fn n62 [] [])) [(.t n165),(.t n169)] .borrow)),(og n171 n164 false (.un .not (.t n170))),(oq n172 (.pick (.t n164) (.c (.d (.bool true))) (.t n171))),(om n173 n172),(og n174 n173 false (.mv (.t n14))),(og n175 n173 false (.bslice n1 n3 [(.int .i64 (.l (i n0)))] [(n0,(k n2)),(n1,(k n2)),(n2,(k n2))] false)),(og n176 n173 false (.call (.c (.fn n33 [] [])) [(.t n174),(.t n175)] .borrow)),(og n177 n173 false (.un .not (.t n176))),(oq n178 (.pick (.t n173) (.c (.d (.bool true))) (.t n177))),(om n179 n178),(og n180 n179 false (.mv (.t n19))),(og n181 n179 false (.bin .neq (.t n180) (k n7))),(oq n182 (.pick (.t n179) (.c (.d (.bool true))) (.t n181))),(om n183 n182),(og n184 n183 false (.mv (.t n21))),(og n185 n183 false (.bin .neq (.t n184) (k n7))),(oq n186 (.pick (.t n183) (.c (.d (.bool true))) (.t n185))),(om n187 n186),(og n188 n187 false (.mv (.t n23))),(og n189 n187 false (.bin .neq (.t n188) (k n0))),(oq n190 (.pick (.t n187) (.c (.d (.bool true))) (.t n189))),(om n191 n190),(og n192 n191 false (.mv (.t n22))),(og n193 n191 false (.bslice n1 n1 [(.int .i64 (.l (i n0)))] [(n0,(k n0))] false)),(og n194 n191 false (.call (.c (.fn n33 [] [])) [(.t n192),(.t n193)] .borrow)),(og n195 n191 false (.un .not (.t n194))),(oq n196 (.pick (.t n191) (.c (.d (.bool true))) (.t n195))),(om n197 n196),(og n198 n197 false (.mv (.t n25))),(og n199 n197 false (.bin .neq (.t n198) (k n0))),(oq n200 (.pick (.t n197) (.c (.d (.bool true))) (.t n199))),(om n201 n200),(og n202 n201 false (.mv (.t n24))),(oq n203 (.pick (.t n201) (.c (.d (.bool true))) (.t n202))),(om n204 n203),(og n205 n204 false (.mv (.t n27))),(og n206 n204 false (.bin .neq (.t n205) (k n0))),(oq n207 (.pick (.t n204) (.c (.d (.bool true))) (.t n206))),(om n208 n207),(og n209 n208 false (.mv (.t n26))),(og n210 n208 false (.bin .neq (.t n209) (k n2))),(oq n211 (.pick (.t n208) (.c (.d (.bool true))) (.t n210)))])
 (.cond (.t n211) (.seq (.ops [(oq n0 (.mv (.c (.d (.bool false)))))])
 .ret)
 .skip))
 (.seq (.draw n3 [(dq (oq n212 (.load (some n13) (.t n1))) n0 n0 [n0,n1,n2] [] false false),(dq (oq n213 (.load (some n13) (.t n1))) n1 n0 [n0,n1,n2] [] false true),(dq (oq n214 (.load (some n13) (.t n1))) n2 n0 [n0,n1,n2] [] false true),(dz (oq n28 (.alloc [.nil,.nil,.nil,.nil,.nil,.nil,.nil,(.int .i64 (.l (i n0))),.nil,.nil,.nil,.nil,(.int .i64 (.l (i n0)))])) n3 n0),(dz (oq n29 (.alloc [.nil,.nil,.nil,.nil,.nil,.nil,.nil,(.int .i64 (.l (i n0))),.nil,.nil,.nil,.nil,(.int .i64 (.l (i n0)))])) n4 n1),(dz (oq n30 (.alloc [.nil,.nil,.nil,.nil,.nil,.nil,.nil,(.int .i64 (.l (i n0))),.nil,.nil,.nil,.nil,(.int .i64 (.l (i n0)))])) n5 n2),⟨⟨none,none,.store n13 (.t n28) (.t n212)⟩,n6,n3,[],[n3,n0,n4,n5],false,false⟩,⟨⟨none,none,.store n13 (.t n29) (.t n213)⟩,n7,n3,[],[n4,n1,n6,n0,n3,n5],false,false⟩,⟨⟨none,none,.store n13 (.t n30) (.t n214)⟩,n8,n3,[],[n5,n2,n7,n0,n1,n3,n4,n6],true,false⟩])
 (.seq (.ops [(oq n215 (.bslice n1 n6 [(.int .i64 (.l (i n0)))] [(n0,(k n0)),(n1,(k n0)),(n2,(k n0)),(n3,(k n0)),(n4,(k n0)),(n5,(k n2))] false)),(oq n216 (.call (.c (.fn n64 [] [])) [(.t n215)] .share)),(of n217 n3 n28),⟨none,none,.store n5 (.t n217) (.t n216)⟩])
 (.seq (.draw n0 [(dz (oq n218 (.bslice0 n5)) n0 n0),(dz (of n219 n2 n1) n1 n0),(dq (of n222 n3 n1) n4 n0 [] [] false true),(dq (of n224 n3 n1) n6 n0 [] [] false true),(dz (ol n220 n219) n2 n0),(dq (oq n223 (.load (some n5) (.t n222))) n5 n0 [] [] false true),(dq (oq n225 (.load (some n5) (.t n224))) n7 n0 [] [] false true),(dq (oq n226 (.bsliceP n5 n2 [.nil,.nil,.nil,.nil,(.int .i64 (.l (i n0)))] [(n0,(.t n223)),(n1,(.t n225))])) n8 n0 [] [] false true),(dq (oq n221 (.appendN n5 n104 (.t n218) (.t n220) true)) n3 n0 [] [n0,n2,n1] false false),(dq (oq n227 (.appendN n5 n104 (.t n221) (.t n226) true)) n9 n0 [] [n3,n8,n0,n2,n1,n5,n7,n4,n6] true false),(dz (of n228 n2 n29) n10 n0),⟨⟨none,none,.store n1 (.t n228) (.t n227)⟩,n11,n0,[],[n10,n9,n0,n1,n2,n3,n4,n5,n6,n7,n8],true,false⟩])
 (.seq (.ops [(oq n229 (.build [.nil,.nil,.nil,.nil,(.int .i64 (.l (i n0)))] [])),(of n230 n8 n30),⟨none,none,.store n5 (.t n230) (.t n229)⟩])
 (.seq (.ops [(oq n232 (.load (some n13) (.t n28))),(oq n233 (.call (.c (.fn n20 [] [])) [(.t n232)] .share)),(om n231 n233),(oq n234 (.extract (.t n231) n0)),(oq n235 (.extract (.t n231) n1)),(oq n236 (.extract (.t n231) n2)),(om n7 n236)])
 (.seq (.ops [(oq n238 (.load (some n13) (.t n28))),(oq n239 (.call (.c (.fn n28 [] [])) [(.t n238)] .share)),(om n237 n239),(oq n240 (.extract (.t n237) n0)),(oq n241 (.extract (.t n237) n1)),(om n9 n241)])
 (.seq (.ops [(oq n243 (.load (some n13) (.t n28))),(oq n244 (.call (.c (.fn n58 [] [])) [(.t n243),(k n3)] .share)),(om n242 n244),(oq n245 (.extract (.t n242) n0)),(oq n246 (.extract (.t n242) n1)),(oq n247 (.extract (.t n242) n2)),(om n12 n247)])
 (.seq (.ops [(oq n249 (.load (some n13) (.t n28))),(oq n250 (.call (.c (.fn n58 [] [])) [(.t n249),(k n2)] .share)),(om n248 n250),(oq n251 (.extract (.t n248) n0)),(oq n252 (.extract (.t n248) n1)),(oq n253 (.extract (.t n248) n2)),(om n15 n253)])
 (.seq (.ops [(oq n255 (.load (some n13) (.t n1))),(oq n256 (.call (.c (.fn n31 [] [])) [(.t n255)] .share)),(om n254 n256),(oq n257 (.extract (.t n254) n0)),(oq n258 (.extract (.t n254) n1)),(oq n259 (.extract (.t n254) n2)),(om n19 n259)])
 (.seq (.draw n0 [(dz (oq n262 (.bsliceP n1 n1 [(.int .i64 (.l (i n0)))] [(n0,(k n0))])) n1 n0),(dq (oq n264 (.bsliceP n1 n2 [(.int .i64 (.l (i n0)))] [(n0,(k n0)),(n1,(k n0))])) n3 n0 [] [] false true),(dq (oq n261 (.load (some n13) (.t n1))) n0 n0 [] [] false true),(dq (oq n263 (.call (.c (.fn n66 [] [])) [(k n3),(.t n262)] .share)) n2 n0 [] [n1] false false),(dq (oq n265 (.call (.c (.fn n38 [] [])) [(.t n261),(.t n263),(.t n264)] .share)) n4 n0 [] [n0,n2,n3,n1] true false),(dz (om n260 n265) n5 n0),(dz (oq n266 (.extract (.t n260) n0)) n6 n0),(dz (oq n267 (.extract (.t n260) n1)) n7 n0),(dz (om n21 n267) n8 n0)])
 (.seq (.draw n0 [(dz (oq n270 (.bsliceP n1 n2 [(.int .i64 (.l (i n0)))] [(n0,(k n0)),(n1,(k n1))])) n1 n0),(dq (oq n272 (.bsliceP n1 n2 [(.int .i64 (.l (i n0)))] [(n0,(k n0)),(n1,(k n2))])) n3 n0 [] [] false true),(dq (oq n269 (.load (some n13) (.t n1))) n0 n0 [] [] false true),(dq (oq n271 (.call (.c (.fn n66 [] [])) [(k n1),(.t n270)] .share)) n2 n0 [] [n1] false false),(dq (oq n273 (.call (.c (.fn n38 [] [])) [(.t n269),(.t n271),(.t n272)] .share)) n4 n0 [] [n0,n2,n3,n1] true false),(dz (om n268 n273) n5 n0),(dz (oq n274 (.extract (.t n268) n0)) n6 n0),(dz (oq n275 (.extract (.t n268) n1)) n7 n0),(dz (om n23 n275) n8 n0)])
 (.seq (.draw n0 [(dq (oq n279 (.bsliceP n1 n2 [(.int .i64 (.l (i n0)))] [(n0,(k n0)),(n1,(k n3))])) n2 n0 [] [] false true),(dq (oq n277 (.load (some n13) (.t n1))) n0 n0 [] [] false true),(dz (oq n278 (.call (.c (.fn n65 [] [])) [] .share)) n1 n0),(dq (oq n280 (.call (.c (.fn n38 [] [])) [(.t n277),(.t n278),(.t n279)] .share)) n3 n0 [] [n0,n1,n2] true false),(dz (om n276 n280) n4 n0),(dz (oq n281 (.extract (.t n276) n0)) n5 n0),(dz (oq n282 (.extract (.t n276) n1)) n6 n0),(dz (om n25 n282) n7 n0)])
 (.seq (.ops [(oq n283 (.build [(.int .i64 (.l (i n0))),.nil,.nil] [(n0,n1,(.c (.d (.int .i64 (.l (.negSucc n1))))))])),(oq n284 (.build [(.int .i64 (.l (i n0))),.nil,.nil] [(n0,n1,(k n4))])),(oq n285 (.build [(.int .i64 (.l (i n0))),.nil,.nil] [(n0,n1,(k n0))])),(oq n286 (.build [(.int .u8 (.l (i n0))),(.int .i64 (.l (i n0)))] [])),(oq n287 (.bslice n2 n1 [(.int .u8 (.l (i n0))),(.int .i64 (.l (i n0)))] [(n0,(.t n286))] false)),(oq n288 (.call (.c (.fn n67 [] [])) [] .share)),(oq n289 (.bslice n3 n1 [(.int .i64 (.l (i n0))),.nil,.nil] [(n0,(.t n288))] false)),(oq n290 (.build [(.int .i64 (.l (i n0))),.nil,.nil] [(n0,n1,(.c (.d (.int .i64 (.l (.negSucc n0)))))),(n1,n1,(.t n287)),(n2,n1,(.t n289))])),(oq n291 (.bslice n1 n2 [(.int .i64 (.l (i n0)))] [(n0,(k n1)),(n1,(k n1))] false)),(oq n292 (.call (.c (.fn n66 [] [])) [(k n0),(.t n291)] .share)),(oq n293 (.bslice n1 n2 [(.int .i64 (.l (i n0)))] [(n0,(k n2)),(n1,(k n1))] false)),(oq n294 (.call (.c (.fn n66 [] [])) [(k n0),(.t n293)] .share)),(oq n295 (.bslice n1 n1 [(.int .i64 (.l (i n0)))] [(n0,(k n10000))] false)),(oq n296 (.call (.c (.fn n66 [] [])) [(k n0),(.t n295)] .share)),(oq n297 (.build [(.int .u8 (.l (i n0))),(.int .i64 (.l (i n0)))] [])),(oq n298 (.bslice n2 n1 [(.int .u8 (.l (i n0))),(.int .i64 (.l (i n0)))] [(n0,(.t n297))] false)),(oq n299 (.build [(.int .i64 (.l (i n0))),.nil,.nil] [(n0,n1,(k n0)),(n1,n1,(.t n298))])),(oq n300 (.bslice n3 n8 [(.int .i64 (.l (i n0))),.nil,.nil] [(n0,(.t n283)),(n1,(.t n284)),(n2,(.t n285)),(n3,(.t n290)),(n4,(.t n292)),(n5,(.t n294)),(n6,(.t n296)),(n7,(.t n299))] false)),(om n31 n300)])
 (.seq (.seq (.ops [(oq n32 (.mv (k n0)))])
 (.block n0 (.loop (.seq (.seq (.ops [(om n301 n32),(om n302 n31),(oq n303 (.len (.t n302))),(oq n304 (.bin .lss (.t n301) (.t n303)))])
 (.cond (.t n304) .skip
 (.exit n0)))
 (.seq (.block n1 (.seq (.ops [(om n307 n31),(om n308 n32),(oq n309 (.iaddr n3 (.t n307) (.t n308))),(oq n310 (.load (some n3) (.t n309))),(oq n311 (.call (.c (.fn n36 [] [])) [(.t n310)] .share)),(oq n312 (.call (.c (.fn n35 [] [])) [(.t n311)] .borrow)),(oq n313 (.bin .neq (.t n312) (k n4)))])
 (.cond (.t n313) (.seq (.ops [(oq n0 (.mv (.c (.d (.bool false)))))])
 .ret)
 .skip)))
 (.ops [(om n305 n32),(oq n306 (.bin .add (.t n305) (k n1))),(om n32 n306)]))))))
 (.seq (.ops [(oq n314 (.call (.c (.fn n67 [] [])) [] .share)),(oq n33 (.alloc [(.int .i64 (.l (i n0))),.nil,.nil])),⟨none,none,.store n3 (.t n33) (.t n314)⟩])
 (.seq (.seq (.ops [(oq n34 (.mv (k n0)))])
 (.block n2 (.loop (.seq (.seq (.ops [(om n315 n34),(oq n316 (.bin .lss (.t n315) (k n5)))])
 (.cond (.t n316) .skip
 (.exit n2)))
 (.seq (.block n3 (.ops [(oq n319 (.build [(.int .u8 (.l (i n0))),(.int .i64 (.l (i n0)))] [])),(oq n320 (.bslice n2 n1 [(.int .u8 (.l (i n0))),(.int .i64 (.l (i n0)))] [(n0,(.t n319))] false)),(oq n321 (.load (some n3) (.t n33))),(oq n322 (.bslice n3 n1 [(.int .i64 (.l (i n0))),.nil,.nil] [(n0,(.t n321))] false)),(oq n323 (.build [(.int .i64 (.l (i n0))),.nil,.nil] [(n1,n1,(.t n320)),(n2,n1,(.t n322))])),⟨none,none,.store n3 (.t n33) (.t n323)⟩]))
 (.ops [(om n317 n34),(oq n318 (.bin .add (.t n317) (k n1))),(om n34 n318)]))))))
 (.seq (.draw n0 [(dz (om n324 n7) n0 n0),(dz (oq n325 (.bin .eql (.t n324) (k n12))) n1 n0),(dz (om n326 n325) n2 n0),(dz (og n327 n326 true (.mv (.t n9))) n3 n0),(dz (og n328 n326 true (.bin .eql (.t n327) (k n12))) n4 n0),(dz (oq n329 (.pick (.t n326) (.t n328) (.c (.d (.bool false))))) n5 n0),(dz (om n330 n329) n6 n0),(dz (og n331 n330 true (.mv (.t n12))) n7 n0),(dz (og n332 n330 true (.bin .eql (.t n331) (k n3))) n8 n0),(dz (oq n333 (.pick (.t n330) (.t n332) (.c (.d (.bool false))))) n9 n0),(dz (om n334 n333) n10 n0),(dz (og n335 n334 true (.mv (.t n15))) n11 n0),(dz (og n336 n334 true (.bin .eql (.t n335) (k n12))) n12 n0),(dz (oq n337 (.pick (.t n334) (.t n336) (.c (.d (.bool false))))) n13 n0),(dz (om n338 n337) n14 n0),(dz (og n339 n338 true (.load (some n13) (.t n29))) n15 n0),(dq (og n340 n338 true (.call (.c (.fn n59 [] [])) [(.t n339)] .borrow)) n16 n0 [] [n15,n14,n13,n10,n12,n9,n6,n8,n5,n2,n4,n1,n0,n3,n7,n11] true false),(dz (og n341 n338 true (.bin .eql (.t n340) (k n5))) n17 n0),(dz (oq n342 (.pick (.t n338) (.t n341) (.c (.d (.bool false))))) n18 n0),(dz (om n343 n342) n19 n0),(dz (og n344 n343 true (.load (some n13) (.t n30))) n20 n0),(dq (og n345 n343 true (.call (.c (.fn n59 [] [])) [(.t n344)] .borrow)) n21 n0 [] [n20,n19,n18,n16,n14,n17,n13,n10,n12,n9,n6,n8,n5,n2,n4,n1,n0,n3,n7,n11,n15] true false),(dz (og n346 n343 true (.bin .eql (.t n345) (k n4))) n22 n0),(dz (oq n347 (.pick (.t n343) (.t n346) (.c (.d (.bool false))))) n23 n0),(dz (om n348 n347) n24 n0),(dz (og n349 n348 true (.mv (.t n19))) n25 n0),(dz (og n350 n348 true (.bin .eql (.t n349) (k n7))) n26 n0),(dz (oq n351 (.pick (.t n348) (.t n350) (.c (.d (.bool false))))) n27 n0),(dz (om n352 n351) n28 n0),(dz (og n353 n352 true (.mv (.t n21))) n29 n0),(dz (og n354 n352 true (.bin .eql (.t n353) (k n7))) n30 n0),(dz (oq n355 (.pick (.t n352) (.t n354) (.c (.d (.bool false))))) n31 n0),(dz (om n356 n355) n32 n0),(dz (og n357 n356 true (.mv (.t n23))) n33 n0),(dz (og n358 n356 true (.bin .eql (.t n357) (k n7))) n34 n0),(dz (oq n359 (.pick (.t n356) (.t n358) (.c (.d (.bool false))))) n35 n0),(dz (om n360 n359) n36 n0),(dz (og n361 n360 true (.mv (.t n25))) n37 n0),(dz (og n362 n360 true (.bin .eql (.t n361) (k n3))) n38 n0),(dz (oq n363 (.pick (.t n360) (.t n362) (.c (.d (.bool false))))) n39 n0),(dz (om n364 n363) n40 n0),(dz (og n365 n364 true (.load (some n3) (.t n33))) n41 n0),(dq (og n366 n364 true (.call (.c (.fn n36 [] [])) [(.t n365)] .share)) n42 n0 [] [n41,n40,n39,n36,n38,n35,n32,n34,n31,n28,n30,n27,n24,n26,n23,n21,n19,n22,n18,n16,n14,n17,n13,n10,n12,n9,n6,n8,n5,n2,n4,n1,n0,n3,n7,n11,n15,n20,n25,n29,n33,n37] true false),(dq (og n367 n364 true (.call (.c (.fn n35 [] [])) [(.t n366)] .borrow)) n43 n0 [] [n42,n40,n41,n39,n36,n38,n35,n32,n34,n31,n28,n30,n27,n24,n26,n23,n21,n19,n22,n18,n16,n14,n17,n13,n10,n12,n9,n6,n8,n5,n2,n4,n1,n0,n3,n7,n11,n15,n20,n25,n29,n33,n37] true false),(dz (og n368 n364 true (.bin .eql (.t n367) (k n4))) n44 n0),(dz (oq n369 (.pick (.t n364) (.t n368) (.c (.d (.bool false))))) n45 n0),(dz (om n370 n369) n46 n0),(dz (og n371 n370 true (.faddr n2 (.t n33))) n47 n0),(dz (og n372 n370 true (.load none (.t n371))) n48 n0),(dz (og n373 n370 true (.iaddr n3 (.t n372) (k n0))) n49 n0),(dz (og n374 n370 true (.load (some n3) (.t n373))) n50 n0),(dq (og n375 n370 true (.call (.c (.fn n36 [] [])) [(.t n374)] .share)) n51 n0 [] [n50,n46,n49,n48,n47,n45,n43,n40,n44,n39,n36,n38,n35,n32,n34,n31,n28,n30,n27,n24,n26,n23,n21,n19,n22,n18,n16,n14,n17,n13,n10,n12,n9,n6,n8,n5,n2,n4,n1,n0,n3,n7,n11,n15,n20,n25,n29,n33,n37,n42,n41] true false),(dq (og n376 n370 true (.call (.c (.fn n35 [] [])) [(.t n375)] .borrow)) n52 n0 [] [n51,n46,n50,n49,n48,n47,n45,n43,n40,n44,n39,n36,n38,n35,n32,n34,n31,n28,n30,n27,n24,n26,n23,n21,n19,n22,n18,n16,n14,n17,n13,n10,n12,n9,n6,n8,n5,n2,n4,n1,n0,n3,n7,n11,n15,n20,n25,n29,n33,n37,n42,n41] true false),(dz (og n377 n370 true (.bin .eql (.t n376) (k n0))) n53 n0),(dz (oq n378 (.pick (.t n370) (.t n377) (.c (.d (.bool false))))) n54 n0),(dz (om n379 n378) n55 n0),(dq (og n380 n379 true (.load (some n13) (.t n1))) n56 n0 [] [] false true),(dq (og n381 n379 true (.call (.c (.fn n65 [] [])) [] .share)) n57 n0 [] [n55,n54,n52,n46,n53,n45,n43,n40,n44,n39,n36,n38,n35,n32,n34,n31,n28,n30,n27,n24,n26,n23,n21,n19,n22,n18,n16,n14,n17,n13,n10,n12,n9,n6,n8,n5,n2,n4,n1,n0,n3,n7,n11,n15,n20,n25,n29,n33,n37,n42,n41,n51,n50,n49,n48,n47] false false),(dq (og n382 n379 true (.call (.c (.fn n47 [] [])) [(.t n380),(.t n381)] .borrow)) n58 n0 [] [n56,n57,n55,n54,n52,n46,n53,n45,n43,n40,n44,n39,n36,n38,n35,n32,n34,n31,n28,n30,n27,n24,n26,n23,n21,n19,n22,n18,n16,n14,n17,n13,n10,n12,n9,n6,n8,n5,n2,n4,n1,n0,n3,n7,n11,n15,n20,n25,n29,n33,n37,n42,n41,n51,n50,n49,n48,n47] true false),(dz (oq n383 (.pick (.t n379) (.t n382) (.c (.d (.bool false))))) n59 n0),(dz (om n384 n383) n60 n0),(dq (og n385 n384 true (.load (some n13) (.t n1))) n61 n0 [] [] false true),(dq (og n386 n384 true (.bslice n1 n3 [(.int .i64 (.l (i n0)))] [(n0,(k n0)),(n1,(k n1)),(n2,(k n2))] false)) n62 n0 [] [n60,n59,n58,n55,n54,n52,n46,n53,n45,n43,n40,n44,n39,n36,n38,n35,n32,n34,n31,n28,n30,n27,n24,n26,n23,n21,n19,n22,n18,n16,n14,n17,n13,n10,n12,n9,n6,n8,n5,n2,n4,n1,n0,n3,n7,n11,n15,n20,n25,n29,n33,n37,n42,n41,n51,n50,n49,n48,n47,n56,n57] false false),(dq (og n387 n384 true (.call (.c (.fn n66 [] [])) [(k n1),(.t n386)] .share)) n63 n0 [] [n62,n60,n59,n58,n55,n54,n52,n46,n53,n45,n43,n40,n44,n39,n36,n38,n35,n32,n34,n31,n28,n30,n27,n24,n26,n23,n21,n19,n22,n18,n16,n14,n17,n13,n10,n12,n9,n6,n8,n5,n2,n4,n1,n0,n3,n7,n11,n15,n20,n25,n29,n33,n37,n42,n41,n51,n50,n49,n48,n47,n56,n57] false false),(dq (og n388 n384 true (.call (.c (.fn n47 [] [])) [(.t n385),(.t n387)] .borrow)) n64 n0 [] [n61,n63,n60,n59,n58,n55,n54,n52,n46,n53,n45,n43,n40,n44,n39,n36,n38,n35,n32,n34,n31,n28,n30,n27,n24,n26,n23,n21,n19,n22,n18,n16,n14,n17,n13,n10,n12,n9,n6,n8,n5,n2,n4,n1,n0,n3,n7,n11,n15,n20,n25,n29,n33,n37,n42,n41,n51,n50,n49,n48,n47,n56,n57,n62] true false),(dz (og n389 n384 true (.un .not (.t n388))) n65 n0),(dz (oq n390 (.pick (.t n384) (.t n389) (.c (.d (.bool false))))) n66 n0),(dz (om n391 n390) n67 n0),(dq (og n392 n391 true (.load (some n13) (.t n3))) n68 n0 [] [] false true),(dq (og n393 n391 true (.call (.c (.fn n65 [] [])) [] .share)) n69 n0 [] [n67,n66,n64,n60,n65,n59,n58,n55,n54,n52,n46,n53,n45,n43,n40,n44,n39,n36,n38,n35,n32,n34,n31,n28,n30,n27,n24,n26,n23,n21,n19,n22,n18,n16,n14,n17,n13,n10,n12,n9,n6,n8,n5,n2,n4,n1,n0,n3,n7,n11,n15,n20,n25,n29,n33,n37,n42,n41,n51,n50,n49,n48,n47,n56,n57,n61,n63,n62] false false),(dq (og n394 n391 true (.call (.c (.fn n47 [] [])) [(.t n392),(.t n393)] .borrow)) n70 n0 [] [n68,n69,n67,n66,n64,n60,n65,n59,n58,n55,n54,n52,n46,n53,n45,n43,n40,n44,n39,n36,n38,n35,n32,n34,n31,n28,n30,n27,n24,n26,n23,n21,n19,n22,n18,n16,n14,n17,n13,n10,n12,n9,n6,n8,n5,n2,n4,n1,n0,n3,n7,n11,n15,n20,n25,n29,n33,n37,n42,n41,n51,n50,n49,n48,n47,n56,n57,n61,n63,n62] true false),(dz (og n395 n391 true (.un .not (.t n394))) n71 n0),(dz (oq n396 (.pick (.t n391) (.t n395) (.c (.d (.bool false))))) n72 n0),(dz (om n397 n396) n73 n0),(dq (og n398 n397 true (.load (some n13) (.t n28))) n74 n0 [] [] false true),(dq (og n399 n397 true (.call (.c (.fn n67 [] [])) [] .share)) n75 n0 [] [n73,n72,n70,n67,n71,n66,n64,n60,n65,n59,n58,n55,n54,n52,n46,n53,n45,n43,n40,n44,n39,n36,n38,n35,n32,n34,n31,n28,n30,n27,n24,n26,n23,n21,n19,n22,n18,n16,n14,n17,n13,n10,n12,n9,n6,n8,n5,n2,n4,n1,n0,n3,n7,n11,n15,n20,n25,n29,n33,n37,n42,n41,n51,n50,n49,n48,n47,n56,n57,n61,n63,n62,n68,n69] false false),(dq (og n400 n397 true (.call (.c (.fn n47 [] [])) [(.t n398),(.t n399)] .borrow)) n76 n0 [] [n74,n75,n73,n72,n70,n67,n71,n66,n64,n60,n65,n59,n58,n55,n54,n52,n46,n53,n45,n43,n40,n44,n39,n36,n38,n35,n32,n34,n31,n28,n30,n27,n24,n26,n23,n21,n19,n22,n18,n16,n14,n17,n13,n10,n12,n9,n6,n8,n5,n2,n4,n1,n0,n3,n7,n11,n15,n20,n25,n29,n33,n37,n42,n41,n51,n50,n49,n48,n47,n56,n57,n61,n63,n62,n68,n69] true false),(dz (og n401 n397 true (.un .not (.t n400))) n77 n0),(dz (oq n402 (.pick (.t n397) (.t n401) (.c (.d (.bool false))))) n78 n0),(dz (om n403 n402) n79 n0),(dq (og n404 n403 true (.call (.c (.fn n19 [] [])) [] .borrow)) n80 n0 [] [n79,n78,n76,n73,n77,n72,n70,n67,n71,n66,n64,n60,n65,n59,n58,n55,n54,n52,n46,n53,n45,n43,n40,n44,n39,n36,n38,n35,n32,n34,n31,n28,n30,n27,n24,n26,n23,n21,n19,n22,n18,n16,n14,n17,n13,n10,n12,n9,n6,n8,n5,n2,n4,n1,n0,n3,n7,n11,n15,n20,n25,n29,n33,n37,n42,n41,n51,n50,n49,n48,n47,n56,n57,n61,n63,n62,n68,n69,n74,n75] true false),(dz (oq n405 (.pick (.t n403) (.t n404) (.c (.d (.bool false))))) n81 n0),(dz (om n0 n405) n82 n0)])
 .ret))))))))))))))))))))))))))))))))
def x15 : XFn := ⟨a15,n406,[(.t n0)],c15⟩
def a19 : Ann := ⟨[(n1,n1,n1),(n1,n2,n1),(n1,n3,n1),(n2,n1,n1),(n2,n2,n1),(n2,n3,n1),(n3,n1,n1),(n3,n2,n1),(n3,n3,n1),(n4,n1,n1),(n4,n2,n1),(n4,n3,n1),(n5,n1,n1),(n5,n2,n1),(n5,n3,n1),(n5,n5,n1),(n6,n1,n1),(n6,n2,n1),(n6,n3,n1),(n7,n1,n1),(n8,n8,n1),(n8,n9,n1),(n8,n10,n0),(n8,n22,n1),(n8,n24,n1),(n8,n25,n0),(n8,n34,n0),(n8,n45,n0),(n8,n50,n0),(n8,n59,n0),(n8,n68,n0),(n8,n73,n0),(n8,n77,n1),(n8,n78,n1),(n8,n79,n1),(n8,n80,n0)],[]⟩
def c19 : ICode :=
 (.seq (.ops [(oq n0 (.mv (.c (.d (.bool false)))))])
 (.seq (.ops [(oq n19 (.bslice n1 n6 [(.int .i64 (.l (i n0)))] [(n0,(k n0)),(n1,(k n0)),(n2,(k n0)),(n3,(k n0)),(n4,(k n1)),(n5,(k n1))] false)),(oq n20 (.call (.c (.fn n64 [] [])) [(.t n19)] .share)),(oq n21 (.call (.c (.fn n63 [] [])) [(.t n20)] .share)),(oq n22 (.call (.c (.fn n20 [] [])) [(.t n21)] .share)),(om n18 n22),(oq n23 (.extract (.t n18) n0)),(oq n24 (.extract (.t n18) n1)),(oq n25 (.extract (.t n18) n2)),(oq n1 (.alloc [(.int .i64 (.l (i n0))),.nil,.nil])),⟨none,none,.store n3 (.t n1) (.t n23)⟩,(om n2 n24),(om n3 n25)])
 (.seq (.ops [(oq n27 (.bslice n1 n6 [(.int .i64 (.l (i n0)))] [(n0,(k n0)),(n1,(k n0)),(n2,(k n0)),(n3,(k n0)),(n4,(k n0)),(n5,(k n1))] false)),(oq n28 (.call (.c (.fn n64 [] [])) [(.t n27)] .share)),(oq n29 (.call (.c (.fn n63 [] [])) [(.t n28)] .share)),(oq n30 (.call (.c (.fn n20 [] [])) [(.t n29)] .share)),(om n26 n30),(oq n31 (.extract (.t n26) n0)),(oq n32 (.extract (.t n26) n1)),(oq n33 (.extract (.t n26) n2)),(oq n4 (.alloc [(.int .i64 (.l (i n0))),.nil,.nil])),⟨none,none,.store n3 (.t n4) (.t n31)⟩,(om n5 n32),(om n6 n33)])
 (.seq (.ops [(oq n35 (.bslice n1 n6 [(.int .i64 (.l (i n0)))] [(n0,(k n0)),(n1,(k n0)),(n2,(k n1)),(n3,(k n0)),(n4,(k n1)),(n5,(k n0))] false)),(oq n36 (.call (.c (.fn n64 [] [])) [(.t n35)] .share)),(oq n37 (.call (.c (.fn n63 [] [])) [(.t n36)] .share)),(oq n38 (.call (.c (.fn n28 [] [])) [(.t n37)] .share)),(om n34 n38),(oq n39 (.extract (.t n34) n0)),(oq n40 (.extract (.t n34) n1)),(om n7 n39),(om n8 n40)])
 (.seq (.ops [(oq n42 (.bslice n1 n6 [(.int .i64 (.l (i n0)))] [(n0,(k n0)),(n1,(k n0)),(n2,(k n0)),(n3,(k n0)),(n4,(k n0)),(n5,(k n1))] false)),(oq n43 (.call (.c (.fn n64 [] [])) [(.t n42)] .share)),(oq n44 (.call (.c (.fn n63 [] [])) [(.t n43)] .share)),(oq n45 (.call (.c (.fn n58 [] [])) [(.t n44),(k n2)] .share)),(om n41 n45),(oq n46 (.extract (.t n41) n0)),(oq n47 (.extract (.t n41) n1)),(oq n48 (.extract (.t n41) n2)),(om n9 n46),(om n10 n47),(om n11 n48)])
 (.seq (.ops [(oq n50 (.bslice n1 n6 [(.int .i64 (.l (i n0)))] [(n0,(k n0)),(n1,(k n0)),(n2,(k n0)),(n3,(k n0)),(n4,(k n1)),(n5,(k n1))] false)),(oq n51 (.call (.c (.fn n64 [] [])) [(.t n50)] .share)),(oq n52 (.call (.c (.fn n63 [] [])) [(.t n51)] .share)),(oq n53 (.call (.c (.fn n65 [] [])) [] .share)),(oq n54 (.bslice n1 n2 [(.int .i64 (.l (i n0)))] [(n0,(k n1)),(n1,(k n0))] false)),(oq n55 (.call (.c (.fn n38 [] [])) [(.t n52),(.t n53),(.t n54)] .share)),(om n49 n55),(oq n56 (.extract (.t n49) n0)),(oq n57 (.extract (.t n49) n1)),(om n12 n56),(om n13 n57)])
 (.seq (.ops [(oq n58 (.bslice n1 n6 [(.int .i64 (.l (i n0)))] [(n0,(k n0)),(n1,(k n0)),(n2,(k n1)),(n3,(k n0)),(n4,(k n1)),(n5,(k n0))] false)),(oq n59 (.call (.c (.fn n64 [] [])) [(.t n58)] .share)),(oq n60 (.call (.c (.fn n63 [] [])) [(.t n59)] .share)),(oq n61 (.call (.c (.fn n30 [] [])) [(.t n60),(k n1)] .share)),(oq n14 (.alloc [.nil,.nil,.nil,.nil,.nil,.nil,.nil,(.int .i64 (.l (i n0))),.nil,.nil,.nil,.nil,(.int .i64 (.l (i n0)))])),⟨none,none,.store n13 (.t n14) (.t n61)⟩])
 (.seq (.ops [(oq n63 (.load (some n13) (.t n14))),(oq n64 (.call (.c (.fn n31 [] [])) [(.t n63)] .share)),(om n62 n64),(oq n65 (.extract (.t n62) n0)),(oq n66 (.extract (.t n62) n1)),(oq n67 (.extract (.t n62) n2)),(om n15 n65),(om n16 n66),(om n17 n67)])
 (.seq (.ops [(om n68 n3),(oq n69 (.bin .eql (.t n68) (k n0))),(om n70 n69),(og n71 n70 true (.mv (.t n2))),(og n72 n70 true (.bin .eql (.t n71) (k n2))),(oq n73 (.pick (.t n70) (.t n72) (.c (.d (.bool false))))),(om n74 n73),(og n75 n74 true (.load (some n3) (.t n1))),(og n76 n74 true (.call (.c (.fn n36 [] [])) [(.t n75)] .share)),(og n77 n74 true (.call (.c (.fn n65 [] [])) [] .share)),(og n78 n74 true (.call (.c (.fn n25 [] [])) [(.t n76),(.t n77)] .borrow)),(oq n79 (.pick (.t n74) (.t n78) (.c (.d (.bool false))))),(om n80 n79),(og n81 n80 true (.mv (.t n6))),(og n82 n80 true (.bin .eql (.t n81) (k n0))),(oq n83 (.pick (.t n80) (.t n82) (.c (.d (.bool false))))),(om n84 n83),(og n85 n84 true (.mv (.t n5))),(og n86 n84 true (.bin .eql (.t n85) (k n1))),(oq n87 (.pick (.t n84) (.t n86) (.c (.d (.bool false))))),(om n88 n87),(og n89 n88 true (.load (some n3) (.t n4))),(og n90 n88 true (.call (.c (.fn n36 [] [])) [(.t n89)] .share)),(og n91 n88 true (.bslice n1 n2 [(.int .i64 (.l (i n0)))] [(n0,(k n0)),(n1,(k n7))] false)),(og n92 n88 true (.call (.c (.fn n66 [] [])) [(k n2),(.t n91)] .share)),(og n93 n88 true (.call (.c (.fn n25 [] [])) [(.t n90),(.t n92)] .borrow)),(oq n94 (.pick (.t n88) (.t n93) (.c (.d (.bool false))))),(om n95 n94),(og n96 n95 true (.mv (.t n8))),(og n97 n95 true (.bin .eql (.t n96) (k n0))),(oq n98 (.pick (.t n95) (.t n97) (.c (.d (.bool false))))),(om n99 n98),(og n100 n99 true (.mv (.t n7))),(og n101 n99 true (.bslice n1 n3 [(.int .i64 (.l (i n0)))] [(n0,(.c (.d (.int .i64 (.l (.negSucc n0)))))),(n1,(.c (.d (.int .i64 (.l (.negSucc n0)))))),(n2,(k n0))] false)),(og n102 n99 true (.call (.c (.fn n33 [] [])) [(.t n100),(.t n101)] .borrow)),(oq n103 (.pick (.t n99) (.t n102) (.c (.d (.bool false))))),(om n104 n103),(og n105 n104 true (.mv (.t n11))),(og n106 n104 true (.bin .eql (.t n105) (k n0))),(oq n107 (.pick (.t n104) (.t n106) (.c (.d (.bool false))))),(om n108 n107),(og n109 n108 true (.mv (.t n9))),(og n110 n108 true (.build [(.int .u8 (.l (i n0))),(.int .i64 (.l (i n0)))] [])),(og n111 n108 true (.build [(.int .u8 (.l (i n0))),(.int .i64 (.l (i n0)))] [(n1,n1,(k n7))])),(og n112 n108 true (.bslice n2 n2 [(.int .u8 (.l (i n0))),(.int .i64 (.l (i n0)))] [(n0,(.t n110)),(n1,(.t n111))] false)),(og n113 n108 true (.call (.c (.fn n62 [] [])) [(.t n109),(.t n112)] .borrow)),(oq n114 (.pick (.t n108) (.t n113) (.c (.d (.bool false))))),(om n115 n114),(og n116 n115 true (.mv (.t n10))),(og n117 n115 true (.bslice n1 n2 [(.int .i64 (.l (i n0)))] [(n0,(k n5)),(n1,(k n1))] false)),(og n118 n115 true (.call (.c (.fn n33 [] [])) [(.t n116),(.t n117)] .borrow)),(oq n119 (.pick (.t n115) (.t n118) (.c (.d (.bool false))))),(om n120 n119),(og n121 n120 true (.mv (.t n13))),(og n122 n120 true (.bin .eql (.t n121) (k n0))),(oq n123 (.pick (.t n120) (.t n122) (.c (.d (.bool false))))),(om n124 n123),(og n125 n124 true (.mv (.t n12))),(og n126 n124 true (.bslice n1 n2 [(.int .i64 (.l (i n0)))] [(n0,(k n0)),(n1,(k n1))] false)),(og n127 n124 true (.call (.c (.fn n33 [] [])) [(.t n125),(.t n126)] .borrow)),(oq n128 (.pick (.t n124) (.t n127) (.c (.d (.bool false))))),(om n129 n128),(og n130 n129 true (.mv (.t n17))),(og n131 n129 true (.bin .eql (.t n130) (k n0))),(oq n132 (.pick (.t n129) (.t n131) (.c (.d (.bool false))))),(om n133 n132),(og n134 n133 true (.mv (.t n15))),(og n135 n133 true (.bslice n1 n2 [(.int .i64 (.l (i n0)))] [(n0,(k n0)),(n1,(k n0))] false)),(og n136 n133 true (.call (.c (.fn n33 [] [])) [(.t n134),(.t n135)] .borrow)),(oq n137 (.pick (.t n133) (.t n136) (.c (.d (.bool false))))),(om n138 n137),(og n139 n138 true (.mv (.t n16))),(og n140 n138 true (.bslice n1 n2 [(.int .i64 (.l (i n0)))] [(n0,(k n0)),(n1,(k n2))] false)),(og n141 n138 true (.call (.c (.fn n33 [] [])) [(.t n139),(.t n140)] .borrow)),(oq n142 (.pick (.t n138) (.t n141) (.c (.d (.bool false))))),(om n143 n142),(og n144 n143 true (.bslice n1 n6 [(.int .i64 (.l (i n0)))] [(n0,(k n0)),(n1,(k n0)),(n2,(k n0)),(n3,(k n0)),(n4,(k n1)),(n5,(k n1))] false)),(og n145 n143 true (.call (.c (.fn n64 [] [])) [(.t n144)] .share)),(og n146 n143 true (.call (.c (.fn n63 [] [])) [(.t n145)] .share)),(og n147 n143 true (.call (.c (.fn n65 [] [])) [] .share)),(og n148 n143 true (.call (.c (.fn n47 [] [])) [(.t n146),(.t n147)] .borrow)),(oq n149 (.pick (.t n143) (.t n148) (.c (.d (.bool false))))),(om n0 n149)])
 .ret)))))))))
def x19 : XFn := ⟨a19,n150,[(.t n0)],c19⟩
def a20 : Ann := ⟨[(n1,n2,n1),(n1,n5,n1),(n1,n8,n1),(n1,n11,n1),(n1,n14,n1),(n1,n15,n1)],[]⟩
def c20 : ICode :=
 (.seq (.ops [(oq n1 (.box (.t n0))),(oq n2 (.alloc [(.int .i64 (.l (i n0))),.nil,.nil])),(oq n3 (.mv (k n0))),(oq n4 (.mv (k n0)))])
 (.seq (.draw n0 [(dz (of n5 n0 n1) n0 n0),(dq (of n8 n1 n1) n3 n0 [] [] false true),(dq (of n11 n2 n1) n6 n0 [] [] false true),(dq (of n14 n3 n1) n9 n0 [] [] false true),(dq (of n17 n8 n1) n12 n0 [] [] false true),(dz (ol n6 n5) n1 n0),(dq (ol n9 n8) n4 n0 [] [] false true),(dq (ol n12 n11) n7 n0 [] [] false true),(dq (oq n15 (.load (some n5) (.t n14))) n10 n0 [] [] false true),(dq (oq n18 (.load (some n5) (.t n17))) n13 n0 [] [] false true),(dq (oq n7 (.call (.c (.fn n74 [] [])) [(.t n6)] .share)) n2 n0 [] [n1,n0] false false),(dq (oq n10 (.call (.c (.fn n74 [] [])) [(.t n9)] .share)) n5 n0 [] [n4,n2,n3,n1,n0] false false),(dq (oq n13 (.call (.c (.fn n75 [] [])) [(.t n12)] .share)) n8 n0 [] [n7,n5,n6,n4,n2,n3,n1,n0] false false),(dq (oq n16 (.call (.c (.fn n70 [] [])) [(.t n15)] .share)) n11 n0 [] [n10,n8,n9,n7,n5,n6,n4,n2,n3,n1,n0] false false),(dq (oq n19 (.call (.c (.fn n70 [] [])) [(.t n18)] .share)) n14 n0 [] [n13,n11,n12,n10,n8,n9,n7,n5,n6,n4,n2,n3,n1,n0] true false),(dq (oq n20 (.call (.c (.fn n73 [] [])) [(.t n7),(.t n10),(.t n13),(.t n16),(.t n19)] .share)) n15 n0 [] [n2,n5,n8,n11,n14,n1,n0,n4,n3,n7,n6,n10,n9,n13,n12] true false),(dz (oq n21 (.extract (.t n20) n0)) n16 n0),(dz (oq n22 (.extract (.t n20) n1)) n17 n0),(dz (oq n23 (.extract (.t n20) n2)) n18 n0),⟨⟨none,none,.store n3 (.t n2) (.t n21)⟩,n19,n0,[],[n16,n15,n0,n1,n2,n3,n4,n5,n6,n7,n8,n9,n10,n11,n12,n13,n14,n17,n18],true,false⟩,(dz (om n3 n22) n20 n0),(dz (om n4 n23) n21 n0)])
 .ret))
def x20 : XFn := ⟨a20,n24,[(.c n2 (some n3)),(.t n3),(.t n4)],c20⟩
def a25 : Ann := ⟨[(n1,n10,n0),(n6,n10,n0)],[]⟩
def c25 : ICode :=
 (.seq (.ops [(oq n2 (.box (.t n0))),(oq n3 (.box (.t n1))),(oq n4 (.mv (.c (.d (.bool false)))))])
 (.seq (.seq (.ops [(of n6 n0 n2),(ol n7 n6),(of n8 n0 n3),(ol n9 n8),(oq n10 (.bin .neq (.t n7) (.t n9))),(om n11 n10),(og n12 n11 false (.faddr n1 (.t n2))),(og n13 n11 false (.load none (.t n12))),(og n14 n11 false (.faddr n1 (.t n3))),(og n15 n11 false (.load none (.t n14))),(og n16 n11 false (.call (.c (.fn n62 [] [])) [(.t n13),(.t n15)] .borrow)),(og n17 n11 false (.un .not (.t n16))),(oq n18 (.pick (.t n11) (.c (.d (.bool true))) (.t n17))),(om n19 n18),(og n20 n19 false (.faddr n2 (.t n2))),(og n21 n19 false (.load none (.t n20))),(og n22 n19 false (.len (.t n21))),(og n23 n19 false (.faddr n2 (.t n3))),(og n24 n19 false (.load none (.t n23))),(og n25 n19 false (.len (.t n24))),(og n26 n19 false (.bin .neq (.t n22) (.t n25))),(oq n27 (.pick (.t n19) (.c (.d (.bool true))) (.t n26)))])
 (.cond (.t n27) (.seq (.ops [(oq n4 (.mv (.c (.d (.bool false)))))])
 .ret)
 .skip))
 (.seq (.seq (.ops [(oq n5 (.mv (k n0)))])
 (.block n0 (.loop (.seq (.seq (.ops [(om n28 n5),(of n29 n2 n2),(ol n30 n29),(oq n31 (.len (.t n30))),(oq n32 (.bin .lss (.t n28) (.t n31)))])
 (.cond (.t n32) .skip
 (.exit n0)))
 (.seq (.block n1 (.seq (.draw n0 [(dz (of n35 n2 n2) n0 n0),(dz (om n37 n5) n2 n0),(dz (of n40 n2 n3) n5 n0),(dz (om n42 n5) n7 n0),(dz (ol n36 n35) n1 n0),(dz (oq n38 (.iaddr n3 (.t n36) (.t n37))) n3 n0),(dz (oq n39 (.load (some n3) (.t n38))) n4 n0),(dz (ol n41 n40) n6 n0),(dz (oq n43 (.iaddr n3 (.t n41) (.t n42))) n8 n0),(dz (oq n44 (.load (some n3) (.t n43))) n9 n0),(dq (oq n45 (.call (.c (.fn n25 [] [])) [(.t n39),(.t n44)] .borrow)) n10 n0 [] [n4,n9,n3,n1,n2,n0,n8,n6,n7,n5] true false),(dz (oq n46 (.un .not (.t n45))) n11 n0)])
 (.cond (.t n46) (.seq (.ops [(oq n4 (.mv (.c (.d (.bool false)))))])
 .ret)
 .skip)))
 (.ops [(om n33 n5),(oq n34 (.bin .add (.t n33) (k n1))),(om n5 n34)]))))))
 (.seq (.ops [(oq n4 (.mv (.c (.d (.bool true)))))])
 .ret))))
def x25 : XFn := ⟨a25,n47,[(.t n4)],c25⟩
def a28 : Ann := ⟨[(n1,n2,n1),(n1,n5,n1),(n1,n8,n1),(n1,n11,n1),(n1,n14,n1),(n1,n15,n1)],[]⟩
def c28 : ICode :=
 (.seq (.ops [(oq n1 (.box (.t n0))),(oq n2 (.mv (.c (.d .nil)))),(oq n3 (.mv (k n0)))])
 (.seq (.draw n0 [(dz (of n4 n0 n1) n0 n0),(dq (of n7 n1 n1) n3 n0 [] [] false true),(dq (of n10 n2 n1) n6 n0 [] [] false true),(dq (of n13 n3 n1) n9 n0 [] [] false true),(dq (of n16 n8 n1) n12 n0 [] [] false true),(dz (ol n5 n4) n1 n0),(dq (ol n8 n7) n4 n0 [] [] false true),(dq (ol n11 n10) n7 n0 [] [] false true),(dq (oq n14 (.load (some n5) (.t n13))) n10 n0 [] [] false true),(dq (oq n17 (.load (some n5) (.t n16))) n13 n0 [] [] false true),(dq (oq n6 (.call (.c (.fn n74 [] [])) [(.t n5)] .share)) n2 n0 [] [n1,n0] false false),(dq (oq n9 (.call (.c (.fn n74 [] [])) [(.t n8)] .share)) n5 n0 [] [n4,n2,n3,n1,n0] false false),(dq (oq n12 (.call (.c (.fn n75 [] [])) [(.t n11)] .share)) n8 n0 [] [n7,n5,n6,n4,n2,n3,n1,n0] false false),(dq (oq n15 (.call (.c (.fn n70 [] [])) [(.t n14)] .share)) n11 n0 [] [n10,n8,n9,n7,n5,n6,n4,n2,n3,n1,n0] false false),(dq (oq n18 (.call (.c (.fn n70 [] [])) [(.t n17)] .share)) n14 n0 [] [n13,n11,n12,n10,n8,n9,n7,n5,n6,n4,n2,n3,n1,n0] true false),(dq (oq n19 (.call (.c (.fn n80 [] [])) [(.t n6),(.t n9),(.t n12),(.t n15),(.t n18)] .share)) n15 n0 [] [n2,n5,n8,n11,n14,n1,n0,n4,n3,n7,n6,n10,n9,n13,n12] true false),(dz (oq n20 (.extract (.t n19) n0)) n16 n0),(dz (oq n21 (.extract (.t n19) n1)) n17 n0),(dz (om n2 n20) n18 n0),(dz (om n3 n21) n19 n0)])
 .ret))
def x28 : XFn := ⟨a28,n22,[(.t n2),(.t n3)],c28⟩
def a30 : Ann := ⟨[(n1,n0,n2),(n1,n5,n3),(n1,n11,n3)],[]⟩
def c30 : ICode :=
 (.seq (.ops [(oq n2 (.box (.t n0))),(oq n4 (.alloc [.nil,.nil,.nil,.nil,.nil,.nil,.nil,(.int .i64 (.l (i n0))),.nil,.nil,.nil,.nil,(.int .i64 (.l (i n0)))]))])
 (.seq (.draw n0 [(dz (oq n5 (.bslice0 n5)) n0 n0),(dz (of n6 n2 n2) n1 n0),(dz (om n8 n1) n3 n0),(dq (of n11 n2 n2) n6 n0 [] [] false true),(dq (om n13 n1) n8 n0 [] [] false true),(dq (oq n14 (.bin .add (.t n13) (k n1))) n9 n0 [] [] false true),(dz (ol n7 n6) n2 n0),(dz (oq n9 (.slice n5 (.t n7) none (some (.t n8)) none)) n4 n0),(dq (ol n12 n11) n7 n0 [] [] false true),(dq (oq n15 (.slice n5 (.t n12) (some (.t n14)) none none)) n10 n0 [] [] false true),(dq (oq n10 (.appendN n5 n104 (.t n5) (.t n9) true)) n5 n0 [] [n0,n4,n2,n3,n1] false false),(dq (oq n16 (.appendN n5 n104 (.t n10) (.t n15) true)) n11 n0 [] [n5,n10,n0,n4,n2,n3,n1,n7,n9,n6,n8] true false),(dz (of n17 n2 n2) n12 n0),⟨⟨none,none,.store n1 (.t n17) (.t n16)⟩,n13,n0,[],[n12,n11,n0,n1,n2,n3,n4,n5,n6,n7,n8,n9,n10],true,false⟩])
 (.seq (.ops [(oq n18 (.load (some n13) (.t n2))),⟨none,none,.store n13 (.t n4) (.t n18)⟩])
 .ret)))
def x30 : XFn := ⟨a30,n19,[(.c n4 (some n13))],c30⟩
def a31 : Ann := ⟨[(n1,n2,n1),(n1,n5,n1),(n1,n8,n1),(n1,n11,n1),(n1,n14,n1),(n1,n15,n1)],[]⟩
def c31 : ICode :=
 (.seq (.ops [(oq n1 (.box (.t n0))),(oq n2 (.mv (.c (.d .nil)))),(oq n3 (.mv (.c (.d .nil)))),(oq n4 (.mv (k n0)))])
 (.seq (.draw n0 [(dz (of n5 n0 n1) n0 n0),(dq (of n8 n1 n1) n3 n0 [] [] false true),(dq (of n11 n2 n1) n6 n0 [] [] false true),(dq (of n14 n3 n1) n9 n0 [] [] false true),(dq (of n17 n8 n1) n12 n0 [] [] false true),(dz (ol n6 n5) n1 n0),(dq (ol n9 n8) n4 n0 [] [] false true),(dq (ol n12 n11) n7 n0 [] [] false true),(dq (oq n15 (.load (some n5) (.t n14))) n10 n0 [] [] false true),(dq (oq n18 (.load (some n5) (.t n17))) n13 n0 [] [] false true),(dq (oq n7 (.call (.c (.fn n74 [] [])) [(.t n6)] .share)) n2 n0 [] [n1,n0] false false),(dq (oq n10 (.call (.c (.fn n74 [] [])) [(.t n9)] .share)) n5 n0 [] [n4,n2,n3,n1,n0] false false),(dq (oq n13 (.call (.c (.fn n75 [] [])) [(.t n12)] .share)) n8 n0 [] [n7,n5,n6,n4,n2,n3,n1,n0] false false),(dq (oq n16 (.call (.c (.fn n70 [] [])) [(.t n15)] .share)) n11 n0 [] [n10,n8,n9,n7,n5,n6,n4,n2,n3,n1,n0] false false),(dq (oq n19 (.call (.c (.fn n70 [] [])) [(.t n18)] .share)) n14 n0 [] [n13,n11,n12,n10,n8,n9,n7,n5,n6,n4,n2,n3,n1,n0] true false),(dq (oq n20 (.call (.c (.fn n81 [] [])) [(.t n7),(.t n10),(.t n13),(.t n16),(.t n19)] .share)) n15 n0 [] [n2,n5,n8,n11,n14,n1,n0,n4,n3,n7,n6,n10,n9,n13,n12] true false),(dz (oq n21 (.extract (.t n20) n0)) n16 n0),(dz (oq n22 (.extract (.t n20) n1)) n17 n0),(dz (oq n23 (.extract (.t n20) n2)) n18 n0),(dz (om n2 n21) n19 n0),(dz (om n3 n22) n20 n0),(dz (om n4 n23) n21 n0)])
 .ret))
def x31 : XFn := ⟨a31,n24,[(.t n2),(.t n3),(.t n4)],c31⟩
def a33 : Ann := ⟨[],[]⟩
def c33 : ICode :=
 (.seq (.ops [(oq n4 (.mv (.c (.d (.bool false)))))])
 (.seq (.seq (.ops [(om n6 n0),(oq n7 (.len (.t n6))),(om n8 n1),(oq n9 (.len (.t n8))),(oq n10 (.bin .neq (.t n7) (.t n9)))])
 (.cond (.t n10) (.seq (.ops [(oq n4 (.mv (.c (.d (.bool false)))))])
 .ret)
 .skip))
 (.seq (.seq (.ops [(oq n5 (.mv (k n0)))])
 (.block n0 (.loop (.seq (.seq (.ops [(om n11 n5),(om n12 n0),(oq n13 (.len (.t n12))),(oq n14 (.bin .lss (.t n11) (.t n13)))])
 (.cond (.t n14) .skip
 (.exit n0)))
 (.seq (.block n1 (.seq (.draw n0 [(dz (om n17 n0) n0 n0),(dz (om n18 n5) n1 n0),(dz (oq n19 (.iaddr n1 (.t n17) (.t n18))) n2 n0),(dz (om n21 n1) n4 n0),(dz (om n22 n5) n5 n0),(dz (oq n23 (.iaddr n1 (.t n21) (.t n22))) n6 n0),(dz (ol n20 n19) n3 n0),(dz (ol n24 n23) n7 n0),(dz (oq n25 (.bin .neq (.t n20) (.t n24))) n8 n0)])
 (.cond (.t n25) (.seq (.ops [(oq n4 (.mv (.c (.d (.bool false)))))])
 .ret)
 .skip)))
 (.ops [(om n15 n5),(oq n16 (.bin .add (.t n15) (k n1))),(om n5 n16)]))))))
 (.seq (.ops [(oq n4 (.mv (.c (.d (.bool true)))))])
 .ret))))
def x33 : XFn := ⟨a33,n26,[(.t n4)],c33⟩
def a35 : Ann := ⟨[(n1,n1,n0)],[]⟩
def c35 : ICode :=
 (.seq (.ops [(oq n1 (.box (.t n0))),(oq n2 (.mv (k n0)))])
 (.seq (.ops [(oq n6 (.load (some n3) (.t n1))),(oq n7 (.call (.c (.fn n37 [] [])) [(.t n6)] .borrow)),(om n5 n7),(oq n8 (.extract (.t n5) n0)),(oq n9 (.extract (.t n5) n1)),(om n3 n8),(om n4 n9)])
 (.seq (.ops [(om n10 n4),(om n2 n10)])
 .ret)))
def x35 : XFn := ⟨a35,n11,[(.t n2)],c35⟩
def a36 : Ann := ⟨[(n1,n1,n1)],[]⟩
def c36 : ICode :=
 (.seq (.ops [(oq n1 (.box (.t n0))),(oq n2 (.alloc [(.int .i64 (.l (i n0))),.nil,.nil]))])
 (.seq (.ops [(oq n3 (.load (some n3) (.t n1))),(oq n4 (.call (.c (.fn n82 [] [])) [(.t n3),(k n6)] .share)),⟨none,none,.store n3 (.t n2) (.t n4)⟩])
 .ret))
def x36 : XFn := ⟨a36,n5,[(.c n2 (some n3))],c36⟩
def a37 : Ann := ⟨[(n1,n2,n0)],[]⟩
def c37 : ICode :=
 (.seq (.ops [(oq n1 (.box (.t n0))),(oq n2 (.mv (k n0))),(oq n3 (.mv (k n0)))])
 (.seq (.ops [(oq n7 (.load (some n3) (.t n1))),(oq n8 (.build [(.int .i64 (.l (i n0))),.nil,.nil] [(n0,n3,(.t n7))])),(oq n9 (.call (.c (.fn n83 [] [])) [(.t n8),(k n4)] .borrow)),(om n6 n9),(oq n10 (.extract (.t n6) n0)),(oq n11 (.extract (.t n6) n1)),(om n4 n10),(om n5 n11)])
 (.seq (.seq (.ops [(om n12 n5),(oq n13 (.un .not (.t n12)))])
 (.cond (.t n13) (.seq (.ops [(oq n2 (.mv (k n0))),(oq n3 (.mv (k n4)))])
 .ret)
 .skip))
 (.seq (.ops [(om n14 n4),(om n2 n14),(oq n3 (.mv (k n0)))])
 .ret))))
def x37 : XFn := ⟨a37,n15,[(.t n2),(.t n3)],c37⟩
def a38 : Ann := ⟨[(n1,n1,n1),(n1,n4,n1),(n1,n7,n1),(n1,n10,n1),(n1,n12,n1),(n1,n13,n1)],[]⟩
def c38 : ICode :=
 (.seq (.ops [(oq n3 (.box (.t n0))),(oq n4 (.box (.t n1))),(oq n6 (.mv (.c (.d .nil)))),(oq n7 (.mv (k n0)))])
 (.seq (.draw n0 [(dq (of n10 n0 n3) n2 n0 [] [] false true),(dq (of n13 n1 n3) n5 n0 [] [] false true),(dq (of n16 n2 n3) n8 n0 [] [] false true),(dq (om n19 n2) n11 n0 [] [] false true),(dz (oq n8 (.load (some n3) (.t n4))) n0 n0),(dq (ol n11 n10) n3 n0 [] [] false true),(dq (ol n14 n13) n6 n0 [] [] false true),(dq (ol n17 n16) n9 n0 [] [] false true),(dq (oq n9 (.call (.c (.fn n36 [] [])) [(.t n8)] .share)) n1 n0 [] [n0] false false),(dq (oq n12 (.call (.c (.fn n74 [] [])) [(.t n11)] .share)) n4 n0 [] [n3,n1,n2,n0] false false),(dq (oq n15 (.call (.c (.fn n74 [] [])) [(.t n14)] .share)) n7 n0 [] [n6,n4,n5,n3,n1,n2,n0] false false),(dq (oq n18 (.call (.c (.fn n75 [] [])) [(.t n17)] .share)) n10 n0 [] [n9,n7,n8,n6,n4,n5,n3,n1,n2,n0] false false),(dq (oq n20 (.call (.c (.fn n74 [] [])) [(.t n19)] .share)) n12 n0 [] [n11,n10,n9,n7,n8,n6,n4,n5,n3,n1,n2,n0] true false),(dq (oq n21 (.call (.c (.fn n84 [] [])) [(.t n9),(.t n12),(.t n15),(.t n18),(.t n20)] .share)) n13 n0 [] [n1,n4,n7,n10,n12,n0,n3,n2,n6,n5,n9,n8,n11] true false),(dz (oq n22 (.extract (.t n21) n0)) n14 n0),(dz (oq n23 (.extract (.t n21) n1)) n15 n0),(dz (om n6 n22) n16 n0),(dz (om n7 n23) n17 n0)])
 .ret))
def x38 : XFn := ⟨a38,n24,[(.t n6),(.t n7)],c38⟩
def a40 : Ann := ⟨[(n1,n1,n0),(n1,n3,n0),(n2,n5,n2)],[]⟩
def c40 : ICode :=
 (.seq (.ops [(oq n6 (.alloc [.nil,.nil,.nil,.nil,(.int .i64 (.l (i n0)))]))])
 (.seq (.ops [(om n8 n0),(oq n9 (.append n1 n8 (.c (.d .nil)) (.t n8) false)),(om n10 n1),(oq n11 (.append n1 n8 (.c (.d .nil)) (.t n10) false)),(oq n12 (.build [.nil,.nil,.nil,.nil,(.int .i64 (.l (i n0)))] [(n0,n1,(.t n9)),(n1,n1,(.t n11))])),(oq n7 (.alloc [.nil,.nil,.nil,.nil,(.int .i64 (.l (i n0)))])),⟨none,none,.store n5 (.t n7) (.t n12)⟩])
 (.seq (.draw n1 [(dz (om n15 n2) n1 n0),(dz (om n16 n0) n2 n0),(dz (oq n17 (.len (.t n16))) n3 n0),(dq (oq n14 (.load (some n5) (.t n7))) n0 n0 [n0] [] false false),(dz (oq n18 (.mkslice n1 [(.int .i64 (.l (i n0)))] n8 (.t n17))) n4 n0),(dq (oq n19 (.call (.c (.fn n88 [] [])) [(.t n14),(.t n15),(k n0),(.t n18)] .raw)) n5 n1 [] [n0,n1,n4,n3,n2] true false),(dz (om n13 n19) n6 n1),(dz (oq n20 (.extract (.t n13) n0)) n7 n1),(dq (oq n21 (.extract (.t n13) n1)) n8 n1 [] [] false true),⟨⟨none,none,.store n5 (.t n7) (.t n20)⟩,n9,n1,[],[n7,n5,n0,n1,n2,n3,n4,n6],false,false⟩,(dz (of n22 n4 n7) n10 n1),⟨⟨none,none,.store n1 (.t n22) (.t n21)⟩,n11,n1,[],[n10,n8,n9,n0,n1,n2,n3,n4,n5,n6,n7],true,false⟩])
 (.seq (.ops [(oq n23 (.load (some n5) (.t n7))),⟨none,none,.store n5 (.t n6) (.t n23)⟩])
 .ret))))
def x40 : XFn := ⟨a40,n24,[(.c n6 (some n5))],c40⟩
def a45 : Ann := ⟨[],[]⟩
def c45 : ICode :=
 (.seq (.ops [(oq n4 (.mv (k n0)))])
 (.seq (.ops [(oq n5 (.mv (k n0)))])
 (.seq (.seq (.ops [(oq n6 (.mv (k n0)))])
 (.block n0 (.loop (.seq (.seq (.ops [(om n7 n6),(om n8 n0),(oq n9 (.len (.t n8))),(oq n10 (.bin .lss (.t n7) (.t n9)))])
 (.cond (.t n10) .skip
 (.exit n0)))
 (.seq (.block n1 (.draw n0 [(dz (om n13 n5) n0 n0),(dz (om n14 n0) n1 n0),(dz (om n15 n6) n2 n0),(dz (oq n16 (.iaddr n1 (.t n14) (.t n15))) n3 n0),(dz (om n19 n1) n6 n0),(dz (om n20 n6) n7 n0),(dz (oq n21 (.iaddr n1 (.t n19) (.t n20))) n8 n0),(dz (ol n17 n16) n4 n0),(dz (oq n18 (.bin .mul (.t n13) (.t n17))) n5 n0),(dz (ol n22 n21) n9 n0),(dz (oq n23 (.bin .add (.t n18) (.t n22))) n10 n0),(dz (om n5 n23) n11 n0)]))
 (.ops [(om n11 n6),(oq n12 (.bin .add (.t n11) (k n1))),(om n6 n12)]))))))
 (.seq (.ops [(om n24 n5),(om n4 n24)])
 .ret))))
def x45 : XFn := ⟨a45,n25,[(.t n4)],c45⟩
def a47 : Ann := ⟨[(n1,n1,n1),(n1,n4,n1),(n1,n7,n1),(n1,n10,n1),(n1,n13,n1),(n1,n16,n1),(n1,n17,n0)],[]⟩
def c47 : ICode :=
 (.seq (.ops [(oq n2 (.box (.t n0))),(oq n3 (.box (.t n1))),(oq n4 (.mv (.c (.d (.bool false)))))])
 (.seq (.draw n0 [(dq (of n7 n0 n2) n2 n0 [] [] false true),(dq (of n10 n1 n2) n5 n0 [] [] false true),(dq (of n13 n2 n2) n8 n0 [] [] false true),(dq (of n16 n3 n2) n11 n0 [] [] false true),(dq (of n19 n8 n2) n14 n0 [] [] false true),(dz (oq n5 (.load (some n3) (.t n3))) n0 n0),(dq (ol n8 n7) n3 n0 [] [] false true),(dq (ol n11 n10) n6 n0 [] [] false true),(dq (ol n14 n13) n9 n0 [] [] false true),(dq (oq n17 (.load (some n5) (.t n16))) n12 n0 [] [] false true),(dq (oq n20 (.load (some n5) (.t n19))) n15 n0 [] [] false true),(dq (oq n6 (.call (.c (.fn n36 [] [])) [(.t n5)] .share)) n1 n0 [] [n0] false false),(dq (oq n9 (.call (.c (.fn n74 [] [])) [(.t n8)] .share)) n4 n0 [] [n3,n1,n2,n0] false false),(dq (oq n12 (.call (.c (.fn n74 [] [])) [(.t n11)] .share)) n7 n0 [] [n6,n4,n5,n3,n1,n2,n0] false false),(dq (oq n15 (.call (.c (.fn n75 [] [])) [(.t n14)] .share)) n10 n0 [] [n9,n7,n8,n6,n4,n5,n3,n1,n2,n0] false false),(dq (oq n18 (.call (.c (.fn n70 [] [])) [(.t n17)] .share)) n13 n0 [] [n12,n10,n11,n9,n7,n8,n6,n4,n5,n3,n1,n2,n0] false false),(dq (oq n21 (.call (.c (.fn n70 [] [])) [(.t n20)] .share)) n16 n0 [] [n15,n13,n14,n12,n10,n11,n9,n7,n8,n6,n4,n5,n3,n1,n2,n0] true false),(dq (oq n22 (.call (.c (.fn n89 [] [])) [(.t n6),(.t n9),(.t n12),(.t n15),(.t n18),(.t n21)] .borrow)) n17 n0 [] [n1,n4,n7,n10,n13,n16,n0,n3,n2,n6,n5,n9,n8,n12,n11,n15,n14] true false),(dz (om n4 n22) n18 n0)])
 .ret))
def x47 : XFn := ⟨a47,n23,[(.t n4)],c47⟩
def a57 : Ann := ⟨[(n1,n2,n1),(n1,n5,n1),(n1,n8,n1),(n1,n11,n1),(n1,n14,n1),(n1,n15,n0)],[]⟩
def c57 : ICode :=
 (.seq (.ops [(oq n1 (.box (.t n0))),(oq n2 (.mv (.c (.d (.bool false))))),(oq n3 (.mv (k n0)))])
 (.seq (.draw n0 [(dz (of n4 n0 n1) n0 n0),(dq (of n7 n1 n1) n3 n0 [] [] false true),(dq (of n10 n2 n1) n6 n0 [] [] false true),(dq (of n13 n3 n1) n9 n0 [] [] false true),(dq (of n16 n8 n1) n12 n0 [] [] false true),(dz (ol n5 n4) n1 n0),(dq (ol n8 n7) n4 n0 [] [] false true),(dq (ol n11 n10) n7 n0 [] [] false true),(dq (oq n14 (.load (some n5) (.t n13))) n10 n0 [] [] false true),(dq (oq n17 (.load (some n5) (.t n16))) n13 n0 [] [] false true),(dq (oq n6 (.call (.c (.fn n74 [] [])) [(.t n5)] .share)) n2 n0 [] [n1,n0] false false),(dq (oq n9 (.call (.c (.fn n74 [] [])) [(.t n8)] .share)) n5 n0 [] [n4,n2,n3,n1,n0] false false),(dq (oq n12 (.call (.c (.fn n75 [] [])) [(.t n11)] .share)) n8 n0 [] [n7,n5,n6,n4,n2,n3,n1,n0] false false),(dq (oq n15 (.call (.c (.fn n70 [] [])) [(.t n14)] .share)) n11 n0 [] [n10,n8,n9,n7,n5,n6,n4,n2,n3,n1,n0] false false),(dq (oq n18 (.call (.c (.fn n70 [] [])) [(.t n17)] .share)) n14 n0 [] [n13,n11,n12,n10,n8,n9,n7,n5,n6,n4,n2,n3,n1,n0] true false),(dq (oq n19 (.call (.c (.fn n96 [] [])) [(.t n6),(.t n9),(.t n12),(.t n15),(.t n18)] .borrow)) n15 n0 [] [n2,n5,n8,n11,n14,n1,n0,n4,n3,n7,n6,n10,n9,n13,n12] true false),(dz (oq n20 (.extract (.t n19) n0)) n16 n0),(dz (oq n21 (.extract (.t n19) n1)) n17 n0),(dz (om n2 n20) n18 n0),(dz (om n3 n21) n19 n0)])
 .ret))
def x57 : XFn := ⟨a57,n22,[(.t n2),(.t n3)],c57⟩
def a58 : Ann := ⟨[(n1,n2,n1),(n1,n5,n1),(n1,n8,n1),(n1,n11,n1),(n1,n14,n1),(n1,n16,n1)],[]⟩
def c58 : ICode :=
 (.seq (.ops [(oq n2 (.box (.t n0))),(oq n4 (.mv (.c (.d .nil)))),(oq n5 (.mv (.c (.d .nil)))),(oq n6 (.mv (k n0)))])
 (.seq (.draw n0 [(dz (of n7 n0 n2) n0 n0),(dq (of n10 n1 n2) n3 n0 [] [] false true),(dq (of n13 n2 n2) n6 n0 [] [] false true),(dq (of n16 n3 n2) n9 n0 [] [] false true),(dq (of n19 n8 n2) n12 n0 [] [] false true),(dq (om n22 n1) n15 n0 [] [] false true),(dz (ol n8 n7) n1 n0),(dq (ol n11 n10) n4 n0 [] [] false true),(dq (ol n14 n13) n7 n0 [] [] false true),(dq (oq n17 (.load (some n5) (.t n16))) n10 n0 [] [] false true),(dq (oq n20 (.load (some n5) (.t n19))) n13 n0 [] [] false true),(dq (oq n9 (.call (.c (.fn n74 [] [])) [(.t n8)] .share)) n2 n0 [] [n1,n0] false false),(dq (oq n12 (.call (.c (.fn n74 [] [])) [(.t n11)] .share)) n5 n0 [] [n4,n2,n3,n1,n0] false false),(dq (oq n15 (.call (.c (.fn n75 [] [])) [(.t n14)] .share)) n8 n0 [] [n7,n5,n6,n4,n2,n3,n1,n0] false false),(dq (oq n18 (.call (.c (.fn n70 [] [])) [(.t n17)] .share)) n11 n0 [] [n10,n8,n9,n7,n5,n6,n4,n2,n3,n1,n0] false false),(dq (oq n21 (.call (.c (.fn n70 [] [])) [(.t n20)] .share)) n14 n0 [] [n13,n11,n12,n10,n8,n9,n7,n5,n6,n4,n2,n3,n1,n0] false false),(dq (oq n23 (.call (.c (.fn n97 [] [])) [(.t n9),(.t n12),(.t n15),(.t n18),(.t n21),(.t n22)] .share)) n16 n0 [] [n2,n5,n8,n11,n14,n15,n1,n0,n4,n3,n7,n6,n10,n9,n13,n12] true false),(dz (oq n24 (.extract (.t n23) n0)) n17 n0),(dz (oq n25 (.extract (.t n23) n1)) n18 n0),(dz (oq n26 (.extract (.t n23) n2)) n19 n0),(dz (om n4 n24) n20 n0),(dz (om n5 n25) n21 n0),(dz (om n6 n26) n22 n0)])
 .ret))
def x58 : XFn := ⟨a58,n27,[(.t n4),(.t n5),(.t n6)],c58⟩
def a59 : Ann := ⟨[(n1,n2,n1),(n1,n5,n1),(n1,n8,n1),(n1,n11,n1),(n1,n14,n1),(n1,n15,n0)],[]⟩
def c59 : ICode :=
 (.seq (.ops [(oq n1 (.box (.t n0))),(oq n2 (.mv (k n0)))])
 (.seq (.draw n0 [(dz (of n3 n0 n1) n0 n0),(dq (of n6 n1 n1) n3 n0 [] [] false true),(dq (of n9 n2 n1) n6 n0 [] [] false true),(dq (of n12 n3 n1) n9 n0 [] [] false true),(dq (of n15 n8 n1) n12 n0 [] [] false true),(dz (ol n4 n3) n1 n0),(dq (ol n7 n6) n4 n0 [] [] false true),(dq (ol n10 n9) n7 n0 [] [] false true),(dq (oq n13 (.load (some n5) (.t n12))) n10 n0 [] [] false true),(dq (oq n16 (.load (some n5) (.t n15))) n13 n0 [] [] false true),(dq (oq n5 (.call (.c (.fn n74 [] [])) [(.t n4)] .share)) n2 n0 [] [n1,n0] false false),(dq (oq n8 (.call (.c (.fn n74 [] [])) [(.t n7)] .share)) n5 n0 [] [n4,n2,n3,n1,n0] false false),(dq (oq n11 (.call (.c (.fn n75 [] [])) [(.t n10)] .share)) n8 n0 [] [n7,n5,n6,n4,n2,n3,n1,n0] false false),(dq (oq n14 (.call (.c (.fn n70 [] [])) [(.t n13)] .share)) n11 n0 [] [n10,n8,n9,n7,n5,n6,n4,n2,n3,n1,n0] false false),(dq (oq n17 (.call (.c (.fn n70 [] [])) [(.t n16)] .share)) n14 n0 [] [n13,n11,n12,n10,n8,n9,n7,n5,n6,n4,n2,n3,n1,n0] true false),(dq (oq n18 (.call (.c (.fn n98 [] [])) [(.t n5),(.t n8),(.t n11),(.t n14),(.t n17)] .borrow)) n15 n0 [] [n2,n5,n8,n11,n14,n1,n0,n4,n3,n7,n6,n10,n9,n13,n12] true false),(dz (om n2 n18) n16 n0)])
 .ret))
def x59 : XFn := ⟨a59,n19,[(.t n2)],c59⟩
def a62 : Ann := ⟨[],[]⟩
def c62 : ICode :=
 (.seq (.ops [(oq n4 (.mv (.c (.d (.bool false)))))])
 (.seq (.seq (.ops [(om n6 n0),(oq n7 (.len (.t n6))),(om n8 n1),(oq n9 (.len (.t n8))),(oq n10 (.bin .neq (.t n7) (.t n9)))])
 (.cond (.t n10) (.seq (.ops [(oq n4 (.mv (.c (.d (.bool false)))))])
 .ret)
 .skip))
 (.seq (.seq (.ops [(oq n5 (.mv (k n0)))])
 (.block n0 (.loop (.seq (.seq (.ops [(om n11 n5),(om n12 n0),(oq n13 (.len (.t n12))),(oq n14 (.bin .lss (.t n11) (.t n13)))])
 (.cond (.t n14) .skip
 (.exit n0)))
 (.seq (.block n1 (.seq (.draw n0 [(dz (om n17 n0) n0 n0),(dz (om n18 n5) n1 n0),(dz (oq n19 (.iaddr n2 (.t n17) (.t n18))) n2 n0),(dz (om n21 n1) n4 n0),(dz (om n22 n5) n5 n0),(dz (oq n23 (.iaddr n2 (.t n21) (.t n22))) n6 n0),(dz (oq n20 (.load (some n2) (.t n19))) n3 n0),(dz (oq n24 (.load (some n2) (.t n23))) n7 n0),(dz (oq n25 (.aeq true [.u8,.i64] (.t n20) (.t n24))) n8 n0)])
 (.cond (.t n25) (.seq (.ops [(oq n4 (.mv (.c (.d (.bool false)))))])
 .ret)
 .skip)))
 (.ops [(om n15 n5),(oq n16 (.bin .add (.t n15) (k n1))),(om n5 n16)]))))))
 (.seq (.ops [(oq n4 (.mv (.c (.d (.bool true)))))])
 .ret))))
def x62 : XFn := ⟨a62,n26,[(.t n4)],c62⟩
def a63 : Ann := ⟨[(n1,n0,n2),(n1,n1,n2),(n1,n2,n2),(n1,n3,n1),(n1,n4,n2),(n1,n5,n1),(n1,n6,n2),(n1,n7,n1),(n1,n8,n2),(n1,n9,n2),(n1,n10,n1)],[]⟩
def c63 : ICode :=
 (.seq (.ops [(oq n1 (.box (.t n0))),(oq n2 (.alloc [.nil,.nil,.nil,.nil,.nil,.nil,.nil,(.int .i64 (.l (i n0))),.nil,.nil,.nil,.nil,(.int .i64 (.l (i n0)))]))])
 (.seq (.draw n0 [(dq (oq n3 (.bsliceP n1 n2 [(.int .i64 (.l (i n0)))] [(n0,(k n2)),(n1,(k n3))])) n0 n0 [] [] false true),(dq (oq n4 (.bsliceP n1 n2 [(.int .i64 (.l (i n0)))] [(n0,(k n0)),(n1,(k n1))])) n1 n0 [] [] false true),(dz (oq n5 (.bsliceP n1 n6 [(.int .i64 (.l (i n0)))] [(n0,(k n0)),(n1,(k n0)),(n2,(k n0)),(n3,(k n1)),(n4,(k n1)),(n5,(k n1))])) n2 n0),(dq (oq n7 (.bsliceP n1 n6 [(.int .i64 (.l (i n0)))] [(n0,(k n0)),(n1,(k n1)),(n2,(k n2)),(n3,(k n0)),(n4,(k n1)),(n5,(k n2))])) n4 n0 [] [] false true),(dq (oq n9 (.bsliceP n1 n6 [(.int .i64 (.l (i n0)))] [(n0,(k n0)),(n1,(k n0)),(n2,(k n0)),(n3,(k n0)),(n4,(k n0)),(n5,(k n7))])) n6 n0 [] [] false true),(dq (oq n12 (.bsliceP n1 n6 [(.int .i64 (.l (i n0)))] [(n0,(k n1)),(n1,(k n1)),(n2,(k n1)),(n3,(k n1)),(n4,(k n1)),(n5,(k n1))])) n9 n0 [] [] false true),(dq (oq n14 (.load (some n5) (.t n1))) n11 n0 [] [] false true),(dq (oq n6 (.call (.c (.fn n64 [] [])) [(.t n5)] .share)) n3 n0 [] [n2] false false),(dq (oq n8 (.call (.c (.fn n64 [] [])) [(.t n7)] .share)) n5 n0 [] [n4,n3,n2] false false),(dq (oq n10 (.call (.c (.fn n64 [] [])) [(.t n9)] .share)) n7 n0 [] [n6,n5,n4,n3,n2] false false),(dq (oq n11 (.bsliceP n5 n3 [.nil,.nil,.nil,.nil,(.int .i64 (.l (i n0)))] [(n0,(.t n6)),(n1,(.t n8)),(n2,(.t n10))])) n8 n0 [] [] false true),(dq (oq n13 (.call (.c (.fn n64 [] [])) [(.t n12)] .share)) n10 n0 [] [n9,n7,n6,n5,n4,n3,n2] false false),(dz (oq n15 (.build [.nil,.nil,.nil,.nil,.nil,.nil,.nil,(.int .i64 (.l (i n0))),.nil,.nil,.nil,.nil,(.int .i64 (.l (i n0)))] [(n0,n1,(.t n3)),(n1,n1,(.t n4)),(n2,n1,(.t n11)),(n3,n5,(.t n13)),(n8,n5,(.t n14))])) n12 n0),⟨⟨none,none,.store n13 (.t n2) (.t n15)⟩,n13,n0,[],[n12,n10,n0,n1,n2,n3,n4,n5,n6,n7,n8,n9,n11],true,false⟩])
 .ret))
def x63 : XFn := ⟨a63,n16,[(.c n2 (some n13))],c63⟩
def a64 : Ann := ⟨[(n5,n7,n3),(n6,n3,n1)],[]⟩
def c64 : ICode :=
 (.seq (.ops [(oq n2 (.alloc [.nil,.nil,.nil,.nil,(.int .i64 (.l (i n0)))]))])
 (.seq (.ops [(oq n3 (.mv (.c (.d .nil))))])
 (.seq (.seq (.ops [(oq n4 (.mv (k n0)))])
 (.block n0 (.loop (.seq (.seq (.ops [(om n5 n4),(om n6 n0),(oq n7 (.len (.t n6))),(oq n8 (.bin .lss (.t n5) (.t n7)))])
 (.cond (.t n8) .skip
 (.exit n0)))
 (.seq (.block n1 (.ops [(om n11 n3),(om n12 n0),(om n13 n4),(oq n14 (.iaddr n1 (.t n12) (.t n13))),(ol n15 n14),(oq n16 (.build [(.int .u8 (.l (i n0))),(.int .i64 (.l (i n0)))] [(n1,n1,(.t n15))])),(oq n17 (.bslice n2 n1 [(.int .u8 (.l (i n0))),(.int .i64 (.l (i n0)))] [(n0,(.t n16))] false)),(oq n18 (.appendN n2 n16 (.t n11) (.t n17) true)),(om n3 n18)]))
 (.ops [(om n9 n4),(oq n10 (.bin .add (.t n9) (k n1))),(om n4 n10)]))))))
 (.seq (.ops [(oq n19 (.bslice n1 n2 [(.int .i64 (.l (i n0)))] [(n0,(k n2)),(n1,(k n3))] false)),(oq n20 (.bslice n1 n2 [(.int .i64 (.l (i n0)))] [(n0,(k n0)),(n1,(k n1))] false)),(om n21 n3),(oq n22 (.call (.c (.fn n40 [] [])) [(.t n19),(.t n20),(.t n21)] .share)),⟨none,none,.store n5 (.t n2) (.t n22)⟩])
 .ret))))
def x64 : XFn := ⟨a64,n23,[(.c n2 (some n5))],c64⟩
def a65 : Ann := ⟨[(n1,n3,n1),(n1,n5,n1)],[]⟩
def c65 : ICode :=
 (.seq (.ops [(oq n0 (.alloc [(.int .i64 (.l (i n0))),.nil,.nil]))])
 (.seq (.ops [(oq n1 (.build [(.int .u8 (.l (i n0))),(.int .i64 (.l (i n0)))] [])),(oq n2 (.build [(.int .u8 (.l (i n0))),(.int .i64 (.l (i n0)))] [(n1,n1,(k n1))])),(oq n3 (.bslice n2 n2 [(.int .u8 (.l (i n0))),(.int .i64 (.l (i n0)))] [(n0,(.t n1)),(n1,(.t n2))] false)),(oq n4 (.call (.c (.fn n67 [] [])) [] .share)),(oq n5 (.bslice n1 n3 [(.int .i64 (.l (i n0)))] [(n0,(k n0)),(n1,(k n1)),(n2,(k n2))] false)),(oq n6 (.call (.c (.fn n66 [] [])) [(k n1),(.t n5)] .share)),(oq n7 (.bslice n3 n2 [(.int .i64 (.l (i n0))),.nil,.nil] [(n0,(.t n4)),(n1,(.t n6))] false)),(oq n8 (.build [(.int .i64 (.l (i n0))),.nil,.nil] [(n0,n1,(k n0)),(n1,n1,(.t n3)),(n2,n1,(.t n7))])),⟨none,none,.store n3 (.t n0) (.t n8)⟩])
 .ret))
def x65 : XFn := ⟨a65,n9,[(.c n0 (some n3))],c65⟩
def a66 : Ann := ⟨[(n5,n8,n3),(n5,n11,n1),(n5,n13,n3)],[]⟩
def c66 : ICode :=
 (.seq (.ops [(oq n4 (.alloc [(.int .i64 (.l (i n0))),.nil,.nil]))])
 (.seq (.ops [(om n7 n0),(oq n8 (.build [(.int .i64 (.l (i n0))),.nil,.nil] [(n0,n1,(.t n7))])),(oq n5 (.alloc [(.int .i64 (.l (i n0))),.nil,.nil])),⟨none,none,.store n3 (.t n5) (.t n8)⟩])
 (.seq (.seq (.ops [(oq n6 (.mv (k n0)))])
 (.block n0 (.loop (.seq (.seq (.ops [(om n9 n6),(om n10 n1),(oq n11 (.len (.t n10))),(oq n12 (.bin .lss (.t n9) (.t n11)))])
 (.cond (.t n12) .skip
 (.exit n0)))
 (.seq (.block n1 (.draw n0 [(dq (of n15 n1 n5) n0 n0 [] [] false true),(dz (om n17 n1) n2 n0),(dz (om n18 n6) n3 n0),(dz (oq n19 (.iaddr n1 (.t n17) (.t n18))) n4 n0),(dq (of n24 n2 n5) n9 n0 [] [] false true),(dq (ol n16 n15) n1 n0 [] [] false true),(dz (ol n20 n19) n5 n0),(dz (oq n21 (.build [(.int .u8 (.l (i n0))),(.int .i64 (.l (i n0)))] [(n1,n1,(.t n20))])) n6 n0),(dq (ol n25 n24) n10 n0 [] [] false true),(dq (oq n22 (.bslice n2 n1 [(.int .u8 (.l (i n0))),(.int .i64 (.l (i n0)))] [(n0,(.t n21))] false)) n7 n0 [] [n6,n5,n4,n2,n3] false false),(dq (oq n23 (.appendN n2 n16 (.t n16) (.t n22) true)) n8 n0 [] [n1,n7,n0,n6,n5,n4,n2,n3] false false),(dq (of n29 n1 n5) n14 n0 [] [] false true),(dq (oq n26 (.call (.c (.fn n67 [] [])) [] .share)) n11 n0 [] [n8,n1,n7,n0,n6,n5,n4,n2,n3] false false),(dq (oq n27 (.bslice n3 n1 [(.int .i64 (.l (i n0))),.nil,.nil] [(n0,(.t n26))] false)) n12 n0 [] [n11,n8,n1,n7,n0,n6,n5,n4,n2,n3] false false),(dq (oq n28 (.appendN n3 n56 (.t n25) (.t n27) true)) n13 n0 [] [n10,n12,n11,n9,n8,n1,n7,n0,n6,n5,n4,n2,n3] false false),⟨⟨none,none,.store n1 (.t n29) (.t n23)⟩,n15,n0,[],[n14,n8,n13,n0,n1,n2,n3,n4,n5,n6,n7,n9,n10,n12,n11],true,false⟩,(dz (of n30 n2 n5) n16 n0),⟨⟨none,none,.store n1 (.t n30) (.t n28)⟩,n17,n0,[],[n16,n13,n15,n0,n1,n2,n3,n4,n5,n6,n7,n8,n9,n10,n11,n12,n14],true,false⟩]))
 (.ops [(om n13 n6),(oq n14 (.bin .add (.t n13) (k n1))),(om n6 n14)]))))))
 (.seq (.ops [(oq n31 (.load (some n3) (.t n5))),⟨none,none,.store n3 (.t n4) (.t n31)⟩])
 .ret))))
def x66 : XFn := ⟨a66,n32,[(.c n4 (some n3))],c66⟩
def a67 : Ann := ⟨[],[]⟩
def c67 : ICode :=
 (.seq (.ops [(oq n0 (.alloc [(.int .i64 (.l (i n0))),.nil,.nil]))])
 (.seq (.ops [(oq n1 (.build [(.int .i64 (.l (i n0))),.nil,.nil] [(n0,n1,(.c (.d (.int .i64 (.l (.negSucc n0))))))])),⟨none,none,.store n3 (.t n0) (.t n1)⟩])
 .ret))
def x67 : XFn := ⟨a67,n2,[(.c n0 (some n3))],c67⟩
def a70 : Ann := ⟨[(n1,n2,n3),(n1,n5,n3),(n1,n8,n4),(n5,n14,n3),(n5,n17,n3)],[]⟩
def c70 : ICode :=
 (.seq (.ops [(oq n1 (.box (.t n0))),(oq n2 (.alloc [.nil,.nil,.nil,.nil,(.int .i64 (.l (i n0)))]))])
 (.seq (.draw n1 [(dz (of n5 n0 n1) n0 n0),(dz (of n8 n1 n1) n3 n0),(dz (of n11 n2 n1) n6 n0),(dz (of n14 n4 n1) n9 n0),(dq (ol n6 n5) n1 n0 [n0] [] false false),(dq (ol n9 n8) n4 n0 [n0] [] false false),(dq (ol n12 n11) n7 n0 [n0] [] false false),(dq (ol n15 n14) n10 n0 [n0] [] false false),(dz (oq n3 (.alloc [.nil,.nil,.nil,.nil,(.int .i64 (.l (i n0)))])) n12 n0),(dz (oq n7 (.call (.c (.fn n74 [] [])) [(.t n6)] .data)) n2 n0),(dz (oq n10 (.call (.c (.fn n74 [] [])) [(.t n9)] .data)) n5 n0),(dz (oq n13 (.appendP n2 n16 (.c (.d .nil)) (.t n12))) n8 n0),(dz (oq n16 (.build [.nil,.nil,.nil,.nil,(.int .i64 (.l (i n0)))] [(n0,n1,(.t n7)),(n1,n1,(.t n10)),(n2,n1,(.t n13)),(n4,n1,(.t n15))])) n11 n0),⟨⟨none,none,.store n5 (.t n3) (.t n16)⟩,n13,n1,[],[n12,n11,n8,n0,n1,n2,n3,n4,n5,n6,n7,n9,n10],true,false⟩])
 (.seq (.seq (.ops [(oq n4 (.mv (k n0)))])
 (.block n0 (.loop (.seq (.seq (.ops [(om n17 n4),(of n18 n3 n1),(ol n19 n18),(oq n20 (.len (.t n19))),(oq n21 (.bin .lss (.t n17) (.t n20)))])
 (.cond (.t n21) .skip
 (.exit n0)))
 (.seq (.block n1 (.draw n0 [(dq (of n24 n3 n3) n0 n0 [] [] false true),(dz (of n26 n3 n1) n2 n0),(dz (om n28 n4) n4 n0),(dz (of n32 n3 n1) n8 n0),(dz (om n34 n4) n10 n0),(dq (ol n25 n24) n1 n0 [] [] false true),(dz (ol n27 n26) n3 n0),(dz (oq n29 (.iaddr n2 (.t n27) (.t n28))) n5 n0),(dz (of n30 n0 n29) n6 n0),(dz (ol n31 n30) n7 n0),(dz (ol n33 n32) n9 n0),(dz (oq n35 (.iaddr n2 (.t n33) (.t n34))) n11 n0),(dz (of n36 n1 n35) n12 n0),(dz (ol n37 n36) n13 n0),(dz (oq n38 (.call (.c (.fn n74 [] [])) [(.t n37)] .data)) n14 n0),(dz (oq n39 (.build [(.int .i64 (.l (i n0))),.nil] [(n0,n1,(.t n31)),(n1,n1,(.t n38))])) n15 n0),(dq (oq n40 (.bslice n2 n1 [(.int .i64 (.l (i n0))),.nil] [(n0,(.t n39))] false)) n16 n0 [] [n15,n7,n14,n6,n5,n3,n4,n2,n13,n12,n11,n9,n10,n8] false false),(dq (oq n41 (.appendN n2 n32 (.t n25) (.t n40) true)) n17 n0 [] [n1,n16,n14,n0,n15,n7,n6,n5,n3,n4,n2,n13,n12,n11,n9,n10,n8] true false),(dz (of n42 n3 n3) n18 n0),⟨⟨none,none,.store n1 (.t n42) (.t n41)⟩,n19,n0,[],[n18,n17,n0,n1,n2,n3,n4,n5,n6,n7,n8,n9,n10,n11,n12,n13,n14,n15,n16],true,false⟩]))
 (.ops [(om n22 n4),(oq n23 (.bin .add (.t n22) (k n1))),(om n4 n23)]))))))
 (.seq (.ops [(oq n43 (.load (some n5) (.t n3))),⟨none,none,.store n5 (.t n2) (.t n43)⟩])
 .ret))))
def x70 : XFn := ⟨a70,n44,[(.c n2 (some n5))],c70⟩
def a73 : Ann := ⟨[(n1,n5,n1),(n4,n1,n1)],[]⟩
def c73 : ICode :=
 (.seq (.ops [(oq n8 (.box (.t n3))),(oq n9 (.box (.t n4))),(oq n10 (.alloc [(.int .i64 (.l (i n0))),.nil,.nil])),(oq n11 (.mv (k n0))),(oq n12 (.mv (k n0)))])
 (.seq (.ops [(om n16 n0),(om n17 n1),(om n18 n2),(oq n19 (.load (some n5) (.t n8))),(oq n20 (.load (some n5) (.t n9))),(oq n21 (.call (.c (.fn n108 [] [])) [(.t n16),(.t n17),(.t n18),(.t n19),(.t n20)] .share)),(om n15 n21),(oq n22 (.extract (.t n15) n0)),(oq n23 (.extract (.t n15) n1)),(om n13 n22),(om n12 n23)])
 (.seq (.seq (.ops [(om n24 n12),(oq n25 (.bin .neq (.t n24) (k n0)))])
 (.cond (.t n25) (.seq (.ops [(oq n26 (.build [(.int .i64 (.l (i n0))),.nil,.nil] [])),(om n27 n12),⟨none,none,.store n3 (.t n10) (.t n26)⟩,(oq n11 (.mv (k n0))),(om n12 n27)])
 .ret)
 .skip))
 (.seq (.ops [(om n29 n13),(oq n30 (.call (.c (.fn n109 [] [])) [(.t n29)] .share)),(om n28 n30),(oq n31 (.extract (.t n28) n0)),(oq n32 (.extract (.t n28) n1)),(oq n33 (.extract (.t n28) n2)),⟨none,none,.store n3 (.t n10) (.t n31)⟩,(om n11 n32),(om n14 n33)])
 (.seq (.seq (.ops [(om n34 n14),(oq n35 (.un .not (.t n34)))])
 (.cond (.t n35) (.seq (.ops [(oq n36 (.build [(.int .i64 (.l (i n0))),.nil,.nil] [])),⟨none,none,.store n3 (.t n10) (.t n36)⟩,(oq n11 (.mv (k n0))),(oq n12 (.mv (k n7)))])
 .ret)
 .skip))
 (.seq (.ops [(oq n37 (.load (some n3) (.t n10))),(om n38 n11),⟨none,none,.store n3 (.t n10) (.t n37)⟩,(om n11 n38),(oq n12 (.mv (k n0)))])
 .ret))))))
def x73 : XFn := ⟨a73,n39,[(.c n10 (some n3)),(.t n11),(.t n12)],c73⟩
def a74 : Ann := ⟨[(n1,n1,n3)],[]⟩
def c74 : ICode :=
 (.seq (.ops [(oq n2 (.mv (.c (.d .nil))))])
 (.seq (.ops [(om n3 n0),(oq n4 (.appendN n1 n8 (.c (.d .nil)) (.t n3) true)),(om n2 n4)])
 .ret))
def x74 : XFn := ⟨a74,n5,[(.t n2)],c74⟩
def a75 : Ann := ⟨[(n5,n5,n1),(n5,n7,n3)],[]⟩
def c75 : ICode :=
 (.seq (.ops [(oq n2 (.mv (.c (.d .nil))))])
 (.seq (.ops [(oq n3 (.mv (.c (.d .nil))))])
 (.seq (.seq (.ops [(oq n4 (.mv (k n0)))])
 (.block n0 (.loop (.seq (.seq (.ops [(om n5 n4),(om n6 n0),(oq n7 (.len (.t n6))),(oq n8 (.bin .lss (.t n5) (.t n7)))])
 (.cond (.t n8) .skip
 (.exit n0)))
 (.seq (.block n1 (.ops [(om n11 n3),(om n12 n0),(om n13 n4),(oq n14 (.iaddr n5 (.t n12) (.t n13))),(oq n15 (.load (some n5) (.t n14))),(oq n16 (.call (.c (.fn n70 [] [])) [(.t n15)] .share)),(oq n17 (.bslice n5 n1 [.nil,.nil,.nil,.nil,(.int .i64 (.l (i n0)))] [(n0,(.t n16))] false)),(oq n18 (.appendN n5 n104 (.t n11) (.t n17) true)),(om n3 n18)]))
 (.ops [(om n9 n4),(oq n10 (.bin .add (.t n9) (k n1))),(om n4 n10)]))))))
 (.seq (.ops [(om n19 n3),(om n2 n19)])
 .ret))))
def x75 : XFn := ⟨a75,n20,[(.t n2)],c75⟩
def a80 : Ann := ⟨[(n1,n5,n1),(n4,n1,n1),(n14,n6,n3),(n17,n3,n3)],[]⟩
def c80 : ICode :=
 (.seq (.ops [(oq n8 (.box (.t n3))),(oq n9 (.box (.t n4))),(oq n10 (.mv (.c (.d .nil)))),(oq n11 (.mv (k n0)))])
 (.seq (.ops [(om n25 n0),(om n26 n1),(om n27 n2),(oq n28 (.load (some n5) (.t n8))),(oq n29 (.load (some n5) (.t n9))),(oq n30 (.call (.c (.fn n108 [] [])) [(.t n25),(.t n26),(.t n27),(.t n28),(.t n29)] .share)),(om n24 n30),(oq n31 (.extract (.t n24) n0)),(oq n32 (.extract (.t n24) n1)),(om n12 n31),(om n13 n32)])
 (.seq (.seq (.ops [(om n33 n13),(oq n34 (.bin .neq (.t n33) (k n0)))])
 (.cond (.t n34) (.seq (.ops [(om n35 n13),(oq n10 (.mv (.c (.d .nil)))),(om n11 n35)])
 .ret)
 .skip))
 (.seq (.ops [(om n37 n12),(oq n38 (.call (.c (.fn n109 [] [])) [(.t n37)] .share)),(om n36 n38),(oq n39 (.extract (.t n36) n0)),(oq n40 (.extract (.t n36) n1)),(oq n41 (.extract (.t n36) n2)),(oq n14 (.alloc [(.int .i64 (.l (i n0))),.nil,.nil])),⟨none,none,.store n3 (.t n14) (.t n39)⟩,(om n15 n40),(om n16 n41)])
 (.seq (.seq (.ops [(om n42 n16),(oq n43 (.un .not (.t n42)))])
 (.cond (.t n43) (.seq (.ops [(oq n10 (.mv (.c (.d .nil)))),(oq n11 (.mv (k n7)))])
 .ret)
 .skip))
 (.seq (.ops [(oq n17 (.mv (.c (.d .nil))))])
 (.seq (.seq (.ops [(om n44 n2),(oq n45 (.len (.t n44))),(oq n46 (.mv (k n0)))])
 (.block n0 (.loop (.seq (.ops [(oq n47 (.bin .lss (.t n46) (.t n45)))])
 (.seq (.cond (.t n47) .skip
 (.exit n0))
 (.seq (.block n1 (.seq (.ops [(om n48 n46),(om n18 n48)])
 (.seq (.ops [(oq n19 (.alloc [(.bool false),(.bool false),(.bool false),(.bool false)]))])
 (.seq (.ops [(om n49 n18),(oq n50 (.iaddrA n4 n1 (.t n19) (.t n49))),⟨none,none,.store n1 (.t n50) (.c (.d (.bool true)))⟩])
 (.seq (.ops [(oq n20 (.mv (.c (.d (.int .i64 (.l (.negSucc n0)))))))])
 (.seq (.seq (.draw n1 [(dz (om n52 n12) n0 n0),(dz (om n53 n12) n1 n0),(dz (oq n54 (.nilchk (.t n53))) n2 n0),(dz (of n55 n4 n54) n3 n0),(dq (ol n56 n55) n4 n0 [n0] [] false false),(dq (oq n57 (.load (some n4) (.t n19))) n5 n0 [n0] [] false false),(dz (oq n21 (.alloc [(.int .i64 (.l (i n0))),.nil,.nil])) n11 n0),(dz (oq n58 (.call (.c (.fn n110 [] [])) [(.t n52),(.t n56),(.t n57)] .data)) n6 n0),(dz (om n51 n58) n7 n0),(dz (oq n59 (.extract (.t n51) n0)) n8 n0),(dq (oq n60 (.extract (.t n51) n1)) n9 n0 [] [] false true),(dq (oq n61 (.extract (.t n51) n2)) n10 n0 [] [] false true),⟨⟨none,none,.store n3 (.t n21) (.t n59)⟩,n12,n1,[],[n11,n8,n6,n0,n1,n2,n3,n4,n5,n7],false,false⟩,(dz (om n22 n60) n13 n1),(dz (om n23 n61) n14 n1)])
 (.seq (.ops [(om n62 n23)])
 (.cond (.t n62) (.ops [(om n63 n22),(om n64 n15),(oq n65 (.bin .sub (.t n63) (.t n64))),(om n20 n65)])
 .skip)))
 (.ops [(om n66 n17),(om n67 n20),(oq n68 (.bslice n1 n1 [(.int .i64 (.l (i n0)))] [(n0,(.t n67))] false)),(oq n69 (.appendN n1 n8 (.t n66) (.t n68) true)),(om n17 n69)])))))))
 (.ops [(oq n70 (.bin .add (.t n46) (k n1))),(om n46 n70)])))))))
 (.seq (.ops [(om n71 n17),(om n10 n71),(oq n11 (.mv (k n0)))])
 .ret))))))))
def x80 : XFn := ⟨a80,n72,[(.t n10),(.t n11)],c80⟩
def a81 : Ann := ⟨[(n1,n5,n1),(n9,n7,n0),(n11,n11,n1),(n11,n25,n1)],[]⟩
def c81 : ICode :=
 (.seq (.ops [(oq n8 (.box (.t n3))),(oq n9 (.box (.t n4))),(oq n10 (.mv (.c (.d .nil)))),(oq n11 (.mv (.c (.d .nil)))),(oq n12 (.mv (k n0)))])
 (.seq (.ops [(om n19 n0),(om n20 n1),(om n21 n2),(oq n22 (.load (some n5) (.t n8))),(oq n23 (.load (some n5) (.t n9))),(oq n24 (.call (.c (.fn n108 [] [])) [(.t n19),(.t n20),(.t n21),(.t n22),(.t n23)] .share)),(om n18 n24),(oq n25 (.extract (.t n18) n0)),(oq n26 (.extract (.t n18) n1)),(om n13 n25),(om n12 n26)])
 (.seq (.seq (.ops [(om n27 n12),(oq n28 (.bin .neq (.t n27) (k n0)))])
 (.cond (.t n28) (.seq (.ops [(om n29 n12),(oq n10 (.mv (.c (.d .nil)))),(oq n11 (.mv (.c (.d .nil)))),(om n12 n29)])
 .ret)
 .skip))
 (.seq (.seq (.ops [(om n30 n13),(oq n31 (.nilchk (.t n30))),(of n32 n4 n31),(ol n33 n32),(oq n34 (.len (.t n33))),(oq n35 (.mv (k n0)))])
 (.block n0 (.loop (.seq (.ops [(oq n36 (.bin .lss (.t n35) (.t n34)))])
 (.seq (.cond (.t n36) .skip
 (.exit n0))
 (.seq (.block n1 (.seq (.ops [(om n37 n35),(oq n38 (.iaddr n9 (.t n33) (.t n35))),(oq n39 (.load (some n9) (.t n38))),(oq n15 (.alloc [(.int .u8 (.l (i n0))),(.int .i64 (.l (i n0))),(.int .u8 (.l (i n0))),(.int .i64 (.l (i n0))),(.int .u8 (.l (i n0))),(.int .i64 (.l (i n0))),(.int .u8 (.l (i n0))),(.int .i64 (.l (i n0))),(.bool false)])),(om n14 n37),⟨none,none,.store n9 (.t n15) (.t n39)⟩])
 (.seq (.ops [(oq n40 (.load (some n9) (.t n15))),(oq n16 (.alloc [(.int .u8 (.l (i n0))),(.int .i64 (.l (i n0))),(.int .u8 (.l (i n0))),(.int .i64 (.l (i n0))),(.int .u8 (.l (i n0))),(.int .i64 (.l (i n0))),(.int .u8 (.l (i n0))),(.int .i64 (.l (i n0))),(.bool false)])),⟨none,none,.store n9 (.t n16) (.t n40)⟩])
 (.seq (.ops [(of n41 n8 n15),(ol n42 n41),(oq n43 (.un .not (.t n42))),(of n44 n8 n16),⟨none,none,.store n1 (.t n44) (.t n43)⟩])
 (.seq (.draw n0 [(dz (om n45 n13) n0 n0),(dz (oq n46 (.nilchk (.t n45))) n1 n0),(dz (of n47 n4 n46) n2 n0),(dz (om n49 n14) n4 n0),(dz (ol n48 n47) n3 n0),(dz (oq n50 (.slice n9 (.t n48) (some (.t n49)) none none)) n5 n0),(dz (oq n51 (.load (some n9) (.t n16))) n6 n0),(dq (oq n52 (.call (.c (.fn n111 [] [])) [(.t n50),(.t n51)] .borrow)) n7 n0 [] [n5,n6,n3,n4,n2,n1,n0] true false),(dz (om n17 n52) n8 n0)])
 (.seq (.ops [(om n53 n17),(oq n54 (.bin .geq (.t n53) (k n0)))])
 (.cond (.t n54) (.seq (.draw n0 [(dz (om n55 n13) n0 n0),(dz (oq n56 (.nilchk (.t n55))) n1 n0),(dz (of n57 n0 n56) n2 n0),(dz (om n59 n13) n4 n0),(dz (oq n60 (.nilchk (.t n59))) n5 n0),(dz (of n61 n3 n60) n6 n0),(dz (om n63 n14) n8 n0),(dq (om n67 n13) n12 n0 [] [] false true),(dq (oq n68 (.nilchk (.t n67))) n13 n0 [] [] false true),(dq (of n69 n0 n68) n14 n0 [] [] false true),(dq (om n71 n13) n16 n0 [] [] false true),(dq (oq n72 (.nilchk (.t n71))) n17 n0 [] [] false true),(dq (of n73 n3 n72) n18 n0 [] [] false true),(dq (om n75 n14) n20 n0 [] [] false true),(dq (om n76 n17) n21 n0 [] [] false true),(dq (oq n77 (.bin .add (.t n75) (.t n76))) n22 n0 [] [] false true),(dz (oq n58 (.load (some n2) (.t n57))) n3 n0),(dz (ol n62 n61) n7 n0),(dz (oq n64 (.iaddr n1 (.t n62) (.t n63))) n9 n0),(dz (ol n65 n64) n10 n0),(dq (oq n70 (.load (some n2) (.t n69))) n15 n0 [] [] false true),(dq (ol n74 n73) n19 n0 [] [] false true),(dq (oq n78 (.iaddr n1 (.t n74) (.t n77))) n23 n0 [] [] false true),(dq (ol n79 n78) n24 n0 [] [] false true),(dq (oq n66 (.call (.c (.fn n112 [] [])) [(.t n58),(.t n65)] .share)) n11 n0 [] [n3,n10,n2,n1,n0,n9,n7,n8,n6,n5,n4] false false),(dq (oq n80 (.call (.c (.fn n112 [] [])) [(.t n70),(.t n79)] .share)) n25 n0 [] [n15,n24,n11,n14,n13,n12,n23,n19,n22,n18,n17,n16,n20,n21,n3,n10,n2,n1,n0,n9,n7,n8,n6,n5,n4] true false),(dz (om n10 n66) n26 n0),(dz (om n11 n80) n27 n0),(dz (oq n12 (.mv (k n0))) n28 n0)])
 .ret)
 .skip)))))))
 (.ops [(oq n81 (.bin .add (.t n35) (k n1))),(om n35 n81)])))))))
 (.seq (.ops [(oq n10 (.mv (.c (.d .nil)))),(oq n11 (.mv (.c (.d .nil)))),(oq n12 (.mv (k n7)))])
 .ret)))))
def x81 : XFn := ⟨a81,n82,[(.t n10),(.t n11),(.t n12)],c81⟩
def a82 : Ann := ⟨[(n1,n4,n4),(n5,n9,n1),(n5,n11,n3)],[]⟩
def c82 : ICode :=
 (.seq (.ops [(oq n2 (.box (.t n0))),(oq n4 (.alloc [(.int .i64 (.l (i n0))),.nil,.nil]))])
 (.seq (.draw n1 [(dz (of n7 n0 n2) n0 n0),(dz (of n9 n1 n2) n2 n0),(dq (ol n8 n7) n1 n0 [n0] [] false false),(dq (ol n10 n9) n3 n0 [n0] [] false false),(dz (oq n11 (.appendP n2 n16 (.c (.d .nil)) (.t n10))) n4 n0),(dz (oq n12 (.build [(.int .i64 (.l (i n0))),.nil,.nil] [(n0,n1,(.t n8)),(n1,n1,(.t n11))])) n5 n0),(dz (oq n5 (.alloc [(.int .i64 (.l (i n0))),.nil,.nil])) n6 n0),⟨⟨none,none,.store n3 (.t n5) (.t n12)⟩,n7,n1,[],[n6,n5,n4,n0,n1,n2,n3],true,false⟩])
 (.seq (.seq (.ops [(oq n6 (.mv (k n0)))])
 (.block n0 (.loop (.seq (.seq (.ops [(om n13 n6),(of n14 n2 n2),(ol n15 n14),(oq n16 (.len (.t n15))),(oq n17 (.bin .lss (.t n13) (.t n16))),(om n18 n17),(og n19 n18 true (.mv (.t n1))),(og n20 n18 true (.bin .gtr (.t n19) (k n0))),(oq n21 (.pick (.t n18) (.t n20) (.c (.d (.bool false)))))])
 (.cond (.t n21) .skip
 (.exit n0)))
 (.seq (.block n1 (.draw n0 [(dq (of n24 n2 n5) n0 n0 [] [] false true),(dz (of n26 n2 n2) n2 n0),(dz (om n28 n6) n4 n0),(dz (om n31 n1) n7 n0),(dz (oq n32 (.bin .sub (.t n31) (k n1))) n8 n0),(dq (ol n25 n24) n1 n0 [] [] false true),(dz (ol n27 n26) n3 n0),(dz (oq n29 (.iaddr n3 (.t n27) (.t n28))) n5 n0),(dz (oq n30 (.load (some n3) (.t n29))) n6 n0),(dq (oq n33 (.call (.c (.fn n82 [] [])) [(.t n30),(.t n32)] .share)) n9 n0 [] [n6,n8,n5,n3,n4,n2,n7] false false),(dq (oq n34 (.bslice n3 n1 [(.int .i64 (.l (i n0))),.nil,.nil] [(n0,(.t n33))] false)) n10 n0 [] [n9,n6,n8,n5,n3,n4,n2,n7] false false),(dq (oq n35 (.appendN n3 n56 (.t n25) (.t n34) true)) n11 n0 [] [n1,n10,n9,n0,n6,n8,n5,n3,n4,n2,n7] true false),(dz (of n36 n2 n5) n12 n0),⟨⟨none,none,.store n1 (.t n36) (.t n35)⟩,n13,n0,[],[n12,n11,n0,n1,n2,n3,n4,n5,n6,n7,n8,n9,n10],true,false⟩]))
 (.ops [(om n22 n6),(oq n23 (.bin .add (.t n22) (k n1))),(om n6 n23)]))))))
 (.seq (.ops [(oq n37 (.load (some n3) (.t n5))),⟨none,none,.store n3 (.t n4) (.t n37)⟩])
 .ret))))
def x82 : XFn := ⟨a82,n38,[(.c n4 (some n3))],c82⟩
def a83 : Ann := ⟨[(n2,n2,n2),(n11,n4,n0)],[]⟩
def c83 : ICode :=
 (.seq (.ops [(oq n2 (.box (.t n0))),(oq n4 (.mv (k n0))),(oq n5 (.mv (.c (.d (.bool false)))))])
 (.seq (.ops [(oq n11 (.build [(.raw .nilFunc)] [(n0,n1,(.c (.fn n113 [] [])))])),(oq n12 (.build [(.raw .nilFunc)] [(n0,n1,(.c (.fn n114 [] [])))])),(oq n13 (.build [(.raw .nilFunc)] [(n0,n1,(.c (.fn n115 [] [])))])),(oq n14 (.build [(.raw .nilFunc)] [(n0,n1,(.c (.fn n116 [] [])))])),(oq n15 (.bslice n1 n4 [(.raw .nilFunc)] [(n0,(.t n11)),(n1,(.t n12)),(n2,(.t n13)),(n3,(.t n14))] false)),(om n6 n15)])
 (.seq (.seq (.ops [(om n16 n6),(oq n17 (.mkfn n118 [] [(.t n2)])),(oq n18 (.call (.c (.fn n117 [] [])) [(.t n16),(.t n17)] .raw)),(oq n19 (.un .not (.t n18)))])
 (.cond (.t n19) (.seq (.ops [(oq n4 (.mv (k n0))),(oq n5 (.mv (.c (.d (.bool false)))))])
 .ret)
 .skip))
 (.seq (.seq (.ops [(of n20 n0 n2),(of n21 n0 n20),(ol n22 n21),(oq n23 (.bin .lss (.t n22) (k n0)))])
 (.cond (.t n23) (.seq (.ops [(oq n4 (.mv (k n0))),(oq n5 (.mv (.c (.d (.bool true)))))])
 .ret)
 .skip))
 (.seq (.seq (.ops [(om n24 n1),(oq n25 (.bin .eql (.t n24) (k n0)))])
 (.cond (.t n25) (.seq (.ops [(oq n4 (.mv (k n0))),(oq n5 (.mv (.c (.d (.bool false)))))])
 .ret)
 .skip))
 (.seq (.seq (.ops [(of n26 n0 n2),(of n27 n2 n26),(ol n28 n27),(oq n29 (.len (.t n28))),(oq n30 (.mv (k n0)))])
 (.block n0 (.loop (.seq (.ops [(oq n31 (.bin .lss (.t n30) (.t n29)))])
 (.seq (.cond (.t n31) .skip
 (.exit n0))
 (.seq (.block n1 (.seq (.ops [(oq n32 (.iaddr n3 (.t n28) (.t n30))),(oq n33 (.load (some n3) (.t n32))),(oq n8 (.alloc [(.int .i64 (.l (i n0))),.nil,.nil])),⟨none,none,.store n3 (.t n8) (.t n33)⟩])
 (.seq (.ops [(oq n35 (.load (some n3) (.t n8))),(oq n36 (.build [(.int .i64 (.l (i n0))),.nil,.nil] [(n0,n3,(.t n35))])),(om n37 n1),(oq n38 (.bin .sub (.t n37) (k n1))),(oq n39 (.call (.c (.fn n83 [] [])) [(.t n36),(.t n38)] .borrow)),(om n34 n39),(oq n40 (.extract (.t n34) n0)),(oq n41 (.extract (.t n34) n1)),(om n9 n40),(om n10 n41)])
 (.seq (.seq (.ops [(om n42 n10),(oq n43 (.un .not (.t n42)))])
 (.cond (.t n43) (.seq (.ops [(oq n4 (.mv (k n0))),(oq n5 (.mv (.c (.d (.bool false)))))])
 .ret)
 .skip))
 (.ops [(om n44 n4),(om n45 n9),(oq n46 (.max (.t n44) (.t n45))),(om n4 n46)])))))
 (.ops [(oq n47 (.bin .add (.t n30) (k n1))),(om n30 n47)])))))))
 (.seq (.ops [(om n48 n4),(oq n49 (.bin .add (.t n48) (k n1))),(om n4 n49),(oq n5 (.mv (.c (.d (.bool true)))))])
 .ret)))))))
def x83 : XFn := ⟨a83,n50,[(.t n4),(.t n5)],c83⟩
def a84 : Ann := ⟨[(n1,n1,n0),(n4,n2,n0),(n7,n2,n1),(n10,n5,n0),(n25,n6,n1),(n26,n3,n0),(n29,n4,n3)],[]⟩
def c84 : ICode :=
 (.seq (.ops [(oq n5 (.box (.t n0))),(oq n10 (.mv (.c (.d .nil)))),(oq n11 (.mv (k n0)))])
 (.seq (.seq (.ops [(oq n23 (.load (some n3) (.t n5))),(oq n24 (.call (.c (.fn n35 [] [])) [(.t n23)] .borrow)),(om n12 n24)])
 (.seq (.ops [(om n25 n12),(oq n26 (.bin .neq (.t n25) (k n0)))])
 (.cond (.t n26) (.seq (.ops [(om n27 n12),(oq n10 (.mv (.c (.d .nil)))),(om n11 n27)])
 .ret)
 .skip)))
 (.seq (.seq (.ops [(om n28 n1),(om n29 n2),(oq n30 (.call (.c (.fn n119 [] [])) [(.t n28),(.t n29)] .borrow)),(om n13 n30)])
 (.seq (.ops [(om n31 n13),(oq n32 (.bin .neq (.t n31) (k n0)))])
 (.cond (.t n32) (.seq (.ops [(om n33 n13),(oq n10 (.mv (.c (.d .nil)))),(om n11 n33)])
 .ret)
 .skip)))
 (.seq (.ops [(om n35 n1),(om n36 n2),(oq n37 (.call (.c (.fn n120 [] [])) [(.t n35),(.t n36),(.c (.d .nil))] .share)),(om n34 n37),(oq n38 (.extract (.t n34) n0)),(oq n39 (.extract (.t n34) n1)),(oq n14 (.alloc [.nil,.nil,.nil,.nil,(.int .i64 (.l (i n0)))])),⟨none,none,.store n5 (.t n14) (.t n38)⟩,(om n15 n39)])
 (.seq (.seq (.ops [(om n40 n15),(oq n41 (.bin .neq (.t n40) (k n0)))])
 (.cond (.t n41) (.seq (.ops [(om n42 n15),(oq n10 (.mv (.c (.d .nil)))),(om n11 n42)])
 .ret)
 .skip))
 (.seq (.seq (.ops [(om n43 n1),(om n44 n2),(om n45 n3),(oq n46 (.load (some n5) (.t n14))),(oq n47 (.load (some n5) (.t n14))),(oq n48 (.call (.c (.fn n98 [] [])) [(.t n43),(.t n44),(.t n45),(.t n46),(.t n47)] .borrow)),(om n16 n48)])
 (.seq (.ops [(om n49 n16),(oq n50 (.bin .neq (.t n49) (k n0)))])
 (.cond (.t n50) (.seq (.ops [(om n51 n16),(oq n10 (.mv (.c (.d .nil)))),(om n11 n51)])
 .ret)
 .skip)))
 (.seq (.seq (.ops [(om n52 n4),(oq n53 (.len (.t n52))),(om n54 n1),(oq n55 (.len (.t n54))),(oq n56 (.bin .neq (.t n53) (.t n55)))])
 (.cond (.t n56) (.seq (.ops [(oq n10 (.mv (.c (.d .nil)))),(oq n11 (.mv (k n3)))])
 .ret)
 .skip))
 (.seq (.seq (.ops [(om n57 n4),(oq n58 (.len (.t n57))),(oq n59 (.mv (k n0)))])
 (.block n0 (.loop (.seq (.ops [(oq n60 (.bin .lss (.t n59) (.t n58)))])
 (.seq (.cond (.t n60) .skip
 (.exit n0))
 (.seq (.block n1 (.seq (.ops [(om n61 n59),(oq n62 (.iaddr n1 (.t n57) (.t n59))),(ol n63 n62),(om n17 n61),(om n18 n63)])
 (.seq (.ops [(om n64 n18),(oq n65 (.bin .lss (.t n64) (k n0))),(om n66 n65),(og n67 n66 false (.mv (.t n18))),(og n68 n66 false (.mv (.t n1))),(og n69 n66 false (.mv (.t n17))),(og n70 n66 false (.iaddr n1 (.t n68) (.t n69))),(og n71 n66 false (.load none (.t n70))),(og n72 n66 false (.bin .geq (.t n67) (.t n71))),(oq n73 (.pick (.t n66) (.c (.d (.bool true))) (.t n72)))])
 (.cond (.t n73) (.seq (.ops [(oq n10 (.mv (.c (.d .nil)))),(oq n11 (.mv (k n3)))])
 .ret)
 .skip))))
 (.ops [(oq n74 (.bin .add (.t n59) (k n1))),(om n59 n74)])))))))
 (.seq (.ops [(oq n19 (.mv (.c (.d .nil))))])
 (.seq (.block n2 (.loop (.seq (.seq (.ops [(of n75 n0 n5),(ol n76 n75),(oq n77 (.bin .geq (.t n76) (k n0)))])
 (.cond (.t n77) .skip
 (.exit n2)))
 (.block n3 (.seq (.seq (.ops [(of n78 n0 n5),(ol n79 n78),(om n80 n3),(oq n81 (.len (.t n80))),(oq n82 (.bin .geq (.t n79) (.t n81)))])
 (.cond (.t n82) (.seq (.ops [(oq n10 (.mv (.c (.d .nil)))),(oq n11 (.mv (k n7)))])
 .ret)
 .skip))
 (.seq (.ops [(om n84 n3),(of n85 n0 n5),(ol n86 n85),(oq n87 (.iaddr n5 (.t n84) (.t n86))),(oq n88 (.load (some n5) (.t n87))),(om n89 n4),(oq n90 (.call (.c (.fn n121 [] [])) [(.t n88),(.t n89)] .share)),(om n83 n90),(oq n91 (.extract (.t n83) n0)),(oq n92 (.extract (.t n83) n1)),(oq n20 (.alloc [(.int .u8 (.l (i n0))),(.int .i64 (.l (i n0)))])),⟨none,none,.store n2 (.t n20) (.t n91)⟩,(om n21 n92)])
 (.seq (.ops [(of n93 n1 n5),(ol n94 n93),(oq n95 (.load (some n2) (.t n20))),(oq n96 (.call (.c (.fn n122 [] [])) [(.t n94),(.t n95)] .borrow)),(om n22 n96)])
 (.seq (.seq (.ops [(om n97 n22),(oq n98 (.bin .lss (.t n97) (k n0)))])
 (.cond (.t n98) (.seq (.ops [(oq n10 (.mv (.c (.d .nil)))),(oq n11 (.mv (k n7)))])
 .ret)
 .skip))
 (.seq (.ops [(om n99 n19),(of n100 n0 n5),(ol n101 n100),(oq n102 (.bslice n1 n1 [(.int .i64 (.l (i n0)))] [(n0,(.t n101))] false)),(oq n103 (.appendN n1 n8 (.t n99) (.t n102) true)),(om n19 n103)])
 (.ops [(of n104 n2 n5),(ol n105 n104),(om n106 n22),(oq n107 (.iaddr n3 (.t n105) (.t n106))),(oq n108 (.load (some n3) (.t n107))),⟨none,none,.store n3 (.t n5) (.t n108)⟩]))))))))))
 (.seq (.ops [(om n109 n19),(om n10 n109),(oq n11 (.mv (k n0)))])
 .ret)))))))))))
def x84 : XFn := ⟨a84,n110,[(.t n10),(.t n11)],c84⟩
def a88 : Ann := ⟨[(n2,n4,n0),(n8,n4,n3),(n14,n1,n3),(n17,n5,n2),(n18,n4,n3),(n19,n1,n0),(n24,n18,n0),(n26,n4,n3)],[]⟩
def c88 : ICode :=
 (.seq (.ops [(oq n4 (.box (.t n0))),(oq n8 (.alloc [.nil,.nil,.nil,.nil,(.int .i64 (.l (i n0)))])),(oq n9 (.mv (k n0)))])
 (.seq (.seq (.ops [(om n17 n2),(of n18 n1 n4),(ol n19 n18),(oq n20 (.len (.t n19))),(oq n21 (.bin .eql (.t n17) (.t n20)))])
 (.cond (.t n21) (.seq (.ops [(om n22 n1),(of n23 n0 n4),(ol n24 n23),(om n25 n3),(oq n26 (.call (.c (.fn n45 [] [])) [(.t n24),(.t n25)] .borrow)),(oq n27 (.iaddr n2 (.t n22) (.t n26))),(oq n28 (.load (some n2) (.t n27))),(oq n10 (.alloc [(.int .u8 (.l (i n0))),(.int .i64 (.l (i n0)))])),⟨none,none,.store n2 (.t n10) (.t n28)⟩])
 (.seq (.seq (.ops [(oq n11 (.mv (k n0)))])
 (.block n0 (.loop (.seq (.seq (.ops [(om n29 n11),(of n30 n2 n4),(ol n31 n30),(oq n32 (.len (.t n31))),(oq n33 (.bin .lss (.t n29) (.t n32)))])
 (.cond (.t n33) .skip
 (.exit n0)))
 (.seq (.block n1 (.seq (.draw n0 [(dz (of n36 n2 n4) n0 n0),(dz (om n38 n11) n2 n0),(dz (ol n37 n36) n1 n0),(dz (oq n39 (.iaddr n2 (.t n37) (.t n38))) n3 n0),(dz (oq n40 (.load (some n2) (.t n39))) n4 n0),(dz (oq n41 (.load (some n2) (.t n10))) n5 n0),(dz (oq n42 (.aeq false [.u8,.i64] (.t n40) (.t n41))) n6 n0)])
 (.cond (.t n42) (.seq (.ops [(oq n43 (.load (some n5) (.t n4))),(om n44 n11),(oq n45 (.bin .sub (.c (.d (.int .i64 (.l (.negSucc n0))))) (.t n44))),⟨none,none,.store n5 (.t n8) (.t n43)⟩,(om n9 n45)])
 .ret)
 .skip)))
 (.ops [(om n34 n11),(oq n35 (.bin .add (.t n34) (k n1))),(om n11 n35)]))))))
 (.seq (.ops [(of n46 n2 n4),(ol n47 n46),(oq n48 (.load (some n2) (.t n10))),(oq n49 (.bslice n2 n1 [(.int .u8 (.l (i n0))),(.int .i64 (.l (i n0)))] [(n0,(.t n48))] false)),(oq n50 (.appendN n2 n16 (.t n47) (.t n49) true)),(of n51 n2 n4),⟨none,none,.store n1 (.t n51) (.t n50)⟩])
 (.seq (.draw n0 [(dq (of n53 n2 n4) n1 n0 [] [] false true),(dz (oq n52 (.load (some n5) (.t n4))) n0 n0),(dq (ol n54 n53) n2 n0 [] [] false true),(dq (oq n55 (.len (.t n54))) n3 n0 [] [] false true),(dq (oq n56 (.un .neg (.t n55))) n4 n0 [] [] false true),⟨⟨none,none,.store n5 (.t n8) (.t n52)⟩,n5,n0,[],[n0],false,false⟩,(dz (om n9 n56) n6 n0)])
 .ret))))
 .skip))
 (.seq (.ops [(of n57 n1 n4),(ol n58 n57),(om n59 n2),(oq n60 (.iaddr n1 (.t n58) (.t n59))),(ol n61 n60),(oq n62 (.build [(.int .i64 (.l (i n0))),.nil] [(n0,n1,(.t n61))])),(oq n12 (.alloc [(.int .i64 (.l (i n0))),.nil])),⟨none,none,.store n2 (.t n12) (.t n62)⟩])
 (.seq (.seq (.ops [(oq n13 (.mv (k n0)))])
 (.block n2 (.loop (.seq (.seq (.ops [(om n63 n13),(of n64 n0 n4),(ol n65 n64),(of n66 n0 n12),(ol n67 n66),(oq n68 (.iaddr n1 (.t n65) (.t n67))),(ol n69 n68),(oq n70 (.bin .lss (.t n63) (.t n69)))])
 (.cond (.t n70) .skip
 (.exit n2)))
 (.seq (.block n3 (.seq (.ops [(om n73 n3),(oq n74 (.appendN n1 n8 (.c (.d .nil)) (.t n73) true)),(om n14 n74)])
 (.seq (.ops [(om n75 n14),(of n76 n0 n12),(ol n77 n76),(om n78 n13),(oq n79 (.iaddr n1 (.t n75) (.t n77))),⟨none,none,.store n1 (.t n79) (.t n78)⟩])
 (.seq (.ops [(oq n15 (.mv (k n0)))])
 (.seq (.ops [(oq n81 (.load (some n5) (.t n4))),(om n82 n1),(om n83 n2),(oq n84 (.bin .add (.t n83) (k n1))),(om n85 n14),(oq n86 (.call (.c (.fn n88 [] [])) [(.t n81),(.t n82),(.t n84),(.t n85)] .raw)),(om n80 n86),(oq n87 (.extract (.t n80) n0)),(oq n88 (.extract (.t n80) n1)),⟨none,none,.store n5 (.t n4) (.t n87)⟩,(om n15 n88)])
 (.ops [(of n89 n1 n12),(ol n90 n89),(om n91 n15),(oq n92 (.bslice n1 n1 [(.int .i64 (.l (i n0)))] [(n0,(.t n91))] false)),(oq n93 (.appendN n1 n8 (.t n90) (.t n92) true)),(of n94 n1 n12),⟨none,none,.store n1 (.t n94) (.t n93)⟩]))))))
 (.ops [(om n71 n13),(oq n72 (.bin .add (.t n71) (k n1))),(om n13 n72)]))))))
 (.seq (.seq (.ops [(oq n95 (.load (some n2) (.t n12))),(oq n96 (.call (.c (.fn n123 [] [])) [(.t n95)] .borrow))])
 (.cond (.t n96) (.seq (.draw n0 [(dq (of n98 n1 n12) n1 n0 [] [] false true),(dz (oq n97 (.load (some n5) (.t n4))) n0 n0),(dq (ol n99 n98) n2 n0 [] [] false true),(dq (oq n100 (.iaddr n1 (.t n99) (k n0))) n3 n0 [] [] false true),(dq (ol n101 n100) n4 n0 [] [] false true),⟨⟨none,none,.store n5 (.t n8) (.t n97)⟩,n5,n0,[],[n0],false,false⟩,(dz (om n9 n101) n6 n0)])
 .ret)
 .skip))
 (.seq (.seq (.ops [(oq n16 (.mv (k n0)))])
 (.block n4 (.loop (.seq (.seq (.ops [(om n102 n16),(of n103 n3 n4),(ol n104 n103),(oq n105 (.len (.t n104))),(oq n106 (.bin .lss (.t n102) (.t n105)))])
 (.cond (.t n106) .skip
 (.exit n4)))
 (.seq (.block n5 (.seq (.draw n0 [(dz (of n109 n3 n4) n0 n0),(dz (om n111 n16) n2 n0),(dz (of n115 n0 n12) n6 n0),(dz (ol n110 n109) n1 n0),(dz (oq n112 (.iaddr n2 (.t n110) (.t n111))) n3 n0),(dz (of n113 n0 n112) n4 n0),(dz (ol n114 n113) n5 n0),(dz (ol n116 n115) n7 n0),(dz (oq n117 (.bin .eql (.t n114) (.t n116))) n8 n0),(dz (om n118 n117) n9 n0),(dz (og n119 n118 true (.faddr n3 (.t n4))) n10 n0),(dz (og n121 n118 true (.mv (.t n16))) n12 n0),(dz (og n125 n118 true (.faddr n1 (.t n12))) n16 n0),(dz (og n120 n118 true (.load none (.t n119))) n11 n0),(dz (og n122 n118 true (.iaddr n2 (.t n120) (.t n121))) n13 n0),(dz (og n123 n118 true (.faddr n1 (.t n122))) n14 n0),(dz (og n124 n118 true (.load none (.t n123))) n15 n0),(dz (og n126 n118 true (.load none (.t n125))) n17 n0),(dq (og n127 n118 true (.call (.c (.fn n33 [] [])) [(.t n124),(.t n126)] .borrow)) n18 n0 [] [n15,n17,n9,n14,n13,n11,n12,n10,n8,n5,n7,n4,n3,n1,n2,n0,n6,n16] true false),(dz (oq n128 (.pick (.t n118) (.t n127) (.c (.d (.bool false))))) n19 n0)])
 (.cond (.t n128) (.seq (.ops [(oq n129 (.load (some n5) (.t n4))),(om n130 n16),⟨none,none,.store n5 (.t n8) (.t n129)⟩,(om n9 n130)])
 .ret)
 .skip)))
 (.ops [(om n107 n16),(oq n108 (.bin .add (.t n107) (k n1))),(om n16 n108)]))))))
 (.seq (.ops [(of n131 n3 n4),(ol n132 n131),(oq n133 (.load (some n2) (.t n12))),(oq n134 (.bslice n2 n1 [(.int .i64 (.l (i n0))),.nil] [(n0,(.t n133))] false)),(oq n135 (.appendN n2 n32 (.t n132) (.t n134) true)),(of n136 n3 n4),⟨none,none,.store n1 (.t n136) (.t n135)⟩])
 (.seq (.draw n0 [(dq (of n138 n3 n4) n1 n0 [] [] false true),(dz (oq n137 (.load (some n5) (.t n4))) n0 n0),(dq (ol n139 n138) n2 n0 [] [] false true),(dq (oq n140 (.len (.t n139))) n3 n0 [] [] false true),(dq (oq n141 (.bin .sub (.t n140) (k n1))) n4 n0 [] [] false true),⟨⟨none,none,.store n5 (.t n8) (.t n137)⟩,n5,n0,[],[n0],false,false⟩,(dz (om n9 n141) n6 n0)])
 .ret))))))))
def x88 : XFn := ⟨a88,n142,[(.c n8 (some n5)),(.t n9)],c88⟩
def a89 : Ann := ⟨[(n1,n1,n0),(n3,n5,n1),(n4,n9,n1)],[]⟩
def c89 : ICode :=
 (.seq (.ops [(oq n6 (.box (.t n0))),(oq n10 (.box (.t n4))),(oq n11 (.box (.t n5))),(oq n12 (.mv (.c (.d (.bool false)))))])
 (.seq (.seq (.ops [(oq n15 (.load (some n3) (.t n6))),(oq n16 (.call (.c (.fn n35 [] [])) [(.t n15)] .borrow)),(oq n17 (.bin .neq (.t n16) (k n0)))])
 (.cond (.t n17) (.seq (.ops [(oq n12 (.mv (.c (.d (.bool false)))))])
 .ret)
 .skip))
 (.seq (.ops [(om n19 n1),(om n20 n2),(om n21 n3),(oq n22 (.load (some n5) (.t n10))),(oq n23 (.load (some n5) (.t n11))),(oq n24 (.call (.c (.fn n108 [] [])) [(.t n19),(.t n20),(.t n21),(.t n22),(.t n23)] .share)),(om n18 n24),(oq n25 (.extract (.t n18) n0)),(oq n26 (.extract (.t n18) n1)),(om n13 n25),(om n14 n26)])
 (.seq (.draw n0 [(dz (om n27 n14) n0 n0),(dz (oq n28 (.bin .eql (.t n27) (k n0))) n1 n0),(dz (om n29 n28) n2 n0),(dz (og n30 n29 true (.mv (.t n13))) n3 n0),(dz (og n32 n29 true (.mv (.t n13))) n5 n0),(dz (og n33 n29 true (.nilchk (.t n32))) n6 n0),(dz (og n34 n29 true (.faddr n4 (.t n33))) n7 n0),(dz (og n31 n29 true (.load (some n3) (.t n6))) n4 n0),(dz (og n35 n29 true (.load none (.t n34))) n8 n0),(dq (og n36 n29 true (.call (.c (.fn n124 [] [])) [(.t n30),(.t n31),(.t n35)] .share)) n9 n0 [] [n3,n4,n8,n2,n1,n0,n7,n6,n5] true false),(dz (oq n37 (.pick (.t n29) (.t n36) (.c (.d (.bool false))))) n10 n0),(dz (om n12 n37) n11 n0)])
 .ret))))
def x89 : XFn := ⟨a89,n38,[(.t n12)],c89⟩
def a96 : Ann := ⟨[(n1,n5,n1),(n4,n4,n0)],[]⟩
def c96 : ICode :=
 (.seq (.ops [(oq n8 (.box (.t n3))),(oq n9 (.box (.t n4))),(oq n10 (.mv (.c (.d (.bool false))))),(oq n11 (.mv (k n0)))])
 (.seq (.ops [(om n15 n0),(om n16 n1),(om n17 n2),(oq n18 (.load (some n5) (.t n8))),(oq n19 (.load (some n5) (.t n9))),(oq n20 (.call (.c (.fn n108 [] [])) [(.t n15),(.t n16),(.t n17),(.t n18),(.t n19)] .share)),(om n14 n20),(oq n21 (.extract (.t n14) n0)),(oq n22 (.extract (.t n14) n1)),(om n12 n21),(om n13 n22)])
 (.seq (.seq (.ops [(om n23 n13),(oq n24 (.bin .neq (.t n23) (k n0)))])
 (.cond (.t n24) (.seq (.ops [(om n25 n13),(oq n10 (.mv (.c (.d (.bool false))))),(om n11 n25)])
 .ret)
 .skip))
 (.seq (.ops [(om n26 n12),(oq n27 (.nilchk (.t n26))),(of n28 n4 n27),(ol n29 n28),(oq n30 (.call (.c (.fn n130 [] [])) [(.t n29)] .borrow)),(om n10 n30),(oq n11 (.mv (k n0)))])
 .ret))))
def x96 : XFn := ⟨a96,n31,[(.t n10),(.t n11)],c96⟩
def a97 : Ann := ⟨[(n1,n5,n1),(n10,n5,n2),(n13,n2,n2),(n13,n3,n3),(n13,n7,n2),(n13,n8,n3)],[]⟩
def c97 : ICode :=
 (.seq (.ops [(oq n9 (.box (.t n3))),(oq n10 (.box (.t n4))),(oq n12 (.mv (.c (.d .nil)))),(oq n13 (.mv (.c (.d .nil)))),(oq n14 (.mv (k n0)))])
 (.seq (.ops [(om n22 n0),(om n23 n1),(om n24 n2),(oq n25 (.load (some n5) (.t n9))),(oq n26 (.load (some n5) (.t n10))),(oq n27 (.call (.c (.fn n131 [] [])) [(.t n22),(.t n23),(.t n24),(.t n25),(.t n26)] .share)),(om n21 n27),(oq n28 (.extract (.t n21) n0)),(oq n29 (.extract (.t n21) n1)),(om n15 n28),(om n16 n29)])
 (.seq (.block n0 (.seq (.ops [(om n31 n16),(oq n32 (.bin .neq (.t n31) (k n0))),(om n30 n32)])
 (.cond (.t n30) (.seq (.ops [(om n33 n16),(oq n12 (.mv (.c (.d .nil)))),(oq n13 (.mv (.c (.d .nil)))),(om n14 n33)])
 .ret)
 (.seq (.ops [(om n35 n5),(oq n36 (.bin .lss (.t n35) (k n0))),(om n37 n36),(og n38 n37 false (.mv (.t n5))),(og n39 n37 false (.mv (.t n2))),(og n40 n37 false (.len (.t n39))),(og n41 n37 false (.bin .geq (.t n38) (.t n40))),(oq n42 (.pick (.t n37) (.c (.d (.bool true))) (.t n41))),(om n34 n42)])
 (.cond (.t n34) (.seq (.ops [(oq n12 (.mv (.c (.d .nil)))),(oq n13 (.mv (.c (.d .nil)))),(oq n14 (.mv (k n3)))])
 .ret)
 (.seq (.ops [(om n44 n15),(oq n45 (.nilchk (.t n44))),(of n46 n4 n45),(ol n47 n46),(oq n48 (.len (.t n47))),(oq n49 (.bin .eql (.t n48) (k n0))),(om n43 n49)])
 (.cond (.t n43) (.seq (.ops [(oq n12 (.mv (.c (.d .nil)))),(oq n13 (.mv (.c (.d .nil)))),(oq n14 (.mv (k n12)))])
 .ret)
 .skip)))))))
 (.seq (.ops [(oq n17 (.alloc [.nil]))])
 (.seq (.ops [(oq n18 (.alloc [.nil]))])
 (.seq (.seq (.ops [(om n50 n15),(oq n51 (.nilchk (.t n50))),(of n52 n4 n51),(ol n53 n52),(om n54 n5),(oq n55 (.call (.c (.fn n132 [] [])) [(.t n53),(.t n54)] .raw))])
 (.block n1 (.range (.t n55) [n56,n57] (.seq (.ops [(oq n19 (.alloc [(.int .u8 (.l (i n0))),(.int .i64 (.l (i n0)))])),⟨none,none,.store n2 (.t n19) (.t n56)⟩])
 (.ops [(om n20 n57)])) (.block n2 (.draw n0 [(dq (om n63 n20) n5 n0 [] [] false true),(dq (oq n64 (.len (.t n63))) n6 n0 [] [] false true),(dq (oq n65 (.bsliceP n1 n1 [(.int .i64 (.l (i n0)))] [(n0,(.t n64))])) n7 n0 [] [] false true),(dz (ol n58 n17) n0 n0),(dz (oq n59 (.load (some n2) (.t n19))) n1 n0),(dz (oq n60 (.bsliceP n2 n1 [(.int .u8 (.l (i n0))),(.int .i64 (.l (i n0)))] [(n0,(.t n59))])) n2 n0),(dq (ol n62 n18) n4 n0 [] [] false true),(dq (oq n61 (.appendN n2 n16 (.t n58) (.t n60) true)) n3 n0 [] [n0,n2,n1] false false),(dq (oq n66 (.appendN n1 n8 (.t n62) (.t n65) true)) n8 n0 [] [n4,n7,n3,n6,n5,n0,n2,n1] true false),⟨⟨none,none,.store n1 (.t n17) (.t n61)⟩,n9,n0,[],[n3,n8,n0,n1,n2,n4,n7,n6,n5],true,false⟩,⟨⟨none,none,.store n1 (.t n18) (.t n66)⟩,n10,n0,[],[n8,n9,n0,n1,n2,n3,n4,n5,n6,n7],true,false⟩])))))
 (.seq (.draw n0 [(dz (ol n67 n17) n0 n0),(dz (om n12 n67) n2 n0),(dz (ol n68 n18) n1 n0),(dz (om n13 n68) n3 n0),(dz (oq n14 (.mv (k n0))) n4 n0)])
 .ret)))))))
def x97 : XFn := ⟨a97,n69,[(.t n12),(.t n13),(.t n14)],c97⟩
def a98 : Ann := ⟨[(n1,n2,n0),(n6,n1,n2),(n6,n4,n2),(n6,n5,n3),(n10,n1,n0),(n15,n2,n2)],[]⟩
def c98 : ICode :=
 (.seq (.ops [(oq n8 (.box (.t n3))),(oq n9 (.box (.t n4))),(oq n10 (.mv (k n0)))])
 (.seq (.seq (.ops [(om n17 n0),(om n18 n1),(oq n19 (.call (.c (.fn n119 [] [])) [(.t n17),(.t n18)] .borrow)),(om n11 n19)])
 (.seq (.ops [(om n20 n11),(oq n21 (.bin .neq (.t n20) (k n0)))])
 (.cond (.t n21) (.seq (.ops [(om n22 n11),(om n10 n22)])
 .ret)
 .skip)))
 (.seq (.seq (.ops [(om n23 n2),(oq n24 (.len (.t n23))),(oq n25 (.bin .gtr (.t n24) (k n4)))])
 (.cond (.t n25) (.seq (.ops [(oq n10 (.mv (k n5)))])
 .ret)
 .skip))
 (.seq (.draw n0 [(dz (om n26 n2) n0 n0),(dq (oq n28 (.load (some n5) (.t n8))) n2 n0 [] [] false true),(dq (oq n29 (.load (some n5) (.t n9))) n3 n0 [] [] false true),(dq (oq n30 (.bsliceP n5 n2 [.nil,.nil,.nil,.nil,(.int .i64 (.l (i n0)))] [(n0,(.t n28)),(n1,(.t n29))])) n4 n0 [] [] false true),(dq (oq n27 (.call (.c (.fn n133 [] [])) [(.t n26)] .raw)) n1 n0 [] [n0] false false),(dq (oq n31 (.appendN n5 n104 (.t n27) (.t n30) true)) n5 n0 [] [n1,n4,n0,n2,n3] true false),(dz (om n12 n31) n6 n0)])
 (.seq (.seq (.ops [(om n32 n12),(oq n33 (.len (.t n32))),(oq n34 (.mv (k n0)))])
 (.block n0 (.loop (.seq (.ops [(oq n35 (.bin .lss (.t n34) (.t n33)))])
 (.seq (.cond (.t n35) .skip
 (.exit n0))
 (.seq (.block n1 (.seq (.ops [(oq n36 (.iaddr n5 (.t n32) (.t n34))),(oq n37 (.load (some n5) (.t n36))),(oq n14 (.alloc [.nil,.nil,.nil,.nil,(.int .i64 (.l (i n0)))])),⟨none,none,.store n5 (.t n14) (.t n37)⟩])
 (.seq (.ops [(oq n38 (.load (some n5) (.t n14))),(oq n39 (.call (.c (.fn n134 [] [])) [(.t n38)] .borrow)),(om n15 n39)])
 (.seq (.ops [(om n40 n15),(oq n41 (.bin .neq (.t n40) (k n0)))])
 (.cond (.t n41) (.seq (.ops [(om n42 n15),(om n10 n42)])
 .ret)
 .skip)))))
 (.ops [(oq n43 (.bin .add (.t n34) (k n1))),(om n34 n43)])))))))
 (.seq (.seq (.ops [(om n44 n0),(om n45 n1),(oq n46 (.build [.nil,.nil] [(n0,n1,(.t n44)),(n1,n1,(.t n45))])),(oq n47 (.mkfn n135 [(.t n46)] [])),(om n16 n47)])
 (.seq (.ops [(om n48 n12),(om n49 n16),(oq n50 (.call (.c (.fn n136 [] [])) [(.t n48),(.t n49)] .raw)),(oq n51 (.un .not (.t n50)))])
 (.cond (.t n51) (.seq (.ops [(oq n10 (.mv (k n2)))])
 .ret)
 .skip)))
 (.seq (.ops [(oq n10 (.mv (k n0)))])
 .ret)))))))
def x98 : XFn := ⟨a98,n52,[(.t n10)],c98⟩
def a99 : Ann := ⟨[(n4,n1,n0),(n8,n11,n2)],[]⟩
def c99 : ICode :=
 (.seq (.ops [(oq n2 (.mv (k n0)))])
 (.seq (.seq (.ops [(om n6 n0),(oq n7 (.len (.t n6))),(oq n8 (.mv (k n0)))])
 (.block n0 (.loop (.seq (.ops [(oq n9 (.bin .lss (.t n8) (.t n7)))])
 (.seq (.cond (.t n9) .skip
 (.exit n0))
 (.seq (.block n1 (.seq (.ops [(oq n10 (.iaddr n5 (.t n6) (.t n8))),(oq n11 (.load (some n5) (.t n10))),(oq n4 (.alloc [.nil,.nil,.nil,.nil,(.int .i64 (.l (i n0)))])),⟨none,none,.store n5 (.t n4) (.t n11)⟩])
 (.seq (.ops [(oq n12 (.load (some n5) (.t n4))),(oq n13 (.call (.c (.fn n134 [] [])) [(.t n12)] .borrow)),(om n5 n13)])
 (.seq (.ops [(om n14 n5),(oq n15 (.bin .neq (.t n14) (k n0)))])
 (.cond (.t n15) (.seq (.ops [(om n16 n5),(om n2 n16)])
 .ret)
 .skip)))))
 (.ops [(oq n17 (.bin .add (.t n8) (k n1))),(om n8 n17)])))))))
 (.seq (.seq (.draw n0 [(dz (om n18 n0) n0 n0),(dz (oq n19 (.iaddr n5 (.t n18) (k n0))) n1 n0),(dz (of n20 n0 n19) n2 n0),(dz (om n22 n0) n4 n0),(dz (oq n23 (.iaddr n5 (.t n22) (k n0))) n5 n0),(dz (of n24 n1 n23) n6 n0),(dz (om n28 n0) n10 n0),(dz (ol n21 n20) n3 n0),(dz (ol n25 n24) n7 n0),(dz (oq n26 (.build [.nil,.nil] [(n0,n1,(.t n21)),(n1,n1,(.t n25))])) n8 n0),(dz (oq n27 (.mkfn n138 [(.t n26)] [])) n9 n0),(dq (oq n29 (.call (.c (.fn n137 [] [])) [(.t n27),(.t n28)] .raw)) n11 n0 [] [n9,n10,n8,n3,n7,n2,n1,n0,n6,n5,n4] true false),(dz (oq n30 (.un .not (.t n29))) n12 n0)])
 (.cond (.t n30) (.seq (.ops [(oq n2 (.mv (k n2)))])
 .ret)
 .skip))
 (.seq (.ops [(oq n2 (.mv (k n0)))])
 .ret))))
def x99 : XFn := ⟨a99,n31,[(.t n2)],c99⟩
def a108 : Ann := ⟨[(n1,n5,n1)],[]⟩
def c108 : ICode :=
 (.seq (.ops [(oq n8 (.box (.t n3))),(oq n9 (.box (.t n4))),(oq n10 (.mv (.c (.d (.raw (.pointer none)))))),(oq n11 (.mv (k n0)))])
 (.seq (.ops [(om n15 n0),(om n16 n1),(om n17 n2),(oq n18 (.load (some n5) (.t n8))),(oq n19 (.load (some n5) (.t n9))),(oq n20 (.call (.c (.fn n131 [] [])) [(.t n15),(.t n16),(.t n17),(.t n18),(.t n19)] .share)),(om n14 n20),(oq n21 (.extract (.t n14) n0)),(oq n22 (.extract (.t n14) n1)),(om n12 n21),(om n13 n22)])
 (.seq (.seq (.ops [(om n23 n13),(oq n24 (.bin .eql (.t n23) (k n0))),(om n25 n24),(og n26 n25 true (.mv (.t n12))),(og n27 n25 true (.nilchk (.t n26))),(og n28 n25 true (.faddr n4 (.t n27))),(og n29 n25 true (.load none (.t n28))),(og n30 n25 true (.len (.t n29))),(og n31 n25 true (.bin .eql (.t n30) (k n0))),(oq n32 (.pick (.t n25) (.t n31) (.c (.d (.bool false)))))])
 (.cond (.t n32) (.seq (.ops [(oq n10 (.mv (.c (.d (.raw (.pointer none)))))),(oq n11 (.mv (k n12)))])
 .ret)
 .skip))
 (.seq (.ops [(om n33 n12),(om n34 n13),(om n10 n33),(om n11 n34)])
 .ret))))
def x108 : XFn := ⟨a108,n35,[(.t n10),(.t n11)],c108⟩
def a109 : Ann := ⟨[(n1,n6,n1)],[]⟩
def c109 : ICode :=
 (.seq (.ops [(oq n2 (.alloc [(.int .i64 (.l (i n0))),.nil,.nil])),(oq n3 (.mv (k n0))),(oq n4 (.mv (.c (.d (.bool false)))))])
 (.seq (.ops [(om n5 n0),(om n6 n0),(oq n7 (.nilchk (.t n6))),(of n8 n4 n7),(ol n9 n8),(oq n10 (.build [(.bool false),(.bool false),(.bool false),(.bool false)] [])),(oq n11 (.call (.c (.fn n110 [] [])) [(.t n5),(.t n9),(.t n10)] .share)),(oq n12 (.extract (.t n11) n0)),(oq n13 (.extract (.t n11) n1)),(oq n14 (.extract (.t n11) n2)),⟨none,none,.store n3 (.t n2) (.t n12)⟩,(om n3 n13),(om n4 n14)])
 .ret))
def x109 : XFn := ⟨a109,n15,[(.c n2 (some n3)),(.t n3),(.t n4)],c109⟩
def a110 : Ann := ⟨[(n1,n1,n0),(n2,n0,n1),(n3,n2,n1),(n12,n2,n2),(n15,n3,n1),(n17,n3,n2),(n17,n4,n3),(n17,n8,n2),(n17,n9,n3)],[]⟩
def c110 : ICode :=
 (.seq (.ops [(oq n3 (.box (.t n0))),(oq n5 (.box (.t n2))),(oq n6 (.alloc [(.int .i64 (.l (i n0))),.nil,.nil])),(oq n7 (.mv (k n0))),(oq n8 (.mv (.c (.d (.bool false)))))])
 (.scope (.seq (.seq (.ops [(om n18 n1),(oq n19 (.call (.c (.fn n130 [] [])) [(.t n18)] .borrow))])
 (.cond (.t n19) (.seq (.ops [(oq n20 (.call (.c (.fn n146 [] [])) [] .share)),⟨none,none,.store n3 (.t n6) (.t n20)⟩,(oq n7 (.mv (k n0))),(oq n8 (.mv (.c (.d (.bool true)))))])
 .ret)
 .skip))
 (.seq (.seq (.draw n0 [(dq (oq n21 (.load (some n4) (.t n5))) n0 n0 [] [] false true),(dz (ol n22 n3) n1 n0),(dq (oq n23 (.call (.c (.fn n147 [] [])) [(.t n22)] .share)) n2 n0 [] [n1] false false),(dz (oq n24 (.aeqw false [.o,.o,.o,.o] (.t n21) (.t n23))) n3 n0)])
 (.cond (.t n24) (.seq (.ops [(oq n25 (.build [(.int .i64 (.l (i n0))),.nil,.nil] [])),⟨none,none,.store n3 (.t n6) (.t n25)⟩,(oq n7 (.mv (k n0))),(oq n8 (.mv (.c (.d (.bool false)))))])
 .ret)
 .skip))
 (.seq (.label n0)
 (.seq (.seq (.ops [(ol n26 n3),(oq n27 (.nilchk (.t n26))),(of n28 n2 n27),(ol n29 n28),(oq n30 (.mv (k n0)))])
 (.block n0 (.loop (.seq (.ops [(oq n31 (.bin .lss (.t n30) (.t n29)))])
 (.seq (.cond (.t n31) .skip
 (.exit n0))
 (.seq (.block n1 (.seq (.ops [(om n32 n30),(om n9 n32)])
 (.seq (.seq (.ops [(om n33 n9),(oq n34 (.iaddrA n4 n1 (.t n5) (.t n33))),(ol n35 n34)])
 (.cond (.t n35) (.exit n1)
 .skip))
 (.seq (.ops [(oq n36 (.load (some n4) (.t n5))),(oq n10 (.alloc [(.bool false),(.bool false),(.bool false),(.bool false)])),⟨none,none,.store n4 (.t n10) (.t n36)⟩])
 (.seq (.ops [(om n37 n9),(oq n38 (.iaddrA n4 n1 (.t n10) (.t n37))),⟨none,none,.store n1 (.t n38) (.c (.d (.bool true)))⟩])
 (.seq (.ops [(om n39 n9),(oq n40 (.build [(.int .i64 (.l (i n0))),.nil,.nil] [(n0,n1,(.t n39))])),(oq n11 (.alloc [(.int .i64 (.l (i n0))),.nil,.nil])),(oq n12 (.alloc [(.int .i64 (.l (i n0)))])),⟨none,none,.store n3 (.t n11) (.t n40)⟩,⟨none,none,.store n1 (.t n12) (k n0)⟩])
 (.seq (.seq (.ops [(om n41 n1),(om n42 n9),(oq n43 (.call (.c (.fn n132 [] [])) [(.t n41),(.t n42)] .raw))])
 (.block n2 (.range (.t n43) [n44,n45] (.seq (.ops [(oq n13 (.alloc [(.int .u8 (.l (i n0))),(.int .i64 (.l (i n0)))])),⟨none,none,.store n2 (.t n13) (.t n44)⟩])
 (.ops [(om n14 n45)])) (.block n3 (.seq (.ops [(ol n47 n3),(om n48 n14),(oq n49 (.load (some n4) (.t n10))),(oq n50 (.call (.c (.fn n110 [] [])) [(.t n47),(.t n48),(.t n49)] .share)),(om n46 n50),(oq n51 (.extract (.t n46) n0)),(oq n52 (.extract (.t n46) n1)),(oq n53 (.extract (.t n46) n2)),(oq n15 (.alloc [(.int .i64 (.l (i n0))),.nil,.nil])),⟨none,none,.store n3 (.t n15) (.t n51)⟩,(om n16 n52),(om n17 n53)])
 (.seq (.seq (.ops [(om n54 n17),(oq n55 (.un .not (.t n54)))])
 (.cond (.t n55) (.exit n1)
 .skip))
 (.seq (.draw n0 [(dz (of n56 n1 n11) n0 n0),(dq (of n61 n2 n11) n5 n0 [] [] false true),(dz (ol n57 n56) n1 n0),(dz (oq n58 (.load (some n2) (.t n13))) n2 n0),(dz (oq n59 (.bsliceP n2 n1 [(.int .u8 (.l (i n0))),(.int .i64 (.l (i n0)))] [(n0,(.t n58))])) n3 n0),(dq (ol n62 n61) n6 n0 [] [] false true),(dq (oq n63 (.load (some n3) (.t n15))) n7 n0 [] [] false true),(dq (oq n64 (.bsliceP n3 n1 [(.int .i64 (.l (i n0))),.nil,.nil] [(n0,(.t n63))])) n8 n0 [] [] false true),(dq (oq n60 (.appendN n2 n16 (.t n57) (.t n59) true)) n4 n0 [] [n1,n3,n0,n2] false false),(dq (of n66 n1 n11) n10 n0 [] [] false true),(dq (oq n65 (.appendN n3 n56 (.t n62) (.t n64) true)) n9 n0 [] [n6,n8,n4,n5,n7,n1,n3,n0,n2] false false),⟨⟨none,none,.store n1 (.t n66) (.t n60)⟩,n11,n0,[],[n10,n4,n9,n0,n1,n2,n3,n5,n6,n8,n7],true,false⟩,(dz (of n67 n2 n11) n12 n0),⟨⟨none,none,.store n1 (.t n67) (.t n65)⟩,n13,n0,[],[n12,n9,n11,n0,n1,n2,n3,n4,n5,n6,n7,n8,n10],true,false⟩])
 (.ops [(ol n68 n12),(om n69 n16),(oq n70 (.max (.t n68) (.t n69))),⟨none,none,.store n1 (.t n12) (.t n70)⟩]))))))))
 (.seq (.ops [(om n71 n8),(oq n72 (.un .not (.t n71))),(om n73 n72),(og n74 n73 false (.load none (.t n12))),(og n75 n73 false (.bin .add (.t n74) (k n1))),(og n76 n73 false (.mv (.t n7))),(og n77 n73 false (.bin .lss (.t n75) (.t n76))),(oq n78 (.pick (.t n73) (.c (.d (.bool true))) (.t n77)))])
 (.cond (.t n78) (.draw n0 [(dz (oq n79 (.load (some n3) (.t n11))) n0 n0),(dq (ol n80 n12) n1 n0 [] [] false true),(dq (oq n81 (.bin .add (.t n80) (k n1))) n2 n0 [] [] false true),⟨⟨none,none,.store n3 (.t n6) (.t n79)⟩,n3,n0,[],[n0],false,false⟩,(dz (om n7 n81) n4 n0),(dz (oq n8 (.mv (.c (.d (.bool true))))) n5 n0)])
 .skip)))))))))
 (.ops [(oq n82 (.bin .add (.t n30) (k n1))),(om n30 n82)])))))))
 (.seq (.ops [(oq n83 (.load (some n3) (.t n6))),(om n84 n7),(om n85 n8),⟨none,none,.store n3 (.t n6) (.t n83)⟩,(om n7 n84),(om n8 n85)])
 .ret)))))))
def x110 : XFn := ⟨a110,n86,[(.c n6 (some n3)),(.t n7),(.t n8)],c110⟩
def a111 : Ann := ⟨[],[]⟩
def c111 : ICode :=
 (.seq (.ops [(oq n3 (.box (.t n1))),(oq n4 (.mv (k n0)))])
 (.seq (.seq (.ops [(om n6 n0),(oq n7 (.len (.t n6))),(oq n8 (.mv (k n0)))])
 (.block n0 (.loop (.seq (.ops [(oq n9 (.bin .lss (.t n8) (.t n7)))])
 (.seq (.cond (.t n9) .skip
 (.exit n0))
 (.seq (.block n1 (.seq (.ops [(om n10 n8),(om n5 n10)])
 (.seq (.draw n0 [(dz (om n12 n0) n1 n0),(dz (om n13 n5) n2 n0),(dz (oq n14 (.iaddr n9 (.t n12) (.t n13))) n3 n0),(dz (oq n11 (.load (some n9) (.t n3))) n0 n0),(dz (oq n15 (.load (some n9) (.t n14))) n4 n0),(dz (oq n16 (.aeqw false [(.i .u8),(.i .i64),(.i .u8),(.i .i64),(.i .u8),(.i .i64),(.i .u8),(.i .i64),.o] (.t n11) (.t n15))) n5 n0)])
 (.cond (.t n16) (.seq (.ops [(om n17 n5),(om n4 n17)])
 .ret)
 .skip))))
 (.ops [(oq n18 (.bin .add (.t n8) (k n1))),(om n8 n18)])))))))
 (.seq (.ops [(oq n4 (.mv (.c (.d (.int .i64 (.l (.negSucc n0)))))))])
 .ret)))
def x111 : XFn := ⟨a111,n19,[(.t n4)],c111⟩
def a112 : Ann := ⟨[(n2,n2,n2)],[]⟩
def c112 : ICode :=
 (.seq (.ops [(oq n2 (.box (.t n0))),(oq n3 (.box (.t n1))),(oq n4 (.mv (.c (.d .nil))))])
 (.seq (.ops [(of n8 n0 n2),(ol n9 n8),(oq n10 (.len (.t n9))),(oq n11 (.mkslice n1 [(.int .i64 (.l (i n0)))] n8 (.t n10))),(oq n5 (.alloc [.nil])),⟨none,none,.store n1 (.t n5) (.t n11)⟩])
 (.seq (.seq (.ops [(of n12 n0 n2),(ol n13 n12),(oq n14 (.call (.c (.fn n148 [] [])) [(.t n13)] .raw))])
 (.block n0 (.range (.t n14) [n15,n16] (.seq (.ops [(om n6 n15)])
 (.ops [(om n7 n16)])) (.block n1 (.draw n0 [(dz (om n18 n6) n1 n0),(dz (om n20 n7) n3 n0),(dq (om n23 n7) n6 n0 [] [] false true),(dz (ol n17 n5) n0 n0),(dz (ol n19 n3) n2 n0),(dz (oq n21 (.bin .rem (.t n19) (.t n20))) n4 n0),(dz (oq n25 (.iaddr n1 (.t n17) (.t n18))) n8 n0),(dq (ol n22 n3) n5 n0 [] [] false true),(dq (oq n24 (.bin .quo (.t n22) (.t n23))) n7 n0 [] [] false true),⟨⟨none,none,.store n1 (.t n25) (.t n21)⟩,n9,n0,[],[n8,n4,n0,n1,n2,n3],false,false⟩,⟨⟨none,none,.store n1 (.t n3) (.t n24)⟩,n10,n0,[],[n7,n9,n0,n1,n2,n3,n4,n5,n6,n8],true,false⟩])))))
 (.seq (.ops [(ol n26 n5),(om n4 n26)])
 .ret))))
def x112 : XFn := ⟨a112,n27,[(.t n4)],c112⟩
def a113 : Ann := ⟨[],[]⟩
def c113 : ICode :=
 (.seq (.ops [(oq n1 (.box (.t n0))),(oq n2 (.mv (.c (.d (.bool false)))))])
 (.seq (.ops [(of n3 n0 n1),(of n4 n0 n3),(ol n5 n4),(oq n6 (.bin .leq (.c (.d (.int .i64 (.l (.negSucc n0))))) (.t n5))),(om n7 n6),(og n8 n7 true (.faddr n0 (.t n1))),(og n9 n7 true (.faddr n0 (.t n8))),(og n10 n7 true (.load none (.t n9))),(og n11 n7 true (.bin .lss (.t n10) (k n4))),(oq n12 (.pick (.t n7) (.t n11) (.c (.d (.bool false))))),(om n2 n12)])
 .ret))
def x113 : XFn := ⟨a113,n13,[(.t n2)],c113⟩
def a114 : Ann := ⟨[],[]⟩
def c114 : ICode :=
 (.seq (.ops [(oq n1 (.box (.t n0))),(oq n2 (.mv (.c (.d (.bool false)))))])
 (.seq (.ops [(of n3 n0 n1),(of n4 n0 n3),(ol n5 n4),(oq n6 (.bin .geq (.t n5) (k n0))),(om n7 n6),(og n8 n7 false (.faddr n0 (.t n1))),(og n9 n7 false (.faddr n1 (.t n8))),(og n10 n7 false (.load none (.t n9))),(og n11 n7 false (.len (.t n10))),(og n12 n7 false (.faddr n0 (.t n1))),(og n13 n7 false (.faddr n2 (.t n12))),(og n14 n7 false (.load none (.t n13))),(og n15 n7 false (.len (.t n14))),(og n16 n7 false (.bin .add (.t n11) (.t n15))),(og n17 n7 false (.bin .eql (.t n16) (k n0))),(oq n18 (.pick (.t n7) (.c (.d (.bool true))) (.t n17))),(om n2 n18)])
 .ret))
def x114 : XFn := ⟨a114,n19,[(.t n2)],c114⟩
def a115 : Ann := ⟨[],[]⟩
def c115 : ICode :=
 (.seq (.ops [(oq n1 (.box (.t n0))),(oq n2 (.mv (.c (.d (.bool false)))))])
 (.seq (.ops [(of n3 n0 n1),(of n4 n0 n3),(ol n5 n4),(oq n6 (.bin .lss (.t n5) (k n0))),(om n7 n6),(og n8 n7 false (.faddr n0 (.t n1))),(og n9 n7 false (.faddr n1 (.t n8))),(og n10 n7 false (.load none (.t n9))),(og n11 n7 false (.len (.t n10))),(og n12 n7 false (.bin .gtr (.t n11) (k n0))),(og n13 n7 false (.mv (.t n12))),(og n14 n13 true (.faddr n0 (.t n1))),(og n15 n13 true (.faddr n2 (.t n14))),(og n16 n13 true (.load none (.t n15))),(og n17 n13 true (.len (.t n16))),(og n18 n13 true (.faddr n0 (.t n1))),(og n19 n13 true (.faddr n1 (.t n18))),(og n20 n13 true (.load none (.t n19))),(og n21 n13 true (.len (.t n20))),(og n22 n13 true (.bin .eql (.t n17) (.t n21))),(og n23 n7 false (.pick (.t n13) (.t n22) (.c (.d (.bool false))))),(oq n24 (.pick (.t n7) (.c (.d (.bool true))) (.t n23))),(om n2 n24)])
 .ret))
def x115 : XFn := ⟨a115,n25,[(.t n2)],c115⟩
def a116 : Ann := ⟨[(n4,n1,n0),(n4,n15,n0)],[]⟩
def c116 : ICode :=
 (.seq (.ops [(oq n1 (.box (.t n0))),(oq n2 (.mv (.c (.d (.bool false)))))])
 (.seq (.seq (.ops [(of n5 n0 n1),(of n6 n1 n5),(ol n7 n6),(oq n8 (.len (.t n7))),(oq n9 (.mv (k n0)))])
 (.block n0 (.loop (.seq (.ops [(oq n10 (.bin .lss (.t n9) (.t n8)))])
 (.seq (.cond (.t n10) .skip
 (.exit n0))
 (.seq (.block n1 (.seq (.ops [(om n11 n9),(oq n12 (.iaddr n2 (.t n7) (.t n9))),(oq n13 (.load (some n2) (.t n12))),(oq n4 (.alloc [(.int .u8 (.l (i n0))),(.int .i64 (.l (i n0)))])),(om n3 n11),⟨none,none,.store n2 (.t n4) (.t n13)⟩])
 (.seq (.draw n0 [(dz (oq n14 (.load (some n2) (.t n4))) n0 n0),(dq (oq n15 (.call (.c (.fn n145 [] [])) [(.t n14)] .borrow)) n1 n0 [] [n0] true false),(dz (oq n16 (.bin .neq (.t n15) (k n0))) n2 n0),(dz (om n17 n16) n3 n0),(dz (og n18 n17 false (.mv (.t n3))) n4 n0),(dz (og n19 n17 false (.bin .gtr (.t n18) (k n0))) n5 n0),(dz (og n20 n17 false (.mv (.t n19))) n6 n0),(dz (og n21 n20 true (.faddr n0 (.t n1))) n7 n0),(dz (og n22 n20 true (.faddr n1 (.t n21))) n8 n0),(dz (og n24 n20 true (.mv (.t n3))) n10 n0),(dz (og n25 n20 true (.bin .sub (.t n24) (k n1))) n11 n0),(dz (og n23 n20 true (.load none (.t n22))) n9 n0),(dz (og n26 n20 true (.iaddr n2 (.t n23) (.t n25))) n12 n0),(dz (og n27 n20 true (.load (some n2) (.t n26))) n13 n0),(dz (og n28 n20 true (.load (some n2) (.t n4))) n14 n0),(dq (og n29 n20 true (.call (.c (.fn n149 [] [])) [(.t n27),(.t n28)] .borrow)) n15 n0 [] [n13,n14,n6,n12,n9,n11,n8,n7,n5,n3,n4,n2,n1,n0,n10] true false),(dz (og n30 n20 true (.bin .geq (.t n29) (k n0))) n16 n0),(dz (og n31 n17 false (.pick (.t n20) (.t n30) (.c (.d (.bool false))))) n17 n0),(dz (oq n32 (.pick (.t n17) (.c (.d (.bool true))) (.t n31))) n18 n0)])
 (.cond (.t n32) (.seq (.ops [(oq n2 (.mv (.c (.d (.bool false)))))])
 .ret)
 .skip))))
 (.ops [(oq n33 (.bin .add (.t n9) (k n1))),(om n9 n33)])))))))
 (.seq (.ops [(oq n2 (.mv (.c (.d (.bool true)))))])
 .ret)))
def x116 : XFn := ⟨a116,n34,[(.t n2)],c116⟩
def a117 : Ann := ⟨[(n1,n2,n2)],[]⟩
def c117 : ICode :=
 (.seq (.ops [(oq n3 (.box (.t n1))),(oq n4 (.mv (.c (.d (.bool false)))))])
 (.seq (.ops [(om n5 n0),(oq n6 (.mkfn n151 [] [(.t n3)])),(oq n7 (.call (.c (.fn n150 [] [])) [(.t n5),(.t n6)] .raw)),(oq n8 (.un .not (.t n7))),(om n4 n8)])
 .ret))
def x117 : XFn := ⟨a117,n9,[(.t n4)],c117⟩
def a118 : Ann := ⟨[(n1,n3,n2)],[]⟩
def c118 : ICode :=
 (.seq (.ops [(oq n2 (.box (.t n0))),(oq n3 (.mv (.c (.d (.bool false)))))])
 (.seq (.ops [(of n4 n0 n2),(ol n5 n4),(oq n6 (.load (some n3) (.t n1))),(oq n7 (.call (.t n5) [(.t n6)] .raw)),(om n3 n7)])
 .ret))
def x118 : XFn := ⟨a118,n8,[(.t n3)],c118⟩
def a119 : Ann := ⟨[(n3,n1,n0),(n13,n1,n2),(n14,n1,n2),(n15,n3,n1),(n15,n4,n0)],[]⟩
def c119 : ICode :=
 (.seq (.ops [(oq n4 (.mv (k n0)))])
 (.seq (.block n0 (.seq (.ops [(om n10 n0),(oq n11 (.len (.t n10))),(oq n12 (.bin .gtr (.t n11) (k n6))),(om n9 n12)])
 (.cond (.t n9) (.seq (.ops [(oq n4 (.mv (k n5)))])
 .ret)
 (.seq (.ops [(om n14 n0),(oq n15 (.call (.c (.fn n152 [] [])) [(k n1),(k n12),(.t n14)] .borrow)),(oq n16 (.un .not (.t n15))),(om n13 n16)])
 (.cond (.t n13) (.seq (.ops [(oq n4 (.mv (k n3)))])
 .ret)
 .skip)))))
 (.seq (.ops [(oq n5 (.mv (k n1)))])
 (.seq (.seq (.ops [(om n17 n0),(oq n18 (.len (.t n17))),(oq n19 (.mv (k n0)))])
 (.block n1 (.loop (.seq (.ops [(oq n20 (.bin .lss (.t n19) (.t n18)))])
 (.seq (.cond (.t n20) .skip
 (.exit n1))
 (.seq (.block n2 (.seq (.ops [(oq n21 (.iaddr n1 (.t n17) (.t n19))),(ol n22 n21),(om n7 n22)])
 (.ops [(om n23 n5),(om n24 n7),(oq n25 (.bin .mul (.t n23) (.t n24))),(om n5 n25)])))
 (.ops [(oq n26 (.bin .add (.t n19) (k n1))),(om n19 n26)])))))))
 (.seq (.seq (.ops [(om n27 n5),(oq n28 (.bin .gtr (.t n27) (k n2000)))])
 (.cond (.t n28) (.seq (.ops [(oq n4 (.mv (k n5)))])
 .ret)
 .skip))
 (.seq (.ops [(om n29 n1),(oq n30 (.call (.c (.fn n153 [] [])) [(.t n29)] .raw)),(om n8 n30)])
 (.seq (.ops [(om n31 n8),(oq n32 (.call (.c (.fn n154 [] [])) [(.t n31)] .raw))])
 (.seq (.seq (.ops [(om n33 n8),(om n34 n0),(oq n35 (.len (.t n34))),(oq n36 (.call (.c (.fn n156 [] [])) [(.t n35)] .share)),(oq n37 (.call (.c (.fn n155 [] [])) [(.t n33),(.t n36)] .borrow)),(oq n38 (.un .not (.t n37)))])
 (.cond (.t n38) (.seq (.ops [(oq n4 (.mv (k n4)))])
 .ret)
 .skip))
 (.seq (.ops [(oq n4 (.mv (k n0)))])
 .ret)))))))))
def x119 : XFn := ⟨a119,n39,[(.t n4)],c119⟩
def a120 : Ann := ⟨[(n1,n2,n0),(n4,n2,n1),(n4,n3,n1),(n5,n1,n2),(n5,n3,n2),(n5,n4,n2),(n5,n5,n0),(n11,n3,n1),(n11,n4,n1)],[]⟩
def c120 : ICode :=
 (.seq (.ops [(oq n6 (.alloc [.nil,.nil,.nil,.nil,(.int .i64 (.l (i n0)))])),(oq n7 (.mv (k n0)))])
 (.seq (.seq (.ops [(om n13 n0),(om n14 n1),(oq n15 (.call (.c (.fn n119 [] [])) [(.t n13),(.t n14)] .borrow)),(om n8 n15)])
 (.seq (.ops [(om n16 n8),(oq n17 (.bin .neq (.t n16) (k n0)))])
 (.cond (.t n17) (.seq (.ops [(oq n18 (.build [.nil,.nil,.nil,.nil,(.int .i64 (.l (i n0)))] [])),(om n19 n8),⟨none,none,.store n5 (.t n6) (.t n18)⟩,(om n7 n19)])
 .ret)
 .skip)))
 (.seq (.ops [(om n20 n0),(om n21 n1),(oq n22 (.call (.c (.fn n142 [] [])) [] .share)),(oq n23 (.call (.c (.fn n157 [] [])) [(.t n20),(.t n21),(.t n22)] .share)),(oq n9 (.alloc [.nil,.nil,.nil,.nil,(.int .i64 (.l (i n0)))])),⟨none,none,.store n5 (.t n9) (.t n23)⟩])
 (.seq (.seq (.draw n0 [(dz (om n24 n2) n0 n0),(dq (oq n26 (.load (some n5) (.t n9))) n2 n0 [] [] false true),(dq (oq n27 (.bsliceP n5 n1 [.nil,.nil,.nil,.nil,(.int .i64 (.l (i n0)))] [(n0,(.t n26))])) n3 n0 [] [] false true),(dq (oq n25 (.call (.c (.fn n133 [] [])) [(.t n24)] .raw)) n1 n0 [] [n0] false false),(dq (oq n28 (.call (.c (.fn n158 [] [])) [(.t n25),(k n0),(.t n27)] .raw)) n4 n0 [] [n1,n3,n0,n2] true false),(dq (oq n29 (.call (.c (.fn n99 [] [])) [(.t n28)] .borrow)) n5 n0 [] [n4,n1,n3,n0,n2] true false),(dz (om n10 n29) n6 n0)])
 (.seq (.ops [(om n30 n10),(oq n31 (.bin .neq (.t n30) (k n0)))])
 (.cond (.t n31) (.seq (.ops [(oq n32 (.build [.nil,.nil,.nil,.nil,(.int .i64 (.l (i n0)))] [])),(om n33 n10),⟨none,none,.store n5 (.t n6) (.t n32)⟩,(om n7 n33)])
 .ret)
 .skip)))
 (.seq (.seq (.ops [(om n34 n2),(oq n35 (.len (.t n34))),(oq n36 (.mv (k n0)))])
 (.block n0 (.loop (.seq (.ops [(oq n37 (.bin .lss (.t n36) (.t n35)))])
 (.seq (.cond (.t n37) .skip
 (.exit n0))
 (.seq (.block n1 (.seq (.ops [(oq n38 (.iaddr n5 (.t n34) (.t n36))),(oq n39 (.load (some n5) (.t n38))),(oq n12 (.alloc [.nil,.nil,.nil,.nil,(.int .i64 (.l (i n0)))])),⟨none,none,.store n5 (.t n12) (.t n39)⟩])
 (.ops [(oq n40 (.load (some n5) (.t n9))),(oq n41 (.load (some n5) (.t n12))),(oq n42 (.bslice n5 n2 [.nil,.nil,.nil,.nil,(.int .i64 (.l (i n0)))] [(n0,(.t n40)),(n1,(.t n41))] false)),(oq n43 (.call (.c (.fn n101 [] [])) [(.c (.fn n141 [] [])),(.t n42)] .share)),(oq n44 (.call (.c (.fn n159 [] [])) [(.t n43)] .share)),⟨none,none,.store n5 (.t n9) (.t n44)⟩])))
 (.ops [(oq n45 (.bin .add (.t n36) (k n1))),(om n36 n45)])))))))
 (.seq (.ops [(oq n46 (.load (some n5) (.t n9))),⟨none,none,.store n5 (.t n6) (.t n46)⟩,(oq n7 (.mv (k n0)))])
 .ret))))))
def x120 : XFn := ⟨a120,n47,[(.c n6 (some n5)),(.t n7)],c120⟩
def a121 : Ann := ⟨[(n1,n1,n1),(n4,n3,n0),(n6,n5,n0)],[]⟩
def c121 : ICode :=
 (.seq (.ops [(oq n2 (.box (.t n0))),(oq n4 (.alloc [(.int .u8 (.l (i n0))),(.int .i64 (.l (i n0)))])),(oq n5 (.mv (k n0)))])
 (.seq (.ops [(oq n9 (.load (some n5) (.t n2))),(oq n10 (.call (.c (.fn n160 [] [])) [(.t n9)] .share)),(om n8 n10),(oq n11 (.extract (.t n8) n0)),(oq n12 (.extract (.t n8) n1)),(oq n6 (.alloc [.nil,.nil,.nil,.nil,.nil,.nil,(.int .i64 (.l (i n0)))])),⟨none,none,.store n7 (.t n6) (.t n11)⟩,(om n7 n12)])
 (.seq (.block n0 (.seq (.ops [(om n14 n7),(oq n15 (.bin .neq (.t n14) (k n0))),(om n13 n15)])
 (.cond (.t n13) (.seq (.ops [(oq n16 (.build [(.int .u8 (.l (i n0))),(.int .i64 (.l (i n0)))] [])),(om n17 n7),⟨none,none,.store n2 (.t n4) (.t n16)⟩,(om n5 n17)])
 .ret)
 (.seq (.ops [(of n19 n0 n6),(oq n20 (.load (some n2) (.t n19))),(om n21 n1),(oq n22 (.call (.c (.fn n161 [] [])) [(.t n20),(.t n21)] .borrow)),(oq n23 (.un .not (.t n22))),(om n18 n23)])
 (.cond (.t n18) (.seq (.ops [(oq n24 (.build [(.int .u8 (.l (i n0))),(.int .i64 (.l (i n0)))] [])),⟨none,none,.store n2 (.t n4) (.t n24)⟩,(oq n5 (.mv (k n3)))])
 .ret)
 .skip)))))
 (.seq (.draw n0 [(dq (of n25 n2 n6) n0 n0 [] [] false true),(dq (of n26 n2 n25) n1 n0 [] [] false true),(dz (om n29 n1) n4 n0),(dq (ol n27 n26) n2 n0 [] [] false true),(dz (oq n28 (.load (some n7) (.t n6))) n3 n0),(dq (oq n30 (.call (.c (.fn n162 [] [])) [(.t n28),(.t n29),(.c (.fn n163 [] []))] .borrow)) n5 n0 [] [n3,n4] false false),(dz (oq n31 (.iaddr n2 (.t n27) (.t n30))) n6 n0),(dz (oq n32 (.load (some n2) (.t n31))) n7 n0),⟨⟨none,none,.store n2 (.t n4) (.t n32)⟩,n8,n0,[],[n7,n5,n0,n1,n2,n3,n4,n6],true,false⟩,(dz (oq n5 (.mv (k n0))) n9 n0)])
 .ret))))
def x121 : XFn := ⟨a121,n33,[(.c n4 (some n2)),(.t n5)],c121⟩
def a122 : Ann := ⟨[],[]⟩
def c122 : ICode :=
 (.seq (.ops [(oq n3 (.box (.t n1))),(oq n4 (.mv (k n0)))])
 (.seq (.seq (.ops [(om n6 n0),(oq n7 (.len (.t n6))),(oq n8 (.mv (k n0)))])
 (.block n0 (.loop (.seq (.ops [(oq n9 (.bin .lss (.t n8) (.t n7)))])
 (.seq (.cond (.t n9) .skip
 (.exit n0))
 (.seq (.block n1 (.seq (.ops [(om n10 n8),(om n5 n10)])
 (.seq (.draw n0 [(dz (om n12 n0) n1 n0),(dz (om n13 n5) n2 n0),(dz (oq n14 (.iaddr n2 (.t n12) (.t n13))) n3 n0),(dz (oq n11 (.load (some n2) (.t n3))) n0 n0),(dz (oq n15 (.load (some n2) (.t n14))) n4 n0),(dz (oq n16 (.aeq false [.u8,.i64] (.t n11) (.t n15))) n5 n0)])
 (.cond (.t n16) (.seq (.ops [(om n17 n5),(om n4 n17)])
 .ret)
 .skip))))
 (.ops [(oq n18 (.bin .add (.t n8) (k n1))),(om n8 n18)])))))))
 (.seq (.ops [(oq n4 (.mv (.c (.d (.int .i64 (.l (.negSucc n0)))))))])
 .ret)))
def x122 : XFn := ⟨a122,n19,[(.t n4)],c122⟩
def a123 : Ann := ⟨[],[]⟩
def c123 : ICode :=
 (.seq (.ops [(oq n1 (.box (.t n0))),(oq n2 (.mv (.c (.d (.bool false)))))])
 (.seq (.seq (.ops [(oq n3 (.mv (k n1)))])
 (.block n0 (.loop (.seq (.seq (.ops [(om n4 n3),(of n5 n1 n1),(ol n6 n5),(oq n7 (.len (.t n6))),(oq n8 (.bin .lss (.t n4) (.t n7)))])
 (.cond (.t n8) .skip
 (.exit n0)))
 (.seq (.block n1 (.seq (.draw n0 [(dz (of n11 n1 n1) n0 n0),(dz (om n13 n3) n2 n0),(dz (of n16 n1 n1) n5 n0),(dz (ol n12 n11) n1 n0),(dz (oq n14 (.iaddr n1 (.t n12) (.t n13))) n3 n0),(dz (ol n15 n14) n4 n0),(dz (ol n17 n16) n6 n0),(dz (oq n18 (.iaddr n1 (.t n17) (k n0))) n7 n0),(dz (ol n19 n18) n8 n0),(dz (oq n20 (.bin .neq (.t n15) (.t n19))) n9 n0)])
 (.cond (.t n20) (.seq (.ops [(oq n2 (.mv (.c (.d (.bool false)))))])
 .ret)
 .skip)))
 (.ops [(om n9 n3),(oq n10 (.bin .add (.t n9) (k n1))),(om n3 n10)]))))))
 (.seq (.ops [(oq n2 (.mv (.c (.d (.bool true)))))])
 .ret)))
def x123 : XFn := ⟨a123,n21,[(.t n2)],c123⟩
def a124 : Ann := ⟨[(n2,n1,n0),(n6,n3,n2),(n9,n22,n1)],[]⟩
def c124 : ICode :=
 (.seq (.ops [(oq n3 (.box (.t n0))),(oq n4 (.box (.t n1))),(oq n6 (.alloc [(.bool false)]))])
 (.seq (.seq (.ops [(of n10 n0 n4),(ol n11 n10),(oq n12 (.bin .lss (.t n11) (k n0)))])
 (.cond (.t n12) (.seq (.ops [(om n13 n2),(oq n14 (.call (.c (.fn n130 [] [])) [(.t n13)] .borrow)),⟨none,none,.store n1 (.t n6) (.t n14)⟩])
 .ret)
 .skip))
 (.seq (.seq (.draw n0 [(dz (of n15 n0 n4) n0 n0),(dz (ol n16 n15) n1 n0),(dz (ol n17 n3) n2 n0),(dz (oq n18 (.nilchk (.t n17))) n3 n0),(dz (of n19 n2 n18) n4 n0),(dz (ol n20 n19) n5 n0),(dz (oq n21 (.bin .geq (.t n16) (.t n20))) n6 n0)])
 (.cond (.t n21) (.seq (.ops [⟨none,none,.store n1 (.t n6) (.c (.d (.bool false)))⟩])
 .ret)
 .skip))
 (.seq (.ops [(oq n7 (.alloc [(.int .i64 (.l (i n0)))])),⟨none,none,.store n1 (.t n7) (k n0)⟩])
 (.seq (.seq (.ops [(om n22 n2),(of n23 n0 n4),(ol n24 n23),(oq n25 (.call (.c (.fn n132 [] [])) [(.t n22),(.t n24)] .raw))])
 (.block n0 (.range (.t n25) [n26,n27] (.seq (.ops [(oq n8 (.alloc [(.int .u8 (.l (i n0))),(.int .i64 (.l (i n0)))])),⟨none,none,.store n2 (.t n8) (.t n26)⟩])
 (.ops [(om n9 n27)])) (.block n1 (.seq (.seq (.draw n0 [(dz (of n29 n1 n4) n1 n0),(dz (ol n28 n7) n0 n0),(dz (ol n30 n29) n2 n0),(dz (oq n31 (.len (.t n30))) n3 n0),(dz (oq n32 (.bin .eql (.t n28) (.t n31))) n4 n0),(dz (om n33 n32) n5 n0),(dz (og n34 n33 false (.faddr n1 (.t n4))) n6 n0),(dz (og n35 n33 false (.load none (.t n34))) n7 n0),(dz (og n36 n33 false (.load none (.t n7))) n8 n0),(dz (og n37 n33 false (.iaddr n2 (.t n35) (.t n36))) n9 n0),(dz (og n38 n33 false (.load (some n2) (.t n37))) n10 n0),(dz (og n39 n33 false (.load (some n2) (.t n8))) n11 n0),(dz (og n40 n33 false (.aeq true [.u8,.i64] (.t n38) (.t n39))) n12 n0),(dz (oq n41 (.pick (.t n33) (.c (.d (.bool true))) (.t n40))) n13 n0),(dz (om n42 n41) n14 n0),(dz (og n44 n42 false (.faddr n2 (.t n4))) n16 n0),(dz (og n49 n42 false (.mv (.t n9))) n21 n0),(dz (og n43 n42 false (.load none (.t n3))) n15 n0),(dz (og n45 n42 false (.load none (.t n44))) n17 n0),(dz (og n46 n42 false (.load none (.t n7))) n18 n0),(dz (og n47 n42 false (.iaddr n3 (.t n45) (.t n46))) n19 n0),(dz (og n48 n42 false (.load (some n3) (.t n47))) n20 n0),(dq (og n50 n42 false (.call (.c (.fn n124 [] [])) [(.t n43),(.t n48),(.t n49)] .share)) n22 n0 [] [n15,n20,n21,n14,n13,n5,n12,n4,n0,n3,n2,n1,n10,n11,n9,n7,n8,n6,n19,n17,n18,n16] true false),(dz (og n51 n42 false (.un .not (.t n50))) n23 n0),(dz (oq n52 (.pick (.t n42) (.c (.d (.bool true))) (.t n51))) n24 n0)])
 (.cond (.t n52) (.seq (.ops [⟨none,none,.store n1 (.t n6) (.c (.d (.bool false)))⟩])
 .ret)
 .skip))
 (.ops [(ol n53 n7),(oq n54 (.bin .add (.t n53) (k n1))),⟨none,none,.store n1 (.t n7) (.t n54)⟩]))))))
 (.seq (.ops [(ol n55 n7),(of n56 n1 n4),(ol n57 n56),(oq n58 (.len (.t n57))),(oq n59 (.bin .eql (.t n55) (.t n58))),⟨none,none,.store n1 (.t n6) (.t n59)⟩])
 .ret))))))
def x124 : XFn := ⟨a124,n60,[(.c n6 none)],c124⟩
def a130 : Ann := ⟨[(n1,n2,n2)],[]⟩
def c130 : ICode :=
 (.seq (.ops [(oq n1 (.box (.t n0))),(oq n2 (.mv (.c (.d (.bool false)))))])
 (.seq (.ops [(ol n3 n1),(oq n4 (.mkfn n169 [] [(.t n1)])),(oq n5 (.call (.c (.fn n168 [] [])) [(.t n3),(.t n4)] .raw)),(om n2 n5)])
 .ret))
def x130 : XFn := ⟨a130,n6,[(.t n2)],c130⟩
def a131 : Ann := ⟨[(n1,n5,n0),(n9,n3,n1),(n11,n1,n1),(n12,n1,n1),(n16,n1,n0),(n17,n4,n0),(n23,n7,n2),(n23,n8,n3),(n23,n14,n2),(n23,n15,n3)],[]⟩
def c131 : ICode :=
 (.seq (.ops [(oq n8 (.box (.t n3))),(oq n9 (.box (.t n4))),(oq n10 (.mv (.c (.d (.raw (.pointer none)))))),(oq n11 (.mv (k n0)))])
 (.seq (.seq (.ops [(om n26 n0),(om n27 n1),(om n28 n2),(oq n29 (.load (some n5) (.t n8))),(oq n30 (.load (some n5) (.t n9))),(oq n31 (.call (.c (.fn n98 [] [])) [(.t n26),(.t n27),(.t n28),(.t n29),(.t n30)] .borrow)),(om n12 n31)])
 (.seq (.ops [(om n32 n12),(oq n33 (.bin .neq (.t n32) (k n0)))])
 (.cond (.t n33) (.seq (.ops [(om n34 n12),(oq n10 (.mv (.c (.d (.raw (.pointer none)))))),(om n11 n34)])
 .ret)
 .skip)))
 (.seq (.ops [(om n35 n0),(om n36 n1),(oq n37 (.build [.nil,.nil] [(n0,n1,(.t n35)),(n1,n1,(.t n36))])),(om n38 n2),(oq n39 (.len (.t n38))),(oq n40 (.build [.nil,.nil,(.int .i64 (.l (i n0))),.nil,.nil] [(n0,n2,(.t n37)),(n2,n1,(.t n39))])),(oq n41 (.box (.t n40))),(om n13 n41)])
 (.seq (.ops [(om n42 n2),(oq n43 (.len (.t n42))),(oq n44 (.mkslice n1 [.nil] n24 (.t n43))),(om n14 n44)])
 (.seq (.seq (.ops [(om n45 n2),(oq n46 (.len (.t n45))),(oq n47 (.mv (k n0)))])
 (.block n0 (.loop (.seq (.ops [(oq n48 (.bin .lss (.t n47) (.t n46)))])
 (.seq (.cond (.t n48) .skip
 (.exit n0))
 (.seq (.block n1 (.seq (.ops [(om n49 n47),(oq n50 (.iaddr n5 (.t n45) (.t n47))),(oq n51 (.load (some n5) (.t n50))),(oq n16 (.alloc [.nil,.nil,.nil,.nil,(.int .i64 (.l (i n0)))])),(om n15 n49),⟨none,none,.store n5 (.t n16) (.t n51)⟩])
 (.ops [(om n53 n14),(om n54 n15),(oq n55 (.load (some n5) (.t n16))),(oq n56 (.call (.c (.fn n170 [] [])) [(.t n55)] .share)),(om n52 n56),(oq n57 (.extract (.t n52) n0)),(oq n58 (.extract (.t n52) n1)),(oq n59 (.iaddr n1 (.t n53) (.t n54))),⟨none,none,.store n1 (.t n59) (.t n57)⟩])))
 (.ops [(oq n60 (.bin .add (.t n47) (k n1))),(om n47 n60)])))))))
 (.seq (.ops [(oq n62 (.load (some n5) (.t n9))),(oq n63 (.call (.c (.fn n170 [] [])) [(.t n62)] .share)),(om n61 n63),(oq n64 (.extract (.t n61) n0)),(oq n65 (.extract (.t n61) n1)),(om n17 n64),(om n18 n65)])
 (.seq (.ops [(oq n67 (.load (some n5) (.t n8))),(oq n68 (.call (.c (.fn n170 [] [])) [(.t n67)] .share)),(om n66 n68),(oq n69 (.extract (.t n66) n0)),(oq n70 (.extract (.t n66) n1)),(om n19 n69),(om n20 n70)])
 (.seq (.seq (.ops [(om n71 n19),(oq n72 (.len (.t n71))),(oq n73 (.mv (k n0)))])
 (.block n2 (.loop (.seq (.ops [(oq n74 (.bin .lss (.t n73) (.t n72)))])
 (.seq (.cond (.t n74) .skip
 (.exit n2))
 (.seq (.block n3 (.seq (.ops [(om n75 n73),(oq n76 (.iaddr n2 (.t n71) (.t n73))),(oq n77 (.load (some n2) (.t n76))),(oq n22 (.alloc [(.int .u8 (.l (i n0))),(.int .i64 (.l (i n0)))])),(om n21 n75),⟨none,none,.store n2 (.t n22) (.t n77)⟩])
 (.seq (.seq (.ops [(oq n78 (.load (some n2) (.t n22))),(oq n79 (.call (.c (.fn n171 [] [])) [(.t n78)] .borrow)),(oq n80 (.un .not (.t n79)))])
 (.cond (.t n80) (.exit n3)
 .skip))
 (.seq (.ops [(om n81 n17),(om n82 n21),(oq n83 (.iaddr n2 (.t n81) (.t n82))),(oq n84 (.load (some n2) (.t n83))),(oq n85 (.call (.c (.fn n171 [] [])) [(.t n84)] .borrow)),(oq n86 (.build [(.int .u8 (.l (i n0))),(.int .i64 (.l (i n0))),(.int .u8 (.l (i n0))),(.int .i64 (.l (i n0))),(.int .u8 (.l (i n0))),(.int .i64 (.l (i n0))),(.int .u8 (.l (i n0))),(.int .i64 (.l (i n0))),(.bool false)] [(n8,n1,(.t n85))])),(oq n23 (.alloc [(.int .u8 (.l (i n0))),(.int .i64 (.l (i n0))),(.int .u8 (.l (i n0))),(.int .i64 (.l (i n0))),(.int .u8 (.l (i n0))),(.int .i64 (.l (i n0))),(.int .u8 (.l (i n0))),(.int .i64 (.l (i n0))),(.bool false)])),⟨none,none,.store n9 (.t n23) (.t n86)⟩])
 (.seq (.seq (.ops [(om n87 n14),(oq n88 (.len (.t n87))),(oq n89 (.mv (k n0)))])
 (.block n4 (.loop (.seq (.ops [(oq n90 (.bin .lss (.t n89) (.t n88)))])
 (.seq (.cond (.t n90) .skip
 (.exit n4))
 (.seq (.block n5 (.seq (.ops [(om n91 n89),(oq n92 (.iaddr n1 (.t n87) (.t n89))),(ol n93 n92),(om n24 n91),(om n25 n93)])
 (.ops [(om n94 n24),(om n95 n25),(om n96 n21),(oq n97 (.iaddr n2 (.t n95) (.t n96))),(oq n98 (.load (some n2) (.t n97))),(of n99 n0 n23),(oq n100 (.iaddrA n4 n2 (.t n99) (.t n94))),⟨none,none,.store n2 (.t n100) (.t n98)⟩])))
 (.ops [(oq n101 (.bin .add (.t n89) (k n1))),(om n89 n101)])))))))
 (.draw n0 [(dq (om n102 n13) n0 n0 [] [] false true),(dq (om n103 n13) n1 n0 [] [] false true),(dz (om n104 n13) n2 n0),(dz (oq n105 (.nilchk (.t n104))) n3 n0),(dz (of n106 n3 n105) n4 n0),(dz (om n108 n21) n6 n0),(dz (oq n109 (.bsliceP n1 n1 [(.int .i64 (.l (i n0)))] [(n0,(.t n108))])) n7 n0),(dq (om n111 n13) n9 n0 [] [] false true),(dq (oq n112 (.nilchk (.t n111))) n10 n0 [] [] false true),(dq (of n113 n4 n112) n11 n0 [] [] false true),(dz (ol n107 n106) n5 n0),(dq (ol n114 n113) n12 n0 [] [] false true),(dq (oq n115 (.load (some n9) (.t n23))) n13 n0 [] [] false true),(dq (oq n116 (.bsliceP n9 n1 [(.int .u8 (.l (i n0))),(.int .i64 (.l (i n0))),(.int .u8 (.l (i n0))),(.int .i64 (.l (i n0))),(.int .u8 (.l (i n0))),(.int .i64 (.l (i n0))),(.int .u8 (.l (i n0))),(.int .i64 (.l (i n0))),(.bool false)] [(n0,(.t n115))])) n14 n0 [] [] false true),(dq (oq n110 (.appendN n1 n8 (.t n107) (.t n109) true)) n8 n0 [] [n5,n7,n4,n3,n2,n6] false false),(dq (oq n117 (.appendN n9 n72 (.t n114) (.t n116) true)) n15 n0 [] [n12,n14,n8,n11,n10,n9,n13,n5,n7,n4,n3,n2,n6] false false),(dz (oq n118 (.nilchk (.t n102))) n16 n0),(dz (of n119 n3 n118) n17 n0),⟨⟨none,none,.store n1 (.t n119) (.t n110)⟩,n18,n0,[],[n17,n8,n15,n0,n2,n3,n4,n5,n6,n7,n12,n16,n11,n10,n9,n14,n13],false,false⟩,(dz (oq n120 (.nilchk (.t n103))) n19 n0),(dz (of n121 n4 n120) n20 n0),⟨⟨none,none,.store n1 (.t n121) (.t n117)⟩,n21,n0,[],[n20,n15,n18,n0,n1,n2,n3,n4,n5,n6,n7,n8,n9,n10,n11,n12,n13,n14,n16,n17,n19],true,false⟩]))))))
 (.ops [(oq n122 (.bin .add (.t n73) (k n1))),(om n73 n122)])))))))
 (.seq (.ops [(om n123 n13),(om n10 n123),(oq n11 (.mv (k n0)))])
 .ret)))))))))
def x131 : XFn := ⟨a131,n124,[(.t n10),(.t n11)],c131⟩
def a132 : Ann := ⟨[],[]⟩
def c132 : ICode :=
 (.seq (.ops [(oq n2 (.box (.t n0))),(oq n3 (.box (.t n1))),(oq n4 (.mv (.c (.d (.raw .nilFunc)))))])
 (.seq (.ops [(oq n5 (.mkfn n172 [] [(.t n2),(.t n3)])),(om n4 n5)])
 .ret))
def x132 : XFn := ⟨a132,n6,[(.t n4)],c132⟩
def a133 : Ann := ⟨[(n3,n0,n1),(n3,n2,n3)],[]⟩
def c133 : ICode :=
 (.seq (.ops [(oq n2 (.mv (.c (.d .nil))))])
 (.seq (.seq (.ops [(om n3 n0),(oq n4 (.isnil false (.t n3)))])
 (.cond (.t n4) (.seq (.ops [(oq n2 (.mv (.c (.d .nil))))])
 .ret)
 .skip))
 (.seq (.ops [(oq n5 (.bnew n5)),(om n6 n0),(oq n7 (.appendN n5 n104 (.t n5) (.t n6) true)),(om n2 n7)])
 .ret)))
def x133 : XFn := ⟨a133,n8,[(.t n2)],c133⟩
def a134 : Ann := ⟨[(n1,n1,n1)],[]⟩
def c134 : ICode :=
 (.seq (.ops [(oq n1 (.box (.t n0))),(oq n2 (.mv (k n0)))])
 (.seq (.ops [(oq n6 (.load (some n5) (.t n1))),(oq n7 (.call (.c (.fn n160 [] [])) [(.t n6)] .share)),(om n5 n7),(oq n8 (.extract (.t n5) n0)),(oq n9 (.extract (.t n5) n1)),(oq n3 (.alloc [.nil,.nil,.nil,.nil,.nil,.nil,(.int .i64 (.l (i n0)))])),⟨none,none,.store n7 (.t n3) (.t n8)⟩,(om n4 n9)])
 (.seq (.ops [(om n10 n4),(om n2 n10)])
 .ret)))
def x134 : XFn := ⟨a134,n11,[(.t n2)],c134⟩
def a135 : Ann := ⟨[(n1,n4,n0),(n1,n10,n0)],[]⟩
def c135 : ICode :=
 (.seq (.ops [(oq n2 (.box (.t n0))),(oq n3 (.box (.t n1))),(oq n4 (.mv (.c (.d (.bool false)))))])
 (.seq (.ops [(of n5 n0 n3),(ol n6 n5),(of n7 n0 n2),(ol n8 n7),(oq n9 (.call (.c (.fn n155 [] [])) [(.t n6),(.t n8)] .borrow)),(om n10 n9),(og n11 n10 true (.faddr n1 (.t n3))),(og n12 n10 true (.load none (.t n11))),(og n13 n10 true (.faddr n1 (.t n2))),(og n14 n10 true (.load none (.t n13))),(og n15 n10 true (.call (.c (.fn n155 [] [])) [(.t n12),(.t n14)] .borrow)),(oq n16 (.pick (.t n10) (.t n15) (.c (.d (.bool false))))),(om n4 n16)])
 .ret))
def x135 : XFn := ⟨a135,n17,[(.t n4)],c135⟩
def a136 : Ann := ⟨[(n1,n2,n2)],[]⟩
def c136 : ICode :=
 (.seq (.ops [(oq n3 (.box (.t n1))),(oq n4 (.mv (.c (.d (.bool false)))))])
 (.seq (.ops [(om n5 n0),(oq n6 (.mkfn n175 [] [(.t n3)])),(oq n7 (.call (.c (.fn n174 [] [])) [(.t n5),(.t n6)] .raw)),(oq n8 (.un .not (.t n7))),(om n4 n8)])
 .ret))
def x136 : XFn := ⟨a136,n9,[(.t n4)],c136⟩
def a137 : Ann := ⟨[(n1,n2,n2)],[]⟩
def c137 : ICode :=
 (.seq (.ops [(oq n2 (.box (.t n0))),(oq n4 (.mv (.c (.d (.bool false)))))])
 (.seq (.ops [(om n5 n1),(oq n6 (.mkfn n176 [] [(.t n2)])),(oq n7 (.call (.c (.fn n174 [] [])) [(.t n5),(.t n6)] .raw)),(oq n8 (.un .not (.t n7))),(om n4 n8)])
 .ret))
def x137 : XFn := ⟨a137,n9,[(.t n4)],c137⟩
def a138 : Ann := ⟨[(n1,n4,n0),(n1,n10,n0)],[]⟩
def c138 : ICode :=
 (.seq (.ops [(oq n2 (.box (.t n0))),(oq n3 (.box (.t n1))),(oq n4 (.mv (.c (.d (.bool false)))))])
 (.seq (.ops [(of n5 n0 n3),(ol n6 n5),(of n7 n0 n2),(ol n8 n7),(oq n9 (.call (.c (.fn n155 [] [])) [(.t n6),(.t n8)] .borrow)),(om n10 n9),(og n11 n10 true (.faddr n1 (.t n3))),(og n12 n10 true (.load none (.t n11))),(og n13 n10 true (.faddr n1 (.t n2))),(og n14 n10 true (.load none (.t n13))),(og n15 n10 true (.call (.c (.fn n155 [] [])) [(.t n12),(.t n14)] .borrow)),(oq n16 (.pick (.t n10) (.t n15) (.c (.d (.bool false))))),(om n4 n16)])
 .ret))
def x138 : XFn := ⟨a138,n17,[(.t n4)],c138⟩
def a142 : Ann := ⟨[],[]⟩
def c142 : ICode :=
 (.seq (.ops [(oq n0 (.alloc [(.int .u8 (.l (i n0))),(.int .i64 (.l (i n0)))]))])
 (.seq (.ops [(oq n1 (.build [(.int .u8 (.l (i n0))),(.int .i64 (.l (i n0)))] [(n1,n1,(k n1))])),⟨none,none,.store n2 (.t n0) (.t n1)⟩])
 .ret))
def x142 : XFn := ⟨a142,n2,[(.c n0 (some n2))],c142⟩
def a145 : Ann := ⟨[(n1,n1,n0)],[]⟩
def c145 : ICode :=
 (.seq (.ops [(oq n1 (.box (.t n0))),(oq n2 (.mv (k n0)))])
 (.seq (.seq (.ops [(oq n3 (.load (some n2) (.t n1))),(oq n4 (.call (.c (.fn n184 [] [])) [(.t n3)] .borrow)),(oq n5 (.un .not (.t n4)))])
 (.cond (.t n5) (.seq (.ops [(oq n2 (.mv (k n2)))])
 .ret)
 .skip))
 (.seq (.ops [(oq n2 (.mv (k n0)))])
 .ret)))
def x145 : XFn := ⟨a145,n6,[(.t n2)],c145⟩
def a146 : Ann := ⟨[],[]⟩
def c146 : ICode :=
 (.seq (.ops [(oq n0 (.alloc [(.int .i64 (.l (i n0))),.nil,.nil]))])
 (.seq (.ops [(oq n1 (.build [(.int .i64 (.l (i n0))),.nil,.nil] [(n0,n1,(.c (.d (.int .i64 (.l (.negSucc n0))))))])),⟨none,none,.store n3 (.t n0) (.t n1)⟩])
 .ret))
def x146 : XFn := ⟨a146,n2,[(.c n0 (some n3))],c146⟩
def a147 : Ann := ⟨[],[]⟩
def c147 : ICode :=
 (.seq (.ops [(oq n2 (.alloc [(.bool false),(.bool false),(.bool false),(.bool false)]))])
 (.seq (.seq (.ops [(om n4 n0),(oq n5 (.nilchk (.t n4))),(of n6 n2 n5),(ol n7 n6),(oq n8 (.mv (k n0)))])
 (.block n0 (.loop (.seq (.ops [(oq n9 (.bin .lss (.t n8) (.t n7)))])
 (.seq (.cond (.t n9) .skip
 (.exit n0))
 (.seq (.block n1 (.seq (.ops [(om n10 n8),(om n3 n10)])
 (.ops [(om n11 n3),(oq n12 (.iaddrA n4 n1 (.t n2) (.t n11))),⟨none,none,.store n1 (.t n12) (.c (.d (.bool true)))⟩])))
 (.ops [(oq n13 (.bin .add (.t n8) (k n1))),(om n8 n13)])))))))
 (.seq (.ops [(oq n14 (.load (some n4) (.t n2))),⟨none,none,.store n4 (.t n2) (.t n14)⟩])
 .ret)))
def x147 : XFn := ⟨a147,n15,[(.c n2 (some n4))],c147⟩
def a148 : Ann := ⟨[],[]⟩
def c148 : ICode :=
 (.seq (.ops [(oq n1 (.box (.t n0))),(oq n2 (.mv (.c (.d (.raw .nilFunc)))))])
 (.seq (.ops [(oq n3 (.mkfn n185 [] [(.t n1)])),(om n2 n3)])
 .ret))
def x148 : XFn := ⟨a148,n4,[(.t n2)],c148⟩
def a149 : Ann := ⟨[(n1,n2,n0)],[]⟩
def c149 : ICode :=
 (.seq (.ops [(oq n2 (.box (.t n0))),(oq n3 (.box (.t n1))),(oq n4 (.mv (k n0)))])
 (.seq (.ops [(oq n8 (.load (some n2) (.t n2))),(oq n9 (.load (some n2) (.t n3))),(oq n10 (.call (.c (.fn n186 [] [])) [(.t n8),(.t n9)] .borrow)),(om n7 n10),(oq n11 (.extract (.t n7) n0)),(oq n12 (.extract (.t n7) n1)),(om n5 n11),(om n6 n12)])
 (.seq (.block n0 (.seq (.ops [(oq n14 (.load (some n2) (.t n2))),(oq n15 (.load (some n2) (.t n3))),(oq n16 (.aeq false [.u8,.i64] (.t n14) (.t n15))),(om n13 n16)])
 (.cond (.t n13) (.seq (.ops [(oq n4 (.mv (k n0)))])
 .ret)
 (.seq (.ops [(om n18 n5),(om n17 n18)])
 (.cond (.t n17) (.seq (.ops [(oq n4 (.mv (.c (.d (.int .i64 (.l (.negSucc n0)))))))])
 .ret)
 .skip)))))
 (.seq (.ops [(oq n4 (.mv (k n1)))])
 .ret))))
def x149 : XFn := ⟨a149,n19,[(.t n4)],c149⟩
def a150 : Ann := ⟨[(n1,n2,n2)],[]⟩
def c150 : ICode :=
 (.seq (.ops [(oq n4 (.mv (.c (.d (.bool false)))))])
 (.seq (.ops [(om n5 n0),(om n6 n1),(oq n7 (.call (.c (.fn n187 [] [])) [(.t n5),(.t n6)] .raw)),(oq n8 (.bin .geq (.t n7) (k n0))),(om n4 n8)])
 .ret))
def x150 : XFn := ⟨a150,n9,[(.t n4)],c150⟩
def a151 : Ann := ⟨[(n1,n2,n2)],[]⟩
def c151 : ICode :=
 (.seq (.ops [(oq n2 (.box (.t n0))),(oq n3 (.mv (.c (.d (.bool false)))))])
 (.seq (.ops [(ol n4 n1),(oq n5 (.load (some n1) (.t n2))),(oq n6 (.call (.t n4) [(.t n5)] .raw)),(oq n7 (.un .not (.t n6))),(om n3 n7)])
 .ret))
def x151 : XFn := ⟨a151,n8,[(.t n3)],c151⟩
def a152 : Ann := ⟨[(n1,n2,n2)],[]⟩
def c152 : ICode :=
 (.seq (.ops [(oq n3 (.box (.t n0))),(oq n4 (.box (.t n1))),(oq n6 (.mv (.c (.d (.bool false)))))])
 (.seq (.ops [(om n7 n2),(oq n8 (.mkfn n189 [] [(.t n3),(.t n4)])),(oq n9 (.call (.c (.fn n188 [] [])) [(.t n7),(.t n8)] .raw)),(oq n10 (.un .not (.t n9))),(om n6 n10)])
 .ret))
def x152 : XFn := ⟨a152,n11,[(.t n6)],c152⟩
def a153 : Ann := ⟨[(n3,n0,n1),(n3,n2,n3)],[]⟩
def c153 : ICode :=
 (.seq (.ops [(oq n2 (.mv (.c (.d .nil))))])
 (.seq (.seq (.ops [(om n3 n0),(oq n4 (.isnil false (.t n3)))])
 (.cond (.t n4) (.seq (.ops [(oq n2 (.mv (.c (.d .nil))))])
 .ret)
 .skip))
 (.seq (.ops [(oq n5 (.bnew n1)),(om n6 n0),(oq n7 (.appendN n1 n8 (.t n5) (.t n6) true)),(om n2 n7)])
 .ret)))
def x153 : XFn := ⟨a153,n8,[(.t n2)],c153⟩
def a154 : Ann := ⟨[(n1,n4,n0),(n1,n5,n2)],[]⟩
def c154 : ICode :=
 (.seq (.ops [(om n3 n0),(oq n4 (.len (.t n3))),(om n2 n4)])
 (.ops [(om n5 n0),(om n6 n2),(om n7 n2),(oq n8 (.conv .u64 (.t n7))),(oq n9 (.call (.c (.fn n191 [] [])) [(.t n8)] .borrow)),(oq n10 (.call (.c (.fn n190 [] [])) [(.t n5),(k n0),(.t n6),(.t n9)] .raw))]))
def x154 : XFn := ⟨a154,n11,[],c154⟩
def a155 : Ann := ⟨[],[]⟩
def c155 : ICode :=
 (.seq (.ops [(oq n4 (.mv (.c (.d (.bool false)))))])
 (.seq (.seq (.ops [(om n6 n0),(oq n7 (.len (.t n6))),(om n8 n1),(oq n9 (.len (.t n8))),(oq n10 (.bin .neq (.t n7) (.t n9)))])
 (.cond (.t n10) (.seq (.ops [(oq n4 (.mv (.c (.d (.bool false)))))])
 .ret)
 .skip))
 (.seq (.seq (.ops [(om n11 n0),(oq n12 (.len (.t n11))),(oq n13 (.mv (k n0)))])
 (.block n0 (.loop (.seq (.ops [(oq n14 (.bin .lss (.t n13) (.t n12)))])
 (.seq (.cond (.t n14) .skip
 (.exit n0))
 (.seq (.block n1 (.seq (.ops [(om n15 n13),(om n5 n15)])
 (.seq (.draw n0 [(dz (om n16 n0) n0 n0),(dz (om n17 n5) n1 n0),(dz (oq n18 (.iaddr n1 (.t n16) (.t n17))) n2 n0),(dz (om n20 n1) n4 n0),(dz (om n21 n5) n5 n0),(dz (oq n22 (.iaddr n1 (.t n20) (.t n21))) n6 n0),(dz (ol n19 n18) n3 n0),(dz (ol n23 n22) n7 n0),(dz (oq n24 (.bin .neq (.t n19) (.t n23))) n8 n0)])
 (.cond (.t n24) (.seq (.ops [(oq n4 (.mv (.c (.d (.bool false)))))])
 .ret)
 .skip))))
 (.ops [(oq n25 (.bin .add (.t n13) (k n1))),(om n13 n25)])))))))
 (.seq (.ops [(oq n4 (.mv (.c (.d (.bool true)))))])
 .ret))))
def x155 : XFn := ⟨a155,n26,[(.t n4)],c155⟩
def a156 : Ann := ⟨[],[]⟩
def c156 : ICode :=
 (.seq (.ops [(oq n2 (.mv (.c (.d .nil))))])
 (.seq (.ops [(om n5 n0),(oq n6 (.mkslice n1 [(.int .i64 (.l (i n0)))] n8 (.t n5))),(om n3 n6)])
 (.seq (.seq (.ops [(om n7 n0),(oq n8 (.mv (k n0)))])
 (.block n0 (.loop (.seq (.ops [(oq n9 (.bin .lss (.t n8) (.t n7)))])
 (.seq (.cond (.t n9) .skip
 (.exit n0))
 (.seq (.block n1 (.seq (.ops [(om n10 n8),(om n4 n10)])
 (.ops [(om n11 n3),(om n12 n4),(om n13 n4),(oq n14 (.iaddr n1 (.t n11) (.t n12))),⟨none,none,.store n1 (.t n14) (.t n13)⟩])))
 (.ops [(oq n15 (.bin .add (.t n8) (k n1))),(om n8 n15)])))))))
 (.seq (.ops [(om n16 n3),(om n2 n16)])
 .ret))))
def x156 : XFn := ⟨a156,n17,[(.t n2)],c156⟩
def a157 : Ann := ⟨[(n1,n1,n2),(n1,n3,n2),(n1,n5,n2)],[]⟩
def c157 : ICode :=
 (.seq (.ops [(oq n5 (.box (.t n2))),(oq n6 (.alloc [.nil,.nil,.nil,.nil,(.int .i64 (.l (i n0)))]))])
 (.seq (.draw n0 [(dz (om n7 n0) n0 n0),(dq (om n9 n1) n2 n0 [] [] false true),(dq (oq n11 (.load (some n2) (.t n5))) n4 n0 [] [] false true),(dq (oq n12 (.bsliceP n2 n1 [(.int .u8 (.l (i n0))),(.int .i64 (.l (i n0)))] [(n0,(.t n11))])) n5 n0 [] [] false true),(dq (oq n8 (.call (.c (.fn n153 [] [])) [(.t n7)] .raw)) n1 n0 [] [n0] false false),(dq (oq n10 (.call (.c (.fn n153 [] [])) [(.t n9)] .raw)) n3 n0 [] [n2,n1,n0] false false),(dz (oq n13 (.build [.nil,.nil,.nil,.nil,(.int .i64 (.l (i n0)))] [(n0,n1,(.t n8)),(n1,n1,(.t n10)),(n2,n1,(.t n12)),(n4,n1,(.c (.d (.int .i64 (.l (.negSucc n0))))))])) n6 n0),⟨⟨none,none,.store n5 (.t n6) (.t n13)⟩,n7,n0,[],[n6,n3,n0,n1,n2,n4,n5],true,false⟩])
 .ret))
def x157 : XFn := ⟨a157,n14,[(.c n6 (some n5))],c157⟩
def a158 : Ann := ⟨[(n7,n2,n3),(n9,n8,n3),(n14,n6,n0),(n19,n4,n2)],[]⟩
def c158 : ICode :=
 (.seq (.ops [(oq n6 (.mv (.c (.d .nil))))])
 (.seq (.ops [(om n10 n0),(om n11 n1),(oq n12 (.slice n5 (.t n10) (some (.t n11)) none none))])
 (.seq (.ops [(om n13 n2),(oq n14 (.len (.t n13))),(om n7 n14)])
 (.seq (.seq (.ops [(om n15 n7),(oq n16 (.bin .eql (.t n15) (k n0)))])
 (.cond (.t n16) (.seq (.ops [(om n17 n0),(om n6 n17)])
 .ret)
 .skip))
 (.seq (.ops [(om n18 n0),(oq n19 (.len (.t n18))),(om n8 n19)])
 (.seq (.seq (.ops [(om n20 n1),(om n21 n8),(oq n22 (.bin .eql (.t n20) (.t n21)))])
 (.cond (.t n22) (.seq (.ops [(om n23 n0),(om n24 n2),(oq n25 (.appendN n5 n104 (.t n23) (.t n24) true)),(om n6 n25)])
 .ret)
 .skip))
 (.seq (.seq (.ops [(om n26 n8),(om n27 n7),(oq n28 (.bin .add (.t n26) (.t n27))),(om n29 n0),(oq n30 (.cap (.t n29))),(oq n31 (.bin .gtr (.t n28) (.t n30)))])
 (.cond (.t n31) (.seq (.ops [(om n32 n0),(om n33 n1),(oq n34 (.slice n5 (.t n32) none (some (.t n33)) none)),(om n35 n8),(om n36 n7),(oq n37 (.bin .add (.t n35) (.t n36))),(om n38 n1),(oq n39 (.bin .sub (.t n37) (.t n38))),(oq n40 (.bad)),(om n9 n40)])
 (.seq (.ops [(om n41 n9),(om n42 n1),(oq n43 (.slice n5 (.t n41) (some (.t n42)) none none)),(om n44 n2),(oq n45 (.copy n5 (.t n43) (.t n44)))])
 (.seq (.draw n0 [(dz (om n46 n9) n0 n0),(dz (om n47 n1) n1 n0),(dz (om n48 n7) n2 n0),(dz (oq n49 (.bin .add (.t n47) (.t n48))) n3 n0),(dz (oq n50 (.slice n5 (.t n46) (some (.t n49)) none none)) n4 n0),(dz (om n51 n0) n5 n0),(dz (om n52 n1) n6 n0),(dz (oq n53 (.slice n5 (.t n51) (some (.t n52)) none none)) n7 n0),(dq (oq n54 (.copy n5 (.t n50) (.t n53))) n8 n0 [] [n4,n7,n0,n3,n1,n2,n5,n6] true false)])
 (.seq (.ops [(om n55 n9),(om n6 n55)])
 .ret))))
 .skip))
 (.seq (.ops [(om n56 n0),(om n57 n8),(om n58 n7),(oq n59 (.bin .add (.t n57) (.t n58))),(oq n60 (.slice n5 (.t n56) none (some (.t n59)) none)),(om n0 n60)])
 (.seq (.seq (.ops [(om n61 n2),(om n62 n0),(om n63 n1),(om n64 n7),(oq n65 (.bin .add (.t n63) (.t n64))),(oq n66 (.slice n5 (.t n62) (some (.t n65)) none none)),(oq n67 (.call (.c (.fn n192 [] [])) [(.t n61),(.t n66)] .borrow)),(oq n68 (.un .not (.t n67)))])
 (.cond (.t n68) (.seq (.draw n0 [(dz (om n69 n0) n0 n0),(dz (om n70 n1) n1 n0),(dz (om n71 n7) n2 n0),(dz (oq n72 (.bin .add (.t n70) (.t n71))) n3 n0),(dz (oq n73 (.slice n5 (.t n69) (some (.t n72)) none none)) n4 n0),(dz (om n74 n0) n5 n0),(dz (om n75 n1) n6 n0),(dz (oq n76 (.slice n5 (.t n74) (some (.t n75)) none none)) n7 n0),(dq (oq n77 (.copy n5 (.t n73) (.t n76))) n8 n0 [] [n4,n7,n0,n3,n1,n2,n5,n6] true false)])
 (.seq (.ops [(om n78 n0),(om n79 n1),(oq n80 (.slice n5 (.t n78) (some (.t n79)) none none)),(om n81 n2),(oq n82 (.copy n5 (.t n80) (.t n81)))])
 (.seq (.ops [(om n83 n0),(om n6 n83)])
 .ret)))
 .skip))
 (.seq (.ops [(om n84 n0),(om n85 n8),(oq n86 (.slice n5 (.t n84) (some (.t n85)) none none)),(om n87 n2),(oq n88 (.copy n5 (.t n86) (.t n87)))])
 (.seq (.ops [(om n89 n0),(om n90 n1),(oq n91 (.slice n5 (.t n89) (some (.t n90)) none none)),(om n92 n7),(oq n93 (.call (.c (.fn n193 [] [])) [(.t n91),(.t n92)] .raw))])
 (.seq (.ops [(om n94 n0),(om n6 n94)])
 .ret))))))))))))
def x158 : XFn := ⟨a158,n95,[(.t n6)],c158⟩
def a160 : Ann := ⟨[(n1,n1,n1),(n2,n4,n1),(n2,n6,n0)],[]⟩
def c160 : ICode :=
 (.seq (.ops [(oq n1 (.box (.t n0))),(oq n2 (.alloc [.nil,.nil,.nil,.nil,.nil,.nil,(.int .i64 (.l (i n0)))])),(oq n3 (.mv (k n0)))])
 (.seq (.ops [(oq n5 (.load (some n5) (.t n1))),(oq n6 (.call (.c (.fn n196 [] [])) [(.t n5)] .share)),(om n4 n6),(oq n7 (.extract (.t n4) n0)),(oq n8 (.extract (.t n4) n1)),⟨none,none,.store n7 (.t n2) (.t n7)⟩,(om n3 n8)])
 (.seq (.seq (.draw n0 [(dz (om n9 n3) n0 n0),(dz (oq n10 (.bin .eql (.t n9) (k n0))) n1 n0),(dz (om n11 n10) n2 n0),(dz (og n12 n11 true (.load (some n7) (.t n2))) n3 n0),(dq (og n14 n11 true (.load (some n5) (.t n1))) n5 n0 [] [] false true),(dq (og n13 n11 true (.call (.c (.fn n198 [] [])) [(.t n12)] .share)) n4 n0 [] [n3,n2,n1,n0] false false),(dq (og n15 n11 true (.call (.c (.fn n197 [] [])) [(.t n13),(.t n14)] .borrow)) n6 n0 [] [n4,n5,n2,n3,n1,n0] true false),(dz (og n16 n11 true (.un .not (.t n15))) n7 n0),(dz (oq n17 (.pick (.t n11) (.t n16) (.c (.d (.bool false))))) n8 n0)])
 (.cond (.t n17) (.seq (.ops [(oq n18 (.load (some n7) (.t n2))),⟨none,none,.store n7 (.t n2) (.t n18)⟩,(oq n3 (.mv (k n4)))])
 .ret)
 .skip))
 (.seq (.ops [(oq n19 (.load (some n7) (.t n2))),(om n20 n3),⟨none,none,.store n7 (.t n2) (.t n19)⟩,(om n3 n20)])
 .ret))))
def x160 : XFn := ⟨a160,n21,[(.c n2 (some n7)),(.t n3)],c160⟩
def a161 : Ann := ⟨[(n1,n9,n1),(n1,n11,n2)],[]⟩
def c161 : ICode :=
 (.seq (.ops [(oq n2 (.box (.t n0))),(oq n3 (.box (.t n1))),(oq n4 (.mv (.c (.d (.bool false)))))])
 (.seq (.ops [(ol n5 n3),(oq n6 (.len (.t n5))),(of n7 n0 n2),(ol n8 n7),(oq n9 (.len (.t n8))),(oq n10 (.bin .eql (.t n6) (.t n9))),(om n11 n10),(og n12 n11 true (.load none (.t n3))),(og n13 n11 true (.len (.t n12))),(og n14 n11 true (.call (.c (.fn n156 [] [])) [(.t n13)] .share)),(og n15 n11 true (.mkfn n199 [] [(.t n2),(.t n3)])),(og n16 n11 true (.call (.c (.fn n188 [] [])) [(.t n14),(.t n15)] .raw)),(og n17 n11 true (.un .not (.t n16))),(oq n18 (.pick (.t n11) (.t n17) (.c (.d (.bool false))))),(om n4 n18)])
 .ret))
def x161 : XFn := ⟨a161,n19,[(.t n4)],c161⟩
def a162 : Ann := ⟨[(n3,n2,n2),(n5,n1,n0)],[]⟩
def c162 : ICode :=
 (.seq (.ops [(oq n3 (.box (.t n0))),(oq n6 (.mv (k n0)))])
 (.seq (.ops [(of n8 n2 n3),(of n9 n4 n8),(ol n10 n9),(om n7 n10)])
 (.seq (.block n0 (.loop (.seq (.seq (.ops [(om n11 n7),(oq n12 (.bin .geq (.t n11) (k n0)))])
 (.cond (.t n12) .skip
 (.exit n0)))
 (.block n1 (.seq (.ops [(om n13 n2),(om n14 n7),(oq n15 (.call (.t n13) [(.t n14)] .raw))])
 (.draw n0 [(dz (of n16 n2 n3) n0 n0),(dz (of n17 n3 n16) n1 n0),(dz (om n19 n7) n3 n0),(dz (om n23 n1) n7 n0),(dz (of n24 n2 n3) n8 n0),(dz (of n25 n3 n24) n9 n0),(dz (om n27 n7) n11 n0),(dz (ol n18 n17) n2 n0),(dz (oq n20 (.iaddr n2 (.t n18) (.t n19))) n4 n0),(dz (of n21 n1 n20) n5 n0),(dz (ol n22 n21) n6 n0),(dz (ol n26 n25) n10 n0),(dz (oq n28 (.iaddr n2 (.t n26) (.t n27))) n12 n0),(dz (of n29 n0 n28) n13 n0),(dz (ol n30 n29) n14 n0),(dz (oq n31 (.iaddr n1 (.t n23) (.t n30))) n15 n0),(dz (ol n32 n31) n16 n0),(dz (oq n33 (.iaddr n1 (.t n22) (.t n32))) n17 n0),(dz (ol n34 n33) n18 n0),(dz (om n7 n34) n19 n0)]))))))
 (.seq (.ops [(om n35 n7),(oq n36 (.call (.c (.fn n200 [] [])) [(.t n35)] .borrow)),(om n6 n36)])
 .ret))))
def x162 : XFn := ⟨a162,n37,[(.t n6)],c162⟩
def a163 : Ann := ⟨[],[]⟩
def c163 : ICode :=
 .skip
def x163 : XFn := ⟨a163,n2,[],c163⟩
def a168 : Ann := ⟨[(n1,n2,n2)],[]⟩
def c168 : ICode :=
 (.seq (.ops [(oq n3 (.box (.t n1))),(oq n4 (.mv (.c (.d (.bool false)))))])
 (.seq (.ops [(om n5 n0),(oq n6 (.mkfn n202 [] [(.t n3)])),(oq n7 (.call (.c (.fn n201 [] [])) [(.t n5),(.t n6)] .raw)),(oq n8 (.un .not (.t n7))),(om n4 n8)])
 .ret))
def x168 : XFn := ⟨a168,n9,[(.t n4)],c168⟩
def a169 : Ann := ⟨[],[]⟩
def c169 : ICode :=
 (.seq (.ops [(oq n2 (.box (.t n0))),(oq n3 (.mv (.c (.d (.bool false)))))])
 (.seq (.draw n0 [(dz (of n4 n8 n2) n0 n0),(dz (ol n5 n4) n1 n0),(dz (ol n6 n1) n2 n0),(dz (oq n7 (.iaddr n9 (.t n6) (k n0))) n3 n0),(dz (of n8 n8 n7) n4 n0),(dz (ol n9 n8) n5 n0),(dz (oq n10 (.binb .eql (.t n5) (.t n9))) n6 n0),(dz (om n3 n10) n7 n0)])
 .ret))
def x169 : XFn := ⟨a169,n11,[(.t n3)],c169⟩
def a170 : Ann := ⟨[(n1,n1,n1),(n4,n1,n1)],[]⟩
def c170 : ICode :=
 (.seq (.ops [(oq n1 (.box (.t n0))),(oq n2 (.mv (.c (.d .nil)))),(oq n3 (.mv (k n0)))])
 (.seq (.ops [(oq n7 (.load (some n5) (.t n1))),(oq n8 (.call (.c (.fn n160 [] [])) [(.t n7)] .share)),(om n6 n8),(oq n9 (.extract (.t n6) n0)),(oq n10 (.extract (.t n6) n1)),(oq n4 (.alloc [.nil,.nil,.nil,.nil,.nil,.nil,(.int .i64 (.l (i n0)))])),⟨none,none,.store n7 (.t n4) (.t n9)⟩,(om n5 n10)])
 (.seq (.seq (.ops [(om n11 n5),(oq n12 (.bin .neq (.t n11) (k n0)))])
 (.cond (.t n12) (.seq (.ops [(om n13 n5),(oq n2 (.mv (.c (.d .nil)))),(om n3 n13)])
 .ret)
 .skip))
 (.seq (.ops [(oq n14 (.load (some n7) (.t n4))),(oq n15 (.call (.c (.fn n203 [] [])) [(.t n14)] .share)),(om n2 n15),(oq n3 (.mv (k n0)))])
 .ret))))
def x170 : XFn := ⟨a170,n16,[(.t n2),(.t n3)],c170⟩
def a171 : Ann := ⟨[],[]⟩
def c171 : ICode :=
 (.seq (.ops [(oq n1 (.box (.t n0))),(oq n2 (.mv (.c (.d (.bool false)))))])
 (.seq (.ops [(oq n3 (.load (some n2) (.t n1))),(oq n4 (.build [(.int .u8 (.l (i n0))),(.int .i64 (.l (i n0)))] [(n1,n1,(k n1))])),(oq n5 (.aeq false [.u8,.i64] (.t n3) (.t n4))),(om n2 n5)])
 .ret))
def x171 : XFn := ⟨a171,n6,[(.t n2)],c171⟩
def a172 : Ann := ⟨[(n7,n3,n3),(n8,n6,n3),(n10,n1,n2),(n14,n5,n2)],[]⟩
def c172 : ICode :=
 (.seq (.ops [(oq n11 (.mkmapv true [.u8,.i64])),(om n4 n11)])
 (.seq (.ops [(oq n5 (.mv (.c (.d .nil))))])
 (.seq (.seq (.ops [(ol n12 n1),(oq n13 (.len (.t n12))),(oq n14 (.mv (k n0)))])
 (.block n0 (.loop (.seq (.ops [(oq n15 (.bin .lss (.t n14) (.t n13)))])
 (.seq (.cond (.t n15) .skip
 (.exit n0))
 (.seq (.block n1 (.seq (.ops [(oq n16 (.iaddr n9 (.t n12) (.t n14))),(oq n17 (.load (some n9) (.t n16))),(oq n7 (.alloc [(.int .u8 (.l (i n0))),(.int .i64 (.l (i n0))),(.int .u8 (.l (i n0))),(.int .i64 (.l (i n0))),(.int .u8 (.l (i n0))),(.int .i64 (.l (i n0))),(.int .u8 (.l (i n0))),(.int .i64 (.l (i n0))),(.bool false)])),⟨none,none,.store n9 (.t n7) (.t n17)⟩])
 (.seq (.ops [(ol n18 n2),(of n19 n0 n7),(oq n20 (.iaddrA n4 n2 (.t n19) (.t n18))),(oq n21 (.load (some n2) (.t n20))),(oq n8 (.alloc [(.int .u8 (.l (i n0))),(.int .i64 (.l (i n0)))])),⟨none,none,.store n2 (.t n8) (.t n21)⟩])
 (.seq (.seq (.ops [(om n22 n4),(oq n23 (.load (some n2) (.t n8))),(oq n24 (.lookupv true [.u8,.i64] false (.d .nil) (.t n22) (.t n23))),(oq n25 (.len (.t n24))),(oq n26 (.bin .eql (.t n25) (k n0)))])
 (.cond (.t n26) (.ops [(om n27 n5),(oq n28 (.load (some n2) (.t n8))),(oq n29 (.bslice n2 n1 [(.int .u8 (.l (i n0))),(.int .i64 (.l (i n0)))] [(n0,(.t n28))] false)),(oq n30 (.appendN n2 n16 (.t n27) (.t n29) true)),(om n5 n30)])
 .skip))
 (.ops [(om n31 n4),(oq n32 (.load (some n2) (.t n8))),(oq n34 (.load (some n9) (.t n7))),(oq n35 (.bslice n9 n1 [(.int .u8 (.l (i n0))),(.int .i64 (.l (i n0))),(.int .u8 (.l (i n0))),(.int .i64 (.l (i n0))),(.int .u8 (.l (i n0))),(.int .i64 (.l (i n0))),(.int .u8 (.l (i n0))),(.int .i64 (.l (i n0))),(.bool false)] [(n0,(.t n34))] false)),(oq n36 (.mapent true [.u8,.i64] (.d .nil) (.t n31) (.t n32))),(oq n33 (.extract (.t n36) n0)),(oq n37 (.appendN n9 n72 (.t n33) (.t n35) true)),(oq n38 (.extract (.t n36) n1)),⟨none,none,.entst (.t n31) (.t n38) (.t n37)⟩])))))
 (.ops [(oq n39 (.bin .add (.t n14) (k n1))),(om n14 n39)])))))))
 (.seq (.ops [(om n40 n5),(oq n41 (.call (.c (.fn n173 [] [])) [(.t n40),(.c (.fn n149 [] []))] .raw))])
 (.seq (.ops [(om n42 n5),(oq n43 (.len (.t n42))),(oq n44 (.mv (k n0)))])
 (.block n2 (.loop (.seq (.ops [(oq n45 (.bin .lss (.t n44) (.t n43)))])
 (.seq (.cond (.t n45) .skip
 (.exit n2))
 (.seq (.block n3 (.seq (.ops [(oq n46 (.iaddr n2 (.t n42) (.t n44))),(oq n47 (.load (some n2) (.t n46))),(oq n10 (.alloc [(.int .u8 (.l (i n0))),(.int .i64 (.l (i n0)))])),⟨none,none,.store n2 (.t n10) (.t n47)⟩])
 (.seq (.draw n0 [(dz (om n48 n0) n0 n0),(dz (om n50 n4) n2 n0),(dz (oq n49 (.load (some n2) (.t n10))) n1 n0),(dz (oq n51 (.load (some n2) (.t n10))) n3 n0),(dz (oq n52 (.lookupv true [.u8,.i64] false (.d .nil) (.t n50) (.t n51))) n4 n0),(dq (oq n53 (.call (.t n48) [(.t n49),(.t n52)] .raw)) n5 n0 [] [n0,n1,n4,n2,n3] true false),(dz (oq n54 (.un .not (.t n53))) n6 n0)])
 (.cond (.t n54) .ret
 .skip))))
 (.ops [(oq n55 (.bin .add (.t n44) (k n1))),(om n44 n55)])))))))))))
def x172 : XFn := ⟨a172,n56,[],c172⟩
def a173 : Ann := ⟨[(n1,n4,n0),(n1,n6,n2)],[]⟩
def c173 : ICode :=
 (.seq (.ops [(om n5 n0),(oq n6 (.len (.t n5))),(om n4 n6)])
 (.ops [(om n7 n0),(om n8 n4),(om n9 n4),(oq n10 (.conv .u64 (.t n9))),(oq n11 (.call (.c (.fn n191 [] [])) [(.t n10)] .borrow)),(om n12 n1),(oq n13 (.call (.c (.fn n204 [] [])) [(.t n7),(k n0),(.t n8),(.t n11),(.t n12)] .raw))]))
def x173 : XFn := ⟨a173,n14,[],c173⟩
def a174 : Ann := ⟨[(n1,n2,n2)],[]⟩
def c174 : ICode :=
 (.seq (.ops [(oq n4 (.mv (.c (.d (.bool false)))))])
 (.seq (.ops [(om n5 n0),(om n6 n1),(oq n7 (.call (.c (.fn n205 [] [])) [(.t n5),(.t n6)] .raw)),(oq n8 (.bin .geq (.t n7) (k n0))),(om n4 n8)])
 .ret))
def x174 : XFn := ⟨a174,n9,[(.t n4)],c174⟩
def a175 : Ann := ⟨[(n1,n2,n2)],[]⟩
def c175 : ICode :=
 (.seq (.ops [(oq n2 (.box (.t n0))),(oq n3 (.mv (.c (.d (.bool false)))))])
 (.seq (.ops [(ol n4 n1),(oq n5 (.load (some n5) (.t n2))),(oq n6 (.call (.t n4) [(.t n5)] .raw)),(oq n7 (.un .not (.t n6))),(om n3 n7)])
 .ret))
def x175 : XFn := ⟨a175,n8,[(.t n3)],c175⟩
def a176 : Ann := ⟨[(n1,n2,n2)],[]⟩
def c176 : ICode :=
 (.seq (.ops [(oq n2 (.box (.t n0))),(oq n3 (.mv (.c (.d (.bool false)))))])
 (.seq (.ops [(ol n4 n1),(oq n5 (.load (some n5) (.t n2))),(oq n6 (.call (.t n4) [(.t n5)] .raw)),(oq n7 (.un .not (.t n6))),(om n3 n7)])
 .ret))
def x176 : XFn := ⟨a176,n8,[(.t n3)],c176⟩
def a184 : Ann := ⟨[(n2,n3,n0)],[]⟩
def c184 : ICode :=
 (.seq (.ops [(oq n1 (.box (.t n0))),(oq n2 (.mv (.c (.d (.bool false)))))])
 (.seq (.seq (.ops [(of n3 n0 n1),(ol n4 n3),(oq n5 (.bin .eql (.t n4) (.c (.d (.int .u8 (.l (i n0)))))))])
 (.cond (.t n5) (.seq (.ops [(of n6 n1 n1),(ol n7 n6),(oq n8 (.bslice n1 n1 [(.int .i64 (.l (i n0)))] [(n0,(.t n7))] false)),(oq n9 (.call (.c (.fn n210 [] [])) [(.c (.d (.int .i64 (.l (.negSucc n9998))))),(k n9999),(.t n8)] .borrow)),(om n2 n9)])
 .ret)
 .skip))
 (.seq (.ops [(of n10 n0 n1),(ol n11 n10),(oq n12 (.bin .leq (.t n11) (.c (.d (.int .u8 (.l (i n4))))))),(om n13 n12),(og n14 n13 true (.faddr n1 (.t n1))),(og n15 n13 true (.load none (.t n14))),(og n16 n13 true (.bin .eql (.t n15) (k n0))),(oq n17 (.pick (.t n13) (.t n16) (.c (.d (.bool false))))),(om n2 n17)])
 .ret)))
def x184 : XFn := ⟨a184,n18,[(.t n2)],c184⟩
def a185 : Ann := ⟨[(n3,n6,n2)],[]⟩
def c185 : ICode :=
 (.seq (.ops [(ol n4 n1),(oq n5 (.len (.t n4))),(oq n6 (.bin .sub (.t n5) (k n1))),(om n3 n6)])
 (.block n0 (.loop (.seq (.seq (.ops [(om n7 n3),(oq n8 (.bin .geq (.t n7) (k n0)))])
 (.cond (.t n8) .skip
 (.exit n0)))
 (.seq (.block n1 (.seq (.ops [(om n11 n0),(om n12 n3),(ol n13 n1),(om n14 n3),(oq n15 (.iaddr n1 (.t n13) (.t n14))),(ol n16 n15),(oq n17 (.call (.t n11) [(.t n12),(.t n16)] .raw)),(oq n18 (.un .not (.t n17)))])
 (.cond (.t n18) .ret
 .skip)))
 (.ops [(om n9 n3),(oq n10 (.bin .sub (.t n9) (k n1))),(om n3 n10)]))))))
def x185 : XFn := ⟨a185,n19,[],c185⟩
def a186 : Ann := ⟨[(n1,n3,n0),(n3,n4,n0),(n3,n9,n0),(n3,n11,n0)],[]⟩
def c186 : ICode :=
 (.seq (.ops [(oq n2 (.box (.t n0))),(oq n3 (.box (.t n1))),(oq n4 (.mv (.c (.d (.bool false))))),(oq n5 (.mv (k n0)))])
 (.seq (.seq (.ops [(oq n6 (.load (some n2) (.t n2))),(oq n7 (.load (some n2) (.t n3))),(oq n8 (.bslice n2 n2 [(.int .u8 (.l (i n0))),(.int .i64 (.l (i n0)))] [(n0,(.t n6)),(n1,(.t n7))] false)),(oq n9 (.call (.c (.fn n211 [] [])) [(.t n8)] .borrow)),(oq n10 (.un .not (.t n9)))])
 (.cond (.t n10) (.seq (.ops [(oq n4 (.mv (.c (.d (.bool false))))),(oq n5 (.mv (k n2)))])
 .ret)
 .skip))
 (.seq (.draw n0 [(dz (of n11 n0 n2) n0 n0),(dz (of n13 n0 n3) n2 n0),(dq (of n16 n1 n2) n5 n0 [] [] false true),(dq (of n18 n1 n3) n7 n0 [] [] false true),(dz (ol n12 n11) n1 n0),(dz (ol n14 n13) n3 n0),(dq (ol n17 n16) n6 n0 [] [] false true),(dq (ol n19 n18) n8 n0 [] [] false true),(dq (oq n15 (.call (.c (.fn n213 [] [])) [(.t n12),(.t n14)] .borrow)) n4 n0 [] [n1,n3,n0,n2] false false),(dq (oq n20 (.call (.c (.fn n214 [] [])) [(.t n17),(.t n19)] .borrow)) n9 n0 [] [n6,n8,n4,n5,n7,n1,n3,n0,n2] true false),(dq (oq n21 (.bslice n1 n2 [(.int .i64 (.l (i n0)))] [(n0,(.t n15)),(n1,(.t n20))] false)) n10 n0 [] [n4,n9,n1,n3,n0,n2,n6,n8,n5,n7] true false),(dq (oq n22 (.call (.c (.fn n212 [] [])) [(.t n21)] .borrow)) n11 n0 [] [n10,n9,n4,n1,n3,n0,n2,n6,n8,n5,n7] true false),(dz (oq n23 (.bin .lss (.t n22) (k n0))) n12 n0),(dz (om n4 n23) n13 n0),(dz (oq n5 (.mv (k n0))) n14 n0)])
 .ret)))
def x186 : XFn := ⟨a186,n24,[(.t n4),(.t n5)],c186⟩
def a187 : Ann := ⟨[(n4,n5,n2)],[]⟩
def c187 : ICode :=
 (.seq (.ops [(oq n4 (.mv (k n0)))])
 (.seq (.seq (.ops [(om n6 n0),(oq n7 (.len (.t n6))),(oq n8 (.mv (k n0)))])
 (.block n0 (.loop (.seq (.ops [(oq n9 (.bin .lss (.t n8) (.t n7)))])
 (.seq (.cond (.t n9) .skip
 (.exit n0))
 (.seq (.block n1 (.seq (.ops [(om n10 n8),(om n5 n10)])
 (.seq (.ops [(om n11 n1),(om n12 n0),(om n13 n5),(oq n14 (.iaddr n1 (.t n12) (.t n13))),(oq n15 (.load (some n1) (.t n14))),(oq n16 (.call (.t n11) [(.t n15)] .raw))])
 (.cond (.t n16) (.seq (.ops [(om n17 n5),(om n4 n17)])
 .ret)
 .skip))))
 (.ops [(oq n18 (.bin .add (.t n8) (k n1))),(om n8 n18)])))))))
 (.seq (.ops [(oq n4 (.mv (.c (.d (.int .i64 (.l (.negSucc n0)))))))])
 .ret)))
def x187 : XFn := ⟨a187,n19,[(.t n4)],c187⟩
def a188 : Ann := ⟨[(n1,n2,n2)],[]⟩
def c188 : ICode :=
 (.seq (.ops [(oq n4 (.mv (.c (.d (.bool false)))))])
 (.seq (.ops [(om n5 n0),(om n6 n1),(oq n7 (.call (.c (.fn n215 [] [])) [(.t n5),(.t n6)] .raw)),(oq n8 (.bin .geq (.t n7) (k n0))),(om n4 n8)])
 .ret))
def x188 : XFn := ⟨a188,n9,[(.t n4)],c188⟩
def a189 : Ann := ⟨[],[]⟩
def c189 : ICode :=
 (.seq (.ops [(oq n4 (.mv (.c (.d (.bool false)))))])
 (.seq (.ops [(om n5 n0),(ol n6 n1),(oq n7 (.bin .lss (.t n5) (.t n6))),(om n8 n7),(og n9 n8 false (.mv (.t n0))),(og n10 n8 false (.load none (.t n2))),(og n11 n8 false (.bin .gtr (.t n9) (.t n10))),(oq n12 (.pick (.t n8) (.c (.d (.bool true))) (.t n11))),(om n4 n12)])
 .ret))
def x189 : XFn := ⟨a189,n13,[(.t n4)],c189⟩
def a190 : Ann := ⟨[(n4,n3,n2),(n6,n3,n2),(n8,n3,n2),(n10,n3,n2),(n12,n3,n2),(n16,n3,n2),(n17,n12,n0),(n18,n4,n2),(n20,n4,n2),(n26,n4,n2),(n29,n5,n2)],[]⟩
def c190 : ICode :=
 (.seq (.ops [(oq n8 (.mv (.c (.d (.bool true)))))])
 (.seq (.ops [(oq n9 (.mv (.c (.d (.bool true)))))])
 (.block n0 (.loop (.block n1 (.seq (.ops [(om n19 n2),(om n20 n1),(oq n21 (.bin .sub (.t n19) (.t n20))),(om n10 n21)])
 (.seq (.seq (.ops [(om n22 n10),(oq n23 (.bin .leq (.t n22) (k n12)))])
 (.cond (.t n23) (.seq (.ops [(om n24 n0),(om n25 n1),(om n26 n2),(oq n27 (.call (.c (.fn n216 [] [])) [(.t n24),(.t n25),(.t n26)] .raw))])
 .ret)
 .skip))
 (.seq (.seq (.ops [(om n28 n3),(oq n29 (.bin .eql (.t n28) (k n0)))])
 (.cond (.t n29) (.seq (.ops [(om n30 n0),(om n31 n1),(om n32 n2),(oq n33 (.call (.c (.fn n217 [] [])) [(.t n30),(.t n31),(.t n32)] .raw))])
 .ret)
 .skip))
 (.seq (.seq (.ops [(om n34 n8),(oq n35 (.un .not (.t n34)))])
 (.cond (.t n35) (.seq (.ops [(om n36 n0),(om n37 n1),(om n38 n2),(oq n39 (.call (.c (.fn n218 [] [])) [(.t n36),(.t n37),(.t n38)] .raw))])
 (.ops [(om n40 n3),(oq n41 (.bin .sub (.t n40) (k n1))),(om n3 n41)]))
 .skip))
 (.seq (.ops [(om n43 n0),(om n44 n1),(om n45 n2),(oq n46 (.call (.c (.fn n219 [] [])) [(.t n43),(.t n44),(.t n45)] .raw)),(om n42 n46),(oq n47 (.extract (.t n42) n0)),(oq n48 (.extract (.t n42) n1)),(om n11 n47),(om n12 n48)])
 (.seq (.seq (.ops [(om n49 n12),(oq n50 (.bin .eql (.t n49) (k n2)))])
 (.cond (.t n50) (.seq (.ops [(om n51 n0),(om n52 n1),(om n53 n2),(oq n54 (.call (.c (.fn n220 [] [])) [(.t n51),(.t n52),(.t n53)] .raw))])
 (.seq (.ops [(om n55 n2),(oq n56 (.bin .sub (.t n55) (k n1))),(om n57 n11),(om n58 n1),(oq n59 (.bin .sub (.t n57) (.t n58))),(oq n60 (.bin .sub (.t n56) (.t n59))),(om n11 n60)])
 (.ops [(oq n12 (.mv (k n1)))])))
 .skip))
 (.seq (.seq (.ops [(om n61 n8),(om n62 n61),(og n63 n62 true (.mv (.t n9))),(oq n64 (.pick (.t n62) (.t n63) (.c (.d (.bool false))))),(om n65 n64),(og n66 n65 true (.mv (.t n12))),(og n67 n65 true (.bin .eql (.t n66) (k n1))),(oq n68 (.pick (.t n65) (.t n67) (.c (.d (.bool false)))))])
 (.cond (.t n68) (.seq (.ops [(om n69 n0),(om n70 n1),(om n71 n2),(oq n72 (.call (.c (.fn n221 [] [])) [(.t n69),(.t n70),(.t n71)] .raw))])
 (.cond (.t n72) .ret
 .skip))
 .skip))
 (.seq (.seq (.draw n0 [(dz (om n73 n1) n0 n0),(dz (oq n74 (.bin .gtr (.t n73) (k n0))) n1 n0),(dz (om n75 n74) n2 n0),(dz (og n76 n75 true (.mv (.t n0))) n3 n0),(dz (og n77 n75 true (.mv (.t n1))) n4 n0),(dz (og n78 n75 true (.bin .sub (.t n77) (k n1))) n5 n0),(dz (og n79 n75 true (.iaddr n1 (.t n76) (.t n78))) n6 n0),(dz (og n81 n75 true (.mv (.t n0))) n8 n0),(dz (og n82 n75 true (.mv (.t n11))) n9 n0),(dz (og n83 n75 true (.iaddr n1 (.t n81) (.t n82))) n10 n0),(dz (og n80 n75 true (.load none (.t n79))) n7 n0),(dz (og n84 n75 true (.load none (.t n83))) n11 n0),(dq (og n85 n75 true (.call (.c (.fn n222 [] [])) [(.t n80),(.t n84)] .borrow)) n12 n0 [] [n7,n11,n2,n6,n3,n5,n1,n0,n4,n10,n8,n9] true false),(dz (og n86 n75 true (.un .not (.t n85))) n13 n0),(dz (oq n87 (.pick (.t n75) (.t n86) (.c (.d (.bool false))))) n14 n0)])
 (.cond (.t n87) (.seq (.ops [(om n88 n0),(om n89 n1),(om n90 n2),(om n91 n11),(oq n92 (.call (.c (.fn n223 [] [])) [(.t n88),(.t n89),(.t n90),(.t n91)] .raw)),(om n13 n92)])
 (.seq (.ops [(om n93 n13),(om n1 n93)])
 (.exit n1)))
 .skip))
 (.seq (.ops [(om n95 n0),(om n96 n1),(om n97 n2),(om n98 n11),(oq n99 (.call (.c (.fn n224 [] [])) [(.t n95),(.t n96),(.t n97),(.t n98)] .raw)),(om n94 n99),(oq n100 (.extract (.t n94) n0)),(oq n101 (.extract (.t n94) n1)),(om n14 n100),(om n15 n101)])
 (.seq (.ops [(om n102 n15),(om n9 n102)])
 (.seq (.ops [(om n103 n14),(om n104 n1),(oq n105 (.bin .sub (.t n103) (.t n104))),(om n106 n2),(om n107 n14),(oq n108 (.bin .sub (.t n106) (.t n107))),(om n16 n105),(om n17 n108)])
 (.seq (.ops [(om n109 n10),(oq n110 (.bin .quo (.t n109) (k n8))),(om n18 n110)])
 (.seq (.ops [(om n111 n16),(om n112 n17),(oq n113 (.bin .lss (.t n111) (.t n112)))])
 (.cond (.t n113) (.seq (.ops [(om n114 n16),(om n115 n18),(oq n116 (.bin .geq (.t n114) (.t n115))),(om n8 n116)])
 (.seq (.ops [(om n117 n0),(om n118 n1),(om n119 n14),(om n120 n3),(oq n121 (.call (.c (.fn n190 [] [])) [(.t n117),(.t n118),(.t n119),(.t n120)] .raw))])
 (.ops [(om n122 n14),(oq n123 (.bin .add (.t n122) (k n1))),(om n1 n123)])))
 (.seq (.ops [(om n124 n17),(om n125 n18),(oq n126 (.bin .geq (.t n124) (.t n125))),(om n8 n126)])
 (.seq (.ops [(om n127 n0),(om n128 n14),(oq n129 (.bin .add (.t n128) (k n1))),(om n130 n2),(om n131 n3),(oq n132 (.call (.c (.fn n190 [] [])) [(.t n127),(.t n129),(.t n130),(.t n131)] .raw))])
 (.ops [(om n133 n14),(om n2 n133)]))))))))))))))))))))))
def x190 : XFn := ⟨a190,n134,[],c190⟩
def a191 : Ann := ⟨[(n1,n2,n0),(n2,n1,n0)],[]⟩
def c191 : ICode :=
 (.seq (.ops [(oq n2 (.mv (k n0)))])
 (.seq (.cond (.c (.d (.bool false))) (.seq (.ops [(om n3 n0),(oq n4 (.conv .u32 (.t n3))),(oq n5 (.call (.c (.fn n225 [] [])) [(.t n4)] .borrow)),(om n2 n5)])
 .ret)
 .skip)
 (.seq (.ops [(om n6 n0),(oq n7 (.call (.c (.fn n226 [] [])) [(.t n6)] .borrow)),(om n2 n7)])
 .ret)))
def x191 : XFn := ⟨a191,n8,[(.t n2)],c191⟩
def a193 : Ann := ⟨[(n0,n5,n2)],[]⟩
def c193 : ICode :=
 (.ops [(om n4 n0),(om n5 n0),(oq n6 (.len (.t n5))),(om n7 n1),(oq n8 (.bin .sub (.t n6) (.t n7))),(oq n9 (.call (.c (.fn n227 [] [])) [(.t n4),(.t n8)] .raw))])
def x193 : XFn := ⟨a193,n10,[],c193⟩
def a196 : Ann := ⟨[(n1,n4,n0),(n7,n2,n0),(n8,n3,n1),(n8,n6,n2),(n9,n6,n0)],[]⟩
def c196 : ICode :=
 (.seq (.ops [(oq n1 (.box (.t n0))),(oq n2 (.alloc [.nil,.nil,.nil,.nil,.nil,.nil,(.int .i64 (.l (i n0)))])),(oq n3 (.mv (k n0)))])
 (.seq (.seq (.ops [(of n5 n0 n1),(ol n6 n5),(of n7 n1 n1),(ol n8 n7),(oq n9 (.call (.c (.fn n119 [] [])) [(.t n6),(.t n8)] .borrow)),(om n4 n9)])
 (.seq (.ops [(om n10 n4),(oq n11 (.bin .neq (.t n10) (k n0)))])
 (.cond (.t n11) (.seq (.ops [(oq n12 (.load (some n7) (.t n2))),(om n13 n4),⟨none,none,.store n7 (.t n2) (.t n12)⟩,(om n3 n13)])
 .ret)
 .skip)))
 (.seq (.ops [(of n14 n0 n1),(ol n15 n14),(of n16 n1 n1),(ol n17 n16),(oq n18 (.build [.nil,.nil] [(n0,n1,(.t n15)),(n1,n1,(.t n17))])),(oq n19 (.load (some n5) (.t n1))),(oq n20 (.build [.nil,.nil,.nil,.nil,.nil,.nil,(.int .i64 (.l (i n0)))] [(n0,n2,(.t n18)),(n2,n5,(.t n19))])),⟨none,none,.store n7 (.t n2) (.t n20)⟩])
 (.seq (.block n0 (.seq (.ops [(of n22 n3 n1),(ol n23 n22),(oq n24 (.len (.t n23))),(oq n25 (.bin .gtr (.t n24) (k n6000))),(om n21 n25)])
 (.cond (.t n21) (.seq (.ops [(oq n26 (.load (some n7) (.t n2))),⟨none,none,.store n7 (.t n2) (.t n26)⟩,(oq n3 (.mv (k n5)))])
 .ret)
 (.seq (.seq (.ops [(of n28 n2 n1),(ol n29 n28),(oq n30 (.call (.c (.fn n228 [] [])) [(.t n29),(.c (.fn n229 [] []))] .borrow)),(oq n31 (.un .not (.t n30))),(om n27 n31)])
 (.cond (.t n27) .skip
 (.seq (.draw n0 [(dz (of n32 n3 n1) n0 n0),(dz (ol n33 n32) n1 n0),(dz (oq n34 (.len (.t n33))) n2 n0),(dq (oq n36 (.load (some n7) (.t n2))) n4 n0 [] [] false true),(dq (oq n37 (.mkfn n231 [(.t n36)] [])) n5 n0 [] [] false true),(dq (oq n35 (.call (.c (.fn n156 [] [])) [(.t n34)] .share)) n3 n0 [] [n2,n1,n0] false false),(dq (oq n38 (.call (.c (.fn n230 [] [])) [(.t n35),(.t n37)] .raw)) n6 n0 [] [n3,n5,n2,n1,n0,n4] true false),(dz (oq n39 (.un .not (.t n38))) n7 n0),(dz (om n27 n39) n8 n0)])
 (.cond (.t n27) .skip
 (.ops [(oq n40 (.load (some n7) (.t n2))),(of n41 n4 n1),(ol n42 n41),(of n43 n3 n1),(ol n44 n43),(oq n45 (.len (.t n44))),(oq n46 (.call (.c (.fn n232 [] [])) [(.t n40),(.t n42),(.t n45),(.c (.d (.int .i64 (.l (.negSucc n0)))))] .borrow)),(oq n47 (.un .not (.t n46))),(om n27 n47)])))))
 (.cond (.t n27) (.seq (.ops [(oq n48 (.load (some n7) (.t n2))),⟨none,none,.store n7 (.t n2) (.t n48)⟩,(oq n3 (.mv (k n4)))])
 .ret)
 .skip)))))
 (.seq (.ops [(oq n49 (.load (some n7) (.t n2))),⟨none,none,.store n7 (.t n2) (.t n49)⟩,(oq n3 (.mv (k n0)))])
 .ret)))))
def x196 : XFn := ⟨a196,n50,[(.c n2 (some n7)),(.t n3)],c196⟩
def a197 : Ann := ⟨[(n2,n4,n0),(n2,n10,n0),(n2,n17,n0),(n2,n25,n2)],[]⟩
def c197 : ICode :=
 (.seq (.ops [(oq n2 (.box (.t n0))),(oq n3 (.box (.t n1))),(oq n4 (.mv (.c (.d (.bool false)))))])
 (.seq (.ops [(oq n5 (.mv (.c (.fn n233 [] []))))])
 (.seq (.ops [(of n6 n0 n2),(ol n7 n6),(of n8 n0 n3),(ol n9 n8),(oq n10 (.call (.c (.fn n155 [] [])) [(.t n7),(.t n9)] .borrow)),(om n11 n10),(og n12 n11 true (.faddr n1 (.t n2))),(og n13 n11 true (.load none (.t n12))),(og n14 n11 true (.faddr n1 (.t n3))),(og n15 n11 true (.load none (.t n14))),(og n16 n11 true (.call (.c (.fn n155 [] [])) [(.t n13),(.t n15)] .borrow)),(oq n17 (.pick (.t n11) (.t n16) (.c (.d (.bool false))))),(om n18 n17),(og n19 n18 true (.faddr n2 (.t n2))),(og n20 n18 true (.load none (.t n19))),(og n21 n18 true (.faddr n2 (.t n3))),(og n22 n18 true (.load none (.t n21))),(og n23 n18 true (.call (.c (.fn n234 [] [])) [(.t n20),(.t n22)] .borrow)),(oq n24 (.pick (.t n18) (.t n23) (.c (.d (.bool false))))),(om n25 n24),(og n26 n25 true (.faddr n3 (.t n2))),(og n27 n25 true (.load none (.t n26))),(og n28 n25 true (.faddr n3 (.t n3))),(og n29 n25 true (.load none (.t n28))),(og n30 n25 true (.mv (.t n5))),(og n31 n25 true (.call (.c (.fn n235 [] [])) [(.t n27),(.t n29),(.t n30)] .raw)),(oq n32 (.pick (.t n25) (.t n31) (.c (.d (.bool false))))),(om n33 n32),(og n34 n33 true (.faddr n4 (.t n2))),(og n35 n33 true (.load none (.t n34))),(og n36 n33 true (.faddr n4 (.t n3))),(og n37 n33 true (.load none (.t n36))),(og n38 n33 true (.bin .eql (.t n35) (.t n37))),(oq n39 (.pick (.t n33) (.t n38) (.c (.d (.bool false))))),(om n4 n39)])
 .ret)))
def x197 : XFn := ⟨a197,n40,[(.t n4)],c197⟩
def a198 : Ann := ⟨[(n1,n2,n2),(n5,n5,n2)],[]⟩
def c198 : ICode :=
 (.seq (.ops [(oq n1 (.box (.t n0))),(oq n2 (.alloc [.nil,.nil,.nil,.nil,(.int .i64 (.l (i n0)))]))])
 (.seq (.ops [(of n6 n0 n1),(oq n7 (.load (some n2) (.t n6))),(oq n8 (.call (.c (.fn n236 [] [])) [(.t n7)] .raw)),(oq n3 (.alloc [(.raw (.pointer none))])),⟨none,none,.store n1 (.t n3) (.t n8)⟩])
 (.seq (.ops [(oq n9 (.mkmap false [.i64])),(oq n4 (.alloc [(.raw (.map none))])),⟨none,none,.store n1 (.t n4) (.t n9)⟩])
 (.seq (.ops [(oq n5 (.alloc [(.raw .nilFunc)]))])
 (.seq (.ops [(oq n10 (.mkfn n237 [] [(.t n3),(.t n1),(.t n4),(.t n5)])),⟨none,none,.store n1 (.t n5) (.t n10)⟩])
 (.seq (.draw n0 [(dz (of n13 n2 n1) n2 n0),(dz (of n14 n4 n13) n3 n0),(dq (ol n11 n3) n0 n0 [] [] false true),(dz (ol n12 n5) n1 n0),(dz (ol n15 n14) n4 n0),(dq (oq n16 (.call (.t n12) [(.t n15)] .raw)) n5 n0 [] [n1,n4,n3,n2] false false),(dz (oq n17 (.nilchk (.t n11))) n6 n0),(dz (of n18 n2 n17) n7 n0),(dz (of n19 n4 n18) n8 n0),⟨⟨none,none,.store n1 (.t n19) (.t n16)⟩,n9,n0,[],[n8,n5,n0,n1,n2,n3,n4,n7,n6],true,false⟩])
 (.seq (.ops [(ol n20 n3),(oq n21 (.nilchk (.t n20))),(of n22 n2 n21),(oq n23 (.load (some n5) (.t n22))),⟨none,none,.store n5 (.t n2) (.t n23)⟩])
 .ret)))))))
def x198 : XFn := ⟨a198,n24,[(.c n2 (some n5))],c198⟩
def a199 : Ann := ⟨[(n1,n11,n0)],[]⟩
def c199 : ICode :=
 (.seq (.ops [(oq n4 (.mv (.c (.d (.bool false)))))])
 (.seq (.draw n0 [(dq (of n5 n0 n1) n0 n0 [] [] false true),(dq (om n7 n0) n2 n0 [] [] false true),(dz (om n12 n0) n7 n0),(dq (ol n6 n5) n1 n0 [] [] false true),(dq (oq n8 (.iaddr n1 (.t n6) (.t n7))) n3 n0 [] [] false true),(dq (ol n9 n8) n4 n0 [] [] false true),(dq (oq n10 (.bin .sub (.t n9) (k n1))) n5 n0 [] [] false true),(dz (ol n11 n2) n6 n0),(dz (oq n13 (.iaddr n1 (.t n11) (.t n12))) n8 n0),(dz (ol n14 n13) n9 n0),(dq (oq n15 (.bslice n1 n1 [(.int .i64 (.l (i n0)))] [(n0,(.t n14))] false)) n10 n0 [] [n9,n8,n6,n7] false false),(dq (oq n16 (.call (.c (.fn n152 [] [])) [(k n0),(.t n10),(.t n15)] .borrow)) n11 n0 [] [n5,n10,n4,n3,n1,n2,n0,n9,n8,n6,n7] true false),(dz (oq n17 (.un .not (.t n16))) n12 n0),(dz (om n4 n17) n13 n0)])
 .ret))
def x199 : XFn := ⟨a199,n18,[(.t n4)],c199⟩
def a200 : Ann := ⟨[],[]⟩
def c200 : ICode :=
 (.seq (.ops [(oq n2 (.mv (k n0)))])
 (.seq (.ops [(om n3 n0),(oq n4 (.bin .sub (.c (.d (.int .i64 (.l (.negSucc n0))))) (.t n3))),(om n2 n4)])
 .ret))
def x200 : XFn := ⟨a200,n5,[(.t n2)],c200⟩
def a201 : Ann := ⟨[(n1,n2,n2)],[]⟩
def c201 : ICode :=
 (.seq (.ops [(oq n4 (.mv (.c (.d (.bool false)))))])
 (.seq (.ops [(om n5 n0),(om n6 n1),(oq n7 (.call (.c (.fn n240 [] [])) [(.t n5),(.t n6)] .raw)),(oq n8 (.bin .geq (.t n7) (k n0))),(om n4 n8)])
 .ret))
def x201 : XFn := ⟨a201,n9,[(.t n4)],c201⟩
def a202 : Ann := ⟨[(n1,n2,n2)],[]⟩
def c202 : ICode :=
 (.seq (.ops [(oq n2 (.box (.t n0))),(oq n3 (.mv (.c (.d (.bool false)))))])
 (.seq (.ops [(ol n4 n1),(oq n5 (.load (some n9) (.t n2))),(oq n6 (.call (.t n4) [(.t n5)] .raw)),(oq n7 (.un .not (.t n6))),(om n3 n7)])
 .ret))
def x202 : XFn := ⟨a202,n8,[(.t n3)],c202⟩
def a203 : Ann := ⟨[(n3,n6,n0),(n3,n10,n3)],[]⟩
def c203 : ICode :=
 (.seq (.ops [(oq n1 (.box (.t n0))),(oq n2 (.alloc [.nil]))])
 (.seq (.seq (.ops [(of n5 n0 n1),(oq n6 (.load (some n2) (.t n5))),(oq n7 (.mkfn n241 [(.t n6)] []))])
 (.block n0 (.range (.t n7) [n8,n9] (.ops [(om n4 n9)]) (.block n1 (.draw n0 [(dq (of n11 n2 n1) n1 n0 [] [] false true),(dq (of n12 n2 n11) n2 n0 [] [] false true),(dz (om n15 n4) n5 n0),(dq (ol n10 n2) n0 n0 [] [] false true),(dq (ol n13 n12) n3 n0 [] [] false true),(dz (oq n14 (.load (some n7) (.t n1))) n4 n0),(dq (oq n16 (.call (.c (.fn n162 [] [])) [(.t n14),(.t n15),(.c (.fn n242 [] []))] .borrow)) n6 n0 [] [n4,n5] false false),(dz (oq n17 (.iaddr n2 (.t n13) (.t n16))) n7 n0),(dz (oq n18 (.load (some n2) (.t n17))) n8 n0),(dq (oq n19 (.bslice n2 n1 [(.int .u8 (.l (i n0))),(.int .i64 (.l (i n0)))] [(n0,(.t n18))] false)) n9 n0 [] [n8,n7,n3,n6,n2,n1,n4,n5] false false),(dq (oq n20 (.appendN n2 n16 (.t n10) (.t n19) true)) n10 n0 [] [n0,n9,n6,n8,n7,n3,n2,n1,n4,n5] true false),⟨⟨none,none,.store n1 (.t n2) (.t n20)⟩,n11,n0,[],[n10,n0,n1,n2,n3,n4,n5,n6,n7,n8,n9],true,false⟩])))))
 (.seq (.ops [(ol n21 n2),⟨none,none,.store n1 (.t n2) (.t n21)⟩])
 .ret)))
def x203 : XFn := ⟨a203,n22,[(.c n2 none)],c203⟩
def a204 : Ann := ⟨[(n4,n4,n2),(n6,n4,n2),(n8,n4,n2),(n10,n4,n2),(n12,n4,n2),(n16,n4,n2),(n17,n13,n2),(n18,n5,n2),(n20,n5,n2),(n26,n5,n2),(n29,n6,n2)],[]⟩
def c204 : ICode :=
 (.seq (.ops [(oq n10 (.mv (.c (.d (.bool true)))))])
 (.seq (.ops [(oq n11 (.mv (.c (.d (.bool true)))))])
 (.block n0 (.loop (.block n1 (.seq (.ops [(om n21 n2),(om n22 n1),(oq n23 (.bin .sub (.t n21) (.t n22))),(om n12 n23)])
 (.seq (.seq (.ops [(om n24 n12),(oq n25 (.bin .leq (.t n24) (k n12)))])
 (.cond (.t n25) (.seq (.ops [(om n26 n0),(om n27 n1),(om n28 n2),(om n29 n4),(oq n30 (.call (.c (.fn n243 [] [])) [(.t n26),(.t n27),(.t n28),(.t n29)] .raw))])
 .ret)
 .skip))
 (.seq (.seq (.ops [(om n31 n3),(oq n32 (.bin .eql (.t n31) (k n0)))])
 (.cond (.t n32) (.seq (.ops [(om n33 n0),(om n34 n1),(om n35 n2),(om n36 n4),(oq n37 (.call (.c (.fn n244 [] [])) [(.t n33),(.t n34),(.t n35),(.t n36)] .raw))])
 .ret)
 .skip))
 (.seq (.seq (.ops [(om n38 n10),(oq n39 (.un .not (.t n38)))])
 (.cond (.t n39) (.seq (.ops [(om n40 n0),(om n41 n1),(om n42 n2),(om n43 n4),(oq n44 (.call (.c (.fn n245 [] [])) [(.t n40),(.t n41),(.t n42),(.t n43)] .raw))])
 (.ops [(om n45 n3),(oq n46 (.bin .sub (.t n45) (k n1))),(om n3 n46)]))
 .skip))
 (.seq (.ops [(om n48 n0),(om n49 n1),(om n50 n2),(om n51 n4),(oq n52 (.call (.c (.fn n246 [] [])) [(.t n48),(.t n49),(.t n50),(.t n51)] .raw)),(om n47 n52),(oq n53 (.extract (.t n47) n0)),(oq n54 (.extract (.t n47) n1)),(om n13 n53),(om n14 n54)])
 (.seq (.seq (.ops [(om n55 n14),(oq n56 (.bin .eql (.t n55) (k n2)))])
 (.cond (.t n56) (.seq (.ops [(om n57 n0),(om n58 n1),(om n59 n2),(om n60 n4),(oq n61 (.call (.c (.fn n247 [] [])) [(.t n57),(.t n58),(.t n59),(.t n60)] .raw))])
 (.seq (.ops [(om n62 n2),(oq n63 (.bin .sub (.t n62) (k n1))),(om n64 n13),(om n65 n1),(oq n66 (.bin .sub (.t n64) (.t n65))),(oq n67 (.bin .sub (.t n63) (.t n66))),(om n13 n67)])
 (.ops [(oq n14 (.mv (k n1)))])))
 .skip))
 (.seq (.seq (.ops [(om n68 n10),(om n69 n68),(og n70 n69 true (.mv (.t n11))),(oq n71 (.pick (.t n69) (.t n70) (.c (.d (.bool false))))),(om n72 n71),(og n73 n72 true (.mv (.t n14))),(og n74 n72 true (.bin .eql (.t n73) (k n1))),(oq n75 (.pick (.t n72) (.t n74) (.c (.d (.bool false)))))])
 (.cond (.t n75) (.seq (.ops [(om n76 n0),(om n77 n1),(om n78 n2),(om n79 n4),(oq n80 (.call (.c (.fn n248 [] [])) [(.t n76),(.t n77),(.t n78),(.t n79)] .raw))])
 (.cond (.t n80) .ret
 .skip))
 .skip))
 (.seq (.seq (.draw n0 [(dz (om n81 n1) n0 n0),(dz (oq n82 (.bin .gtr (.t n81) (k n0))) n1 n0),(dz (om n83 n82) n2 n0),(dz (og n84 n83 true (.mv (.t n4))) n3 n0),(dz (og n85 n83 true (.mv (.t n0))) n4 n0),(dz (og n86 n83 true (.mv (.t n1))) n5 n0),(dz (og n87 n83 true (.bin .sub (.t n86) (k n1))) n6 n0),(dz (og n88 n83 true (.iaddr n2 (.t n85) (.t n87))) n7 n0),(dz (og n90 n83 true (.mv (.t n0))) n9 n0),(dz (og n91 n83 true (.mv (.t n13))) n10 n0),(dz (og n92 n83 true (.iaddr n2 (.t n90) (.t n91))) n11 n0),(dz (og n89 n83 true (.load (some n2) (.t n88))) n8 n0),(dz (og n93 n83 true (.load (some n2) (.t n92))) n12 n0),(dq (og n94 n83 true (.call (.t n84) [(.t n89),(.t n93)] .raw)) n13 n0 [] [n3,n8,n12,n2,n1,n0,n7,n4,n6,n5,n11,n9,n10] true false),(dz (og n95 n83 true (.bin .lss (.t n94) (k n0))) n14 n0),(dz (og n96 n83 true (.un .not (.t n95))) n15 n0),(dz (oq n97 (.pick (.t n83) (.t n96) (.c (.d (.bool false))))) n16 n0)])
 (.cond (.t n97) (.seq (.ops [(om n98 n0),(om n99 n1),(om n100 n2),(om n101 n13),(om n102 n4),(oq n103 (.call (.c (.fn n249 [] [])) [(.t n98),(.t n99),(.t n100),(.t n101),(.t n102)] .raw)),(om n15 n103)])
 (.seq (.ops [(om n104 n15),(om n1 n104)])
 (.exit n1)))
 .skip))
 (.seq (.ops [(om n106 n0),(om n107 n1),(om n108 n2),(om n109 n13),(om n110 n4),(oq n111 (.call (.c (.fn n250 [] [])) [(.t n106),(.t n107),(.t n108),(.t n109),(.t n110)] .raw)),(om n105 n111),(oq n112 (.extract (.t n105) n0)),(oq n113 (.extract (.t n105) n1)),(om n16 n112),(om n17 n113)])
 (.seq (.ops [(om n114 n17),(om n11 n114)])
 (.seq (.ops [(om n115 n16),(om n116 n1),(oq n117 (.bin .sub (.t n115) (.t n116))),(om n118 n2),(om n119 n16),(oq n120 (.bin .sub (.t n118) (.t n119))),(om n18 n117),(om n19 n120)])
 (.seq (.ops [(om n121 n12),(oq n122 (.bin .quo (.t n121) (k n8))),(om n20 n122)])
 (.seq (.ops [(om n123 n18),(om n124 n19),(oq n125 (.bin .lss (.t n123) (.t n124)))])
 (.cond (.t n125) (.seq (.ops [(om n126 n18),(om n127 n20),(oq n128 (.bin .geq (.t n126) (.t n127))),(om n10 n128)])
 (.seq (.ops [(om n129 n0),(om n130 n1),(om n131 n16),(om n132 n3),(om n133 n4),(oq n134 (.call (.c (.fn n204 [] [])) [(.t n129),(.t n130),(.t n131),(.t n132),(.t n133)] .raw))])
 (.ops [(om n135 n16),(oq n136 (.bin .add (.t n135) (k n1))),(om n1 n136)])))
 (.seq (.ops [(om n137 n19),(om n138 n20),(oq n139 (.bin .geq (.t n137) (.t n138))),(om n10 n139)])
 (.seq (.ops [(om n140 n0),(om n141 n16),(oq n142 (.bin .add (.t n141) (k n1))),(om n143 n2),(om n144 n3),(om n145 n4),(oq n146 (.call (.c (.fn n204 [] [])) [(.t n140),(.t n142),(.t n143),(.t n144),(.t n145)] .raw))])
 (.ops [(om n147 n16),(om n2 n147)]))))))))))))))))))))))
def x204 : XFn := ⟨a204,n148,[],c204⟩
def a205 : Ann := ⟨[(n4,n5,n2)],[]⟩
def c205 : ICode :=
 (.seq (.ops [(oq n4 (.mv (k n0)))])
 (.seq (.seq (.ops [(om n6 n0),(oq n7 (.len (.t n6))),(oq n8 (.mv (k n0)))])
 (.block n0 (.loop (.seq (.ops [(oq n9 (.bin .lss (.t n8) (.t n7)))])
 (.seq (.cond (.t n9) .skip
 (.exit n0))
 (.seq (.block n1 (.seq (.ops [(om n10 n8),(om n5 n10)])
 (.seq (.ops [(om n11 n1),(om n12 n0),(om n13 n5),(oq n14 (.iaddr n5 (.t n12) (.t n13))),(oq n15 (.load (some n5) (.t n14))),(oq n16 (.call (.t n11) [(.t n15)] .raw))])
 (.cond (.t n16) (.seq (.ops [(om n17 n5),(om n4 n17)])
 .ret)
 .skip))))
 (.ops [(oq n18 (.bin .add (.t n8) (k n1))),(om n8 n18)])))))))
 (.seq (.ops [(oq n4 (.mv (.c (.d (.int .i64 (.l (.negSucc n0)))))))])
 .ret)))
def x205 : XFn := ⟨a205,n19,[(.t n4)],c205⟩
def a208 : Ann := ⟨[(n1,n2,n2)],[]⟩
def c208 : ICode :=
 (.seq (.ops [(oq n4 (.mv (.c (.d (.bool false)))))])
 (.seq (.ops [(om n5 n0),(om n6 n1),(oq n7 (.call (.c (.fn n251 [] [])) [(.t n5),(.t n6)] .raw)),(oq n8 (.bin .geq (.t n7) (k n0))),(om n4 n8)])
 .ret))
def x208 : XFn := ⟨a208,n9,[(.t n4)],c208⟩
def a210 : Ann := ⟨[(n1,n2,n2)],[]⟩
def c210 : ICode :=
 (.seq (.ops [(oq n3 (.box (.t n0))),(oq n4 (.box (.t n1))),(oq n6 (.mv (.c (.d (.bool false)))))])
 (.seq (.ops [(om n7 n2),(oq n8 (.mkfn n252 [] [(.t n3),(.t n4)])),(oq n9 (.call (.c (.fn n188 [] [])) [(.t n7),(.t n8)] .raw)),(oq n10 (.un .not (.t n9))),(om n6 n10)])
 .ret))
def x210 : XFn := ⟨a210,n11,[(.t n6)],c210⟩
def a211 : Ann := ⟨[(n1,n1,n0)],[]⟩
def c211 : ICode :=
 (.seq (.ops [(oq n2 (.mv (.c (.d (.bool false)))))])
 (.seq (.ops [(om n3 n0),(oq n4 (.call (.c (.fn n208 [] [])) [(.t n3),(.c (.fn n253 [] []))] .borrow)),(oq n5 (.un .not (.t n4))),(om n2 n5)])
 .ret))
def x211 : XFn := ⟨a211,n6,[(.t n2)],c211⟩
def a212 : Ann := ⟨[],[]⟩
def c212 : ICode :=
 (.seq (.ops [(oq n2 (.mv (k n0)))])
 (.seq (.ops [(oq n3 (.mv (k n0)))])
 (.seq (.seq (.ops [(om n6 n0),(oq n7 (.len (.t n6))),(oq n8 (.mv (k n0)))])
 (.block n0 (.loop (.seq (.ops [(oq n9 (.bin .lss (.t n8) (.t n7)))])
 (.seq (.cond (.t n9) .skip
 (.exit n0))
 (.seq (.block n1 (.seq (.ops [(oq n10 (.iaddr n1 (.t n6) (.t n8))),(ol n11 n10),(om n5 n11)])
 (.seq (.ops [(om n12 n5),(om n13 n3),(oq n14 (.bin .neq (.t n12) (.t n13)))])
 (.cond (.t n14) (.seq (.ops [(om n15 n5),(om n2 n15)])
 .ret)
 .skip))))
 (.ops [(oq n16 (.bin .add (.t n8) (k n1))),(om n8 n16)])))))))
 (.seq (.ops [(om n17 n3),(om n2 n17)])
 .ret))))
def x212 : XFn := ⟨a212,n18,[(.t n2)],c212⟩
def a213 : Ann := ⟨[(n1,n1,n0),(n2,n1,n0)],[]⟩
def c213 : ICode :=
 (.seq (.ops [(oq n4 (.mv (k n0)))])
 (.seq (.ops [(om n7 n0),(oq n8 (.call (.c (.fn n254 [] [])) [(.t n7)] .borrow)),(om n5 n8)])
 (.seq (.ops [(om n9 n1),(oq n10 (.call (.c (.fn n254 [] [])) [(.t n9)] .borrow)),(om n6 n10)])
 (.seq (.seq (.ops [(om n11 n5)])
 (.cond (.t n11) (.seq (.seq (.ops [(om n12 n6)])
 (.cond (.t n12) (.seq (.ops [(oq n4 (.mv (k n0)))])
 .ret)
 .skip))
 (.seq (.ops [(oq n4 (.mv (.c (.d (.int .i64 (.l (.negSucc n0)))))))])
 .ret))
 .skip))
 (.seq (.seq (.ops [(om n13 n6)])
 (.cond (.t n13) (.seq (.ops [(oq n4 (.mv (k n1)))])
 .ret)
 .skip))
 (.seq (.seq (.ops [(om n14 n0),(om n15 n1),(oq n16 (.bin .lss (.t n14) (.t n15)))])
 (.cond (.t n16) (.seq (.ops [(oq n4 (.mv (.c (.d (.int .i64 (.l (.negSucc n0)))))))])
 .ret)
 .skip))
 (.seq (.seq (.ops [(om n17 n0),(om n18 n1),(oq n19 (.bin .gtr (.t n17) (.t n18)))])
 (.cond (.t n19) (.seq (.ops [(oq n4 (.mv (k n1)))])
 .ret)
 .skip))
 (.seq (.ops [(oq n4 (.mv (k n0)))])
 .ret))))))))
def x213 : XFn := ⟨a213,n20,[(.t n4)],c213⟩
def a214 : Ann := ⟨[(n1,n1,n0),(n2,n1,n0)],[]⟩
def c214 : ICode :=
 (.seq (.ops [(oq n4 (.mv (k n0)))])
 (.seq (.ops [(om n7 n0),(oq n8 (.call (.c (.fn n255 [] [])) [(.t n7)] .borrow)),(om n5 n8)])
 (.seq (.ops [(om n9 n1),(oq n10 (.call (.c (.fn n255 [] [])) [(.t n9)] .borrow)),(om n6 n10)])
 (.seq (.seq (.ops [(om n11 n5)])
 (.cond (.t n11) (.seq (.seq (.ops [(om n12 n6)])
 (.cond (.t n12) (.seq (.ops [(oq n4 (.mv (k n0)))])
 .ret)
 .skip))
 (.seq (.ops [(oq n4 (.mv (.c (.d (.int .i64 (.l (.negSucc n0)))))))])
 .ret))
 .skip))
 (.seq (.seq (.ops [(om n13 n6)])
 (.cond (.t n13) (.seq (.ops [(oq n4 (.mv (k n1)))])
 .ret)
 .skip))
 (.seq (.seq (.ops [(om n14 n0),(om n15 n1),(oq n16 (.bin .lss (.t n14) (.t n15)))])
 (.cond (.t n16) (.seq (.ops [(oq n4 (.mv (.c (.d (.int .i64 (.l (.negSucc n0)))))))])
 .ret)
 .skip))
 (.seq (.seq (.ops [(om n17 n0),(om n18 n1),(oq n19 (.bin .gtr (.t n17) (.t n18)))])
 (.cond (.t n19) (.seq (.ops [(oq n4 (.mv (k n1)))])
 .ret)
 .skip))
 (.seq (.ops [(oq n4 (.mv (k n0)))])
 .ret))))))))
def x214 : XFn := ⟨a214,n20,[(.t n4)],c214⟩
def a215 : Ann := ⟨[(n4,n5,n2)],[]⟩
def c215 : ICode :=
 (.seq (.ops [(oq n4 (.mv (k n0)))])
 (.seq (.seq (.ops [(om n6 n0),(oq n7 (.len (.t n6))),(oq n8 (.mv (k n0)))])
 (.block n0 (.loop (.seq (.ops [(oq n9 (.bin .lss (.t n8) (.t n7)))])
 (.seq (.cond (.t n9) .skip
 (.exit n0))
 (.seq (.block n1 (.seq (.ops [(om n10 n8),(om n5 n10)])
 (.seq (.ops [(om n11 n1),(om n12 n0),(om n13 n5),(oq n14 (.iaddr n1 (.t n12) (.t n13))),(ol n15 n14),(oq n16 (.call (.t n11) [(.t n15)] .raw))])
 (.cond (.t n16) (.seq (.ops [(om n17 n5),(om n4 n17)])
 .ret)
 .skip))))
 (.ops [(oq n18 (.bin .add (.t n8) (k n1))),(om n8 n18)])))))))
 (.seq (.ops [(oq n4 (.mv (.c (.d (.int .i64 (.l (.negSucc n0)))))))])
 .ret)))
def x215 : XFn := ⟨a215,n19,[(.t n4)],c215⟩
def a216 : Ann := ⟨[(n4,n13,n0)],[]⟩
def c216 : ICode :=
 (.seq (.ops [(om n8 n1),(oq n9 (.bin .add (.t n8) (k n1))),(om n6 n9)])
 (.block n0 (.loop (.seq (.seq (.ops [(om n10 n6),(om n11 n2),(oq n12 (.bin .lss (.t n10) (.t n11)))])
 (.cond (.t n12) .skip
 (.exit n0)))
 (.seq (.block n1 (.seq (.ops [(om n15 n6),(om n7 n15)])
 (.block n2 (.loop (.seq (.seq (.draw n0 [(dz (om n16 n7) n0 n0),(dz (om n17 n1) n1 n0),(dz (oq n18 (.bin .gtr (.t n16) (.t n17))) n2 n0),(dz (om n19 n18) n3 n0),(dz (og n20 n19 true (.mv (.t n0))) n4 n0),(dz (og n21 n19 true (.mv (.t n7))) n5 n0),(dz (og n22 n19 true (.iaddr n1 (.t n20) (.t n21))) n6 n0),(dz (og n24 n19 true (.mv (.t n0))) n8 n0),(dz (og n25 n19 true (.mv (.t n7))) n9 n0),(dz (og n26 n19 true (.bin .sub (.t n25) (k n1))) n10 n0),(dz (og n27 n19 true (.iaddr n1 (.t n24) (.t n26))) n11 n0),(dz (og n23 n19 true (.load none (.t n22))) n7 n0),(dz (og n28 n19 true (.load none (.t n27))) n12 n0),(dq (og n29 n19 true (.call (.c (.fn n222 [] [])) [(.t n23),(.t n28)] .borrow)) n13 n0 [] [n7,n12,n3,n6,n4,n5,n2,n0,n1,n11,n8,n10,n9] true false),(dz (oq n30 (.pick (.t n19) (.t n29) (.c (.d (.bool false))))) n14 n0)])
 (.cond (.t n30) .skip
 (.exit n2)))
 (.seq (.block n3 (.draw n0 [(dz (om n33 n0) n0 n0),(dz (om n34 n7) n1 n0),(dq (om n35 n0) n2 n0 [] [] false true),(dq (om n36 n7) n3 n0 [] [] false true),(dq (oq n37 (.bin .sub (.t n36) (k n1))) n4 n0 [] [] false true),(dz (om n38 n0) n5 n0),(dz (om n39 n7) n6 n0),(dz (oq n40 (.bin .sub (.t n39) (k n1))) n7 n0),(dz (oq n41 (.iaddr n1 (.t n38) (.t n40))) n8 n0),(dz (om n43 n0) n10 n0),(dz (om n44 n7) n11 n0),(dz (oq n45 (.iaddr n1 (.t n43) (.t n44))) n12 n0),(dz (ol n42 n41) n9 n0),(dz (ol n46 n45) n13 n0),(dz (oq n47 (.iaddr n1 (.t n33) (.t n34))) n14 n0),⟨⟨none,none,.store n1 (.t n47) (.t n42)⟩,n15,n0,[],[n14,n9,n0,n1,n5,n6,n7,n8,n13,n12,n10,n11],false,false⟩,(dz (oq n48 (.iaddr n1 (.t n35) (.t n37))) n16 n0),⟨⟨none,none,.store n1 (.t n48) (.t n46)⟩,n17,n0,[],[n16,n13,n15,n0,n1,n2,n3,n4,n5,n6,n7,n8,n9,n10,n11,n12,n14],true,false⟩]))
 (.ops [(om n31 n7),(oq n32 (.bin .sub (.t n31) (k n1))),(om n7 n32)])))))))
 (.ops [(om n13 n6),(oq n14 (.bin .add (.t n13) (k n1))),(om n6 n14)]))))))
def x216 : XFn := ⟨a216,n49,[],c216⟩
def a222 : Ann := ⟨[(n1,n1,n0),(n1,n4,n0)],[]⟩
def c222 : ICode :=
 (.seq (.ops [(oq n4 (.mv (.c (.d (.bool false)))))])
 (.seq (.ops [(om n5 n0),(oq n6 (.call (.c (.fn n255 [] [])) [(.t n5)] .borrow)),(om n7 n6),(og n8 n7 true (.mv (.t n1))),(og n9 n7 true (.call (.c (.fn n255 [] [])) [(.t n8)] .borrow)),(og n10 n7 true (.un .not (.t n9))),(oq n11 (.pick (.t n7) (.t n10) (.c (.d (.bool false))))),(om n12 n11),(og n13 n12 false (.mv (.t n0))),(og n14 n12 false (.mv (.t n1))),(og n15 n12 false (.bin .lss (.t n13) (.t n14))),(oq n16 (.pick (.t n12) (.c (.d (.bool true))) (.t n15))),(om n4 n16)])
 .ret))
def x222 : XFn := ⟨a222,n17,[(.t n4)],c222⟩
def a225 : Ann := ⟨[],[]⟩
def c225 : ICode :=
 (.seq (.ops [(oq n2 (.mv (k n0)))])
 (.seq (.seq (.ops [(om n3 n0),(oq n4 (.bin .geq (.t n3) (.c (.d (.int .u32 (.l (i n65536)))))))])
 (.cond (.t n4) (.seq (.ops [(om n5 n0),(oq n6 (.bw .shr (.t n5) (.c (.d (.int .u64 (.l (i n16))))))),(om n0 n6)])
 (.ops [(oq n2 (.mv (k n16)))]))
 .skip))
 (.seq (.seq (.ops [(om n7 n0),(oq n8 (.bin .geq (.t n7) (.c (.d (.int .u32 (.l (i n256)))))))])
 (.cond (.t n8) (.seq (.ops [(om n9 n0),(oq n10 (.bw .shr (.t n9) (.c (.d (.int .u64 (.l (i n8))))))),(om n0 n10)])
 (.ops [(om n11 n2),(oq n12 (.bin .add (.t n11) (k n8))),(om n2 n12)]))
 .skip))
 (.seq (.ops [(om n13 n2),(om n14 n0),(oq n15 (.conv .u8 (.t n14))),(oq n16 (.idxs [0,1,2,2,3,3,3,3,4,4,4,4,4,4,4,4,5,5,5,5,5,5,5,5,5,5,5,5,5,5,5,5,6,6,6,6,6,6,6,6,6,6,6,6,6,6,6,6,6,6,6,6,6,6,6,6,6,6,6,6,6,6,6,6,7,7,7,7,7,7,7,7,7,7,7,7,7,7,7,7,7,7,7,7,7,7,7,7,7,7,7,7,7,7,7,7,7,7,7,7,7,7,7,7,7,7,7,7,7,7,7,7,7,7,7,7,7,7,7,7,7,7,7,7,7,7,7,7,8,8,8,8,8,8,8,8,8,8,8,8,8,8,8,8,8,8,8,8,8,8,8,8,8,8,8,8,8,8,8,8,8,8,8,8,8,8,8,8,8,8,8,8,8,8,8,8,8,8,8,8,8,8,8,8,8,8,8,8,8,8,8,8,8,8,8,8,8,8,8,8,8,8,8,8,8,8,8,8,8,8,8,8,8,8,8,8,8,8,8,8,8,8,8,8,8,8,8,8,8,8,8,8,8,8,8,8,8,8,8,8,8,8,8,8,8,8,8,8,8,8,8,8,8,8,8,8] (.t n15))),(oq n17 (.conv .i64 (.t n16))),(oq n18 (.bin .add (.t n13) (.t n17))),(om n2 n18)])
 .ret))))
def x225 : XFn := ⟨a225,n19,[(.t n2)],c225⟩
def a226 : Ann := ⟨[],[]⟩
def c226 : ICode :=
 (.seq (.ops [(oq n2 (.mv (k n0)))])
 (.seq (.seq (.ops [(om n3 n0),(oq n4 (.bin .geq (.t n3) (.c (.d (.int .u64 (.l (i n4294967296)))))))])
 (.cond (.t n4) (.seq (.ops [(om n5 n0),(oq n6 (.bw .shr (.t n5) (.c (.d (.int .u64 (.l (i n32))))))),(om n0 n6)])
 (.ops [(oq n2 (.mv (k n32)))]))
 .skip))
 (.seq (.seq (.ops [(om n7 n0),(oq n8 (.bin .geq (.t n7) (.c (.d (.int .u64 (.l (i n65536)))))))])
 (.cond (.t n8) (.seq (.ops [(om n9 n0),(oq n10 (.bw .shr (.t n9) (.c (.d (.int .u64 (.l (i n16))))))),(om n0 n10)])
 (.ops [(om n11 n2),(oq n12 (.bin .add (.t n11) (k n16))),(om n2 n12)]))
 .skip))
 (.seq (.seq (.ops [(om n13 n0),(oq n14 (.bin .geq (.t n13) (.c (.d (.int .u64 (.l (i n256)))))))])
 (.cond (.t n14) (.seq (.ops [(om n15 n0),(oq n16 (.bw .shr (.t n15) (.c (.d (.int .u64 (.l (i n8))))))),(om n0 n16)])
 (.ops [(om n17 n2),(oq n18 (.bin .add (.t n17) (k n8))),(om n2 n18)]))
 .skip))
 (.seq (.ops [(om n19 n2),(om n20 n0),(oq n21 (.conv .u8 (.t n20))),(oq n22 (.idxs [0,1,2,2,3,3,3,3,4,4,4,4,4,4,4,4,5,5,5,5,5,5,5,5,5,5,5,5,5,5,5,5,6,6,6,6,6,6,6,6,6,6,6,6,6,6,6,6,6,6,6,6,6,6,6,6,6,6,6,6,6,6,6,6,7,7,7,7,7,7,7,7,7,7,7,7,7,7,7,7,7,7,7,7,7,7,7,7,7,7,7,7,7,7,7,7,7,7,7,7,7,7,7,7,7,7,7,7,7,7,7,7,7,7,7,7,7,7,7,7,7,7,7,7,7,7,7,7,8,8,8,8,8,8,8,8,8,8,8,8,8,8,8,8,8,8,8,8,8,8,8,8,8,8,8,8,8,8,8,8,8,8,8,8,8,8,8,8,8,8,8,8,8,8,8,8,8,8,8,8,8,8,8,8,8,8,8,8,8,8,8,8,8,8,8,8,8,8,8,8,8,8,8,8,8,8,8,8,8,8,8,8,8,8,8,8,8,8,8,8,8,8,8,8,8,8,8,8,8,8,8,8,8,8,8,8,8,8,8,8,8,8,8,8,8,8,8,8,8,8,8,8,8,8,8,8] (.t n21))),(oq n23 (.conv .i64 (.t n22))),(oq n24 (.bin .add (.t n19) (.t n23))),(om n2 n24)])
 .ret)))))
def x226 : XFn := ⟨a226,n25,[(.t n2)],c226⟩
def a227 : Ann := ⟨[(n0,n3,n2),(n1,n3,n2),(n2,n1,n2)],[]⟩
def c227 : ICode :=
 (.seq (.ops [(om n4 n0),(om n5 n1),(oq n6 (.slice n5 (.t n4) none (some (.t n5)) none)),(oq n7 (.call (.c (.fn n261 [] [])) [(.t n6)] .raw))])
 (.seq (.ops [(om n8 n0),(om n9 n1),(oq n10 (.slice n5 (.t n8) (some (.t n9)) none none)),(oq n11 (.call (.c (.fn n261 [] [])) [(.t n10)] .raw))])
 (.ops [(om n12 n0),(oq n13 (.call (.c (.fn n261 [] [])) [(.t n12)] .raw))])))
def x227 : XFn := ⟨a227,n14,[],c227⟩
def a228 : Ann := ⟨[(n1,n2,n2)],[]⟩
def c228 : ICode :=
 (.seq (.ops [(oq n3 (.box (.t n1))),(oq n4 (.mv (.c (.d (.bool false)))))])
 (.seq (.ops [(om n5 n0),(oq n6 (.mkfn n262 [] [(.t n3)])),(oq n7 (.call (.c (.fn n208 [] [])) [(.t n5),(.t n6)] .raw)),(oq n8 (.un .not (.t n7))),(om n4 n8)])
 .ret))
def x228 : XFn := ⟨a228,n9,[(.t n4)],c228⟩
def a229 : Ann := ⟨[(n3,n3,n0)],[]⟩
def c229 : ICode :=
 (.seq (.ops [(oq n1 (.box (.t n0))),(oq n2 (.mv (.c (.d (.bool false)))))])
 (.seq (.seq (.ops [(of n3 n0 n1),(ol n4 n3),(oq n5 (.bin .gtr (.t n4) (.c (.d (.int .u8 (.l (i n0)))))))])
 (.cond (.t n5) (.seq (.ops [(of n6 n0 n1),(ol n7 n6),(oq n8 (.bin .leq (.t n7) (.c (.d (.int .u8 (.l (i n4))))))),(om n9 n8),(og n10 n9 true (.faddr n1 (.t n1))),(og n11 n9 true (.load none (.t n10))),(og n12 n9 true (.bin .eql (.t n11) (k n0))),(oq n13 (.pick (.t n9) (.t n12) (.c (.d (.bool false))))),(om n2 n13)])
 .ret)
 .skip))
 (.seq (.ops [(of n14 n1 n1),(ol n15 n14),(oq n16 (.bslice n1 n1 [(.int .i64 (.l (i n0)))] [(n0,(.t n15))] false)),(oq n17 (.call (.c (.fn n152 [] [])) [(.c (.d (.int .i64 (.l (.negSucc n9998))))),(k n9999),(.t n16)] .borrow)),(om n2 n17)])
 .ret)))
def x229 : XFn := ⟨a229,n18,[(.t n2)],c229⟩
def a230 : Ann := ⟨[(n1,n2,n2)],[]⟩
def c230 : ICode :=
 (.seq (.ops [(oq n3 (.box (.t n1))),(oq n4 (.mv (.c (.d (.bool false)))))])
 (.seq (.ops [(om n5 n0),(oq n6 (.mkfn n263 [] [(.t n3)])),(oq n7 (.call (.c (.fn n188 [] [])) [(.t n5),(.t n6)] .raw)),(oq n8 (.un .not (.t n7))),(om n4 n8)])
 .ret))
def x230 : XFn := ⟨a230,n9,[(.t n4)],c230⟩
def a231 : Ann := ⟨[(n2,n8,n0),(n4,n3,n2)],[]⟩
def c231 : ICode :=
 (.seq (.ops [(oq n2 (.box (.t n0))),(oq n3 (.box (.t n1))),(oq n4 (.mv (.c (.d (.bool false)))))])
 (.seq (.ops [(of n6 n2 n2),(of n7 n3 n6),(ol n8 n7),(ol n9 n3),(oq n10 (.iaddr n2 (.t n8) (.t n9))),(oq n11 (.load (some n2) (.t n10))),(oq n5 (.alloc [(.int .i64 (.l (i n0))),.nil])),⟨none,none,.store n2 (.t n5) (.t n11)⟩])
 (.seq (.seq (.draw n0 [(dq (of n12 n0 n2) n0 n0 [] [] false true),(dq (of n13 n0 n12) n1 n0 [] [] false true),(dz (of n17 n0 n5) n5 n0),(dq (ol n14 n13) n2 n0 [] [] false true),(dq (oq n15 (.len (.t n14))) n3 n0 [] [] false true),(dq (oq n16 (.bin .sub (.t n15) (k n1))) n4 n0 [] [] false true),(dz (ol n18 n17) n6 n0),(dq (oq n19 (.bslice n1 n1 [(.int .i64 (.l (i n0)))] [(n0,(.t n18))] false)) n7 n0 [] [n6,n5] false false),(dq (oq n20 (.call (.c (.fn n152 [] [])) [(k n0),(.t n16),(.t n19)] .borrow)) n8 n0 [] [n4,n7,n3,n2,n1,n0,n6,n5] true false),(dz (oq n21 (.un .not (.t n20))) n9 n0),(dz (om n22 n21) n10 n0),(dz (og n23 n22 false (.faddr n1 (.t n5))) n11 n0),(dz (og n26 n22 false (.faddr n0 (.t n2))) n14 n0),(dz (og n27 n22 false (.faddr n0 (.t n26))) n15 n0),(dz (og n29 n22 false (.faddr n0 (.t n5))) n17 n0),(dz (og n24 n22 false (.load none (.t n23))) n12 n0),(dz (og n25 n22 false (.len (.t n24))) n13 n0),(dz (og n28 n22 false (.load none (.t n27))) n16 n0),(dz (og n30 n22 false (.load none (.t n29))) n18 n0),(dz (og n31 n22 false (.iaddr n1 (.t n28) (.t n30))) n19 n0),(dz (og n32 n22 false (.load none (.t n31))) n20 n0),(dz (og n33 n22 false (.bin .neq (.t n25) (.t n32))) n21 n0),(dz (oq n34 (.pick (.t n22) (.c (.d (.bool true))) (.t n33))) n22 n0)])
 (.cond (.t n34) (.seq (.ops [(oq n4 (.mv (.c (.d (.bool false)))))])
 .ret)
 .skip))
 (.seq (.ops [(of n35 n1 n5),(ol n36 n35),(oq n37 (.mkfn n264 [] [(.t n2),(.t n3),(.t n5)])),(oq n38 (.call (.c (.fn n230 [] [])) [(.t n36),(.t n37)] .raw)),(om n4 n38)])
 .ret))))
def x231 : XFn := ⟨a231,n39,[(.t n4)],c231⟩
def a232 : Ann := ⟨[(n2,n1,n0),(n3,n13,n0)],[]⟩
def c232 : ICode :=
 (.seq (.ops [(oq n4 (.box (.t n0))),(oq n8 (.mv (.c (.d (.bool false)))))])
 (.seq (.seq (.ops [(om n9 n1),(oq n10 (.bin .lss (.t n9) (k n0)))])
 (.cond (.t n10) (.seq (.draw n0 [(dz (om n11 n1) n0 n0),(dq (of n13 n2 n4) n2 n0 [] [] false true),(dq (of n14 n2 n13) n3 n0 [] [] false true),(dq (ol n15 n14) n4 n0 [] [] false true),(dq (oq n16 (.len (.t n15))) n5 n0 [] [] false true),(dq (oq n12 (.call (.c (.fn n200 [] [])) [(.t n11)] .borrow)) n1 n0 [] [n0] false false),(dz (oq n17 (.bin .lss (.t n12) (.t n16))) n6 n0),(dz (om n8 n17) n7 n0)])
 .ret)
 .skip))
 (.seq (.draw n0 [(dz (om n18 n1) n0 n0),(dz (om n19 n2) n1 n0),(dz (oq n20 (.bin .lss (.t n18) (.t n19))) n2 n0),(dz (om n21 n20) n3 n0),(dz (og n22 n21 true (.faddr n0 (.t n4))) n4 n0),(dz (og n24 n21 true (.faddr n2 (.t n4))) n6 n0),(dz (og n25 n21 true (.faddr n3 (.t n24))) n7 n0),(dz (og n27 n21 true (.mv (.t n1))) n9 n0),(dq (og n32 n21 true (.mv (.t n3))) n14 n0 [] [] false true),(dz (og n23 n21 true (.load (some n2) (.t n22))) n5 n0),(dz (og n26 n21 true (.load none (.t n25))) n8 n0),(dz (og n28 n21 true (.iaddr n2 (.t n26) (.t n27))) n10 n0),(dz (og n29 n21 true (.faddr n0 (.t n28))) n11 n0),(dz (og n30 n21 true (.load none (.t n29))) n12 n0),(dq (og n31 n21 true (.call (.c (.fn n265 [] [])) [(.t n23),(.t n30)] .borrow)) n13 n0 [] [n5,n12,n3,n4,n2,n0,n1,n11,n10,n8,n9,n7,n6] false false),(dz (og n33 n21 true (.bin .gtr (.t n31) (.t n32))) n15 n0),(dz (oq n34 (.pick (.t n21) (.t n33) (.c (.d (.bool false))))) n16 n0),(dz (om n8 n34) n17 n0)])
 .ret)))
def x232 : XFn := ⟨a232,n35,[(.t n8)],c232⟩
def a233 : Ann := ⟨[(n1,n10,n0)],[]⟩
def c233 : ICode :=
 (.seq (.ops [(oq n2 (.box (.t n0))),(oq n3 (.box (.t n1))),(oq n4 (.mv (.c (.d (.bool false)))))])
 (.seq (.ops [(of n5 n0 n2),(ol n6 n5),(of n7 n0 n3),(ol n8 n7),(oq n9 (.bin .eql (.t n6) (.t n8))),(om n10 n9),(og n11 n10 true (.faddr n1 (.t n2))),(og n12 n10 true (.load none (.t n11))),(og n13 n10 true (.faddr n1 (.t n3))),(og n14 n10 true (.load none (.t n13))),(og n15 n10 true (.call (.c (.fn n155 [] [])) [(.t n12),(.t n14)] .borrow)),(oq n16 (.pick (.t n10) (.t n15) (.c (.d (.bool false))))),(om n4 n16)])
 .ret))
def x233 : XFn := ⟨a233,n17,[(.t n4)],c233⟩
def a234 : Ann := ⟨[],[]⟩
def c234 : ICode :=
 (.seq (.ops [(oq n4 (.mv (.c (.d (.bool false)))))])
 (.seq (.seq (.ops [(om n6 n0),(oq n7 (.len (.t n6))),(om n8 n1),(oq n9 (.len (.t n8))),(oq n10 (.bin .neq (.t n7) (.t n9)))])
 (.cond (.t n10) (.seq (.ops [(oq n4 (.mv (.c (.d (.bool false)))))])
 .ret)
 .skip))
 (.seq (.seq (.ops [(om n11 n0),(oq n12 (.len (.t n11))),(oq n13 (.mv (k n0)))])
 (.block n0 (.loop (.seq (.ops [(oq n14 (.bin .lss (.t n13) (.t n12)))])
 (.seq (.cond (.t n14) .skip
 (.exit n0))
 (.seq (.block n1 (.seq (.ops [(om n15 n13),(om n5 n15)])
 (.seq (.draw n0 [(dz (om n16 n0) n0 n0),(dz (om n17 n5) n1 n0),(dz (oq n18 (.iaddr n2 (.t n16) (.t n17))) n2 n0),(dz (om n20 n1) n4 n0),(dz (om n21 n5) n5 n0),(dz (oq n22 (.iaddr n2 (.t n20) (.t n21))) n6 n0),(dz (oq n19 (.load (some n2) (.t n18))) n3 n0),(dz (oq n23 (.load (some n2) (.t n22))) n7 n0),(dz (oq n24 (.aeq true [.u8,.i64] (.t n19) (.t n23))) n8 n0)])
 (.cond (.t n24) (.seq (.ops [(oq n4 (.mv (.c (.d (.bool false)))))])
 .ret)
 .skip))))
 (.ops [(oq n25 (.bin .add (.t n13) (k n1))),(om n13 n25)])))))))
 (.seq (.ops [(oq n4 (.mv (.c (.d (.bool true)))))])
 .ret))))
def x234 : XFn := ⟨a234,n26,[(.t n4)],c234⟩
end
end Go.Proofs.Tryz.Run
