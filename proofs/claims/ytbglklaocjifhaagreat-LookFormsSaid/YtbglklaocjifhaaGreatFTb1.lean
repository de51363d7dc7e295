/- The functions of the table, and the table. Conditions: none. -/
import Derived.Test.YtbglklaocjifhaaGreatFMk
set_option linter.unusedSimpArgs false
set_option linter.unusedVariables false
namespace Go.Proofs.Tryz.Run
open Go Go.Vf
noncomputable section
def n0:Nat:=nat_lit 0
def n1:Nat:=nat_lit 1
def n2:Nat:=nat_lit 2
def n3:Nat:=nat_lit 3
def n4:Nat:=nat_lit 4
def n5:Nat:=nat_lit 5
def n6:Nat:=nat_lit 6
def n7:Nat:=nat_lit 7
def n8:Nat:=nat_lit 8
def n9:Nat:=nat_lit 9
def n10:Nat:=nat_lit 10
def n11:Nat:=nat_lit 11
def n12:Nat:=nat_lit 12
def n13:Nat:=nat_lit 13
def n14:Nat:=nat_lit 14
def n15:Nat:=nat_lit 15
def n16:Nat:=nat_lit 16
def n17:Nat:=nat_lit 17
def n18:Nat:=nat_lit 18
def n19:Nat:=nat_lit 19
def n20:Nat:=nat_lit 20
def n21:Nat:=nat_lit 21
def n22:Nat:=nat_lit 22
def n23:Nat:=nat_lit 23
def n24:Nat:=nat_lit 24
def n25:Nat:=nat_lit 25
def n26:Nat:=nat_lit 26
def n27:Nat:=nat_lit 27
def n28:Nat:=nat_lit 28
def n29:Nat:=nat_lit 29
def n30:Nat:=nat_lit 30
def n31:Nat:=nat_lit 31
def n32:Nat:=nat_lit 32
def n33:Nat:=nat_lit 33
def n34:Nat:=nat_lit 34
def n35:Nat:=nat_lit 35
def n36:Nat:=nat_lit 36
def n37:Nat:=nat_lit 37
def n38:Nat:=nat_lit 38
def n39:Nat:=nat_lit 39
def n40:Nat:=nat_lit 40
def n41:Nat:=nat_lit 41
def n42:Nat:=nat_lit 42
def n43:Nat:=nat_lit 43
def n44:Nat:=nat_lit 44
def n45:Nat:=nat_lit 45
def n46:Nat:=nat_lit 46
def n47:Nat:=nat_lit 47
def n48:Nat:=nat_lit 48
def n49:Nat:=nat_lit 49
def n50:Nat:=nat_lit 50
def n51:Nat:=nat_lit 51
def n52:Nat:=nat_lit 52
def n53:Nat:=nat_lit 53
def n54:Nat:=nat_lit 54
def n55:Nat:=nat_lit 55
def n56:Nat:=nat_lit 56
def n57:Nat:=nat_lit 57
def n58:Nat:=nat_lit 58
def n59:Nat:=nat_lit 59
def n60:Nat:=nat_lit 60
def n61:Nat:=nat_lit 61
def n62:Nat:=nat_lit 62
def n63:Nat:=nat_lit 63
def n64:Nat:=nat_lit 64
def n65:Nat:=nat_lit 65
def n66:Nat:=nat_lit 66
def n67:Nat:=nat_lit 67
def n68:Nat:=nat_lit 68
def n69:Nat:=nat_lit 69
def n70:Nat:=nat_lit 70
def n71:Nat:=nat_lit 71
def n72:Nat:=nat_lit 72
def n73:Nat:=nat_lit 73
def n74:Nat:=nat_lit 74
def n75:Nat:=nat_lit 75
def n76:Nat:=nat_lit 76
def n77:Nat:=nat_lit 77
def n78:Nat:=nat_lit 78
def n79:Nat:=nat_lit 79
def n80:Nat:=nat_lit 80
def n81:Nat:=nat_lit 81
def n82:Nat:=nat_lit 82
def n83:Nat:=nat_lit 83
def n84:Nat:=nat_lit 84
def n85:Nat:=nat_lit 85
def n86:Nat:=nat_lit 86
def n87:Nat:=nat_lit 87
def n88:Nat:=nat_lit 88
def n89:Nat:=nat_lit 89
def n90:Nat:=nat_lit 90
def n91:Nat:=nat_lit 91
def n92:Nat:=nat_lit 92
def n93:Nat:=nat_lit 93
def n94:Nat:=nat_lit 94
def n95:Nat:=nat_lit 95
def n96:Nat:=nat_lit 96
def n97:Nat:=nat_lit 97
def n98:Nat:=nat_lit 98
def n99:Nat:=nat_lit 99
def c1w:Nat:=nat_lit 100
def b9n:Nat:=nat_lit 101
def c2d:Nat:=nat_lit 102
def b8s:Nat:=nat_lit 103
def b0g:Nat:=nat_lit 104
def b9l:Nat:=nat_lit 105
def c1v:Nat:=nat_lit 106
def b3k:Nat:=nat_lit 107
def a9u:Nat:=nat_lit 108
def b7w:Nat:=nat_lit 109
def b8f:Nat:=nat_lit 110
def c2p:Nat:=nat_lit 111
def b8v:Nat:=nat_lit 112
def c3o:Nat:=nat_lit 113
def c3g:Nat:=nat_lit 114
def b4y:Nat:=nat_lit 115
def c1y:Nat:=nat_lit 116
def c3q:Nat:=nat_lit 117
def b1a:Nat:=nat_lit 118
def b2v:Nat:=nat_lit 119
def b8r:Nat:=nat_lit 120
def c3u:Nat:=nat_lit 121
def c1h:Nat:=nat_lit 122
def c3f:Nat:=nat_lit 123
def b8e:Nat:=nat_lit 124
def c6b:Nat:=nat_lit 125
def d0w:Nat:=nat_lit 126
def d0x:Nat:=nat_lit 127
def d0z:Nat:=nat_lit 128
def c3l:Nat:=nat_lit 129
def c1j:Nat:=nat_lit 130
def c5d:Nat:=nat_lit 131
def c5o:Nat:=nat_lit 132
def b4f:Nat:=nat_lit 133
def d0n:Nat:=nat_lit 134
def d0t:Nat:=nat_lit 135
def d1a:Nat:=nat_lit 136
def d0u:Nat:=nat_lit 137
def b8c:Nat:=nat_lit 138
def d4v:Nat:=nat_lit 139
def d6b:Nat:=nat_lit 140
def d1l:Nat:=nat_lit 141
def d3x:Nat:=nat_lit 142
def c7z:Nat:=nat_lit 143
def c5y:Nat:=nat_lit 144
def d5e:Nat:=nat_lit 145
def d6v:Nat:=nat_lit 146
def d5a:Nat:=nat_lit 147
def d8x:Nat:=nat_lit 148
def d9j:Nat:=nat_lit 149
def e2f:Nat:=nat_lit 150
def e6l:Nat:=nat_lit 151
def c5e:Nat:=nat_lit 152
def d4n:Nat:=nat_lit 153
def e5y:Nat:=nat_lit 154
def d0p:Nat:=nat_lit 155
def d9o:Nat:=nat_lit 156
def e6j:Nat:=nat_lit 157
def e6m:Nat:=nat_lit 158
def e9y:Nat:=nat_lit 159
def d4p:Nat:=nat_lit 160
def e6f:Nat:=nat_lit 161
def e4k:Nat:=nat_lit 162
def e6i:Nat:=nat_lit 163
def d1h:Nat:=nat_lit 164
def f5o:Nat:=nat_lit 165
def f4h:Nat:=nat_lit 166
def f3k:Nat:=nat_lit 167
def e5b:Nat:=nat_lit 168
def e5g:Nat:=nat_lit 169
def e0a:Nat:=nat_lit 170
def e4d:Nat:=nat_lit 171
def e6x:Nat:=nat_lit 172
def d5s:Nat:=nat_lit 173
def e3z:Nat:=nat_lit 174
def e6e:Nat:=nat_lit 175
def e5q:Nat:=nat_lit 176
def f9q:Nat:=nat_lit 177
def f9h:Nat:=nat_lit 178
def e6v:Nat:=nat_lit 179
def f4x:Nat:=nat_lit 180
def f8z:Nat:=nat_lit 181
def g1r:Nat:=nat_lit 182
def e7a:Nat:=nat_lit 183
def e0j:Nat:=nat_lit 184
def e5j:Nat:=nat_lit 185
def e7d:Nat:=nat_lit 186
def d9y:Nat:=nat_lit 187
def d8s:Nat:=nat_lit 188
def e5r:Nat:=nat_lit 189
def d9r:Nat:=nat_lit 190
def d2i:Nat:=nat_lit 191
def f1d:Nat:=nat_lit 192
def e6a:Nat:=nat_lit 193
def f8g:Nat:=nat_lit 194
def f3g:Nat:=nat_lit 195
def e6u:Nat:=nat_lit 196
def d9n:Nat:=nat_lit 197
def e5z:Nat:=nat_lit 198
def e6h:Nat:=nat_lit 199
def d7p:Nat:=nat_lit 200
def e0q:Nat:=nat_lit 201
def e5v:Nat:=nat_lit 202
def e7e:Nat:=nat_lit 203
def d4r:Nat:=nat_lit 204
def e5w:Nat:=nat_lit 205
def f7a:Nat:=nat_lit 206
def g0l:Nat:=nat_lit 207
def d7s:Nat:=nat_lit 208
def f2v:Nat:=nat_lit 209
def e6n:Nat:=nat_lit 210
def e5f:Nat:=nat_lit 211
def e6r:Nat:=nat_lit 212
def e5m:Nat:=nat_lit 213
def e5u:Nat:=nat_lit 214
def e6p:Nat:=nat_lit 215
def e6y:Nat:=nat_lit 216
def f2h:Nat:=nat_lit 217
def e9t:Nat:=nat_lit 218
def e9n:Nat:=nat_lit 219
def f2a:Nat:=nat_lit 220
def f0p:Nat:=nat_lit 221
def e2l:Nat:=nat_lit 222
def f1m:Nat:=nat_lit 223
def f1l:Nat:=nat_lit 224
def e5a:Nat:=nat_lit 225
def e6s:Nat:=nat_lit 226
def e6c:Nat:=nat_lit 227
def e7g:Nat:=nat_lit 228
def e7f:Nat:=nat_lit 229
def d9z:Nat:=nat_lit 230
def e0b:Nat:=nat_lit 231
def e4u:Nat:=nat_lit 232
def e5o:Nat:=nat_lit 233
def f0i:Nat:=nat_lit 234
def f1p:Nat:=nat_lit 235
def e5p:Nat:=nat_lit 236
def e4w:Nat:=nat_lit 237
def e5e:Nat:=nat_lit 238
def e5t:Nat:=nat_lit 239
def e9p:Nat:=nat_lit 240
def e5s:Nat:=nat_lit 241
def d9v:Nat:=nat_lit 242
def e7i:Nat:=nat_lit 243
def f0d:Nat:=nat_lit 244
def f8k:Nat:=nat_lit 245
def f4r:Nat:=nat_lit 246
def e7u:Nat:=nat_lit 247
def e0t:Nat:=nat_lit 248
def e7z:Nat:=nat_lit 249
def e8r:Nat:=nat_lit 250
def e8p:Nat:=nat_lit 251
def e8m:Nat:=nat_lit 252
def e6d:Nat:=nat_lit 253
def d7m:Nat:=nat_lit 254
def d9c:Nat:=nat_lit 255
def e6q:Nat:=nat_lit 256
def h3s:Nat:=nat_lit 257
def h1c:Nat:=nat_lit 258
def g0h:Nat:=nat_lit 259
def f1j:Nat:=nat_lit 260
def e4v:Nat:=nat_lit 261
def e7b:Nat:=nat_lit 262
def e5d:Nat:=nat_lit 263
def e5h:Nat:=nat_lit 264
def e2i:Nat:=nat_lit 265
def e8g:Nat:=nat_lit 266
def f6x:Nat:=nat_lit 267
def f0x:Nat:=nat_lit 268
def f7o:Nat:=nat_lit 269
def g1n:Nat:=nat_lit 270
def e6t:Nat:=nat_lit 271
def f3c:Nat:=nat_lit 272
def g1w:Nat:=nat_lit 273
def g4y:Nat:=nat_lit 274
def g2d:Nat:=nat_lit 275
def f0f:Nat:=nat_lit 276
def f9z:Nat:=nat_lit 277
def f6z:Nat:=nat_lit 278
def f5k:Nat:=nat_lit 279
def g0j:Nat:=nat_lit 280
def g9c:Nat:=nat_lit 281
def g1o:Nat:=nat_lit 282
def f8c:Nat:=nat_lit 283
def f3q:Nat:=nat_lit 284
def f4i:Nat:=nat_lit 285
def g1e:Nat:=nat_lit 286
def g0n:Nat:=nat_lit 287
def f8y:Nat:=nat_lit 288
def f8w:Nat:=nat_lit 289
def f6m:Nat:=nat_lit 290
def f8d:Nat:=nat_lit 291
def f4n:Nat:=nat_lit 292
def f8h:Nat:=nat_lit 293
def f6e:Nat:=nat_lit 294
def f9g:Nat:=nat_lit 295
def f3j:Nat:=nat_lit 296
def f3p:Nat:=nat_lit 297
def f9r:Nat:=nat_lit 298
def f8r:Nat:=nat_lit 299
def e5i:Nat:=nat_lit 300
def f7s:Nat:=nat_lit 301
def f4f:Nat:=nat_lit 302
def g0f:Nat:=nat_lit 303
def f4t:Nat:=nat_lit 304
def f4k:Nat:=nat_lit 305
def f9o:Nat:=nat_lit 306
def g2o:Nat:=nat_lit 307
def f9f:Nat:=nat_lit 308
def f7f:Nat:=nat_lit 309
def g2v:Nat:=nat_lit 310
def f8l:Nat:=nat_lit 311
def f5w:Nat:=nat_lit 312
def g1k:Nat:=nat_lit 313
def f6b:Nat:=nat_lit 314
def g0c:Nat:=nat_lit 315
def g0p:Nat:=nat_lit 316
def g2a:Nat:=nat_lit 317
def g0y:Nat:=nat_lit 318
def f7t:Nat:=nat_lit 319
def f8e:Nat:=nat_lit 320
def f7u:Nat:=nat_lit 321
def f4m:Nat:=nat_lit 322
def f8b:Nat:=nat_lit 323
def f9s:Nat:=nat_lit 324
def f5u:Nat:=nat_lit 325
def e6z:Nat:=nat_lit 326
def f9x:Nat:=nat_lit 327
def f5d:Nat:=nat_lit 328
def f9e:Nat:=nat_lit 329
def e5c:Nat:=nat_lit 330
def f5z:Nat:=nat_lit 331
def f5q:Nat:=nat_lit 332
def f3l:Nat:=nat_lit 333
def e7c:Nat:=nat_lit 334
def g0q:Nat:=nat_lit 335
def g1c:Nat:=nat_lit 336
def f9t:Nat:=nat_lit 337
def e2p:Nat:=nat_lit 338
def g1i:Nat:=nat_lit 339
def f6f:Nat:=nat_lit 340
def f4o:Nat:=nat_lit 341
def f7k:Nat:=nat_lit 342
def e1c:Nat:=nat_lit 343
def f3a:Nat:=nat_lit 344
def f5a:Nat:=nat_lit 345
def f9a:Nat:=nat_lit 346
def g0d:Nat:=nat_lit 347
def e7h:Nat:=nat_lit 348
def f4u:Nat:=nat_lit 349
def g0x:Nat:=nat_lit 350
def f3x:Nat:=nat_lit 351
def e5n:Nat:=nat_lit 352
def f6v:Nat:=nat_lit 353
def f9b:Nat:=nat_lit 354
def f3h:Nat:=nat_lit 355
def e6k:Nat:=nat_lit 356
def g1s:Nat:=nat_lit 357
def f6r:Nat:=nat_lit 358
def f8v:Nat:=nat_lit 359
def e6g:Nat:=nat_lit 360
def f3w:Nat:=nat_lit 361
def f4b:Nat:=nat_lit 362
def f9c:Nat:=nat_lit 363
def d9u:Nat:=nat_lit 364
def g0a:Nat:=nat_lit 365
def f9l:Nat:=nat_lit 366
def g2y:Nat:=nat_lit 367
def f4z:Nat:=nat_lit 368
def f8f:Nat:=nat_lit 369
def d2o:Nat:=nat_lit 370
def g0s:Nat:=nat_lit 371
def f5t:Nat:=nat_lit 372
def f7i:Nat:=nat_lit 373
def f4s:Nat:=nat_lit 374
def f3z:Nat:=nat_lit 375
def g2n:Nat:=nat_lit 376
def f4l:Nat:=nat_lit 377
def f3v:Nat:=nat_lit 378
def e3t:Nat:=nat_lit 379
def f4p:Nat:=nat_lit 380
def f5b:Nat:=nat_lit 381
def g1z:Nat:=nat_lit 382
def g1q:Nat:=nat_lit 383
def d6y:Nat:=nat_lit 384
def f9u:Nat:=nat_lit 385
def f6n:Nat:=nat_lit 386
def f5p:Nat:=nat_lit 387
def f7g:Nat:=nat_lit 388
def f7e:Nat:=nat_lit 389
def f4e:Nat:=nat_lit 390
def e0i:Nat:=nat_lit 391
def f5c:Nat:=nat_lit 392
def f3y:Nat:=nat_lit 393
def f7r:Nat:=nat_lit 394
def f3u:Nat:=nat_lit 395
def g0m:Nat:=nat_lit 396
def d9w:Nat:=nat_lit 397
def f5m:Nat:=nat_lit 398
def f9d:Nat:=nat_lit 399
def g1u:Nat:=nat_lit 400
def f9m:Nat:=nat_lit 401
def g0t:Nat:=nat_lit 402
def e9o:Nat:=nat_lit 403
def f7p:Nat:=nat_lit 404
def f7n:Nat:=nat_lit 405
def g9x:Nat:=nat_lit 406
def e7x:Nat:=nat_lit 2000
def e9u:Nat:=nat_lit 6000
def d8e:Nat:=nat_lit 9998
def d7v:Nat:=nat_lit 9999
def e4l:Nat:=nat_lit 10000
def d4l:Nat:=nat_lit 65536
def b9r:Nat:=nat_lit 4294967296
def oq (d:Nat)(p:IOp):a1c:=⟨some d,none,p⟩
def og (d g:Nat)(b:Bool)(p:IOp):a1c:=⟨some d,some (g,b),p⟩
def om (d x:Nat):a1c:=⟨some d,none,.mv (.t x)⟩
def ol (d x:Nat):a1c:=⟨some d,none,.load none (.t x)⟩
def of (d n x:Nat):a1c:=⟨some d,none,.faddr n (.t x)⟩
def dz (o:a1c)(i s:Nat):a0m:=⟨o,i,s,[],[],false,false⟩
def dq (o:a1c)(i s:Nat)(a b:List Nat)(x y:Bool):a0m:=⟨o,i,s,a,b,x,y⟩
def i (n:Nat):Int:= .ofNat n
def k (n:Nat):a0h:= .c (.d (.int .i64 (.l (.ofNat n))))
def a15:Ann:=⟨[(n1,n1,n1),(n1,n2,n1),(n1,n4,n1),(n1,n5,n1),(n1,n7,n1),(n1,n8,n1),(n3,n1,n1),(n4,n1,n1),(n5,n1,n1),(n6,n1,n1),(n7,n1,n1),(n8,n1,n1),(n9,n1,n1),(n10,n1,n1),(n11,n1,n1),(n11,n2,n2),(n11,n3,n1),(n12,n1,n0),(n13,n0,n1),(n13,n1,n0),(n14,n8,n1),(n14,n10,n1),(n14,n11,n0),(n14,n21,n0),(n14,n69,n0),(n14,n75,n0),(n14,n93,n0),(n17,n1,n1),(n18,n0,n2),(n18,n3,n3),(n18,n8,n2),(n18,n9,n3),(n20,n1,n1),(n21,n1,n1),(n22,n1,n1),(n23,n1,n1),(n24,n1,n1),(n25,n1,n2),(n25,n2,n1),(n25,n3,n2),(n25,n4,n1),(n26,n1,n2),(n26,n2,n1),(n26,n3,n2),(n26,n4,n1),(n27,n1,n1),(n27,n2,n2),(n27,n3,n1),(n28,n5,n1),(n28,n9,n1),(n28,n11,n1),(n28,n13,n1),(n32,n4,n1),(n32,n5,n0),(n34,n0,n1),(n39,n16,n0),(n39,n21,n0),(n39,n42,n1),(n39,n43,n0),(n39,n51,n1),(n39,n52,n0),(n39,n57,n1),(n39,n58,n0),(n39,n63,n1),(n39,n64,n0),(n39,n69,n1),(n39,n70,n0),(n39,n75,n1),(n39,n76,n0),(n39,n80,n0)],[]⟩
def c15:a0c:=
 (.seq (.ops [(oq n0 (.mv (.c (.d (.bool false)))))])
 (.seq (.ops [(oq n35 (.bslice n1 n6 [(.int .i64 (.l (i n0)))] [(n0,(k n0)),(n1,(k n0)),(n2,(k n0)),(n3,(k n0)),(n4,(k n1)),(n5,(k n1))] false)),(oq n36 (.call (.c (.fn n64 [] [])) [(.t n35)] .share)),(oq n37 (.call (.c (.fn n63 [] [])) [(.t n36)] .share)),(oq n38 (.bslice n1 n6 [(.int .i64 (.l (i n0)))] [(n0,(k n0)),(n1,(k n0)),(n2,(k n0)),(n3,(k n0)),(n4,(k n0)),(n5,(k n1))] false)),(oq n39 (.call (.c (.fn n64 [] [])) [(.t n38)] .share)),(oq n40 (.call (.c (.fn n63 [] [])) [(.t n39)] .share)),(oq n41 (.bslice n1 n6 [(.int .i64 (.l (i n0)))] [(n0,(k n0)),(n1,(k n0)),(n2,(k n1)),(n3,(k n0)),(n4,(k n1)),(n5,(k n0))] false)),(oq n42 (.call (.c (.fn n64 [] [])) [(.t n41)] .share)),(oq n43 (.call (.c (.fn n63 [] [])) [(.t n42)] .share)),(oq n1 (.alloc [.nil,.nil,.nil,.nil,.nil,.nil,.nil,(.int .i64 (.l (i n0))),.nil,.nil,.nil,.nil,(.int .i64 (.l (i n0)))])),(oq n2 (.alloc [.nil,.nil,.nil,.nil,.nil,.nil,.nil,(.int .i64 (.l (i n0))),.nil,.nil,.nil,.nil,(.int .i64 (.l (i n0)))])),(oq n3 (.alloc [.nil,.nil,.nil,.nil,.nil,.nil,.nil,(.int .i64 (.l (i n0))),.nil,.nil,.nil,.nil,(.int .i64 (.l (i n0)))])),⟨none,none,.store n13 (.t n1) (.t n37)⟩,⟨none,none,.store n13 (.t n2) (.t n40)⟩,⟨none,none,.store n13 (.t n3) (.t n43)⟩])
 (.seq (.ops [(oq n44 (.load (some n13) (.t n1))),(oq n4 (.alloc [.nil,.nil,.nil,.nil,.nil,.nil,.nil,(.int .i64 (.l (i n0))),.nil,.nil,.nil,.nil,(.int .i64 (.l (i n0)))])),⟨none,none,.store n13 (.t n4) (.t n44)⟩])
 (.seq (.ops [(oq n45 (.bslice n1 n6 [(.int .i64 (.l (i n0)))] [(n0,(k n0)),(n1,(k n0)),(n2,(k n0)),(n3,(k n1)),(n4,(k n1)),(n5,(k n1))] false)),(oq n46 (.call (.c (.fn n64 [] [])) [(.t n45)] .share)),(of n47 n3 n4),⟨none,none,.store n5 (.t n47) (.t n46)⟩])
 (.seq (.ops [(oq n49 (.load (some n13) (.t n4))),(oq n50 (.call (.c (.fn n20 [] [])) [(.t n49)] .share)),(om n48 n50),(oq n51 (.extract (.t n48) n0)),(oq n52 (.extract (.t n48) n1)),(oq n53 (.extract (.t n48) n2)),(oq n5 (.alloc [(.int .i64 (.l (i n0))),.nil,.nil])),⟨none,none,.store n3 (.t n5) (.t n51)⟩,(om n6 n52),(om n7 n53)])
 (.seq (.ops [(oq n55 (.load (some n13) (.t n2))),(oq n56 (.call (.c (.fn n28 [] [])) [(.t n55)] .share)),(om n54 n56),(oq n57 (.extract (.t n54) n0)),(oq n58 (.extract (.t n54) n1)),(om n8 n57),(om n9 n58)])
 (.seq (.ops [(oq n60 (.load (some n13) (.t n3))),(oq n61 (.call (.c (.fn n20 [] [])) [(.t n60)] .share)),(om n59 n61),(oq n62 (.extract (.t n59) n0)),(oq n63 (.extract (.t n59) n1)),(oq n64 (.extract (.t n59) n2)),(oq n10 (.alloc [(.int .i64 (.l (i n0))),.nil,.nil])),⟨none,none,.store n3 (.t n10) (.t n62)⟩,(om n11 n63),(om n12 n64)])
 (.seq (.ops [(oq n66 (.load (some n13) (.t n1))),(oq n67 (.call (.c (.fn n58 [] [])) [(.t n66),(k n1)] .share)),(om n65 n67),(oq n68 (.extract (.t n65) n0)),(oq n69 (.extract (.t n65) n1)),(oq n70 (.extract (.t n65) n2)),(om n13 n68),(om n14 n69),(om n15 n70)])
 (.seq (.ops [(oq n71 (.load (some n13) (.t n3))),(oq n72 (.call (.c (.fn n30 [] [])) [(.t n71),(k n1)] .share)),(oq n16 (.alloc [.nil,.nil,.nil,.nil,.nil,.nil,.nil,(.int .i64 (.l (i n0))),.nil,.nil,.nil,.nil,(.int .i64 (.l (i n0)))])),⟨none,none,.store n13 (.t n16) (.t n72)⟩])
 (.seq (.ops [(oq n74 (.load (some n13) (.t n16))),(oq n75 (.call (.c (.fn n20 [] [])) [(.t n74)] .share)),(om n73 n75),(oq n76 (.extract (.t n73) n0)),(oq n77 (.extract (.t n73) n1)),(oq n78 (.extract (.t n73) n2)),(oq n17 (.alloc [(.int .i64 (.l (i n0))),.nil,.nil])),⟨none,none,.store n3 (.t n17) (.t n76)⟩,(om n18 n77),(om n19 n78)])
 (.seq (.ops [(oq n80 (.load (some n13) (.t n16))),(oq n81 (.call (.c (.fn n28 [] [])) [(.t n80)] .share)),(om n79 n81),(oq n82 (.extract (.t n79) n0)),(oq n83 (.extract (.t n79) n1)),(om n20 n82),(om n21 n83)])
 (.seq (.draw n0 [(dq (oq n87 (.bsliceP n1 n2 [(.int .i64 (.l (i n0)))] [(n0,(k n0)),(n1,(k n2))])) n2 n0 [] [] false true),(dq (oq n85 (.load (some n13) (.t n1))) n0 n0 [] [] false true),(dz (oq n86 (.call (.c (.fn n65 [] [])) [] .share)) n1 n0),(dq (oq n88 (.call (.c (.fn n38 [] [])) [(.t n85),(.t n86),(.t n87)] .share)) n3 n0 [] [n0,n1,n2] true false),(dz (om n84 n88) n4 n0),(dz (oq n89 (.extract (.t n84) n0)) n5 n0),(dz (oq n90 (.extract (.t n84) n1)) n6 n0),(dz (om n22 n89) n7 n0),(dz (om n23 n90) n8 n0)])
 (.seq (.ops [(oq n92 (.load (some n13) (.t n1))),(oq n93 (.call (.c (.fn n57 [] [])) [(.t n92)] .borrow)),(om n91 n93),(oq n94 (.extract (.t n91) n0)),(oq n95 (.extract (.t n91) n1)),(om n24 n94),(om n25 n95)])
 (.seq (.ops [(oq n97 (.call (.c (.fn n65 [] [])) [] .share)),(oq n98 (.call (.c (.fn n37 [] [])) [(.t n97)] .borrow)),(om n96 n98),(oq n99 (.extract (.t n96) n0)),(oq c1w (.extract (.t n96) n1)),(om n26 n99),(om n27 c1w)])
 (.seq (.seq (.ops [(om b9n n7),(oq c2d (.bin .neq (.t b9n) (k n0))),(om b8s c2d),(og b0g b8s false (.mv (.t n6))),(og b9l b8s false (.bin .neq (.t b0g) (k n1))),(oq c1v (.pick (.t b8s) (.c (.d (.bool true))) (.t b9l))),(om b3k c1v),(og a9u b3k false (.load (some n3) (.t n5))),(og b7w b3k false (.call (.c (.fn n36 [] [])) [(.t a9u)] .share)),(og b8f b3k false (.bslice n1 n3 [(.int .i64 (.l (i n0)))] [(n0,(k n0)),(n1,(k n1)),(n2,(k n2))] false)),(og c2p b3k false (.call (.c (.fn n66 [] [])) [(k n1),(.t b8f)] .share)),(og b8v b3k false (.call (.c (.fn n25 [] [])) [(.t b7w),(.t c2p)] .borrow)),(og c3o b3k false (.un .not (.t b8v))),(oq c3g (.pick (.t b3k) (.c (.d (.bool true))) (.t c3o))),(om b4y c3g),(og c1y b4y false (.mv (.t n9))),(og c3q b4y false (.bin .neq (.t c1y) (k n0))),(oq b1a (.pick (.t b4y) (.c (.d (.bool true))) (.t c3q))),(om b2v b1a),(og b8r b2v false (.mv (.t n8))),(og c3u b2v false (.bslice n1 n3 [(.int .i64 (.l (i n0)))] [(n0,(k n0)),(n1,(k n0)),(n2,(k n1))] false)),(og c1h b2v false (.call (.c (.fn n33 [] [])) [(.t b8r),(.t c3u)] .borrow)),(og c3f b2v false (.un .not (.t c1h))),(oq b8e (.pick (.t b2v) (.c (.d (.bool true))) (.t c3f))),(om c6b b8e),(og d0w c6b false (.mv (.t n12))),(og d0x c6b false (.bin .neq (.t d0w) (k n0))),(oq d0z (.pick (.t c6b) (.c (.d (.bool true))) (.t d0x))),(om c3l d0z),(og c1j c3l false (.mv (.t n11))),(og c5d c3l false (.bin .neq (.t c1j) (k n2))),(oq c5o (.pick (.t c3l) (.c (.d (.bool true))) (.t c5d))),(om b4f c5o),(og d0n b4f false (.faddr n0 (.t n10))),(og d0t b4f false (.load none (.t d0n))),(og d1a b4f false (.bin .neq (.t d0t) (k n0))),(oq d0u (.pick (.t b4f) (.c (.d (.bool true))) (.t d1a))),(om b8c d0u),(og d4v b8c false (.faddr n2 (.t n10))),(og d6b b8c false (.load none (.t d4v))),(og d1l b8c false (.len (.t d6b))),(og d3x b8c false (.bin .neq (.t d1l) (k n2))),(oq c7z (.pick (.t b8c) (.c (.d (.bool true))) (.t d3x))),(om c5y c7z),(og d5e c5y false (.faddr n2 (.t n10))),(og d6v c5y false (.load none (.t d5e))),(og d5a c5y false (.iaddr n3 (.t d6v) (k n0))),(og d8x c5y false (.faddr n0 (.t d5a))),(og d9j c5y false (.load none (.t d8x))),(og e2f c5y false (.bin .neq (.t d9j) (k n1))),(oq e6l (.pick (.t c5y) (.c (.d (.bool true))) (.t e2f))),(om c5e e6l),(og d4n c5e false (.faddr n2 (.t n10))),(og e5y c5e false (.load none (.t d4n))),(og d0p c5e false (.iaddr n3 (.t e5y) (k n1))),(og d9o c5e false (.faddr n0 (.t d0p))),(og e6j c5e false (.load none (.t d9o))),(og e6m c5e false (.bin .neq (.t e6j) (k n1))),(oq e9y (.pick (.t c5e) (.c (.d (.bool true))) (.t e6m))),(om d4p e9y),(og e6f d4p false (.mv (.t n15))),(og e4k d4p false (.bin .neq (.t e6f) (k n0))),(oq e6i (.pick (.t d4p) (.c (.d (.bool true))) (.t e4k))),(om d1h e6i),(og f5o d1h false (.mv (.t n13))),(og f4h d1h false (.build [(.int .u8 (.l (i n0))),(.int .i64 (.l (i n0)))] [])),(og f3k d1h false (.build [(.int .u8 (.l (i n0))),(.int .i64 (.l (i n0)))] [(n1,n1,(k n1))])),(og e5b d1h false (.build [(.int .u8 (.l (i n0))),(.int .i64 (.l (i n0)))] [(n1,n1,(k n2))])),(og e5g d1h false (.bslice n2 n3 [(.int .u8 (.l (i n0))),(.int .i64 (.l (i n0)))] [(n0,(.t f4h)),(n1,(.t f3k)),(n2,(.t e5b))] false)),(og e0a d1h false (.call (.c (.fn n62 [] [])) [(.t f5o),(.t e5g)] .borrow)),(og e4d d1h false (.un .not (.t e0a))),(oq e6x (.pick (.t d1h) (.c (.d (.bool true))) (.t e4d))),(om d5s e6x),(og e3z d5s false (.mv (.t n14))),(og e6e d5s false (.bslice n1 n3 [(.int .i64 (.l (i n0)))] [(n0,(k n2)),(n1,(k n2)),(n2,(k n2))] false)),(og e5q d5s false (.call (.c (.fn n33 [] [])) [(.t e3z),(.t e6e)] .borrow)),(og f9q d5s false (.un .not (.t e5q))),(oq f9h (.pick (.t d5s) (.c (.d (.bool true))) (.t f9q))),(om e6v f9h),(og f4x e6v false (.mv (.t n19))),(og f8z e6v false (.bin .neq (.t f4x) (k n7))),(oq g1r (.pick (.t e6v) (.c (.d (.bool true))) (.t f8z))),(om e7a g1r),(og e0j e7a false (.mv (.t n21))),(og e5j e7a false (.bin .neq (.t e0j) (k n7))),(oq e7d (.pick (.t e7a) (.c (.d (.bool true))) (.t e5j))),(om d9y e7d),(og d8s d9y false (.mv (.t n23))),(og e5r d9y false (.bin .neq (.t d8s) (k n0))),(oq d9r (.pick (.t d9y) (.c (.d (.bool true))) (.t e5r))),(om d2i d9r),(og f1d d2i false (.mv (.t n22))),(og e6a d2i false (.bslice n1 n1 [(.int .i64 (.l (i n0)))] [(n0,(k n0))] false)),(og f8g d2i false (.call (.c (.fn n33 [] [])) [(.t f1d),(.t e6a)] .borrow)),(og f3g d2i false (.un .not (.t f8g))),(oq e6u (.pick (.t d2i) (.c (.d (.bool true))) (.t f3g))),(om d9n e6u),(og e5z d9n false (.mv (.t n25))),(og e6h d9n false (.bin .neq (.t e5z) (k n0))),(oq d7p (.pick (.t d9n) (.c (.d (.bool true))) (.t e6h))),(om e0q d7p),(og e5v e0q false (.mv (.t n24))),(oq e7e (.pick (.t e0q) (.c (.d (.bool true))) (.t e5v))),(om d4r e7e),(og e5w d4r false (.mv (.t n27))),(og f7a d4r false (.bin .neq (.t e5w) (k n0))),(oq g0l (.pick (.t d4r) (.c (.d (.bool true))) (.t f7a))),(om d7s g0l),(og f2v d7s false (.mv (.t n26))),(og e6n d7s false (.bin .neq (.t f2v) (k n2))),(oq e5f (.pick (.t d7s) (.c (.d (.bool true))) (.t e6n)))])
 (.cond (.t e5f) (.seq (.ops [(oq n0 (.mv (.c (.d (.bool false)))))])
 .ret)
 .skip))
 (.seq (.draw n3 [(dq (oq e6r (.load (some n13) (.t n1))) n0 n0 [n0,n1,n2] [] false false),(dq (oq e5m (.load (some n13) (.t n1))) n1 n0 [n0,n1,n2] [] false true),(dq (oq e5u (.load (some n13) (.t n1))) n2 n0 [n0,n1,n2] [] false true),(dz (oq n28 (.alloc [.nil,.nil,.nil,.nil,.nil,.nil,.nil,(.int .i64 (.l (i n0))),.nil,.nil,.nil,.nil,(.int .i64 (.l (i n0)))])) n3 n0),(dz (oq n29 (.alloc [.nil,.nil,.nil,.nil,.nil,.nil,.nil,(.int .i64 (.l (i n0))),.nil,.nil,.nil,.nil,(.int .i64 (.l (i n0)))])) n4 n1),(dz (oq n30 (.alloc [.nil,.nil,.nil,.nil,.nil,.nil,.nil,(.int .i64 (.l (i n0))),.nil,.nil,.nil,.nil,(.int .i64 (.l (i n0)))])) n5 n2),⟨⟨none,none,.store n13 (.t n28) (.t e6r)⟩,n6,n3,[],[n3,n0,n4,n5],false,false⟩,⟨⟨none,none,.store n13 (.t n29) (.t e5m)⟩,n7,n3,[],[n4,n1,n6,n0,n3,n5],false,false⟩,⟨⟨none,none,.store n13 (.t n30) (.t e5u)⟩,n8,n3,[],[n5,n2,n7,n0,n1,n3,n4,n6],true,false⟩])
 (.seq (.ops [(oq e6p (.bslice n1 n6 [(.int .i64 (.l (i n0)))] [(n0,(k n0)),(n1,(k n0)),(n2,(k n0)),(n3,(k n0)),(n4,(k n0)),(n5,(k n2))] false)),(oq e6y (.call (.c (.fn n64 [] [])) [(.t e6p)] .share)),(of f2h n3 n28),⟨none,none,.store n5 (.t f2h) (.t e6y)⟩])
 (.seq (.draw n0 [(dz (oq e9t (.bslice0 n5)) n0 n0),(dz (of e9n n2 n1) n1 n0),(dq (of e2l n3 n1) n4 n0 [] [] false true),(dq (of f1l n3 n1) n6 n0 [] [] false true),(dz (ol f2a e9n) n2 n0),(dq (oq f1m (.load (some n5) (.t e2l))) n5 n0 [] [] false true),(dq (oq e5a (.load (some n5) (.t f1l))) n7 n0 [] [] false true),(dq (oq e6s (.bsliceP n5 n2 [.nil,.nil,.nil,.nil,(.int .i64 (.l (i n0)))] [(n0,(.t f1m)),(n1,(.t e5a))])) n8 n0 [] [] false true),(dq (oq f0p (.appendN n5 b0g (.t e9t) (.t f2a) true)) n3 n0 [] [n0,n2,n1] false false),(dq (oq e6c (.appendN n5 b0g (.t f0p) (.t e6s) true)) n9 n0 [] [n3,n8,n0,n2,n1,n5,n7,n4,n6] true false),(dz (of e7g n2 n29) n10 n0),⟨⟨none,none,.store n1 (.t e7g) (.t e6c)⟩,n11,n0,[],[n10,n9,n0,n1,n2,n3,n4,n5,n6,n7,n8],true,false⟩])
 (.seq (.ops [(oq e7f (.build [.nil,.nil,.nil,.nil,(.int .i64 (.l (i n0)))] [])),(of d9z n8 n30),⟨none,none,.store n5 (.t d9z) (.t e7f)⟩])
 (.seq (.ops [(oq e4u (.load (some n13) (.t n28))),(oq e5o (.call (.c (.fn n20 [] [])) [(.t e4u)] .share)),(om e0b e5o),(oq f0i (.extract (.t e0b) n0)),(oq f1p (.extract (.t e0b) n1)),(oq e5p (.extract (.t e0b) n2)),(om n7 e5p)])
 (.seq (.ops [(oq e5e (.load (some n13) (.t n28))),(oq e5t (.call (.c (.fn n28 [] [])) [(.t e5e)] .share)),(om e4w e5t),(oq e9p (.extract (.t e4w) n0)),(oq e5s (.extract (.t e4w) n1)),(om n9 e5s)])
 (.seq (.ops [(oq e7i (.load (some n13) (.t n28))),(oq f0d (.call (.c (.fn n58 [] [])) [(.t e7i),(k n3)] .share)),(om d9v f0d),(oq f8k (.extract (.t d9v) n0)),(oq f4r (.extract (.t d9v) n1)),(oq e7u (.extract (.t d9v) n2)),(om n12 e7u)])
 (.seq (.ops [(oq e7z (.load (some n13) (.t n28))),(oq e8r (.call (.c (.fn n58 [] [])) [(.t e7z),(k n2)] .share)),(om e0t e8r),(oq e8p (.extract (.t e0t) n0)),(oq e8m (.extract (.t e0t) n1)),(oq e6d (.extract (.t e0t) n2)),(om n15 e6d)])
 (.seq (.ops [(oq d9c (.load (some n13) (.t n1))),(oq e6q (.call (.c (.fn n31 [] [])) [(.t d9c)] .share)),(om d7m e6q),(oq h3s (.extract (.t d7m) n0)),(oq h1c (.extract (.t d7m) n1)),(oq g0h (.extract (.t d7m) n2)),(om n19 g0h)])
 (.seq (.draw n0 [(dz (oq e7b (.bsliceP n1 n1 [(.int .i64 (.l (i n0)))] [(n0,(k n0))])) n1 n0),(dq (oq e5h (.bsliceP n1 n2 [(.int .i64 (.l (i n0)))] [(n0,(k n0)),(n1,(k n0))])) n3 n0 [] [] false true),(dq (oq e4v (.load (some n13) (.t n1))) n0 n0 [] [] false true),(dq (oq e5d (.call (.c (.fn n66 [] [])) [(k n3),(.t e7b)] .share)) n2 n0 [] [n1] false false),(dq (oq e2i (.call (.c (.fn n38 [] [])) [(.t e4v),(.t e5d),(.t e5h)] .share)) n4 n0 [] [n0,n2,n3,n1] true false),(dz (om f1j e2i) n5 n0),(dz (oq e8g (.extract (.t f1j) n0)) n6 n0),(dz (oq f6x (.extract (.t f1j) n1)) n7 n0),(dz (om n21 f6x) n8 n0)])
 (.seq (.draw n0 [(dz (oq g1n (.bsliceP n1 n2 [(.int .i64 (.l (i n0)))] [(n0,(k n0)),(n1,(k n1))])) n1 n0),(dq (oq f3c (.bsliceP n1 n2 [(.int .i64 (.l (i n0)))] [(n0,(k n0)),(n1,(k n2))])) n3 n0 [] [] false true),(dq (oq f7o (.load (some n13) (.t n1))) n0 n0 [] [] false true),(dq (oq e6t (.call (.c (.fn n66 [] [])) [(k n1),(.t g1n)] .share)) n2 n0 [] [n1] false false),(dq (oq g1w (.call (.c (.fn n38 [] [])) [(.t f7o),(.t e6t),(.t f3c)] .share)) n4 n0 [] [n0,n2,n3,n1] true false),(dz (om f0x g1w) n5 n0),(dz (oq g4y (.extract (.t f0x) n0)) n6 n0),(dz (oq g2d (.extract (.t f0x) n1)) n7 n0),(dz (om n23 g2d) n8 n0)])
 (.seq (.draw n0 [(dq (oq f5k (.bsliceP n1 n2 [(.int .i64 (.l (i n0)))] [(n0,(k n0)),(n1,(k n3))])) n2 n0 [] [] false true),(dq (oq f9z (.load (some n13) (.t n1))) n0 n0 [] [] false true),(dz (oq f6z (.call (.c (.fn n65 [] [])) [] .share)) n1 n0),(dq (oq g0j (.call (.c (.fn n38 [] [])) [(.t f9z),(.t f6z),(.t f5k)] .share)) n3 n0 [] [n0,n1,n2] true false),(dz (om f0f g0j) n4 n0),(dz (oq g9c (.extract (.t f0f) n0)) n5 n0),(dz (oq g1o (.extract (.t f0f) n1)) n6 n0),(dz (om n25 g1o) n7 n0)])
 (.seq (.ops [(oq f8c (.build [(.int .i64 (.l (i n0))),.nil,.nil] [(n0,n1,(.c (.d (.int .i64 (.l (.negSucc n1))))))])),(oq f3q (.build [(.int .i64 (.l (i n0))),.nil,.nil] [(n0,n1,(k n4))])),(oq f4i (.build [(.int .i64 (.l (i n0))),.nil,.nil] [(n0,n1,(k n0))])),(oq g1e (.build [(.int .u8 (.l (i n0))),(.int .i64 (.l (i n0)))] [])),(oq g0n (.bslice n2 n1 [(.int .u8 (.l (i n0))),(.int .i64 (.l (i n0)))] [(n0,(.t g1e))] false)),(oq f8y (.call (.c (.fn n67 [] [])) [] .share)),(oq f8w (.bslice n3 n1 [(.int .i64 (.l (i n0))),.nil,.nil] [(n0,(.t f8y))] false)),(oq f6m (.build [(.int .i64 (.l (i n0))),.nil,.nil] [(n0,n1,(.c (.d (.int .i64 (.l (.negSucc n0)))))),(n1,n1,(.t g0n)),(n2,n1,(.t f8w))])),(oq f8d (.bslice n1 n2 [(.int .i64 (.l (i n0)))] [(n0,(k n1)),(n1,(k n1))] false)),(oq f4n (.call (.c (.fn n66 [] [])) [(k n0),(.t f8d)] .share)),(oq f8h (.bslice n1 n2 [(.int .i64 (.l (i n0)))] [(n0,(k n2)),(n1,(k n1))] false)),(oq f6e (.call (.c (.fn n66 [] [])) [(k n0),(.t f8h)] .share)),(oq f9g (.bslice n1 n1 [(.int .i64 (.l (i n0)))] [(n0,(k e4l))] false)),(oq f3j (.call (.c (.fn n66 [] [])) [(k n0),(.t f9g)] .share)),(oq f3p (.build [(.int .u8 (.l (i n0))),(.int .i64 (.l (i n0)))] [])),(oq f9r (.bslice n2 n1 [(.int .u8 (.l (i n0))),(.int .i64 (.l (i n0)))] [(n0,(.t f3p))] false)),(oq f8r (.build [(.int .i64 (.l (i n0))),.nil,.nil] [(n0,n1,(k n0)),(n1,n1,(.t f9r))])),(oq e5i (.bslice n3 n8 [(.int .i64 (.l (i n0))),.nil,.nil] [(n0,(.t f8c)),(n1,(.t f3q)),(n2,(.t f4i)),(n3,(.t f6m)),(n4,(.t f4n)),(n5,(.t f6e)),(n6,(.t f3j)),(n7,(.t f8r))] false)),(om n31 e5i)])
 (.seq (.seq (.ops [(oq n32 (.mv (k n0)))])
 (.block n0 (.loop (.seq (.seq (.ops [(om f7s n32),(om f4f n31),(oq g0f (.len (.t f4f))),(oq f4t (.bin .lss (.t f7s) (.t g0f)))])
 (.cond (.t f4t) .skip
 (.exit n0)))
 (.seq (.block n1 (.seq (.ops [(om g2o n31),(om f9f n32),(oq f7f (.iaddr n3 (.t g2o) (.t f9f))),(oq g2v (.load (some n3) (.t f7f))),(oq f8l (.call (.c (.fn n36 [] [])) [(.t g2v)] .share)),(oq f5w (.call (.c (.fn n35 [] [])) [(.t f8l)] .borrow)),(oq g1k (.bin .neq (.t f5w) (k n4)))])
 (.cond (.t g1k) (.seq (.ops [(oq n0 (.mv (.c (.d (.bool false)))))])
 .ret)
 .skip)))
 (.ops [(om f4k n32),(oq f9o (.bin .add (.t f4k) (k n1))),(om n32 f9o)]))))))
 (.seq (.ops [(oq f6b (.call (.c (.fn n67 [] [])) [] .share)),(oq n33 (.alloc [(.int .i64 (.l (i n0))),.nil,.nil])),⟨none,none,.store n3 (.t n33) (.t f6b)⟩])
 (.seq (.seq (.ops [(oq n34 (.mv (k n0)))])
 (.block n2 (.loop (.seq (.seq (.ops [(om g0c n34),(oq g0p (.bin .lss (.t g0c) (k n5)))])
 (.cond (.t g0p) .skip
 (.exit n2)))
 (.seq (.block n3 (.ops [(oq f7t (.build [(.int .u8 (.l (i n0))),(.int .i64 (.l (i n0)))] [])),(oq f8e (.bslice n2 n1 [(.int .u8 (.l (i n0))),(.int .i64 (.l (i n0)))] [(n0,(.t f7t))] false)),(oq f7u (.load (some n3) (.t n33))),(oq f4m (.bslice n3 n1 [(.int .i64 (.l (i n0))),.nil,.nil] [(n0,(.t f7u))] false)),(oq f8b (.build [(.int .i64 (.l (i n0))),.nil,.nil] [(n1,n1,(.t f8e)),(n2,n1,(.t f4m))])),⟨none,none,.store n3 (.t n33) (.t f8b)⟩]))
 (.ops [(om g2a n34),(oq g0y (.bin .add (.t g2a) (k n1))),(om n34 g0y)]))))))
 (.seq (.draw n0 [(dz (om f9s n7) n0 n0),(dz (oq f5u (.bin .eql (.t f9s) (k n12))) n1 n0),(dz (om e6z f5u) n2 n0),(dz (og f9x e6z true (.mv (.t n9))) n3 n0),(dz (og f5d e6z true (.bin .eql (.t f9x) (k n12))) n4 n0),(dz (oq f9e (.pick (.t e6z) (.t f5d) (.c (.d (.bool false))))) n5 n0),(dz (om e5c f9e) n6 n0),(dz (og f5z e5c true (.mv (.t n12))) n7 n0),(dz (og f5q e5c true (.bin .eql (.t f5z) (k n3))) n8 n0),(dz (oq f3l (.pick (.t e5c) (.t f5q) (.c (.d (.bool false))))) n9 n0),(dz (om e7c f3l) n10 n0),(dz (og g0q e7c true (.mv (.t n15))) n11 n0),(dz (og g1c e7c true (.bin .eql (.t g0q) (k n12))) n12 n0),(dz (oq f9t (.pick (.t e7c) (.t g1c) (.c (.d (.bool false))))) n13 n0),(dz (om e2p f9t) n14 n0),(dz (og g1i e2p true (.load (some n13) (.t n29))) n15 n0),(dq (og f6f e2p true (.call (.c (.fn n59 [] [])) [(.t g1i)] .borrow)) n16 n0 [] [n15,n14,n13,n10,n12,n9,n6,n8,n5,n2,n4,n1,n0,n3,n7,n11] true false),(dz (og f4o e2p true (.bin .eql (.t f6f) (k n5))) n17 n0),(dz (oq f7k (.pick (.t e2p) (.t f4o) (.c (.d (.bool false))))) n18 n0),(dz (om e1c f7k) n19 n0),(dz (og f3a e1c true (.load (some n13) (.t n30))) n20 n0),(dq (og f5a e1c true (.call (.c (.fn n59 [] [])) [(.t f3a)] .borrow)) n21 n0 [] [n20,n19,n18,n16,n14,n17,n13,n10,n12,n9,n6,n8,n5,n2,n4,n1,n0,n3,n7,n11,n15] true false),(dz (og f9a e1c true (.bin .eql (.t f5a) (k n4))) n22 n0),(dz (oq g0d (.pick (.t e1c) (.t f9a) (.c (.d (.bool false))))) n23 n0),(dz (om e7h g0d) n24 n0),(dz (og f4u e7h true (.mv (.t n19))) n25 n0),(dz (og g0x e7h true (.bin .eql (.t f4u) (k n7))) n26 n0),(dz (oq f3x (.pick (.t e7h) (.t g0x) (.c (.d (.bool false))))) n27 n0),(dz (om e5n f3x) n28 n0),(dz (og f6v e5n true (.mv (.t n21))) n29 n0),(dz (og f9b e5n true (.bin .eql (.t f6v) (k n7))) n30 n0),(dz (oq f3h (.pick (.t e5n) (.t f9b) (.c (.d (.bool false))))) n31 n0),(dz (om e6k f3h) n32 n0),(dz (og g1s e6k true (.mv (.t n23))) n33 n0),(dz (og f6r e6k true (.bin .eql (.t g1s) (k n7))) n34 n0),(dz (oq f8v (.pick (.t e6k) (.t f6r) (.c (.d (.bool false))))) n35 n0),(dz (om e6g f8v) n36 n0),(dz (og f3w e6g true (.mv (.t n25))) n37 n0),(dz (og f4b e6g true (.bin .eql (.t f3w) (k n3))) n38 n0),(dz (oq f9c (.pick (.t e6g) (.t f4b) (.c (.d (.bool false))))) n39 n0),(dz (om d9u f9c) n40 n0),(dz (og g0a d9u true (.load (some n3) (.t n33))) n41 n0),(dq (og f9l d9u true (.call (.c (.fn n36 [] [])) [(.t g0a)] .share)) n42 n0 [] [n41,n40,n39,n36,n38,n35,n32,n34,n31,n28,n30,n27,n24,n26,n23,n21,n19,n22,n18,n16,n14,n17,n13,n10,n12,n9,n6,n8,n5,n2,n4,n1,n0,n3,n7,n11,n15,n20,n25,n29,n33,n37] true false),(dq (og g2y d9u true (.call (.c (.fn n35 [] [])) [(.t f9l)] .borrow)) n43 n0 [] [n42,n40,n41,n39,n36,n38,n35,n32,n34,n31,n28,n30,n27,n24,n26,n23,n21,n19,n22,n18,n16,n14,n17,n13,n10,n12,n9,n6,n8,n5,n2,n4,n1,n0,n3,n7,n11,n15,n20,n25,n29,n33,n37] true false),(dz (og f4z d9u true (.bin .eql (.t g2y) (k n4))) n44 n0),(dz (oq f8f (.pick (.t d9u) (.t f4z) (.c (.d (.bool false))))) n45 n0),(dz (om d2o f8f) n46 n0),(dz (og g0s d2o true (.faddr n2 (.t n33))) n47 n0),(dz (og f5t d2o true (.load none (.t g0s))) n48 n0),(dz (og f7i d2o true (.iaddr n3 (.t f5t) (k n0))) n49 n0),(dz (og f4s d2o true (.load (some n3) (.t f7i))) n50 n0),(dq (og f3z d2o true (.call (.c (.fn n36 [] [])) [(.t f4s)] .share)) n51 n0 [] [n50,n46,n49,n48,n47,n45,n43,n40,n44,n39,n36,n38,n35,n32,n34,n31,n28,n30,n27,n24,n26,n23,n21,n19,n22,n18,n16,n14,n17,n13,n10,n12,n9,n6,n8,n5,n2,n4,n1,n0,n3,n7,n11,n15,n20,n25,n29,n33,n37,n42,n41] true false),(dq (og g2n d2o true (.call (.c (.fn n35 [] [])) [(.t f3z)] .borrow)) n52 n0 [] [n51,n46,n50,n49,n48,n47,n45,n43,n40,n44,n39,n36,n38,n35,n32,n34,n31,n28,n30,n27,n24,n26,n23,n21,n19,n22,n18,n16,n14,n17,n13,n10,n12,n9,n6,n8,n5,n2,n4,n1,n0,n3,n7,n11,n15,n20,n25,n29,n33,n37,n42,n41] true false),(dz (og f4l d2o true (.bin .eql (.t g2n) (k n0))) n53 n0),(dz (oq f3v (.pick (.t d2o) (.t f4l) (.c (.d (.bool false))))) n54 n0),(dz (om e3t f3v) n55 n0),(dq (og f4p e3t true (.load (some n13) (.t n1))) n56 n0 [] [] false true),(dq (og f5b e3t true (.call (.c (.fn n65 [] [])) [] .share)) n57 n0 [] [n55,n54,n52,n46,n53,n45,n43,n40,n44,n39,n36,n38,n35,n32,n34,n31,n28,n30,n27,n24,n26,n23,n21,n19,n22,n18,n16,n14,n17,n13,n10,n12,n9,n6,n8,n5,n2,n4,n1,n0,n3,n7,n11,n15,n20,n25,n29,n33,n37,n42,n41,n51,n50,n49,n48,n47] false false),(dq (og g1z e3t true (.call (.c (.fn n47 [] [])) [(.t f4p),(.t f5b)] .borrow)) n58 n0 [] [n56,n57,n55,n54,n52,n46,n53,n45,n43,n40,n44,n39,n36,n38,n35,n32,n34,n31,n28,n30,n27,n24,n26,n23,n21,n19,n22,n18,n16,n14,n17,n13,n10,n12,n9,n6,n8,n5,n2,n4,n1,n0,n3,n7,n11,n15,n20,n25,n29,n33,n37,n42,n41,n51,n50,n49,n48,n47] true false),(dz (oq g1q (.pick (.t e3t) (.t g1z) (.c (.d (.bool false))))) n59 n0),(dz (om d6y g1q) n60 n0),(dq (og f9u d6y true (.load (some n13) (.t n1))) n61 n0 [] [] false true),(dq (og f6n d6y true (.bslice n1 n3 [(.int .i64 (.l (i n0)))] [(n0,(k n0)),(n1,(k n1)),(n2,(k n2))] false)) n62 n0 [] [n60,n59,n58,n55,n54,n52,n46,n53,n45,n43,n40,n44,n39,n36,n38,n35,n32,n34,n31,n28,n30,n27,n24,n26,n23,n21,n19,n22,n18,n16,n14,n17,n13,n10,n12,n9,n6,n8,n5,n2,n4,n1,n0,n3,n7,n11,n15,n20,n25,n29,n33,n37,n42,n41,n51,n50,n49,n48,n47,n56,n57] false false),(dq (og f5p d6y true (.call (.c (.fn n66 [] [])) [(k n1),(.t f6n)] .share)) n63 n0 [] [n62,n60,n59,n58,n55,n54,n52,n46,n53,n45,n43,n40,n44,n39,n36,n38,n35,n32,n34,n31,n28,n30,n27,n24,n26,n23,n21,n19,n22,n18,n16,n14,n17,n13,n10,n12,n9,n6,n8,n5,n2,n4,n1,n0,n3,n7,n11,n15,n20,n25,n29,n33,n37,n42,n41,n51,n50,n49,n48,n47,n56,n57] false false),(dq (og f7g d6y true (.call (.c (.fn n47 [] [])) [(.t f9u),(.t f5p)] .borrow)) n64 n0 [] [n61,n63,n60,n59,n58,n55,n54,n52,n46,n53,n45,n43,n40,n44,n39,n36,n38,n35,n32,n34,n31,n28,n30,n27,n24,n26,n23,n21,n19,n22,n18,n16,n14,n17,n13,n10,n12,n9,n6,n8,n5,n2,n4,n1,n0,n3,n7,n11,n15,n20,n25,n29,n33,n37,n42,n41,n51,n50,n49,n48,n47,n56,n57,n62] true false),(dz (og f7e d6y true (.un .not (.t f7g))) n65 n0),(dz (oq f4e (.pick (.t d6y) (.t f7e) (.c (.d (.bool false))))) n66 n0),(dz (om e0i f4e) n67 n0),(dq (og f5c e0i true (.load (some n13) (.t n3))) n68 n0 [] [] false true),(dq (og f3y e0i true (.call (.c (.fn n65 [] [])) [] .share)) n69 n0 [] [n67,n66,n64,n60,n65,n59,n58,n55,n54,n52,n46,n53,n45,n43,n40,n44,n39,n36,n38,n35,n32,n34,n31,n28,n30,n27,n24,n26,n23,n21,n19,n22,n18,n16,n14,n17,n13,n10,n12,n9,n6,n8,n5,n2,n4,n1,n0,n3,n7,n11,n15,n20,n25,n29,n33,n37,n42,n41,n51,n50,n49,n48,n47,n56,n57,n61,n63,n62] false false),(dq (og f7r e0i true (.call (.c (.fn n47 [] [])) [(.t f5c),(.t f3y)] .borrow)) n70 n0 [] [n68,n69,n67,n66,n64,n60,n65,n59,n58,n55,n54,n52,n46,n53,n45,n43,n40,n44,n39,n36,n38,n35,n32,n34,n31,n28,n30,n27,n24,n26,n23,n21,n19,n22,n18,n16,n14,n17,n13,n10,n12,n9,n6,n8,n5,n2,n4,n1,n0,n3,n7,n11,n15,n20,n25,n29,n33,n37,n42,n41,n51,n50,n49,n48,n47,n56,n57,n61,n63,n62] true false),(dz (og f3u e0i true (.un .not (.t f7r))) n71 n0),(dz (oq g0m (.pick (.t e0i) (.t f3u) (.c (.d (.bool false))))) n72 n0),(dz (om d9w g0m) n73 n0),(dq (og f5m d9w true (.load (some n13) (.t n28))) n74 n0 [] [] false true),(dq (og f9d d9w true (.call (.c (.fn n67 [] [])) [] .share)) n75 n0 [] [n73,n72,n70,n67,n71,n66,n64,n60,n65,n59,n58,n55,n54,n52,n46,n53,n45,n43,n40,n44,n39,n36,n38,n35,n32,n34,n31,n28,n30,n27,n24,n26,n23,n21,n19,n22,n18,n16,n14,n17,n13,n10,n12,n9,n6,n8,n5,n2,n4,n1,n0,n3,n7,n11,n15,n20,n25,n29,n33,n37,n42,n41,n51,n50,n49,n48,n47,n56,n57,n61,n63,n62,n68,n69] false false),(dq (og g1u d9w true (.call (.c (.fn n47 [] [])) [(.t f5m),(.t f9d)] .borrow)) n76 n0 [] [n74,n75,n73,n72,n70,n67,n71,n66,n64,n60,n65,n59,n58,n55,n54,n52,n46,n53,n45,n43,n40,n44,n39,n36,n38,n35,n32,n34,n31,n28,n30,n27,n24,n26,n23,n21,n19,n22,n18,n16,n14,n17,n13,n10,n12,n9,n6,n8,n5,n2,n4,n1,n0,n3,n7,n11,n15,n20,n25,n29,n33,n37,n42,n41,n51,n50,n49,n48,n47,n56,n57,n61,n63,n62,n68,n69] true false),(dz (og f9m d9w true (.un .not (.t g1u))) n77 n0),(dz (oq g0t (.pick (.t d9w) (.t f9m) (.c (.d (.bool false))))) n78 n0),(dz (om e9o g0t) n79 n0),(dq (og f7p e9o true (.call (.c (.fn n19 [] [])) [] .borrow)) n80 n0 [] [n79,n78,n76,n73,n77,n72,n70,n67,n71,n66,n64,n60,n65,n59,n58,n55,n54,n52,n46,n53,n45,n43,n40,n44,n39,n36,n38,n35,n32,n34,n31,n28,n30,n27,n24,n26,n23,n21,n19,n22,n18,n16,n14,n17,n13,n10,n12,n9,n6,n8,n5,n2,n4,n1,n0,n3,n7,n11,n15,n20,n25,n29,n33,n37,n42,n41,n51,n50,n49,n48,n47,n56,n57,n61,n63,n62,n68,n69,n74,n75] true false),(dz (oq f7n (.pick (.t e9o) (.t f7p) (.c (.d (.bool false))))) n81 n0),(dz (om n0 f7n) n82 n0)])
 .ret))))))))))))))))))))))))))))))))
def x15:XFn:=⟨a15,g9x,[(.t n0)],c15⟩
def a19:Ann:=⟨[(n1,n1,n1),(n1,n2,n1),(n1,n3,n1),(n2,n1,n1),(n2,n2,n1),(n2,n3,n1),(n3,n1,n1),(n3,n2,n1),(n3,n3,n1),(n4,n1,n1),(n4,n2,n1),(n4,n3,n1),(n5,n1,n1),(n5,n2,n1),(n5,n3,n1),(n5,n5,n1),(n6,n1,n1),(n6,n2,n1),(n6,n3,n1),(n7,n1,n1),(n8,n8,n1),(n8,n9,n1),(n8,n10,n0),(n8,n22,n1),(n8,n24,n1),(n8,n25,n0),(n8,n34,n0),(n8,n45,n0),(n8,n50,n0),(n8,n59,n0),(n8,n68,n0),(n8,n73,n0),(n8,n77,n1),(n8,n78,n1),(n8,n79,n1),(n8,n80,n0)],[]⟩
def c19:a0c:=
 (.seq (.ops [(oq n0 (.mv (.c (.d (.bool false)))))])
 (.seq (.ops [(oq n19 (.bslice n1 n6 [(.int .i64 (.l (i n0)))] [(n0,(k n0)),(n1,(k n0)),(n2,(k n0)),(n3,(k n0)),(n4,(k n1)),(n5,(k n1))] false)),(oq n20 (.call (.c (.fn n64 [] [])) [(.t n19)] .share)),(oq n21 (.call (.c (.fn n63 [] [])) [(.t n20)] .share)),(oq n22 (.call (.c (.fn n20 [] [])) [(.t n21)] .share)),(om n18 n22),(oq n23 (.extract (.t n18) n0)),(oq n24 (.extract (.t n18) n1)),(oq n25 (.extract (.t n18) n2)),(oq n1 (.alloc [(.int .i64 (.l (i n0))),.nil,.nil])),⟨none,none,.store n3 (.t n1) (.t n23)⟩,(om n2 n24),(om n3 n25)])
 (.seq (.ops [(oq n27 (.bslice n1 n6 [(.int .i64 (.l (i n0)))] [(n0,(k n0)),(n1,(k n0)),(n2,(k n0)),(n3,(k n0)),(n4,(k n0)),(n5,(k n1))] false)),(oq n28 (.call (.c (.fn n64 [] [])) [(.t n27)] .share)),(oq n29 (.call (.c (.fn n63 [] [])) [(.t n28)] .share)),(oq n30 (.call (.c (.fn n20 [] [])) [(.t n29)] .share)),(om n26 n30),(oq n31 (.extract (.t n26) n0)),(oq n32 (.extract (.t n26) n1)),(oq n33 (.extract (.t n26) n2)),(oq n4 (.alloc [(.int .i64 (.l (i n0))),.nil,.nil])),⟨none,none,.store n3 (.t n4) (.t n31)⟩,(om n5 n32),(om n6 n33)])
 (.seq (.ops [(oq n35 (.bslice n1 n6 [(.int .i64 (.l (i n0)))] [(n0,(k n0)),(n1,(k n0)),(n2,(k n1)),(n3,(k n0)),(n4,(k n1)),(n5,(k n0))] false)),(oq n36 (.call (.c (.fn n64 [] [])) [(.t n35)] .share)),(oq n37 (.call (.c (.fn n63 [] [])) [(.t n36)] .share)),(oq n38 (.call (.c (.fn n28 [] [])) [(.t n37)] .share)),(om n34 n38),(oq n39 (.extract (.t n34) n0)),(oq n40 (.extract (.t n34) n1)),(om n7 n39),(om n8 n40)])
 (.seq (.ops [(oq n42 (.bslice n1 n6 [(.int .i64 (.l (i n0)))] [(n0,(k n0)),(n1,(k n0)),(n2,(k n0)),(n3,(k n0)),(n4,(k n0)),(n5,(k n1))] false)),(oq n43 (.call (.c (.fn n64 [] [])) [(.t n42)] .share)),(oq n44 (.call (.c (.fn n63 [] [])) [(.t n43)] .share)),(oq n45 (.call (.c (.fn n58 [] [])) [(.t n44),(k n2)] .share)),(om n41 n45),(oq n46 (.extract (.t n41) n0)),(oq n47 (.extract (.t n41) n1)),(oq n48 (.extract (.t n41) n2)),(om n9 n46),(om n10 n47),(om n11 n48)])
 (.seq (.ops [(oq n50 (.bslice n1 n6 [(.int .i64 (.l (i n0)))] [(n0,(k n0)),(n1,(k n0)),(n2,(k n0)),(n3,(k n0)),(n4,(k n1)),(n5,(k n1))] false)),(oq n51 (.call (.c (.fn n64 [] [])) [(.t n50)] .share)),(oq n52 (.call (.c (.fn n63 [] [])) [(.t n51)] .share)),(oq n53 (.call (.c (.fn n65 [] [])) [] .share)),(oq n54 (.bslice n1 n2 [(.int .i64 (.l (i n0)))] [(n0,(k n1)),(n1,(k n0))] false)),(oq n55 (.call (.c (.fn n38 [] [])) [(.t n52),(.t n53),(.t n54)] .share)),(om n49 n55),(oq n56 (.extract (.t n49) n0)),(oq n57 (.extract (.t n49) n1)),(om n12 n56),(om n13 n57)])
 (.seq (.ops [(oq n58 (.bslice n1 n6 [(.int .i64 (.l (i n0)))] [(n0,(k n0)),(n1,(k n0)),(n2,(k n1)),(n3,(k n0)),(n4,(k n1)),(n5,(k n0))] false)),(oq n59 (.call (.c (.fn n64 [] [])) [(.t n58)] .share)),(oq n60 (.call (.c (.fn n63 [] [])) [(.t n59)] .share)),(oq n61 (.call (.c (.fn n30 [] [])) [(.t n60),(k n1)] .share)),(oq n14 (.alloc [.nil,.nil,.nil,.nil,.nil,.nil,.nil,(.int .i64 (.l (i n0))),.nil,.nil,.nil,.nil,(.int .i64 (.l (i n0)))])),⟨none,none,.store n13 (.t n14) (.t n61)⟩])
 (.seq (.ops [(oq n63 (.load (some n13) (.t n14))),(oq n64 (.call (.c (.fn n31 [] [])) [(.t n63)] .share)),(om n62 n64),(oq n65 (.extract (.t n62) n0)),(oq n66 (.extract (.t n62) n1)),(oq n67 (.extract (.t n62) n2)),(om n15 n65),(om n16 n66),(om n17 n67)])
 (.seq (.ops [(om n68 n3),(oq n69 (.bin .eql (.t n68) (k n0))),(om n70 n69),(og n71 n70 true (.mv (.t n2))),(og n72 n70 true (.bin .eql (.t n71) (k n2))),(oq n73 (.pick (.t n70) (.t n72) (.c (.d (.bool false))))),(om n74 n73),(og n75 n74 true (.load (some n3) (.t n1))),(og n76 n74 true (.call (.c (.fn n36 [] [])) [(.t n75)] .share)),(og n77 n74 true (.call (.c (.fn n65 [] [])) [] .share)),(og n78 n74 true (.call (.c (.fn n25 [] [])) [(.t n76),(.t n77)] .borrow)),(oq n79 (.pick (.t n74) (.t n78) (.c (.d (.bool false))))),(om n80 n79),(og n81 n80 true (.mv (.t n6))),(og n82 n80 true (.bin .eql (.t n81) (k n0))),(oq n83 (.pick (.t n80) (.t n82) (.c (.d (.bool false))))),(om n84 n83),(og n85 n84 true (.mv (.t n5))),(og n86 n84 true (.bin .eql (.t n85) (k n1))),(oq n87 (.pick (.t n84) (.t n86) (.c (.d (.bool false))))),(om n88 n87),(og n89 n88 true (.load (some n3) (.t n4))),(og n90 n88 true (.call (.c (.fn n36 [] [])) [(.t n89)] .share)),(og n91 n88 true (.bslice n1 n2 [(.int .i64 (.l (i n0)))] [(n0,(k n0)),(n1,(k n7))] false)),(og n92 n88 true (.call (.c (.fn n66 [] [])) [(k n2),(.t n91)] .share)),(og n93 n88 true (.call (.c (.fn n25 [] [])) [(.t n90),(.t n92)] .borrow)),(oq n94 (.pick (.t n88) (.t n93) (.c (.d (.bool false))))),(om n95 n94),(og n96 n95 true (.mv (.t n8))),(og n97 n95 true (.bin .eql (.t n96) (k n0))),(oq n98 (.pick (.t n95) (.t n97) (.c (.d (.bool false))))),(om n99 n98),(og c1w n99 true (.mv (.t n7))),(og b9n n99 true (.bslice n1 n3 [(.int .i64 (.l (i n0)))] [(n0,(.c (.d (.int .i64 (.l (.negSucc n0)))))),(n1,(.c (.d (.int .i64 (.l (.negSucc n0)))))),(n2,(k n0))] false)),(og c2d n99 true (.call (.c (.fn n33 [] [])) [(.t c1w),(.t b9n)] .borrow)),(oq b8s (.pick (.t n99) (.t c2d) (.c (.d (.bool false))))),(om b0g b8s),(og b9l b0g true (.mv (.t n11))),(og c1v b0g true (.bin .eql (.t b9l) (k n0))),(oq b3k (.pick (.t b0g) (.t c1v) (.c (.d (.bool false))))),(om a9u b3k),(og b7w a9u true (.mv (.t n9))),(og b8f a9u true (.build [(.int .u8 (.l (i n0))),(.int .i64 (.l (i n0)))] [])),(og c2p a9u true (.build [(.int .u8 (.l (i n0))),(.int .i64 (.l (i n0)))] [(n1,n1,(k n7))])),(og b8v a9u true (.bslice n2 n2 [(.int .u8 (.l (i n0))),(.int .i64 (.l (i n0)))] [(n0,(.t b8f)),(n1,(.t c2p))] false)),(og c3o a9u true (.call (.c (.fn n62 [] [])) [(.t b7w),(.t b8v)] .borrow)),(oq c3g (.pick (.t a9u) (.t c3o) (.c (.d (.bool false))))),(om b4y c3g),(og c1y b4y true (.mv (.t n10))),(og c3q b4y true (.bslice n1 n2 [(.int .i64 (.l (i n0)))] [(n0,(k n5)),(n1,(k n1))] false)),(og b1a b4y true (.call (.c (.fn n33 [] [])) [(.t c1y),(.t c3q)] .borrow)),(oq b2v (.pick (.t b4y) (.t b1a) (.c (.d (.bool false))))),(om b8r b2v),(og c3u b8r true (.mv (.t n13))),(og c1h b8r true (.bin .eql (.t c3u) (k n0))),(oq c3f (.pick (.t b8r) (.t c1h) (.c (.d (.bool false))))),(om b8e c3f),(og c6b b8e true (.mv (.t n12))),(og d0w b8e true (.bslice n1 n2 [(.int .i64 (.l (i n0)))] [(n0,(k n0)),(n1,(k n1))] false)),(og d0x b8e true (.call (.c (.fn n33 [] [])) [(.t c6b),(.t d0w)] .borrow)),(oq d0z (.pick (.t b8e) (.t d0x) (.c (.d (.bool false))))),(om c3l d0z),(og c1j c3l true (.mv (.t n17))),(og c5d c3l true (.bin .eql (.t c1j) (k n0))),(oq c5o (.pick (.t c3l) (.t c5d) (.c (.d (.bool false))))),(om b4f c5o),(og d0n b4f true (.mv (.t n15))),(og d0t b4f true (.bslice n1 n2 [(.int .i64 (.l (i n0)))] [(n0,(k n0)),(n1,(k n0))] false)),(og d1a b4f true (.call (.c (.fn n33 [] [])) [(.t d0n),(.t d0t)] .borrow)),(oq d0u (.pick (.t b4f) (.t d1a) (.c (.d (.bool false))))),(om b8c d0u),(og d4v b8c true (.mv (.t n16))),(og d6b b8c true (.bslice n1 n2 [(.int .i64 (.l (i n0)))] [(n0,(k n0)),(n1,(k n2))] false)),(og d1l b8c true (.call (.c (.fn n33 [] [])) [(.t d4v),(.t d6b)] .borrow)),(oq d3x (.pick (.t b8c) (.t d1l) (.c (.d (.bool false))))),(om c7z d3x),(og c5y c7z true (.bslice n1 n6 [(.int .i64 (.l (i n0)))] [(n0,(k n0)),(n1,(k n0)),(n2,(k n0)),(n3,(k n0)),(n4,(k n1)),(n5,(k n1))] false)),(og d5e c7z true (.call (.c (.fn n64 [] [])) [(.t c5y)] .share)),(og d6v c7z true (.call (.c (.fn n63 [] [])) [(.t d5e)] .share)),(og d5a c7z true (.call (.c (.fn n65 [] [])) [] .share)),(og d8x c7z true (.call (.c (.fn n47 [] [])) [(.t d6v),(.t d5a)] .borrow)),(oq d9j (.pick (.t c7z) (.t d8x) (.c (.d (.bool false))))),(om n0 d9j)])
 .ret)))))))))
def x19:XFn:=⟨a19,e2f,[(.t n0)],c19⟩
def a20:Ann:=⟨[(n1,n2,n1),(n1,n5,n1),(n1,n8,n1),(n1,n11,n1),(n1,n14,n1),(n1,n15,n1)],[]⟩
def c20:a0c:=
 (.seq (.ops [(oq n1 (.box (.t n0))),(oq n2 (.alloc [(.int .i64 (.l (i n0))),.nil,.nil])),(oq n3 (.mv (k n0))),(oq n4 (.mv (k n0)))])
 (.seq (.draw n0 [(dz (of n5 n0 n1) n0 n0),(dq (of n8 n1 n1) n3 n0 [] [] false true),(dq (of n11 n2 n1) n6 n0 [] [] false true),(dq (of n14 n3 n1) n9 n0 [] [] false true),(dq (of n17 n8 n1) n12 n0 [] [] false true),(dz (ol n6 n5) n1 n0),(dq (ol n9 n8) n4 n0 [] [] false true),(dq (ol n12 n11) n7 n0 [] [] false true),(dq (oq n15 (.load (some n5) (.t n14))) n10 n0 [] [] false true),(dq (oq n18 (.load (some n5) (.t n17))) n13 n0 [] [] false true),(dq (oq n7 (.call (.c (.fn n74 [] [])) [(.t n6)] .share)) n2 n0 [] [n1,n0] false false),(dq (oq n10 (.call (.c (.fn n74 [] [])) [(.t n9)] .share)) n5 n0 [] [n4,n2,n3,n1,n0] false false),(dq (oq n13 (.call (.c (.fn n75 [] [])) [(.t n12)] .share)) n8 n0 [] [n7,n5,n6,n4,n2,n3,n1,n0] false false),(dq (oq n16 (.call (.c (.fn n70 [] [])) [(.t n15)] .share)) n11 n0 [] [n10,n8,n9,n7,n5,n6,n4,n2,n3,n1,n0] false false),(dq (oq n19 (.call (.c (.fn n70 [] [])) [(.t n18)] .share)) n14 n0 [] [n13,n11,n12,n10,n8,n9,n7,n5,n6,n4,n2,n3,n1,n0] true false),(dq (oq n20 (.call (.c (.fn n73 [] [])) [(.t n7),(.t n10),(.t n13),(.t n16),(.t n19)] .share)) n15 n0 [] [n2,n5,n8,n11,n14,n1,n0,n4,n3,n7,n6,n10,n9,n13,n12] true false),(dz (oq n21 (.extract (.t n20) n0)) n16 n0),(dz (oq n22 (.extract (.t n20) n1)) n17 n0),(dz (oq n23 (.extract (.t n20) n2)) n18 n0),⟨⟨none,none,.store n3 (.t n2) (.t n21)⟩,n19,n0,[],[n16,n15,n0,n1,n2,n3,n4,n5,n6,n7,n8,n9,n10,n11,n12,n13,n14,n17,n18],true,false⟩,(dz (om n3 n22) n20 n0),(dz (om n4 n23) n21 n0)])
 .ret))
def x20:XFn:=⟨a20,n24,[(.c n2 (some n3)),(.t n3),(.t n4)],c20⟩
def a25:Ann:=⟨[(n1,n10,n0),(n6,n10,n0)],[]⟩
def c25:a0c:=
 (.seq (.ops [(oq n2 (.box (.t n0))),(oq n3 (.box (.t n1))),(oq n4 (.mv (.c (.d (.bool false)))))])
 (.seq (.seq (.ops [(of n6 n0 n2),(ol n7 n6),(of n8 n0 n3),(ol n9 n8),(oq n10 (.bin .neq (.t n7) (.t n9))),(om n11 n10),(og n12 n11 false (.faddr n1 (.t n2))),(og n13 n11 false (.load none (.t n12))),(og n14 n11 false (.faddr n1 (.t n3))),(og n15 n11 false (.load none (.t n14))),(og n16 n11 false (.call (.c (.fn n62 [] [])) [(.t n13),(.t n15)] .borrow)),(og n17 n11 false (.un .not (.t n16))),(oq n18 (.pick (.t n11) (.c (.d (.bool true))) (.t n17))),(om n19 n18),(og n20 n19 false (.faddr n2 (.t n2))),(og n21 n19 false (.load none (.t n20))),(og n22 n19 false (.len (.t n21))),(og n23 n19 false (.faddr n2 (.t n3))),(og n24 n19 false (.load none (.t n23))),(og n25 n19 false (.len (.t n24))),(og n26 n19 false (.bin .neq (.t n22) (.t n25))),(oq n27 (.pick (.t n19) (.c (.d (.bool true))) (.t n26)))])
 (.cond (.t n27) (.seq (.ops [(oq n4 (.mv (.c (.d (.bool false)))))])
 .ret)
 .skip))
 (.seq (.seq (.ops [(oq n5 (.mv (k n0)))])
 (.block n0 (.loop (.seq (.seq (.ops [(om n28 n5),(of n29 n2 n2),(ol n30 n29),(oq n31 (.len (.t n30))),(oq n32 (.bin .lss (.t n28) (.t n31)))])
 (.cond (.t n32) .skip
 (.exit n0)))
 (.seq (.block n1 (.seq (.draw n0 [(dz (of n35 n2 n2) n0 n0),(dz (om n37 n5) n2 n0),(dz (of n40 n2 n3) n5 n0),(dz (om n42 n5) n7 n0),(dz (ol n36 n35) n1 n0),(dz (oq n38 (.iaddr n3 (.t n36) (.t n37))) n3 n0),(dz (oq n39 (.load (some n3) (.t n38))) n4 n0),(dz (ol n41 n40) n6 n0),(dz (oq n43 (.iaddr n3 (.t n41) (.t n42))) n8 n0),(dz (oq n44 (.load (some n3) (.t n43))) n9 n0),(dq (oq n45 (.call (.c (.fn n25 [] [])) [(.t n39),(.t n44)] .borrow)) n10 n0 [] [n4,n9,n3,n1,n2,n0,n8,n6,n7,n5] true false),(dz (oq n46 (.un .not (.t n45))) n11 n0)])
 (.cond (.t n46) (.seq (.ops [(oq n4 (.mv (.c (.d (.bool false)))))])
 .ret)
 .skip)))
 (.ops [(om n33 n5),(oq n34 (.bin .add (.t n33) (k n1))),(om n5 n34)]))))))
 (.seq (.ops [(oq n4 (.mv (.c (.d (.bool true)))))])
 .ret))))
def x25:XFn:=⟨a25,n47,[(.t n4)],c25⟩
def a28:Ann:=⟨[(n1,n2,n1),(n1,n5,n1),(n1,n8,n1),(n1,n11,n1),(n1,n14,n1),(n1,n15,n1)],[]⟩
def c28:a0c:=
 (.seq (.ops [(oq n1 (.box (.t n0))),(oq n2 (.mv (.c (.d .nil)))),(oq n3 (.mv (k n0)))])
 (.seq (.draw n0 [(dz (of n4 n0 n1) n0 n0),(dq (of n7 n1 n1) n3 n0 [] [] false true),(dq (of n10 n2 n1) n6 n0 [] [] false true),(dq (of n13 n3 n1) n9 n0 [] [] false true),(dq (of n16 n8 n1) n12 n0 [] [] false true),(dz (ol n5 n4) n1 n0),(dq (ol n8 n7) n4 n0 [] [] false true),(dq (ol n11 n10) n7 n0 [] [] false true),(dq (oq n14 (.load (some n5) (.t n13))) n10 n0 [] [] false true),(dq (oq n17 (.load (some n5) (.t n16))) n13 n0 [] [] false true),(dq (oq n6 (.call (.c (.fn n74 [] [])) [(.t n5)] .share)) n2 n0 [] [n1,n0] false false),(dq (oq n9 (.call (.c (.fn n74 [] [])) [(.t n8)] .share)) n5 n0 [] [n4,n2,n3,n1,n0] false false),(dq (oq n12 (.call (.c (.fn n75 [] [])) [(.t n11)] .share)) n8 n0 [] [n7,n5,n6,n4,n2,n3,n1,n0] false false),(dq (oq n15 (.call (.c (.fn n70 [] [])) [(.t n14)] .share)) n11 n0 [] [n10,n8,n9,n7,n5,n6,n4,n2,n3,n1,n0] false false),(dq (oq n18 (.call (.c (.fn n70 [] [])) [(.t n17)] .share)) n14 n0 [] [n13,n11,n12,n10,n8,n9,n7,n5,n6,n4,n2,n3,n1,n0] true false),(dq (oq n19 (.call (.c (.fn n80 [] [])) [(.t n6),(.t n9),(.t n12),(.t n15),(.t n18)] .share)) n15 n0 [] [n2,n5,n8,n11,n14,n1,n0,n4,n3,n7,n6,n10,n9,n13,n12] true false),(dz (oq n20 (.extract (.t n19) n0)) n16 n0),(dz (oq n21 (.extract (.t n19) n1)) n17 n0),(dz (om n2 n20) n18 n0),(dz (om n3 n21) n19 n0)])
 .ret))
def x28:XFn:=⟨a28,n22,[(.t n2),(.t n3)],c28⟩
def a30:Ann:=⟨[(n1,n0,n2),(n1,n5,n3),(n1,n11,n3)],[]⟩
def c30:a0c:=
 (.seq (.ops [(oq n2 (.box (.t n0))),(oq n4 (.alloc [.nil,.nil,.nil,.nil,.nil,.nil,.nil,(.int .i64 (.l (i n0))),.nil,.nil,.nil,.nil,(.int .i64 (.l (i n0)))]))])
 (.seq (.draw n0 [(dz (oq n5 (.bslice0 n5)) n0 n0),(dz (of n6 n2 n2) n1 n0),(dz (om n8 n1) n3 n0),(dq (of n11 n2 n2) n6 n0 [] [] false true),(dq (om n13 n1) n8 n0 [] [] false true),(dq (oq n14 (.bin .add (.t n13) (k n1))) n9 n0 [] [] false true),(dz (ol n7 n6) n2 n0),(dz (oq n9 (.slice n5 (.t n7) none (some (.t n8)) none)) n4 n0),(dq (ol n12 n11) n7 n0 [] [] false true),(dq (oq n15 (.slice n5 (.t n12) (some (.t n14)) none none)) n10 n0 [] [] false true),(dq (oq n10 (.appendN n5 b0g (.t n5) (.t n9) true)) n5 n0 [] [n0,n4,n2,n3,n1] false false),(dq (oq n16 (.appendN n5 b0g (.t n10) (.t n15) true)) n11 n0 [] [n5,n10,n0,n4,n2,n3,n1,n7,n9,n6,n8] true false),(dz (of n17 n2 n2) n12 n0),⟨⟨none,none,.store n1 (.t n17) (.t n16)⟩,n13,n0,[],[n12,n11,n0,n1,n2,n3,n4,n5,n6,n7,n8,n9,n10],true,false⟩])
 (.seq (.ops [(oq n18 (.load (some n13) (.t n2))),⟨none,none,.store n13 (.t n4) (.t n18)⟩])
 .ret)))
def x30:XFn:=⟨a30,n19,[(.c n4 (some n13))],c30⟩
def a31:Ann:=⟨[(n1,n2,n1),(n1,n5,n1),(n1,n8,n1),(n1,n11,n1),(n1,n14,n1),(n1,n15,n1)],[]⟩
def c31:a0c:=
 (.seq (.ops [(oq n1 (.box (.t n0))),(oq n2 (.mv (.c (.d .nil)))),(oq n3 (.mv (.c (.d .nil)))),(oq n4 (.mv (k n0)))])
 (.seq (.draw n0 [(dz (of n5 n0 n1) n0 n0),(dq (of n8 n1 n1) n3 n0 [] [] false true),(dq (of n11 n2 n1) n6 n0 [] [] false true),(dq (of n14 n3 n1) n9 n0 [] [] false true),(dq (of n17 n8 n1) n12 n0 [] [] false true),(dz (ol n6 n5) n1 n0),(dq (ol n9 n8) n4 n0 [] [] false true),(dq (ol n12 n11) n7 n0 [] [] false true),(dq (oq n15 (.load (some n5) (.t n14))) n10 n0 [] [] false true),(dq (oq n18 (.load (some n5) (.t n17))) n13 n0 [] [] false true),(dq (oq n7 (.call (.c (.fn n74 [] [])) [(.t n6)] .share)) n2 n0 [] [n1,n0] false false),(dq (oq n10 (.call (.c (.fn n74 [] [])) [(.t n9)] .share)) n5 n0 [] [n4,n2,n3,n1,n0] false false),(dq (oq n13 (.call (.c (.fn n75 [] [])) [(.t n12)] .share)) n8 n0 [] [n7,n5,n6,n4,n2,n3,n1,n0] false false),(dq (oq n16 (.call (.c (.fn n70 [] [])) [(.t n15)] .share)) n11 n0 [] [n10,n8,n9,n7,n5,n6,n4,n2,n3,n1,n0] false false),(dq (oq n19 (.call (.c (.fn n70 [] [])) [(.t n18)] .share)) n14 n0 [] [n13,n11,n12,n10,n8,n9,n7,n5,n6,n4,n2,n3,n1,n0] true false),(dq (oq n20 (.call (.c (.fn n81 [] [])) [(.t n7),(.t n10),(.t n13),(.t n16),(.t n19)] .share)) n15 n0 [] [n2,n5,n8,n11,n14,n1,n0,n4,n3,n7,n6,n10,n9,n13,n12] true false),(dz (oq n21 (.extract (.t n20) n0)) n16 n0),(dz (oq n22 (.extract (.t n20) n1)) n17 n0),(dz (oq n23 (.extract (.t n20) n2)) n18 n0),(dz (om n2 n21) n19 n0),(dz (om n3 n22) n20 n0),(dz (om n4 n23) n21 n0)])
 .ret))
def x31:XFn:=⟨a31,n24,[(.t n2),(.t n3),(.t n4)],c31⟩
def a33:Ann:=⟨[],[]⟩
def c33:a0c:=
 (.seq (.ops [(oq n4 (.mv (.c (.d (.bool false)))))])
 (.seq (.seq (.ops [(om n6 n0),(oq n7 (.len (.t n6))),(om n8 n1),(oq n9 (.len (.t n8))),(oq n10 (.bin .neq (.t n7) (.t n9)))])
 (.cond (.t n10) (.seq (.ops [(oq n4 (.mv (.c (.d (.bool false)))))])
 .ret)
 .skip))
 (.seq (.seq (.ops [(oq n5 (.mv (k n0)))])
 (.block n0 (.loop (.seq (.seq (.ops [(om n11 n5),(om n12 n0),(oq n13 (.len (.t n12))),(oq n14 (.bin .lss (.t n11) (.t n13)))])
 (.cond (.t n14) .skip
 (.exit n0)))
 (.seq (.block n1 (.seq (.draw n0 [(dz (om n17 n0) n0 n0),(dz (om n18 n5) n1 n0),(dz (oq n19 (.iaddr n1 (.t n17) (.t n18))) n2 n0),(dz (om n21 n1) n4 n0),(dz (om n22 n5) n5 n0),(dz (oq n23 (.iaddr n1 (.t n21) (.t n22))) n6 n0),(dz (ol n20 n19) n3 n0),(dz (ol n24 n23) n7 n0),(dz (oq n25 (.bin .neq (.t n20) (.t n24))) n8 n0)])
 (.cond (.t n25) (.seq (.ops [(oq n4 (.mv (.c (.d (.bool false)))))])
 .ret)
 .skip)))
 (.ops [(om n15 n5),(oq n16 (.bin .add (.t n15) (k n1))),(om n5 n16)]))))))
 (.seq (.ops [(oq n4 (.mv (.c (.d (.bool true)))))])
 .ret))))
def x33:XFn:=⟨a33,n26,[(.t n4)],c33⟩
def a35:Ann:=⟨[(n1,n1,n0)],[]⟩
def c35:a0c:=
 (.seq (.ops [(oq n1 (.box (.t n0))),(oq n2 (.mv (k n0)))])
 (.seq (.ops [(oq n6 (.load (some n3) (.t n1))),(oq n7 (.call (.c (.fn n37 [] [])) [(.t n6)] .borrow)),(om n5 n7),(oq n8 (.extract (.t n5) n0)),(oq n9 (.extract (.t n5) n1)),(om n3 n8),(om n4 n9)])
 (.seq (.ops [(om n10 n4),(om n2 n10)])
 .ret)))
def x35:XFn:=⟨a35,n11,[(.t n2)],c35⟩
def a36:Ann:=⟨[(n1,n1,n1)],[]⟩
def c36:a0c:=
 (.seq (.ops [(oq n1 (.box (.t n0))),(oq n2 (.alloc [(.int .i64 (.l (i n0))),.nil,.nil]))])
 (.seq (.ops [(oq n3 (.load (some n3) (.t n1))),(oq n4 (.call (.c (.fn n82 [] [])) [(.t n3),(k n6)] .share)),⟨none,none,.store n3 (.t n2) (.t n4)⟩])
 .ret))
def x36:XFn:=⟨a36,n5,[(.c n2 (some n3))],c36⟩
def a37:Ann:=⟨[(n1,n2,n0)],[]⟩
def c37:a0c:=
 (.seq (.ops [(oq n1 (.box (.t n0))),(oq n2 (.mv (k n0))),(oq n3 (.mv (k n0)))])
 (.seq (.ops [(oq n7 (.load (some n3) (.t n1))),(oq n8 (.build [(.int .i64 (.l (i n0))),.nil,.nil] [(n0,n3,(.t n7))])),(oq n9 (.call (.c (.fn n83 [] [])) [(.t n8),(k n4)] .borrow)),(om n6 n9),(oq n10 (.extract (.t n6) n0)),(oq n11 (.extract (.t n6) n1)),(om n4 n10),(om n5 n11)])
 (.seq (.seq (.ops [(om n12 n5),(oq n13 (.un .not (.t n12)))])
 (.cond (.t n13) (.seq (.ops [(oq n2 (.mv (k n0))),(oq n3 (.mv (k n4)))])
 .ret)
 .skip))
 (.seq (.ops [(om n14 n4),(om n2 n14),(oq n3 (.mv (k n0)))])
 .ret))))
def x37:XFn:=⟨a37,n15,[(.t n2),(.t n3)],c37⟩
def a38:Ann:=⟨[(n1,n1,n1),(n1,n4,n1),(n1,n7,n1),(n1,n10,n1),(n1,n12,n1),(n1,n13,n1)],[]⟩
def c38:a0c:=
 (.seq (.ops [(oq n3 (.box (.t n0))),(oq n4 (.box (.t n1))),(oq n6 (.mv (.c (.d .nil)))),(oq n7 (.mv (k n0)))])
 (.seq (.draw n0 [(dq (of n10 n0 n3) n2 n0 [] [] false true),(dq (of n13 n1 n3) n5 n0 [] [] false true),(dq (of n16 n2 n3) n8 n0 [] [] false true),(dq (om n19 n2) n11 n0 [] [] false true),(dz (oq n8 (.load (some n3) (.t n4))) n0 n0),(dq (ol n11 n10) n3 n0 [] [] false true),(dq (ol n14 n13) n6 n0 [] [] false true),(dq (ol n17 n16) n9 n0 [] [] false true),(dq (oq n9 (.call (.c (.fn n36 [] [])) [(.t n8)] .share)) n1 n0 [] [n0] false false),(dq (oq n12 (.call (.c (.fn n74 [] [])) [(.t n11)] .share)) n4 n0 [] [n3,n1,n2,n0] false false),(dq (oq n15 (.call (.c (.fn n74 [] [])) [(.t n14)] .share)) n7 n0 [] [n6,n4,n5,n3,n1,n2,n0] false false),(dq (oq n18 (.call (.c (.fn n75 [] [])) [(.t n17)] .share)) n10 n0 [] [n9,n7,n8,n6,n4,n5,n3,n1,n2,n0] false false),(dq (oq n20 (.call (.c (.fn n74 [] [])) [(.t n19)] .share)) n12 n0 [] [n11,n10,n9,n7,n8,n6,n4,n5,n3,n1,n2,n0] true false),(dq (oq n21 (.call (.c (.fn n84 [] [])) [(.t n9),(.t n12),(.t n15),(.t n18),(.t n20)] .share)) n13 n0 [] [n1,n4,n7,n10,n12,n0,n3,n2,n6,n5,n9,n8,n11] true false),(dz (oq n22 (.extract (.t n21) n0)) n14 n0),(dz (oq n23 (.extract (.t n21) n1)) n15 n0),(dz (om n6 n22) n16 n0),(dz (om n7 n23) n17 n0)])
 .ret))
def x38:XFn:=⟨a38,n24,[(.t n6),(.t n7)],c38⟩
def a40:Ann:=⟨[(n1,n1,n0),(n1,n3,n0),(n2,n5,n2)],[]⟩
def c40:a0c:=
 (.seq (.ops [(oq n6 (.alloc [.nil,.nil,.nil,.nil,(.int .i64 (.l (i n0)))]))])
 (.seq (.ops [(om n8 n0),(oq n9 (.append n1 n8 (.c (.d .nil)) (.t n8) false)),(om n10 n1),(oq n11 (.append n1 n8 (.c (.d .nil)) (.t n10) false)),(oq n12 (.build [.nil,.nil,.nil,.nil,(.int .i64 (.l (i n0)))] [(n0,n1,(.t n9)),(n1,n1,(.t n11))])),(oq n7 (.alloc [.nil,.nil,.nil,.nil,(.int .i64 (.l (i n0)))])),⟨none,none,.store n5 (.t n7) (.t n12)⟩])
 (.seq (.draw n1 [(dz (om n15 n2) n1 n0),(dz (om n16 n0) n2 n0),(dz (oq n17 (.len (.t n16))) n3 n0),(dq (oq n14 (.load (some n5) (.t n7))) n0 n0 [n0] [] false false),(dz (oq n18 (.mkslice n1 [(.int .i64 (.l (i n0)))] n8 (.t n17))) n4 n0),(dq (oq n19 (.call (.c (.fn n88 [] [])) [(.t n14),(.t n15),(k n0),(.t n18)] .raw)) n5 n1 [] [n0,n1,n4,n3,n2] true false),(dz (om n13 n19) n6 n1),(dz (oq n20 (.extract (.t n13) n0)) n7 n1),(dq (oq n21 (.extract (.t n13) n1)) n8 n1 [] [] false true),⟨⟨none,none,.store n5 (.t n7) (.t n20)⟩,n9,n1,[],[n7,n5,n0,n1,n2,n3,n4,n6],false,false⟩,(dz (of n22 n4 n7) n10 n1),⟨⟨none,none,.store n1 (.t n22) (.t n21)⟩,n11,n1,[],[n10,n8,n9,n0,n1,n2,n3,n4,n5,n6,n7],true,false⟩])
 (.seq (.ops [(oq n23 (.load (some n5) (.t n7))),⟨none,none,.store n5 (.t n6) (.t n23)⟩])
 .ret))))
def x40:XFn:=⟨a40,n24,[(.c n6 (some n5))],c40⟩
def a45:Ann:=⟨[],[]⟩
def c45:a0c:=
 (.seq (.ops [(oq n4 (.mv (k n0)))])
 (.seq (.ops [(oq n5 (.mv (k n0)))])
 (.seq (.seq (.ops [(oq n6 (.mv (k n0)))])
 (.block n0 (.loop (.seq (.seq (.ops [(om n7 n6),(om n8 n0),(oq n9 (.len (.t n8))),(oq n10 (.bin .lss (.t n7) (.t n9)))])
 (.cond (.t n10) .skip
 (.exit n0)))
 (.seq (.block n1 (.draw n0 [(dz (om n13 n5) n0 n0),(dz (om n14 n0) n1 n0),(dz (om n15 n6) n2 n0),(dz (oq n16 (.iaddr n1 (.t n14) (.t n15))) n3 n0),(dz (om n19 n1) n6 n0),(dz (om n20 n6) n7 n0),(dz (oq n21 (.iaddr n1 (.t n19) (.t n20))) n8 n0),(dz (ol n17 n16) n4 n0),(dz (oq n18 (.bin .mul (.t n13) (.t n17))) n5 n0),(dz (ol n22 n21) n9 n0),(dz (oq n23 (.bin .add (.t n18) (.t n22))) n10 n0),(dz (om n5 n23) n11 n0)]))
 (.ops [(om n11 n6),(oq n12 (.bin .add (.t n11) (k n1))),(om n6 n12)]))))))
 (.seq (.ops [(om n24 n5),(om n4 n24)])
 .ret))))
def x45:XFn:=⟨a45,n25,[(.t n4)],c45⟩
def a47:Ann:=⟨[(n1,n1,n1),(n1,n4,n1),(n1,n7,n1),(n1,n10,n1),(n1,n13,n1),(n1,n16,n1),(n1,n17,n0)],[]⟩
def c47:a0c:=
 (.seq (.ops [(oq n2 (.box (.t n0))),(oq n3 (.box (.t n1))),(oq n4 (.mv (.c (.d (.bool false)))))])
 (.seq (.draw n0 [(dq (of n7 n0 n2) n2 n0 [] [] false true),(dq (of n10 n1 n2) n5 n0 [] [] false true),(dq (of n13 n2 n2) n8 n0 [] [] false true),(dq (of n16 n3 n2) n11 n0 [] [] false true),(dq (of n19 n8 n2) n14 n0 [] [] false true),(dz (oq n5 (.load (some n3) (.t n3))) n0 n0),(dq (ol n8 n7) n3 n0 [] [] false true),(dq (ol n11 n10) n6 n0 [] [] false true),(dq (ol n14 n13) n9 n0 [] [] false true),(dq (oq n17 (.load (some n5) (.t n16))) n12 n0 [] [] false true),(dq (oq n20 (.load (some n5) (.t n19))) n15 n0 [] [] false true),(dq (oq n6 (.call (.c (.fn n36 [] [])) [(.t n5)] .share)) n1 n0 [] [n0] false false),(dq (oq n9 (.call (.c (.fn n74 [] [])) [(.t n8)] .share)) n4 n0 [] [n3,n1,n2,n0] false false),(dq (oq n12 (.call (.c (.fn n74 [] [])) [(.t n11)] .share)) n7 n0 [] [n6,n4,n5,n3,n1,n2,n0] false false),(dq (oq n15 (.call (.c (.fn n75 [] [])) [(.t n14)] .share)) n10 n0 [] [n9,n7,n8,n6,n4,n5,n3,n1,n2,n0] false false),(dq (oq n18 (.call (.c (.fn n70 [] [])) [(.t n17)] .share)) n13 n0 [] [n12,n10,n11,n9,n7,n8,n6,n4,n5,n3,n1,n2,n0] false false),(dq (oq n21 (.call (.c (.fn n70 [] [])) [(.t n20)] .share)) n16 n0 [] [n15,n13,n14,n12,n10,n11,n9,n7,n8,n6,n4,n5,n3,n1,n2,n0] true false),(dq (oq n22 (.call (.c (.fn n89 [] [])) [(.t n6),(.t n9),(.t n12),(.t n15),(.t n18),(.t n21)] .borrow)) n17 n0 [] [n1,n4,n7,n10,n13,n16,n0,n3,n2,n6,n5,n9,n8,n12,n11,n15,n14] true false),(dz (om n4 n22) n18 n0)])
 .ret))
def x47:XFn:=⟨a47,n23,[(.t n4)],c47⟩
def a57:Ann:=⟨[(n1,n2,n1),(n1,n5,n1),(n1,n8,n1),(n1,n11,n1),(n1,n14,n1),(n1,n15,n0)],[]⟩
def c57:a0c:=
 (.seq (.ops [(oq n1 (.box (.t n0))),(oq n2 (.mv (.c (.d (.bool false))))),(oq n3 (.mv (k n0)))])
 (.seq (.draw n0 [(dz (of n4 n0 n1) n0 n0),(dq (of n7 n1 n1) n3 n0 [] [] false true),(dq (of n10 n2 n1) n6 n0 [] [] false true),(dq (of n13 n3 n1) n9 n0 [] [] false true),(dq (of n16 n8 n1) n12 n0 [] [] false true),(dz (ol n5 n4) n1 n0),(dq (ol n8 n7) n4 n0 [] [] false true),(dq (ol n11 n10) n7 n0 [] [] false true),(dq (oq n14 (.load (some n5) (.t n13))) n10 n0 [] [] false true),(dq (oq n17 (.load (some n5) (.t n16))) n13 n0 [] [] false true),(dq (oq n6 (.call (.c (.fn n74 [] [])) [(.t n5)] .share)) n2 n0 [] [n1,n0] false false),(dq (oq n9 (.call (.c (.fn n74 [] [])) [(.t n8)] .share)) n5 n0 [] [n4,n2,n3,n1,n0] false false),(dq (oq n12 (.call (.c (.fn n75 [] [])) [(.t n11)] .share)) n8 n0 [] [n7,n5,n6,n4,n2,n3,n1,n0] false false),(dq (oq n15 (.call (.c (.fn n70 [] [])) [(.t n14)] .share)) n11 n0 [] [n10,n8,n9,n7,n5,n6,n4,n2,n3,n1,n0] false false),(dq (oq n18 (.call (.c (.fn n70 [] [])) [(.t n17)] .share)) n14 n0 [] [n13,n11,n12,n10,n8,n9,n7,n5,n6,n4,n2,n3,n1,n0] true false),(dq (oq n19 (.call (.c (.fn n96 [] [])) [(.t n6),(.t n9),(.t n12),(.t n15),(.t n18)] .borrow)) n15 n0 [] [n2,n5,n8,n11,n14,n1,n0,n4,n3,n7,n6,n10,n9,n13,n12] true false),(dz (oq n20 (.extract (.t n19) n0)) n16 n0),(dz (oq n21 (.extract (.t n19) n1)) n17 n0),(dz (om n2 n20) n18 n0),(dz (om n3 n21) n19 n0)])
 .ret))
def x57:XFn:=⟨a57,n22,[(.t n2),(.t n3)],c57⟩
def a58:Ann:=⟨[(n1,n2,n1),(n1,n5,n1),(n1,n8,n1),(n1,n11,n1),(n1,n14,n1),(n1,n16,n1)],[]⟩
def c58:a0c:=
 (.seq (.ops [(oq n2 (.box (.t n0))),(oq n4 (.mv (.c (.d .nil)))),(oq n5 (.mv (.c (.d .nil)))),(oq n6 (.mv (k n0)))])
 (.seq (.draw n0 [(dz (of n7 n0 n2) n0 n0),(dq (of n10 n1 n2) n3 n0 [] [] false true),(dq (of n13 n2 n2) n6 n0 [] [] false true),(dq (of n16 n3 n2) n9 n0 [] [] false true),(dq (of n19 n8 n2) n12 n0 [] [] false true),(dq (om n22 n1) n15 n0 [] [] false true),(dz (ol n8 n7) n1 n0),(dq (ol n11 n10) n4 n0 [] [] false true),(dq (ol n14 n13) n7 n0 [] [] false true),(dq (oq n17 (.load (some n5) (.t n16))) n10 n0 [] [] false true),(dq (oq n20 (.load (some n5) (.t n19))) n13 n0 [] [] false true),(dq (oq n9 (.call (.c (.fn n74 [] [])) [(.t n8)] .share)) n2 n0 [] [n1,n0] false false),(dq (oq n12 (.call (.c (.fn n74 [] [])) [(.t n11)] .share)) n5 n0 [] [n4,n2,n3,n1,n0] false false),(dq (oq n15 (.call (.c (.fn n75 [] [])) [(.t n14)] .share)) n8 n0 [] [n7,n5,n6,n4,n2,n3,n1,n0] false false),(dq (oq n18 (.call (.c (.fn n70 [] [])) [(.t n17)] .share)) n11 n0 [] [n10,n8,n9,n7,n5,n6,n4,n2,n3,n1,n0] false false),(dq (oq n21 (.call (.c (.fn n70 [] [])) [(.t n20)] .share)) n14 n0 [] [n13,n11,n12,n10,n8,n9,n7,n5,n6,n4,n2,n3,n1,n0] false false),(dq (oq n23 (.call (.c (.fn n97 [] [])) [(.t n9),(.t n12),(.t n15),(.t n18),(.t n21),(.t n22)] .share)) n16 n0 [] [n2,n5,n8,n11,n14,n15,n1,n0,n4,n3,n7,n6,n10,n9,n13,n12] true false),(dz (oq n24 (.extract (.t n23) n0)) n17 n0),(dz (oq n25 (.extract (.t n23) n1)) n18 n0),(dz (oq n26 (.extract (.t n23) n2)) n19 n0),(dz (om n4 n24) n20 n0),(dz (om n5 n25) n21 n0),(dz (om n6 n26) n22 n0)])
 .ret))
def x58:XFn:=⟨a58,n27,[(.t n4),(.t n5),(.t n6)],c58⟩
def a59:Ann:=⟨[(n1,n2,n1),(n1,n5,n1),(n1,n8,n1),(n1,n11,n1),(n1,n14,n1),(n1,n15,n0)],[]⟩
def c59:a0c:=
 (.seq (.ops [(oq n1 (.box (.t n0))),(oq n2 (.mv (k n0)))])
 (.seq (.draw n0 [(dz (of n3 n0 n1) n0 n0),(dq (of n6 n1 n1) n3 n0 [] [] false true),(dq (of n9 n2 n1) n6 n0 [] [] false true),(dq (of n12 n3 n1) n9 n0 [] [] false true),(dq (of n15 n8 n1) n12 n0 [] [] false true),(dz (ol n4 n3) n1 n0),(dq (ol n7 n6) n4 n0 [] [] false true),(dq (ol n10 n9) n7 n0 [] [] false true),(dq (oq n13 (.load (some n5) (.t n12))) n10 n0 [] [] false true),(dq (oq n16 (.load (some n5) (.t n15))) n13 n0 [] [] false true),(dq (oq n5 (.call (.c (.fn n74 [] [])) [(.t n4)] .share)) n2 n0 [] [n1,n0] false false),(dq (oq n8 (.call (.c (.fn n74 [] [])) [(.t n7)] .share)) n5 n0 [] [n4,n2,n3,n1,n0] false false),(dq (oq n11 (.call (.c (.fn n75 [] [])) [(.t n10)] .share)) n8 n0 [] [n7,n5,n6,n4,n2,n3,n1,n0] false false),(dq (oq n14 (.call (.c (.fn n70 [] [])) [(.t n13)] .share)) n11 n0 [] [n10,n8,n9,n7,n5,n6,n4,n2,n3,n1,n0] false false),(dq (oq n17 (.call (.c (.fn n70 [] [])) [(.t n16)] .share)) n14 n0 [] [n13,n11,n12,n10,n8,n9,n7,n5,n6,n4,n2,n3,n1,n0] true false),(dq (oq n18 (.call (.c (.fn n98 [] [])) [(.t n5),(.t n8),(.t n11),(.t n14),(.t n17)] .borrow)) n15 n0 [] [n2,n5,n8,n11,n14,n1,n0,n4,n3,n7,n6,n10,n9,n13,n12] true false),(dz (om n2 n18) n16 n0)])
 .ret))
def x59:XFn:=⟨a59,n19,[(.t n2)],c59⟩
def a62:Ann:=⟨[],[]⟩
def c62:a0c:=
 (.seq (.ops [(oq n4 (.mv (.c (.d (.bool false)))))])
 (.seq (.seq (.ops [(om n6 n0),(oq n7 (.len (.t n6))),(om n8 n1),(oq n9 (.len (.t n8))),(oq n10 (.bin .neq (.t n7) (.t n9)))])
 (.cond (.t n10) (.seq (.ops [(oq n4 (.mv (.c (.d (.bool false)))))])
 .ret)
 .skip))
 (.seq (.seq (.ops [(oq n5 (.mv (k n0)))])
 (.block n0 (.loop (.seq (.seq (.ops [(om n11 n5),(om n12 n0),(oq n13 (.len (.t n12))),(oq n14 (.bin .lss (.t n11) (.t n13)))])
 (.cond (.t n14) .skip
 (.exit n0)))
 (.seq (.block n1 (.seq (.draw n0 [(dz (om n17 n0) n0 n0),(dz (om n18 n5) n1 n0),(dz (oq n19 (.iaddr n2 (.t n17) (.t n18))) n2 n0),(dz (om n21 n1) n4 n0),(dz (om n22 n5) n5 n0),(dz (oq n23 (.iaddr n2 (.t n21) (.t n22))) n6 n0),(dz (oq n20 (.load (some n2) (.t n19))) n3 n0),(dz (oq n24 (.load (some n2) (.t n23))) n7 n0),(dz (oq n25 (.aeq true [.u8,.i64] (.t n20) (.t n24))) n8 n0)])
 (.cond (.t n25) (.seq (.ops [(oq n4 (.mv (.c (.d (.bool false)))))])
 .ret)
 .skip)))
 (.ops [(om n15 n5),(oq n16 (.bin .add (.t n15) (k n1))),(om n5 n16)]))))))
 (.seq (.ops [(oq n4 (.mv (.c (.d (.bool true)))))])
 .ret))))
def x62:XFn:=⟨a62,n26,[(.t n4)],c62⟩
def a63:Ann:=⟨[(n1,n0,n2),(n1,n1,n2),(n1,n2,n2),(n1,n3,n1),(n1,n4,n2),(n1,n5,n1),(n1,n6,n2),(n1,n7,n1),(n1,n8,n2),(n1,n9,n2),(n1,n10,n1)],[]⟩
def c63:a0c:=
 (.seq (.ops [(oq n1 (.box (.t n0))),(oq n2 (.alloc [.nil,.nil,.nil,.nil,.nil,.nil,.nil,(.int .i64 (.l (i n0))),.nil,.nil,.nil,.nil,(.int .i64 (.l (i n0)))]))])
 (.seq (.draw n0 [(dq (oq n3 (.bsliceP n1 n2 [(.int .i64 (.l (i n0)))] [(n0,(k n2)),(n1,(k n3))])) n0 n0 [] [] false true),(dq (oq n4 (.bsliceP n1 n2 [(.int .i64 (.l (i n0)))] [(n0,(k n0)),(n1,(k n1))])) n1 n0 [] [] false true),(dz (oq n5 (.bsliceP n1 n6 [(.int .i64 (.l (i n0)))] [(n0,(k n0)),(n1,(k n0)),(n2,(k n0)),(n3,(k n1)),(n4,(k n1)),(n5,(k n1))])) n2 n0),(dq (oq n7 (.bsliceP n1 n6 [(.int .i64 (.l (i n0)))] [(n0,(k n0)),(n1,(k n1)),(n2,(k n2)),(n3,(k n0)),(n4,(k n1)),(n5,(k n2))])) n4 n0 [] [] false true),(dq (oq n9 (.bsliceP n1 n6 [(.int .i64 (.l (i n0)))] [(n0,(k n0)),(n1,(k n0)),(n2,(k n0)),(n3,(k n0)),(n4,(k n0)),(n5,(k n7))])) n6 n0 [] [] false true),(dq (oq n12 (.bsliceP n1 n6 [(.int .i64 (.l (i n0)))] [(n0,(k n1)),(n1,(k n1)),(n2,(k n1)),(n3,(k n1)),(n4,(k n1)),(n5,(k n1))])) n9 n0 [] [] false true),(dq (oq n14 (.load (some n5) (.t n1))) n11 n0 [] [] false true),(dq (oq n6 (.call (.c (.fn n64 [] [])) [(.t n5)] .share)) n3 n0 [] [n2] false false),(dq (oq n8 (.call (.c (.fn n64 [] [])) [(.t n7)] .share)) n5 n0 [] [n4,n3,n2] false false),(dq (oq n10 (.call (.c (.fn n64 [] [])) [(.t n9)] .share)) n7 n0 [] [n6,n5,n4,n3,n2] false false),(dq (oq n11 (.bsliceP n5 n3 [.nil,.nil,.nil,.nil,(.int .i64 (.l (i n0)))] [(n0,(.t n6)),(n1,(.t n8)),(n2,(.t n10))])) n8 n0 [] [] false true),(dq (oq n13 (.call (.c (.fn n64 [] [])) [(.t n12)] .share)) n10 n0 [] [n9,n7,n6,n5,n4,n3,n2] false false),(dz (oq n15 (.build [.nil,.nil,.nil,.nil,.nil,.nil,.nil,(.int .i64 (.l (i n0))),.nil,.nil,.nil,.nil,(.int .i64 (.l (i n0)))] [(n0,n1,(.t n3)),(n1,n1,(.t n4)),(n2,n1,(.t n11)),(n3,n5,(.t n13)),(n8,n5,(.t n14))])) n12 n0),⟨⟨none,none,.store n13 (.t n2) (.t n15)⟩,n13,n0,[],[n12,n10,n0,n1,n2,n3,n4,n5,n6,n7,n8,n9,n11],true,false⟩])
 .ret))
def x63:XFn:=⟨a63,n16,[(.c n2 (some n13))],c63⟩
def a64:Ann:=⟨[(n5,n7,n3),(n6,n3,n1)],[]⟩
def c64:a0c:=
 (.seq (.ops [(oq n2 (.alloc [.nil,.nil,.nil,.nil,(.int .i64 (.l (i n0)))]))])
 (.seq (.ops [(oq n3 (.mv (.c (.d .nil))))])
 (.seq (.seq (.ops [(oq n4 (.mv (k n0)))])
 (.block n0 (.loop (.seq (.seq (.ops [(om n5 n4),(om n6 n0),(oq n7 (.len (.t n6))),(oq n8 (.bin .lss (.t n5) (.t n7)))])
 (.cond (.t n8) .skip
 (.exit n0)))
 (.seq (.block n1 (.ops [(om n11 n3),(om n12 n0),(om n13 n4),(oq n14 (.iaddr n1 (.t n12) (.t n13))),(ol n15 n14),(oq n16 (.build [(.int .u8 (.l (i n0))),(.int .i64 (.l (i n0)))] [(n1,n1,(.t n15))])),(oq n17 (.bslice n2 n1 [(.int .u8 (.l (i n0))),(.int .i64 (.l (i n0)))] [(n0,(.t n16))] false)),(oq n18 (.appendN n2 n16 (.t n11) (.t n17) true)),(om n3 n18)]))
 (.ops [(om n9 n4),(oq n10 (.bin .add (.t n9) (k n1))),(om n4 n10)]))))))
 (.seq (.ops [(oq n19 (.bslice n1 n2 [(.int .i64 (.l (i n0)))] [(n0,(k n2)),(n1,(k n3))] false)),(oq n20 (.bslice n1 n2 [(.int .i64 (.l (i n0)))] [(n0,(k n0)),(n1,(k n1))] false)),(om n21 n3),(oq n22 (.call (.c (.fn n40 [] [])) [(.t n19),(.t n20),(.t n21)] .share)),⟨none,none,.store n5 (.t n2) (.t n22)⟩])
 .ret))))
def x64:XFn:=⟨a64,n23,[(.c n2 (some n5))],c64⟩
def a65:Ann:=⟨[(n1,n3,n1),(n1,n5,n1)],[]⟩
def c65:a0c:=
 (.seq (.ops [(oq n0 (.alloc [(.int .i64 (.l (i n0))),.nil,.nil]))])
 (.seq (.ops [(oq n1 (.build [(.int .u8 (.l (i n0))),(.int .i64 (.l (i n0)))] [])),(oq n2 (.build [(.int .u8 (.l (i n0))),(.int .i64 (.l (i n0)))] [(n1,n1,(k n1))])),(oq n3 (.bslice n2 n2 [(.int .u8 (.l (i n0))),(.int .i64 (.l (i n0)))] [(n0,(.t n1)),(n1,(.t n2))] false)),(oq n4 (.call (.c (.fn n67 [] [])) [] .share)),(oq n5 (.bslice n1 n3 [(.int .i64 (.l (i n0)))] [(n0,(k n0)),(n1,(k n1)),(n2,(k n2))] false)),(oq n6 (.call (.c (.fn n66 [] [])) [(k n1),(.t n5)] .share)),(oq n7 (.bslice n3 n2 [(.int .i64 (.l (i n0))),.nil,.nil] [(n0,(.t n4)),(n1,(.t n6))] false)),(oq n8 (.build [(.int .i64 (.l (i n0))),.nil,.nil] [(n0,n1,(k n0)),(n1,n1,(.t n3)),(n2,n1,(.t n7))])),⟨none,none,.store n3 (.t n0) (.t n8)⟩])
 .ret))
def x65:XFn:=⟨a65,n9,[(.c n0 (some n3))],c65⟩
def a66:Ann:=⟨[(n5,n8,n3),(n5,n11,n1),(n5,n13,n3)],[]⟩
def c66:a0c:=
 (.seq (.ops [(oq n4 (.alloc [(.int .i64 (.l (i n0))),.nil,.nil]))])
 (.seq (.ops [(om n7 n0),(oq n8 (.build [(.int .i64 (.l (i n0))),.nil,.nil] [(n0,n1,(.t n7))])),(oq n5 (.alloc [(.int .i64 (.l (i n0))),.nil,.nil])),⟨none,none,.store n3 (.t n5) (.t n8)⟩])
 (.seq (.seq (.ops [(oq n6 (.mv (k n0)))])
 (.block n0 (.loop (.seq (.seq (.ops [(om n9 n6),(om n10 n1),(oq n11 (.len (.t n10))),(oq n12 (.bin .lss (.t n9) (.t n11)))])
 (.cond (.t n12) .skip
 (.exit n0)))
 (.seq (.block n1 (.draw n0 [(dq (of n15 n1 n5) n0 n0 [] [] false true),(dz (om n17 n1) n2 n0),(dz (om n18 n6) n3 n0),(dz (oq n19 (.iaddr n1 (.t n17) (.t n18))) n4 n0),(dq (of n24 n2 n5) n9 n0 [] [] false true),(dq (ol n16 n15) n1 n0 [] [] false true),(dz (ol n20 n19) n5 n0),(dz (oq n21 (.build [(.int .u8 (.l (i n0))),(.int .i64 (.l (i n0)))] [(n1,n1,(.t n20))])) n6 n0),(dq (ol n25 n24) n10 n0 [] [] false true),(dq (oq n22 (.bslice n2 n1 [(.int .u8 (.l (i n0))),(.int .i64 (.l (i n0)))] [(n0,(.t n21))] false)) n7 n0 [] [n6,n5,n4,n2,n3] false false),(dq (oq n23 (.appendN n2 n16 (.t n16) (.t n22) true)) n8 n0 [] [n1,n7,n0,n6,n5,n4,n2,n3] false false),(dq (of n29 n1 n5) n14 n0 [] [] false true),(dq (oq n26 (.call (.c (.fn n67 [] [])) [] .share)) n11 n0 [] [n8,n1,n7,n0,n6,n5,n4,n2,n3] false false),(dq (oq n27 (.bslice n3 n1 [(.int .i64 (.l (i n0))),.nil,.nil] [(n0,(.t n26))] false)) n12 n0 [] [n11,n8,n1,n7,n0,n6,n5,n4,n2,n3] false false),(dq (oq n28 (.appendN n3 n56 (.t n25) (.t n27) true)) n13 n0 [] [n10,n12,n11,n9,n8,n1,n7,n0,n6,n5,n4,n2,n3] false false),⟨⟨none,none,.store n1 (.t n29) (.t n23)⟩,n15,n0,[],[n14,n8,n13,n0,n1,n2,n3,n4,n5,n6,n7,n9,n10,n12,n11],true,false⟩,(dz (of n30 n2 n5) n16 n0),⟨⟨none,none,.store n1 (.t n30) (.t n28)⟩,n17,n0,[],[n16,n13,n15,n0,n1,n2,n3,n4,n5,n6,n7,n8,n9,n10,n11,n12,n14],true,false⟩]))
 (.ops [(om n13 n6),(oq n14 (.bin .add (.t n13) (k n1))),(om n6 n14)]))))))
 (.seq (.ops [(oq n31 (.load (some n3) (.t n5))),⟨none,none,.store n3 (.t n4) (.t n31)⟩])
 .ret))))
def x66:XFn:=⟨a66,n32,[(.c n4 (some n3))],c66⟩
def a67:Ann:=⟨[],[]⟩
def c67:a0c:=
 (.seq (.ops [(oq n0 (.alloc [(.int .i64 (.l (i n0))),.nil,.nil]))])
 (.seq (.ops [(oq n1 (.build [(.int .i64 (.l (i n0))),.nil,.nil] [(n0,n1,(.c (.d (.int .i64 (.l (.negSucc n0))))))])),⟨none,none,.store n3 (.t n0) (.t n1)⟩])
 .ret))
def x67:XFn:=⟨a67,n2,[(.c n0 (some n3))],c67⟩
def a70:Ann:=⟨[(n1,n2,n3),(n1,n5,n3),(n1,n8,n4),(n5,n14,n3),(n5,n17,n3)],[]⟩
def c70:a0c:=
 (.seq (.ops [(oq n1 (.box (.t n0))),(oq n2 (.alloc [.nil,.nil,.nil,.nil,(.int .i64 (.l (i n0)))]))])
 (.seq (.draw n1 [(dz (of n5 n0 n1) n0 n0),(dz (of n8 n1 n1) n3 n0),(dz (of n11 n2 n1) n6 n0),(dz (of n14 n4 n1) n9 n0),(dq (ol n6 n5) n1 n0 [n0] [] false false),(dq (ol n9 n8) n4 n0 [n0] [] false false),(dq (ol n12 n11) n7 n0 [n0] [] false false),(dq (ol n15 n14) n10 n0 [n0] [] false false),(dz (oq n3 (.alloc [.nil,.nil,.nil,.nil,(.int .i64 (.l (i n0)))])) n12 n0),(dz (oq n7 (.call (.c (.fn n74 [] [])) [(.t n6)] .data)) n2 n0),(dz (oq n10 (.call (.c (.fn n74 [] [])) [(.t n9)] .data)) n5 n0),(dz (oq n13 (.appendP n2 n16 (.c (.d .nil)) (.t n12))) n8 n0),(dz (oq n16 (.build [.nil,.nil,.nil,.nil,(.int .i64 (.l (i n0)))] [(n0,n1,(.t n7)),(n1,n1,(.t n10)),(n2,n1,(.t n13)),(n4,n1,(.t n15))])) n11 n0),⟨⟨none,none,.store n5 (.t n3) (.t n16)⟩,n13,n1,[],[n12,n11,n8,n0,n1,n2,n3,n4,n5,n6,n7,n9,n10],true,false⟩])
 (.seq (.seq (.ops [(oq n4 (.mv (k n0)))])
 (.block n0 (.loop (.seq (.seq (.ops [(om n17 n4),(of n18 n3 n1),(ol n19 n18),(oq n20 (.len (.t n19))),(oq n21 (.bin .lss (.t n17) (.t n20)))])
 (.cond (.t n21) .skip
 (.exit n0)))
 (.seq (.block n1 (.draw n0 [(dq (of n24 n3 n3) n0 n0 [] [] false true),(dz (of n26 n3 n1) n2 n0),(dz (om n28 n4) n4 n0),(dz (of n32 n3 n1) n8 n0),(dz (om n34 n4) n10 n0),(dq (ol n25 n24) n1 n0 [] [] false true),(dz (ol n27 n26) n3 n0),(dz (oq n29 (.iaddr n2 (.t n27) (.t n28))) n5 n0),(dz (of n30 n0 n29) n6 n0),(dz (ol n31 n30) n7 n0),(dz (ol n33 n32) n9 n0),(dz (oq n35 (.iaddr n2 (.t n33) (.t n34))) n11 n0),(dz (of n36 n1 n35) n12 n0),(dz (ol n37 n36) n13 n0),(dz (oq n38 (.call (.c (.fn n74 [] [])) [(.t n37)] .data)) n14 n0),(dz (oq n39 (.build [(.int .i64 (.l (i n0))),.nil] [(n0,n1,(.t n31)),(n1,n1,(.t n38))])) n15 n0),(dq (oq n40 (.bslice n2 n1 [(.int .i64 (.l (i n0))),.nil] [(n0,(.t n39))] false)) n16 n0 [] [n15,n7,n14,n6,n5,n3,n4,n2,n13,n12,n11,n9,n10,n8] false false),(dq (oq n41 (.appendN n2 n32 (.t n25) (.t n40) true)) n17 n0 [] [n1,n16,n14,n0,n15,n7,n6,n5,n3,n4,n2,n13,n12,n11,n9,n10,n8] true false),(dz (of n42 n3 n3) n18 n0),⟨⟨none,none,.store n1 (.t n42) (.t n41)⟩,n19,n0,[],[n18,n17,n0,n1,n2,n3,n4,n5,n6,n7,n8,n9,n10,n11,n12,n13,n14,n15,n16],true,false⟩]))
 (.ops [(om n22 n4),(oq n23 (.bin .add (.t n22) (k n1))),(om n4 n23)]))))))
 (.seq (.ops [(oq n43 (.load (some n5) (.t n3))),⟨none,none,.store n5 (.t n2) (.t n43)⟩])
 .ret))))
def x70:XFn:=⟨a70,n44,[(.c n2 (some n5))],c70⟩
def a73:Ann:=⟨[(n1,n5,n1),(n4,n1,n1)],[]⟩
def c73:a0c:=
 (.seq (.ops [(oq n8 (.box (.t n3))),(oq n9 (.box (.t n4))),(oq n10 (.alloc [(.int .i64 (.l (i n0))),.nil,.nil])),(oq n11 (.mv (k n0))),(oq n12 (.mv (k n0)))])
 (.seq (.ops [(om n16 n0),(om n17 n1),(om n18 n2),(oq n19 (.load (some n5) (.t n8))),(oq n20 (.load (some n5) (.t n9))),(oq n21 (.call (.c (.fn a9u [] [])) [(.t n16),(.t n17),(.t n18),(.t n19),(.t n20)] .share)),(om n15 n21),(oq n22 (.extract (.t n15) n0)),(oq n23 (.extract (.t n15) n1)),(om n13 n22),(om n12 n23)])
 (.seq (.seq (.ops [(om n24 n12),(oq n25 (.bin .neq (.t n24) (k n0)))])
 (.cond (.t n25) (.seq (.ops [(oq n26 (.build [(.int .i64 (.l (i n0))),.nil,.nil] [])),(om n27 n12),⟨none,none,.store n3 (.t n10) (.t n26)⟩,(oq n11 (.mv (k n0))),(om n12 n27)])
 .ret)
 .skip))
 (.seq (.ops [(om n29 n13),(oq n30 (.call (.c (.fn b7w [] [])) [(.t n29)] .share)),(om n28 n30),(oq n31 (.extract (.t n28) n0)),(oq n32 (.extract (.t n28) n1)),(oq n33 (.extract (.t n28) n2)),⟨none,none,.store n3 (.t n10) (.t n31)⟩,(om n11 n32),(om n14 n33)])
 (.seq (.seq (.ops [(om n34 n14),(oq n35 (.un .not (.t n34)))])
 (.cond (.t n35) (.seq (.ops [(oq n36 (.build [(.int .i64 (.l (i n0))),.nil,.nil] [])),⟨none,none,.store n3 (.t n10) (.t n36)⟩,(oq n11 (.mv (k n0))),(oq n12 (.mv (k n7)))])
 .ret)
 .skip))
 (.seq (.ops [(oq n37 (.load (some n3) (.t n10))),(om n38 n11),⟨none,none,.store n3 (.t n10) (.t n37)⟩,(om n11 n38),(oq n12 (.mv (k n0)))])
 .ret))))))
def x73:XFn:=⟨a73,n39,[(.c n10 (some n3)),(.t n11),(.t n12)],c73⟩
def a74:Ann:=⟨[(n1,n1,n3)],[]⟩
def c74:a0c:=
 (.seq (.ops [(oq n2 (.mv (.c (.d .nil))))])
 (.seq (.ops [(om n3 n0),(oq n4 (.appendN n1 n8 (.c (.d .nil)) (.t n3) true)),(om n2 n4)])
 .ret))
def x74:XFn:=⟨a74,n5,[(.t n2)],c74⟩
def a75:Ann:=⟨[(n5,n5,n1),(n5,n7,n3)],[]⟩
def c75:a0c:=
 (.seq (.ops [(oq n2 (.mv (.c (.d .nil))))])
 (.seq (.ops [(oq n3 (.mv (.c (.d .nil))))])
 (.seq (.seq (.ops [(oq n4 (.mv (k n0)))])
 (.block n0 (.loop (.seq (.seq (.ops [(om n5 n4),(om n6 n0),(oq n7 (.len (.t n6))),(oq n8 (.bin .lss (.t n5) (.t n7)))])
 (.cond (.t n8) .skip
 (.exit n0)))
 (.seq (.block n1 (.ops [(om n11 n3),(om n12 n0),(om n13 n4),(oq n14 (.iaddr n5 (.t n12) (.t n13))),(oq n15 (.load (some n5) (.t n14))),(oq n16 (.call (.c (.fn n70 [] [])) [(.t n15)] .share)),(oq n17 (.bslice n5 n1 [.nil,.nil,.nil,.nil,(.int .i64 (.l (i n0)))] [(n0,(.t n16))] false)),(oq n18 (.appendN n5 b0g (.t n11) (.t n17) true)),(om n3 n18)]))
 (.ops [(om n9 n4),(oq n10 (.bin .add (.t n9) (k n1))),(om n4 n10)]))))))
 (.seq (.ops [(om n19 n3),(om n2 n19)])
 .ret))))
def x75:XFn:=⟨a75,n20,[(.t n2)],c75⟩
def a80:Ann:=⟨[(n1,n5,n1),(n4,n1,n1),(n14,n6,n3),(n17,n3,n3)],[]⟩
def c80:a0c:=
 (.seq (.ops [(oq n8 (.box (.t n3))),(oq n9 (.box (.t n4))),(oq n10 (.mv (.c (.d .nil)))),(oq n11 (.mv (k n0)))])
 (.seq (.ops [(om n25 n0),(om n26 n1),(om n27 n2),(oq n28 (.load (some n5) (.t n8))),(oq n29 (.load (some n5) (.t n9))),(oq n30 (.call (.c (.fn a9u [] [])) [(.t n25),(.t n26),(.t n27),(.t n28),(.t n29)] .share)),(om n24 n30),(oq n31 (.extract (.t n24) n0)),(oq n32 (.extract (.t n24) n1)),(om n12 n31),(om n13 n32)])
 (.seq (.seq (.ops [(om n33 n13),(oq n34 (.bin .neq (.t n33) (k n0)))])
 (.cond (.t n34) (.seq (.ops [(om n35 n13),(oq n10 (.mv (.c (.d .nil)))),(om n11 n35)])
 .ret)
 .skip))
 (.seq (.ops [(om n37 n12),(oq n38 (.call (.c (.fn b7w [] [])) [(.t n37)] .share)),(om n36 n38),(oq n39 (.extract (.t n36) n0)),(oq n40 (.extract (.t n36) n1)),(oq n41 (.extract (.t n36) n2)),(oq n14 (.alloc [(.int .i64 (.l (i n0))),.nil,.nil])),⟨none,none,.store n3 (.t n14) (.t n39)⟩,(om n15 n40),(om n16 n41)])
 (.seq (.seq (.ops [(om n42 n16),(oq n43 (.un .not (.t n42)))])
 (.cond (.t n43) (.seq (.ops [(oq n10 (.mv (.c (.d .nil)))),(oq n11 (.mv (k n7)))])
 .ret)
 .skip))
 (.seq (.ops [(oq n17 (.mv (.c (.d .nil))))])
 (.seq (.seq (.ops [(om n44 n2),(oq n45 (.len (.t n44))),(oq n46 (.mv (k n0)))])
 (.block n0 (.loop (.seq (.ops [(oq n47 (.bin .lss (.t n46) (.t n45)))])
 (.seq (.cond (.t n47) .skip
 (.exit n0))
 (.seq (.block n1 (.seq (.ops [(om n48 n46),(om n18 n48)])
 (.seq (.ops [(oq n19 (.alloc [(.bool false),(.bool false),(.bool false),(.bool false)]))])
 (.seq (.ops [(om n49 n18),(oq n50 (.iaddrA n4 n1 (.t n19) (.t n49))),⟨none,none,.store n1 (.t n50) (.c (.d (.bool true)))⟩])
 (.seq (.ops [(oq n20 (.mv (.c (.d (.int .i64 (.l (.negSucc n0)))))))])
 (.seq (.seq (.draw n1 [(dz (om n52 n12) n0 n0),(dz (om n53 n12) n1 n0),(dz (oq n54 (.nilchk (.t n53))) n2 n0),(dz (of n55 n4 n54) n3 n0),(dq (ol n56 n55) n4 n0 [n0] [] false false),(dq (oq n57 (.load (some n4) (.t n19))) n5 n0 [n0] [] false false),(dz (oq n21 (.alloc [(.int .i64 (.l (i n0))),.nil,.nil])) n11 n0),(dz (oq n58 (.call (.c (.fn b8f [] [])) [(.t n52),(.t n56),(.t n57)] .data)) n6 n0),(dz (om n51 n58) n7 n0),(dz (oq n59 (.extract (.t n51) n0)) n8 n0),(dq (oq n60 (.extract (.t n51) n1)) n9 n0 [] [] false true),(dq (oq n61 (.extract (.t n51) n2)) n10 n0 [] [] false true),⟨⟨none,none,.store n3 (.t n21) (.t n59)⟩,n12,n1,[],[n11,n8,n6,n0,n1,n2,n3,n4,n5,n7],false,false⟩,(dz (om n22 n60) n13 n1),(dz (om n23 n61) n14 n1)])
 (.seq (.ops [(om n62 n23)])
 (.cond (.t n62) (.ops [(om n63 n22),(om n64 n15),(oq n65 (.bin .sub (.t n63) (.t n64))),(om n20 n65)])
 .skip)))
 (.ops [(om n66 n17),(om n67 n20),(oq n68 (.bslice n1 n1 [(.int .i64 (.l (i n0)))] [(n0,(.t n67))] false)),(oq n69 (.appendN n1 n8 (.t n66) (.t n68) true)),(om n17 n69)])))))))
 (.ops [(oq n70 (.bin .add (.t n46) (k n1))),(om n46 n70)])))))))
 (.seq (.ops [(om n71 n17),(om n10 n71),(oq n11 (.mv (k n0)))])
 .ret))))))))
def x80:XFn:=⟨a80,n72,[(.t n10),(.t n11)],c80⟩
def a81:Ann:=⟨[(n1,n5,n1),(n9,n7,n0),(n11,n11,n1),(n11,n25,n1)],[]⟩
def c81:a0c:=
 (.seq (.ops [(oq n8 (.box (.t n3))),(oq n9 (.box (.t n4))),(oq n10 (.mv (.c (.d .nil)))),(oq n11 (.mv (.c (.d .nil)))),(oq n12 (.mv (k n0)))])
 (.seq (.ops [(om n19 n0),(om n20 n1),(om n21 n2),(oq n22 (.load (some n5) (.t n8))),(oq n23 (.load (some n5) (.t n9))),(oq n24 (.call (.c (.fn a9u [] [])) [(.t n19),(.t n20),(.t n21),(.t n22),(.t n23)] .share)),(om n18 n24),(oq n25 (.extract (.t n18) n0)),(oq n26 (.extract (.t n18) n1)),(om n13 n25),(om n12 n26)])
 (.seq (.seq (.ops [(om n27 n12),(oq n28 (.bin .neq (.t n27) (k n0)))])
 (.cond (.t n28) (.seq (.ops [(om n29 n12),(oq n10 (.mv (.c (.d .nil)))),(oq n11 (.mv (.c (.d .nil)))),(om n12 n29)])
 .ret)
 .skip))
 (.seq (.seq (.ops [(om n30 n13),(oq n31 (.nilchk (.t n30))),(of n32 n4 n31),(ol n33 n32),(oq n34 (.len (.t n33))),(oq n35 (.mv (k n0)))])
 (.block n0 (.loop (.seq (.ops [(oq n36 (.bin .lss (.t n35) (.t n34)))])
 (.seq (.cond (.t n36) .skip
 (.exit n0))
 (.seq (.block n1 (.seq (.ops [(om n37 n35),(oq n38 (.iaddr n9 (.t n33) (.t n35))),(oq n39 (.load (some n9) (.t n38))),(oq n15 (.alloc [(.int .u8 (.l (i n0))),(.int .i64 (.l (i n0))),(.int .u8 (.l (i n0))),(.int .i64 (.l (i n0))),(.int .u8 (.l (i n0))),(.int .i64 (.l (i n0))),(.int .u8 (.l (i n0))),(.int .i64 (.l (i n0))),(.bool false)])),(om n14 n37),⟨none,none,.store n9 (.t n15) (.t n39)⟩])
 (.seq (.ops [(oq n40 (.load (some n9) (.t n15))),(oq n16 (.alloc [(.int .u8 (.l (i n0))),(.int .i64 (.l (i n0))),(.int .u8 (.l (i n0))),(.int .i64 (.l (i n0))),(.int .u8 (.l (i n0))),(.int .i64 (.l (i n0))),(.int .u8 (.l (i n0))),(.int .i64 (.l (i n0))),(.bool false)])),⟨none,none,.store n9 (.t n16) (.t n40)⟩])
 (.seq (.ops [(of n41 n8 n15),(ol n42 n41),(oq n43 (.un .not (.t n42))),(of n44 n8 n16),⟨none,none,.store n1 (.t n44) (.t n43)⟩])
 (.seq (.draw n0 [(dz (om n45 n13) n0 n0),(dz (oq n46 (.nilchk (.t n45))) n1 n0),(dz (of n47 n4 n46) n2 n0),(dz (om n49 n14) n4 n0),(dz (ol n48 n47) n3 n0),(dz (oq n50 (.slice n9 (.t n48) (some (.t n49)) none none)) n5 n0),(dz (oq n51 (.load (some n9) (.t n16))) n6 n0),(dq (oq n52 (.call (.c (.fn c2p [] [])) [(.t n50),(.t n51)] .borrow)) n7 n0 [] [n5,n6,n3,n4,n2,n1,n0] true false),(dz (om n17 n52) n8 n0)])
 (.seq (.ops [(om n53 n17),(oq n54 (.bin .geq (.t n53) (k n0)))])
 (.cond (.t n54) (.seq (.draw n0 [(dz (om n55 n13) n0 n0),(dz (oq n56 (.nilchk (.t n55))) n1 n0),(dz (of n57 n0 n56) n2 n0),(dz (om n59 n13) n4 n0),(dz (oq n60 (.nilchk (.t n59))) n5 n0),(dz (of n61 n3 n60) n6 n0),(dz (om n63 n14) n8 n0),(dq (om n67 n13) n12 n0 [] [] false true),(dq (oq n68 (.nilchk (.t n67))) n13 n0 [] [] false true),(dq (of n69 n0 n68) n14 n0 [] [] false true),(dq (om n71 n13) n16 n0 [] [] false true),(dq (oq n72 (.nilchk (.t n71))) n17 n0 [] [] false true),(dq (of n73 n3 n72) n18 n0 [] [] false true),(dq (om n75 n14) n20 n0 [] [] false true),(dq (om n76 n17) n21 n0 [] [] false true),(dq (oq n77 (.bin .add (.t n75) (.t n76))) n22 n0 [] [] false true),(dz (oq n58 (.load (some n2) (.t n57))) n3 n0),(dz (ol n62 n61) n7 n0),(dz (oq n64 (.iaddr n1 (.t n62) (.t n63))) n9 n0),(dz (ol n65 n64) n10 n0),(dq (oq n70 (.load (some n2) (.t n69))) n15 n0 [] [] false true),(dq (ol n74 n73) n19 n0 [] [] false true),(dq (oq n78 (.iaddr n1 (.t n74) (.t n77))) n23 n0 [] [] false true),(dq (ol n79 n78) n24 n0 [] [] false true),(dq (oq n66 (.call (.c (.fn b8v [] [])) [(.t n58),(.t n65)] .share)) n11 n0 [] [n3,n10,n2,n1,n0,n9,n7,n8,n6,n5,n4] false false),(dq (oq n80 (.call (.c (.fn b8v [] [])) [(.t n70),(.t n79)] .share)) n25 n0 [] [n15,n24,n11,n14,n13,n12,n23,n19,n22,n18,n17,n16,n20,n21,n3,n10,n2,n1,n0,n9,n7,n8,n6,n5,n4] true false),(dz (om n10 n66) n26 n0),(dz (om n11 n80) n27 n0),(dz (oq n12 (.mv (k n0))) n28 n0)])
 .ret)
 .skip)))))))
 (.ops [(oq n81 (.bin .add (.t n35) (k n1))),(om n35 n81)])))))))
 (.seq (.ops [(oq n10 (.mv (.c (.d .nil)))),(oq n11 (.mv (.c (.d .nil)))),(oq n12 (.mv (k n7)))])
 .ret)))))
def x81:XFn:=⟨a81,n82,[(.t n10),(.t n11),(.t n12)],c81⟩
def a82:Ann:=⟨[(n1,n4,n4),(n5,n9,n1),(n5,n11,n3)],[]⟩
def c82:a0c:=
 (.seq (.ops [(oq n2 (.box (.t n0))),(oq n4 (.alloc [(.int .i64 (.l (i n0))),.nil,.nil]))])
 (.seq (.draw n1 [(dz (of n7 n0 n2) n0 n0),(dz (of n9 n1 n2) n2 n0),(dq (ol n8 n7) n1 n0 [n0] [] false false),(dq (ol n10 n9) n3 n0 [n0] [] false false),(dz (oq n11 (.appendP n2 n16 (.c (.d .nil)) (.t n10))) n4 n0),(dz (oq n12 (.build [(.int .i64 (.l (i n0))),.nil,.nil] [(n0,n1,(.t n8)),(n1,n1,(.t n11))])) n5 n0),(dz (oq n5 (.alloc [(.int .i64 (.l (i n0))),.nil,.nil])) n6 n0),⟨⟨none,none,.store n3 (.t n5) (.t n12)⟩,n7,n1,[],[n6,n5,n4,n0,n1,n2,n3],true,false⟩])
 (.seq (.seq (.ops [(oq n6 (.mv (k n0)))])
 (.block n0 (.loop (.seq (.seq (.ops [(om n13 n6),(of n14 n2 n2),(ol n15 n14),(oq n16 (.len (.t n15))),(oq n17 (.bin .lss (.t n13) (.t n16))),(om n18 n17),(og n19 n18 true (.mv (.t n1))),(og n20 n18 true (.bin .gtr (.t n19) (k n0))),(oq n21 (.pick (.t n18) (.t n20) (.c (.d (.bool false)))))])
 (.cond (.t n21) .skip
 (.exit n0)))
 (.seq (.block n1 (.draw n0 [(dq (of n24 n2 n5) n0 n0 [] [] false true),(dz (of n26 n2 n2) n2 n0),(dz (om n28 n6) n4 n0),(dz (om n31 n1) n7 n0),(dz (oq n32 (.bin .sub (.t n31) (k n1))) n8 n0),(dq (ol n25 n24) n1 n0 [] [] false true),(dz (ol n27 n26) n3 n0),(dz (oq n29 (.iaddr n3 (.t n27) (.t n28))) n5 n0),(dz (oq n30 (.load (some n3) (.t n29))) n6 n0),(dq (oq n33 (.call (.c (.fn n82 [] [])) [(.t n30),(.t n32)] .share)) n9 n0 [] [n6,n8,n5,n3,n4,n2,n7] false false),(dq (oq n34 (.bslice n3 n1 [(.int .i64 (.l (i n0))),.nil,.nil] [(n0,(.t n33))] false)) n10 n0 [] [n9,n6,n8,n5,n3,n4,n2,n7] false false),(dq (oq n35 (.appendN n3 n56 (.t n25) (.t n34) true)) n11 n0 [] [n1,n10,n9,n0,n6,n8,n5,n3,n4,n2,n7] true false),(dz (of n36 n2 n5) n12 n0),⟨⟨none,none,.store n1 (.t n36) (.t n35)⟩,n13,n0,[],[n12,n11,n0,n1,n2,n3,n4,n5,n6,n7,n8,n9,n10],true,false⟩]))
 (.ops [(om n22 n6),(oq n23 (.bin .add (.t n22) (k n1))),(om n6 n23)]))))))
 (.seq (.ops [(oq n37 (.load (some n3) (.t n5))),⟨none,none,.store n3 (.t n4) (.t n37)⟩])
 .ret))))
def x82:XFn:=⟨a82,n38,[(.c n4 (some n3))],c82⟩
def a83:Ann:=⟨[(n2,n2,n2),(n11,n4,n0)],[]⟩
def c83:a0c:=
 (.seq (.ops [(oq n2 (.box (.t n0))),(oq n4 (.mv (k n0))),(oq n5 (.mv (.c (.d (.bool false)))))])
 (.seq (.ops [(oq n11 (.build [(.raw .nilFunc)] [(n0,n1,(.c (.fn c3o [] [])))])),(oq n12 (.build [(.raw .nilFunc)] [(n0,n1,(.c (.fn c3g [] [])))])),(oq n13 (.build [(.raw .nilFunc)] [(n0,n1,(.c (.fn b4y [] [])))])),(oq n14 (.build [(.raw .nilFunc)] [(n0,n1,(.c (.fn c1y [] [])))])),(oq n15 (.bslice n1 n4 [(.raw .nilFunc)] [(n0,(.t n11)),(n1,(.t n12)),(n2,(.t n13)),(n3,(.t n14))] false)),(om n6 n15)])
 (.seq (.seq (.ops [(om n16 n6),(oq n17 (.mkfn b1a [] [(.t n2)])),(oq n18 (.call (.c (.fn c3q [] [])) [(.t n16),(.t n17)] .raw)),(oq n19 (.un .not (.t n18)))])
 (.cond (.t n19) (.seq (.ops [(oq n4 (.mv (k n0))),(oq n5 (.mv (.c (.d (.bool false)))))])
 .ret)
 .skip))
 (.seq (.seq (.ops [(of n20 n0 n2),(of n21 n0 n20),(ol n22 n21),(oq n23 (.bin .lss (.t n22) (k n0)))])
 (.cond (.t n23) (.seq (.ops [(oq n4 (.mv (k n0))),(oq n5 (.mv (.c (.d (.bool true)))))])
 .ret)
 .skip))
 (.seq (.seq (.ops [(om n24 n1),(oq n25 (.bin .eql (.t n24) (k n0)))])
 (.cond (.t n25) (.seq (.ops [(oq n4 (.mv (k n0))),(oq n5 (.mv (.c (.d (.bool false)))))])
 .ret)
 .skip))
 (.seq (.seq (.ops [(of n26 n0 n2),(of n27 n2 n26),(ol n28 n27),(oq n29 (.len (.t n28))),(oq n30 (.mv (k n0)))])
 (.block n0 (.loop (.seq (.ops [(oq n31 (.bin .lss (.t n30) (.t n29)))])
 (.seq (.cond (.t n31) .skip
 (.exit n0))
 (.seq (.block n1 (.seq (.ops [(oq n32 (.iaddr n3 (.t n28) (.t n30))),(oq n33 (.load (some n3) (.t n32))),(oq n8 (.alloc [(.int .i64 (.l (i n0))),.nil,.nil])),⟨none,none,.store n3 (.t n8) (.t n33)⟩])
 (.seq (.ops [(oq n35 (.load (some n3) (.t n8))),(oq n36 (.build [(.int .i64 (.l (i n0))),.nil,.nil] [(n0,n3,(.t n35))])),(om n37 n1),(oq n38 (.bin .sub (.t n37) (k n1))),(oq n39 (.call (.c (.fn n83 [] [])) [(.t n36),(.t n38)] .borrow)),(om n34 n39),(oq n40 (.extract (.t n34) n0)),(oq n41 (.extract (.t n34) n1)),(om n9 n40),(om n10 n41)])
 (.seq (.seq (.ops [(om n42 n10),(oq n43 (.un .not (.t n42)))])
 (.cond (.t n43) (.seq (.ops [(oq n4 (.mv (k n0))),(oq n5 (.mv (.c (.d (.bool false)))))])
 .ret)
 .skip))
 (.ops [(om n44 n4),(om n45 n9),(oq n46 (.max (.t n44) (.t n45))),(om n4 n46)])))))
 (.ops [(oq n47 (.bin .add (.t n30) (k n1))),(om n30 n47)])))))))
 (.seq (.ops [(om n48 n4),(oq n49 (.bin .add (.t n48) (k n1))),(om n4 n49),(oq n5 (.mv (.c (.d (.bool true)))))])
 .ret)))))))
def x83:XFn:=⟨a83,n50,[(.t n4),(.t n5)],c83⟩
def a84:Ann:=⟨[(n1,n1,n0),(n4,n2,n0),(n7,n2,n1),(n10,n5,n0),(n25,n6,n1),(n26,n3,n0),(n29,n4,n3)],[]⟩
def c84:a0c:=
 (.seq (.ops [(oq n5 (.box (.t n0))),(oq n10 (.mv (.c (.d .nil)))),(oq n11 (.mv (k n0)))])
 (.seq (.seq (.ops [(oq n23 (.load (some n3) (.t n5))),(oq n24 (.call (.c (.fn n35 [] [])) [(.t n23)] .borrow)),(om n12 n24)])
 (.seq (.ops [(om n25 n12),(oq n26 (.bin .neq (.t n25) (k n0)))])
 (.cond (.t n26) (.seq (.ops [(om n27 n12),(oq n10 (.mv (.c (.d .nil)))),(om n11 n27)])
 .ret)
 .skip)))
 (.seq (.seq (.ops [(om n28 n1),(om n29 n2),(oq n30 (.call (.c (.fn b2v [] [])) [(.t n28),(.t n29)] .borrow)),(om n13 n30)])
 (.seq (.ops [(om n31 n13),(oq n32 (.bin .neq (.t n31) (k n0)))])
 (.cond (.t n32) (.seq (.ops [(om n33 n13),(oq n10 (.mv (.c (.d .nil)))),(om n11 n33)])
 .ret)
 .skip)))
 (.seq (.ops [(om n35 n1),(om n36 n2),(oq n37 (.call (.c (.fn b8r [] [])) [(.t n35),(.t n36),(.c (.d .nil))] .share)),(om n34 n37),(oq n38 (.extract (.t n34) n0)),(oq n39 (.extract (.t n34) n1)),(oq n14 (.alloc [.nil,.nil,.nil,.nil,(.int .i64 (.l (i n0)))])),⟨none,none,.store n5 (.t n14) (.t n38)⟩,(om n15 n39)])
 (.seq (.seq (.ops [(om n40 n15),(oq n41 (.bin .neq (.t n40) (k n0)))])
 (.cond (.t n41) (.seq (.ops [(om n42 n15),(oq n10 (.mv (.c (.d .nil)))),(om n11 n42)])
 .ret)
 .skip))
 (.seq (.seq (.ops [(om n43 n1),(om n44 n2),(om n45 n3),(oq n46 (.load (some n5) (.t n14))),(oq n47 (.load (some n5) (.t n14))),(oq n48 (.call (.c (.fn n98 [] [])) [(.t n43),(.t n44),(.t n45),(.t n46),(.t n47)] .borrow)),(om n16 n48)])
 (.seq (.ops [(om n49 n16),(oq n50 (.bin .neq (.t n49) (k n0)))])
 (.cond (.t n50) (.seq (.ops [(om n51 n16),(oq n10 (.mv (.c (.d .nil)))),(om n11 n51)])
 .ret)
 .skip)))
 (.seq (.seq (.ops [(om n52 n4),(oq n53 (.len (.t n52))),(om n54 n1),(oq n55 (.len (.t n54))),(oq n56 (.bin .neq (.t n53) (.t n55)))])
 (.cond (.t n56) (.seq (.ops [(oq n10 (.mv (.c (.d .nil)))),(oq n11 (.mv (k n3)))])
 .ret)
 .skip))
 (.seq (.seq (.ops [(om n57 n4),(oq n58 (.len (.t n57))),(oq n59 (.mv (k n0)))])
 (.block n0 (.loop (.seq (.ops [(oq n60 (.bin .lss (.t n59) (.t n58)))])
 (.seq (.cond (.t n60) .skip
 (.exit n0))
 (.seq (.block n1 (.seq (.ops [(om n61 n59),(oq n62 (.iaddr n1 (.t n57) (.t n59))),(ol n63 n62),(om n17 n61),(om n18 n63)])
 (.seq (.ops [(om n64 n18),(oq n65 (.bin .lss (.t n64) (k n0))),(om n66 n65),(og n67 n66 false (.mv (.t n18))),(og n68 n66 false (.mv (.t n1))),(og n69 n66 false (.mv (.t n17))),(og n70 n66 false (.iaddr n1 (.t n68) (.t n69))),(og n71 n66 false (.load none (.t n70))),(og n72 n66 false (.bin .geq (.t n67) (.t n71))),(oq n73 (.pick (.t n66) (.c (.d (.bool true))) (.t n72)))])
 (.cond (.t n73) (.seq (.ops [(oq n10 (.mv (.c (.d .nil)))),(oq n11 (.mv (k n3)))])
 .ret)
 .skip))))
 (.ops [(oq n74 (.bin .add (.t n59) (k n1))),(om n59 n74)])))))))
 (.seq (.ops [(oq n19 (.mv (.c (.d .nil))))])
 (.seq (.block n2 (.loop (.seq (.seq (.ops [(of n75 n0 n5),(ol n76 n75),(oq n77 (.bin .geq (.t n76) (k n0)))])
 (.cond (.t n77) .skip
 (.exit n2)))
 (.block n3 (.seq (.seq (.ops [(of n78 n0 n5),(ol n79 n78),(om n80 n3),(oq n81 (.len (.t n80))),(oq n82 (.bin .geq (.t n79) (.t n81)))])
 (.cond (.t n82) (.seq (.ops [(oq n10 (.mv (.c (.d .nil)))),(oq n11 (.mv (k n7)))])
 .ret)
 .skip))
 (.seq (.ops [(om n84 n3),(of n85 n0 n5),(ol n86 n85),(oq n87 (.iaddr n5 (.t n84) (.t n86))),(oq n88 (.load (some n5) (.t n87))),(om n89 n4),(oq n90 (.call (.c (.fn c3u [] [])) [(.t n88),(.t n89)] .share)),(om n83 n90),(oq n91 (.extract (.t n83) n0)),(oq n92 (.extract (.t n83) n1)),(oq n20 (.alloc [(.int .u8 (.l (i n0))),(.int .i64 (.l (i n0)))])),⟨none,none,.store n2 (.t n20) (.t n91)⟩,(om n21 n92)])
 (.seq (.ops [(of n93 n1 n5),(ol n94 n93),(oq n95 (.load (some n2) (.t n20))),(oq n96 (.call (.c (.fn c1h [] [])) [(.t n94),(.t n95)] .borrow)),(om n22 n96)])
 (.seq (.seq (.ops [(om n97 n22),(oq n98 (.bin .lss (.t n97) (k n0)))])
 (.cond (.t n98) (.seq (.ops [(oq n10 (.mv (.c (.d .nil)))),(oq n11 (.mv (k n7)))])
 .ret)
 .skip))
 (.seq (.ops [(om n99 n19),(of c1w n0 n5),(ol b9n c1w),(oq c2d (.bslice n1 n1 [(.int .i64 (.l (i n0)))] [(n0,(.t b9n))] false)),(oq b8s (.appendN n1 n8 (.t n99) (.t c2d) true)),(om n19 b8s)])
 (.ops [(of b0g n2 n5),(ol b9l b0g),(om c1v n22),(oq b3k (.iaddr n3 (.t b9l) (.t c1v))),(oq a9u (.load (some n3) (.t b3k))),⟨none,none,.store n3 (.t n5) (.t a9u)⟩]))))))))))
 (.seq (.ops [(om b7w n19),(om n10 b7w),(oq n11 (.mv (k n0)))])
 .ret)))))))))))
def x84:XFn:=⟨a84,b8f,[(.t n10),(.t n11)],c84⟩
def a88:Ann:=⟨[(n2,n4,n0),(n8,n4,n3),(n14,n1,n3),(n17,n5,n2),(n18,n4,n3),(n19,n1,n0),(n24,n18,n0),(n26,n4,n3)],[]⟩
def c88:a0c:=
 (.seq (.ops [(oq n4 (.box (.t n0))),(oq n8 (.alloc [.nil,.nil,.nil,.nil,(.int .i64 (.l (i n0)))])),(oq n9 (.mv (k n0)))])
 (.seq (.seq (.ops [(om n17 n2),(of n18 n1 n4),(ol n19 n18),(oq n20 (.len (.t n19))),(oq n21 (.bin .eql (.t n17) (.t n20)))])
 (.cond (.t n21) (.seq (.ops [(om n22 n1),(of n23 n0 n4),(ol n24 n23),(om n25 n3),(oq n26 (.call (.c (.fn n45 [] [])) [(.t n24),(.t n25)] .borrow)),(oq n27 (.iaddr n2 (.t n22) (.t n26))),(oq n28 (.load (some n2) (.t n27))),(oq n10 (.alloc [(.int .u8 (.l (i n0))),(.int .i64 (.l (i n0)))])),⟨none,none,.store n2 (.t n10) (.t n28)⟩])
 (.seq (.seq (.ops [(oq n11 (.mv (k n0)))])
 (.block n0 (.loop (.seq (.seq (.ops [(om n29 n11),(of n30 n2 n4),(ol n31 n30),(oq n32 (.len (.t n31))),(oq n33 (.bin .lss (.t n29) (.t n32)))])
 (.cond (.t n33) .skip
 (.exit n0)))
 (.seq (.block n1 (.seq (.draw n0 [(dz (of n36 n2 n4) n0 n0),(dz (om n38 n11) n2 n0),(dz (ol n37 n36) n1 n0),(dz (oq n39 (.iaddr n2 (.t n37) (.t n38))) n3 n0),(dz (oq n40 (.load (some n2) (.t n39))) n4 n0),(dz (oq n41 (.load (some n2) (.t n10))) n5 n0),(dz (oq n42 (.aeq false [.u8,.i64] (.t n40) (.t n41))) n6 n0)])
 (.cond (.t n42) (.seq (.ops [(oq n43 (.load (some n5) (.t n4))),(om n44 n11),(oq n45 (.bin .sub (.c (.d (.int .i64 (.l (.negSucc n0))))) (.t n44))),⟨none,none,.store n5 (.t n8) (.t n43)⟩,(om n9 n45)])
 .ret)
 .skip)))
 (.ops [(om n34 n11),(oq n35 (.bin .add (.t n34) (k n1))),(om n11 n35)]))))))
 (.seq (.ops [(of n46 n2 n4),(ol n47 n46),(oq n48 (.load (some n2) (.t n10))),(oq n49 (.bslice n2 n1 [(.int .u8 (.l (i n0))),(.int .i64 (.l (i n0)))] [(n0,(.t n48))] false)),(oq n50 (.appendN n2 n16 (.t n47) (.t n49) true)),(of n51 n2 n4),⟨none,none,.store n1 (.t n51) (.t n50)⟩])
 (.seq (.draw n0 [(dq (of n53 n2 n4) n1 n0 [] [] false true),(dz (oq n52 (.load (some n5) (.t n4))) n0 n0),(dq (ol n54 n53) n2 n0 [] [] false true),(dq (oq n55 (.len (.t n54))) n3 n0 [] [] false true),(dq (oq n56 (.un .neg (.t n55))) n4 n0 [] [] false true),⟨⟨none,none,.store n5 (.t n8) (.t n52)⟩,n5,n0,[],[n0],false,false⟩,(dz (om n9 n56) n6 n0)])
 .ret))))
 .skip))
 (.seq (.ops [(of n57 n1 n4),(ol n58 n57),(om n59 n2),(oq n60 (.iaddr n1 (.t n58) (.t n59))),(ol n61 n60),(oq n62 (.build [(.int .i64 (.l (i n0))),.nil] [(n0,n1,(.t n61))])),(oq n12 (.alloc [(.int .i64 (.l (i n0))),.nil])),⟨none,none,.store n2 (.t n12) (.t n62)⟩])
 (.seq (.seq (.ops [(oq n13 (.mv (k n0)))])
 (.block n2 (.loop (.seq (.seq (.ops [(om n63 n13),(of n64 n0 n4),(ol n65 n64),(of n66 n0 n12),(ol n67 n66),(oq n68 (.iaddr n1 (.t n65) (.t n67))),(ol n69 n68),(oq n70 (.bin .lss (.t n63) (.t n69)))])
 (.cond (.t n70) .skip
 (.exit n2)))
 (.seq (.block n3 (.seq (.ops [(om n73 n3),(oq n74 (.appendN n1 n8 (.c (.d .nil)) (.t n73) true)),(om n14 n74)])
 (.seq (.ops [(om n75 n14),(of n76 n0 n12),(ol n77 n76),(om n78 n13),(oq n79 (.iaddr n1 (.t n75) (.t n77))),⟨none,none,.store n1 (.t n79) (.t n78)⟩])
 (.seq (.ops [(oq n15 (.mv (k n0)))])
 (.seq (.ops [(oq n81 (.load (some n5) (.t n4))),(om n82 n1),(om n83 n2),(oq n84 (.bin .add (.t n83) (k n1))),(om n85 n14),(oq n86 (.call (.c (.fn n88 [] [])) [(.t n81),(.t n82),(.t n84),(.t n85)] .raw)),(om n80 n86),(oq n87 (.extract (.t n80) n0)),(oq n88 (.extract (.t n80) n1)),⟨none,none,.store n5 (.t n4) (.t n87)⟩,(om n15 n88)])
 (.ops [(of n89 n1 n12),(ol n90 n89),(om n91 n15),(oq n92 (.bslice n1 n1 [(.int .i64 (.l (i n0)))] [(n0,(.t n91))] false)),(oq n93 (.appendN n1 n8 (.t n90) (.t n92) true)),(of n94 n1 n12),⟨none,none,.store n1 (.t n94) (.t n93)⟩]))))))
 (.ops [(om n71 n13),(oq n72 (.bin .add (.t n71) (k n1))),(om n13 n72)]))))))
 (.seq (.seq (.ops [(oq n95 (.load (some n2) (.t n12))),(oq n96 (.call (.c (.fn c3f [] [])) [(.t n95)] .borrow))])
 (.cond (.t n96) (.seq (.draw n0 [(dq (of n98 n1 n12) n1 n0 [] [] false true),(dz (oq n97 (.load (some n5) (.t n4))) n0 n0),(dq (ol n99 n98) n2 n0 [] [] false true),(dq (oq c1w (.iaddr n1 (.t n99) (k n0))) n3 n0 [] [] false true),(dq (ol b9n c1w) n4 n0 [] [] false true),⟨⟨none,none,.store n5 (.t n8) (.t n97)⟩,n5,n0,[],[n0],false,false⟩,(dz (om n9 b9n) n6 n0)])
 .ret)
 .skip))
 (.seq (.seq (.ops [(oq n16 (.mv (k n0)))])
 (.block n4 (.loop (.seq (.seq (.ops [(om c2d n16),(of b8s n3 n4),(ol b0g b8s),(oq b9l (.len (.t b0g))),(oq c1v (.bin .lss (.t c2d) (.t b9l)))])
 (.cond (.t c1v) .skip
 (.exit n4)))
 (.seq (.block n5 (.seq (.draw n0 [(dz (of b7w n3 n4) n0 n0),(dz (om c2p n16) n2 n0),(dz (of b4y n0 n12) n6 n0),(dz (ol b8f b7w) n1 n0),(dz (oq b8v (.iaddr n2 (.t b8f) (.t c2p))) n3 n0),(dz (of c3o n0 b8v) n4 n0),(dz (ol c3g c3o) n5 n0),(dz (ol c1y b4y) n7 n0),(dz (oq c3q (.bin .eql (.t c3g) (.t c1y))) n8 n0),(dz (om b1a c3q) n9 n0),(dz (og b2v b1a true (.faddr n3 (.t n4))) n10 n0),(dz (og c3u b1a true (.mv (.t n16))) n12 n0),(dz (og c6b b1a true (.faddr n1 (.t n12))) n16 n0),(dz (og b8r b1a true (.load none (.t b2v))) n11 n0),(dz (og c1h b1a true (.iaddr n2 (.t b8r) (.t c3u))) n13 n0),(dz (og c3f b1a true (.faddr n1 (.t c1h))) n14 n0),(dz (og b8e b1a true (.load none (.t c3f))) n15 n0),(dz (og d0w b1a true (.load none (.t c6b))) n17 n0),(dq (og d0x b1a true (.call (.c (.fn n33 [] [])) [(.t b8e),(.t d0w)] .borrow)) n18 n0 [] [n15,n17,n9,n14,n13,n11,n12,n10,n8,n5,n7,n4,n3,n1,n2,n0,n6,n16] true false),(dz (oq d0z (.pick (.t b1a) (.t d0x) (.c (.d (.bool false))))) n19 n0)])
 (.cond (.t d0z) (.seq (.ops [(oq c3l (.load (some n5) (.t n4))),(om c1j n16),⟨none,none,.store n5 (.t n8) (.t c3l)⟩,(om n9 c1j)])
 .ret)
 .skip)))
 (.ops [(om b3k n16),(oq a9u (.bin .add (.t b3k) (k n1))),(om n16 a9u)]))))))
 (.seq (.ops [(of c5d n3 n4),(ol c5o c5d),(oq b4f (.load (some n2) (.t n12))),(oq d0n (.bslice n2 n1 [(.int .i64 (.l (i n0))),.nil] [(n0,(.t b4f))] false)),(oq d0t (.appendN n2 n32 (.t c5o) (.t d0n) true)),(of d1a n3 n4),⟨none,none,.store n1 (.t d1a) (.t d0t)⟩])
 (.seq (.draw n0 [(dq (of b8c n3 n4) n1 n0 [] [] false true),(dz (oq d0u (.load (some n5) (.t n4))) n0 n0),(dq (ol d4v b8c) n2 n0 [] [] false true),(dq (oq d6b (.len (.t d4v))) n3 n0 [] [] false true),(dq (oq d1l (.bin .sub (.t d6b) (k n1))) n4 n0 [] [] false true),⟨⟨none,none,.store n5 (.t n8) (.t d0u)⟩,n5,n0,[],[n0],false,false⟩,(dz (om n9 d1l) n6 n0)])
 .ret))))))))
def x88:XFn:=⟨a88,d3x,[(.c n8 (some n5)),(.t n9)],c88⟩
def a89:Ann:=⟨[(n1,n1,n0),(n3,n5,n1),(n4,n9,n1)],[]⟩
def c89:a0c:=
 (.seq (.ops [(oq n6 (.box (.t n0))),(oq n10 (.box (.t n4))),(oq n11 (.box (.t n5))),(oq n12 (.mv (.c (.d (.bool false)))))])
 (.seq (.seq (.ops [(oq n15 (.load (some n3) (.t n6))),(oq n16 (.call (.c (.fn n35 [] [])) [(.t n15)] .borrow)),(oq n17 (.bin .neq (.t n16) (k n0)))])
 (.cond (.t n17) (.seq (.ops [(oq n12 (.mv (.c (.d (.bool false)))))])
 .ret)
 .skip))
 (.seq (.ops [(om n19 n1),(om n20 n2),(om n21 n3),(oq n22 (.load (some n5) (.t n10))),(oq n23 (.load (some n5) (.t n11))),(oq n24 (.call (.c (.fn a9u [] [])) [(.t n19),(.t n20),(.t n21),(.t n22),(.t n23)] .share)),(om n18 n24),(oq n25 (.extract (.t n18) n0)),(oq n26 (.extract (.t n18) n1)),(om n13 n25),(om n14 n26)])
 (.seq (.draw n0 [(dz (om n27 n14) n0 n0),(dz (oq n28 (.bin .eql (.t n27) (k n0))) n1 n0),(dz (om n29 n28) n2 n0),(dz (og n30 n29 true (.mv (.t n13))) n3 n0),(dz (og n32 n29 true (.mv (.t n13))) n5 n0),(dz (og n33 n29 true (.nilchk (.t n32))) n6 n0),(dz (og n34 n29 true (.faddr n4 (.t n33))) n7 n0),(dz (og n31 n29 true (.load (some n3) (.t n6))) n4 n0),(dz (og n35 n29 true (.load none (.t n34))) n8 n0),(dq (og n36 n29 true (.call (.c (.fn b8e [] [])) [(.t n30),(.t n31),(.t n35)] .share)) n9 n0 [] [n3,n4,n8,n2,n1,n0,n7,n6,n5] true false),(dz (oq n37 (.pick (.t n29) (.t n36) (.c (.d (.bool false))))) n10 n0),(dz (om n12 n37) n11 n0)])
 .ret))))
def x89:XFn:=⟨a89,n38,[(.t n12)],c89⟩
def a96:Ann:=⟨[(n1,n5,n1),(n4,n4,n0)],[]⟩
def c96:a0c:=
 (.seq (.ops [(oq n8 (.box (.t n3))),(oq n9 (.box (.t n4))),(oq n10 (.mv (.c (.d (.bool false))))),(oq n11 (.mv (k n0)))])
 (.seq (.ops [(om n15 n0),(om n16 n1),(om n17 n2),(oq n18 (.load (some n5) (.t n8))),(oq n19 (.load (some n5) (.t n9))),(oq n20 (.call (.c (.fn a9u [] [])) [(.t n15),(.t n16),(.t n17),(.t n18),(.t n19)] .share)),(om n14 n20),(oq n21 (.extract (.t n14) n0)),(oq n22 (.extract (.t n14) n1)),(om n12 n21),(om n13 n22)])
 (.seq (.seq (.ops [(om n23 n13),(oq n24 (.bin .neq (.t n23) (k n0)))])
 (.cond (.t n24) (.seq (.ops [(om n25 n13),(oq n10 (.mv (.c (.d (.bool false))))),(om n11 n25)])
 .ret)
 .skip))
 (.seq (.ops [(om n26 n12),(oq n27 (.nilchk (.t n26))),(of n28 n4 n27),(ol n29 n28),(oq n30 (.call (.c (.fn c1j [] [])) [(.t n29)] .borrow)),(om n10 n30),(oq n11 (.mv (k n0)))])
 .ret))))
def x96:XFn:=⟨a96,n31,[(.t n10),(.t n11)],c96⟩
def a97:Ann:=⟨[(n1,n5,n1),(n10,n5,n2),(n13,n2,n2),(n13,n3,n3),(n13,n7,n2),(n13,n8,n3)],[]⟩
def c97:a0c:=
 (.seq (.ops [(oq n9 (.box (.t n3))),(oq n10 (.box (.t n4))),(oq n12 (.mv (.c (.d .nil)))),(oq n13 (.mv (.c (.d .nil)))),(oq n14 (.mv (k n0)))])
 (.seq (.ops [(om n22 n0),(om n23 n1),(om n24 n2),(oq n25 (.load (some n5) (.t n9))),(oq n26 (.load (some n5) (.t n10))),(oq n27 (.call (.c (.fn c5d [] [])) [(.t n22),(.t n23),(.t n24),(.t n25),(.t n26)] .share)),(om n21 n27),(oq n28 (.extract (.t n21) n0)),(oq n29 (.extract (.t n21) n1)),(om n15 n28),(om n16 n29)])
 (.seq (.block n0 (.seq (.ops [(om n31 n16),(oq n32 (.bin .neq (.t n31) (k n0))),(om n30 n32)])
 (.cond (.t n30) (.seq (.ops [(om n33 n16),(oq n12 (.mv (.c (.d .nil)))),(oq n13 (.mv (.c (.d .nil)))),(om n14 n33)])
 .ret)
 (.seq (.ops [(om n35 n5),(oq n36 (.bin .lss (.t n35) (k n0))),(om n37 n36),(og n38 n37 false (.mv (.t n5))),(og n39 n37 false (.mv (.t n2))),(og n40 n37 false (.len (.t n39))),(og n41 n37 false (.bin .geq (.t n38) (.t n40))),(oq n42 (.pick (.t n37) (.c (.d (.bool true))) (.t n41))),(om n34 n42)])
 (.cond (.t n34) (.seq (.ops [(oq n12 (.mv (.c (.d .nil)))),(oq n13 (.mv (.c (.d .nil)))),(oq n14 (.mv (k n3)))])
 .ret)
 (.seq (.ops [(om n44 n15),(oq n45 (.nilchk (.t n44))),(of n46 n4 n45),(ol n47 n46),(oq n48 (.len (.t n47))),(oq n49 (.bin .eql (.t n48) (k n0))),(om n43 n49)])
 (.cond (.t n43) (.seq (.ops [(oq n12 (.mv (.c (.d .nil)))),(oq n13 (.mv (.c (.d .nil)))),(oq n14 (.mv (k n12)))])
 .ret)
 .skip)))))))
 (.seq (.ops [(oq n17 (.alloc [.nil]))])
 (.seq (.ops [(oq n18 (.alloc [.nil]))])
 (.seq (.seq (.ops [(om n50 n15),(oq n51 (.nilchk (.t n50))),(of n52 n4 n51),(ol n53 n52),(om n54 n5),(oq n55 (.call (.c (.fn c5o [] [])) [(.t n53),(.t n54)] .raw))])
 (.block n1 (.range (.t n55) [n56,n57] (.seq (.ops [(oq n19 (.alloc [(.int .u8 (.l (i n0))),(.int .i64 (.l (i n0)))])),⟨none,none,.store n2 (.t n19) (.t n56)⟩])
 (.ops [(om n20 n57)])) (.block n2 (.draw n0 [(dq (om n63 n20) n5 n0 [] [] false true),(dq (oq n64 (.len (.t n63))) n6 n0 [] [] false true),(dq (oq n65 (.bsliceP n1 n1 [(.int .i64 (.l (i n0)))] [(n0,(.t n64))])) n7 n0 [] [] false true),(dz (ol n58 n17) n0 n0),(dz (oq n59 (.load (some n2) (.t n19))) n1 n0),(dz (oq n60 (.bsliceP n2 n1 [(.int .u8 (.l (i n0))),(.int .i64 (.l (i n0)))] [(n0,(.t n59))])) n2 n0),(dq (ol n62 n18) n4 n0 [] [] false true),(dq (oq n61 (.appendN n2 n16 (.t n58) (.t n60) true)) n3 n0 [] [n0,n2,n1] false false),(dq (oq n66 (.appendN n1 n8 (.t n62) (.t n65) true)) n8 n0 [] [n4,n7,n3,n6,n5,n0,n2,n1] true false),⟨⟨none,none,.store n1 (.t n17) (.t n61)⟩,n9,n0,[],[n3,n8,n0,n1,n2,n4,n7,n6,n5],true,false⟩,⟨⟨none,none,.store n1 (.t n18) (.t n66)⟩,n10,n0,[],[n8,n9,n0,n1,n2,n3,n4,n5,n6,n7],true,false⟩])))))
 (.seq (.draw n0 [(dz (ol n67 n17) n0 n0),(dz (om n12 n67) n2 n0),(dz (ol n68 n18) n1 n0),(dz (om n13 n68) n3 n0),(dz (oq n14 (.mv (k n0))) n4 n0)])
 .ret)))))))
def x97:XFn:=⟨a97,n69,[(.t n12),(.t n13),(.t n14)],c97⟩
def a98:Ann:=⟨[(n1,n2,n0),(n6,n1,n2),(n6,n4,n2),(n6,n5,n3),(n10,n1,n0),(n15,n2,n2)],[]⟩
def c98:a0c:=
 (.seq (.ops [(oq n8 (.box (.t n3))),(oq n9 (.box (.t n4))),(oq n10 (.mv (k n0)))])
 (.seq (.seq (.ops [(om n17 n0),(om n18 n1),(oq n19 (.call (.c (.fn b2v [] [])) [(.t n17),(.t n18)] .borrow)),(om n11 n19)])
 (.seq (.ops [(om n20 n11),(oq n21 (.bin .neq (.t n20) (k n0)))])
 (.cond (.t n21) (.seq (.ops [(om n22 n11),(om n10 n22)])
 .ret)
 .skip)))
 (.seq (.seq (.ops [(om n23 n2),(oq n24 (.len (.t n23))),(oq n25 (.bin .gtr (.t n24) (k n4)))])
 (.cond (.t n25) (.seq (.ops [(oq n10 (.mv (k n5)))])
 .ret)
 .skip))
 (.seq (.draw n0 [(dz (om n26 n2) n0 n0),(dq (oq n28 (.load (some n5) (.t n8))) n2 n0 [] [] false true),(dq (oq n29 (.load (some n5) (.t n9))) n3 n0 [] [] false true),(dq (oq n30 (.bsliceP n5 n2 [.nil,.nil,.nil,.nil,(.int .i64 (.l (i n0)))] [(n0,(.t n28)),(n1,(.t n29))])) n4 n0 [] [] false true),(dq (oq n27 (.call (.c (.fn b4f [] [])) [(.t n26)] .raw)) n1 n0 [] [n0] false false),(dq (oq n31 (.appendN n5 b0g (.t n27) (.t n30) true)) n5 n0 [] [n1,n4,n0,n2,n3] true false),(dz (om n12 n31) n6 n0)])
 (.seq (.seq (.ops [(om n32 n12),(oq n33 (.len (.t n32))),(oq n34 (.mv (k n0)))])
 (.block n0 (.loop (.seq (.ops [(oq n35 (.bin .lss (.t n34) (.t n33)))])
 (.seq (.cond (.t n35) .skip
 (.exit n0))
 (.seq (.block n1 (.seq (.ops [(oq n36 (.iaddr n5 (.t n32) (.t n34))),(oq n37 (.load (some n5) (.t n36))),(oq n14 (.alloc [.nil,.nil,.nil,.nil,(.int .i64 (.l (i n0)))])),⟨none,none,.store n5 (.t n14) (.t n37)⟩])
 (.seq (.ops [(oq n38 (.load (some n5) (.t n14))),(oq n39 (.call (.c (.fn d0n [] [])) [(.t n38)] .borrow)),(om n15 n39)])
 (.seq (.ops [(om n40 n15),(oq n41 (.bin .neq (.t n40) (k n0)))])
 (.cond (.t n41) (.seq (.ops [(om n42 n15),(om n10 n42)])
 .ret)
 .skip)))))
 (.ops [(oq n43 (.bin .add (.t n34) (k n1))),(om n34 n43)])))))))
 (.seq (.seq (.ops [(om n44 n0),(om n45 n1),(oq n46 (.build [.nil,.nil] [(n0,n1,(.t n44)),(n1,n1,(.t n45))])),(oq n47 (.mkfn d0t [(.t n46)] [])),(om n16 n47)])
 (.seq (.ops [(om n48 n12),(om n49 n16),(oq n50 (.call (.c (.fn d1a [] [])) [(.t n48),(.t n49)] .raw)),(oq n51 (.un .not (.t n50)))])
 (.cond (.t n51) (.seq (.ops [(oq n10 (.mv (k n2)))])
 .ret)
 .skip)))
 (.seq (.ops [(oq n10 (.mv (k n0)))])
 .ret)))))))
def x98:XFn:=⟨a98,n52,[(.t n10)],c98⟩
def a99:Ann:=⟨[(n4,n1,n0),(n8,n11,n2)],[]⟩
def c99:a0c:=
 (.seq (.ops [(oq n2 (.mv (k n0)))])
 (.seq (.seq (.ops [(om n6 n0),(oq n7 (.len (.t n6))),(oq n8 (.mv (k n0)))])
 (.block n0 (.loop (.seq (.ops [(oq n9 (.bin .lss (.t n8) (.t n7)))])
 (.seq (.cond (.t n9) .skip
 (.exit n0))
 (.seq (.block n1 (.seq (.ops [(oq n10 (.iaddr n5 (.t n6) (.t n8))),(oq n11 (.load (some n5) (.t n10))),(oq n4 (.alloc [.nil,.nil,.nil,.nil,(.int .i64 (.l (i n0)))])),⟨none,none,.store n5 (.t n4) (.t n11)⟩])
 (.seq (.ops [(oq n12 (.load (some n5) (.t n4))),(oq n13 (.call (.c (.fn d0n [] [])) [(.t n12)] .borrow)),(om n5 n13)])
 (.seq (.ops [(om n14 n5),(oq n15 (.bin .neq (.t n14) (k n0)))])
 (.cond (.t n15) (.seq (.ops [(om n16 n5),(om n2 n16)])
 .ret)
 .skip)))))
 (.ops [(oq n17 (.bin .add (.t n8) (k n1))),(om n8 n17)])))))))
 (.seq (.seq (.draw n0 [(dz (om n18 n0) n0 n0),(dz (oq n19 (.iaddr n5 (.t n18) (k n0))) n1 n0),(dz (of n20 n0 n19) n2 n0),(dz (om n22 n0) n4 n0),(dz (oq n23 (.iaddr n5 (.t n22) (k n0))) n5 n0),(dz (of n24 n1 n23) n6 n0),(dz (om n28 n0) n10 n0),(dz (ol n21 n20) n3 n0),(dz (ol n25 n24) n7 n0),(dz (oq n26 (.build [.nil,.nil] [(n0,n1,(.t n21)),(n1,n1,(.t n25))])) n8 n0),(dz (oq n27 (.mkfn b8c [(.t n26)] [])) n9 n0),(dq (oq n29 (.call (.c (.fn d0u [] [])) [(.t n27),(.t n28)] .raw)) n11 n0 [] [n9,n10,n8,n3,n7,n2,n1,n0,n6,n5,n4] true false),(dz (oq n30 (.un .not (.t n29))) n12 n0)])
 (.cond (.t n30) (.seq (.ops [(oq n2 (.mv (k n2)))])
 .ret)
 .skip))
 (.seq (.ops [(oq n2 (.mv (k n0)))])
 .ret))))
def x99:XFn:=⟨a99,n31,[(.t n2)],c99⟩
def g8f:Ann:=⟨[(n1,n5,n1)],[]⟩
def g6s:a0c:=
 (.seq (.ops [(oq n8 (.box (.t n3))),(oq n9 (.box (.t n4))),(oq n10 (.mv (.c (.d (.raw (.pointer none)))))),(oq n11 (.mv (k n0)))])
 (.seq (.ops [(om n15 n0),(om n16 n1),(om n17 n2),(oq n18 (.load (some n5) (.t n8))),(oq n19 (.load (some n5) (.t n9))),(oq n20 (.call (.c (.fn c5d [] [])) [(.t n15),(.t n16),(.t n17),(.t n18),(.t n19)] .share)),(om n14 n20),(oq n21 (.extract (.t n14) n0)),(oq n22 (.extract (.t n14) n1)),(om n12 n21),(om n13 n22)])
 (.seq (.seq (.ops [(om n23 n13),(oq n24 (.bin .eql (.t n23) (k n0))),(om n25 n24),(og n26 n25 true (.mv (.t n12))),(og n27 n25 true (.nilchk (.t n26))),(og n28 n25 true (.faddr n4 (.t n27))),(og n29 n25 true (.load none (.t n28))),(og n30 n25 true (.len (.t n29))),(og n31 n25 true (.bin .eql (.t n30) (k n0))),(oq n32 (.pick (.t n25) (.t n31) (.c (.d (.bool false)))))])
 (.cond (.t n32) (.seq (.ops [(oq n10 (.mv (.c (.d (.raw (.pointer none)))))),(oq n11 (.mv (k n12)))])
 .ret)
 .skip))
 (.seq (.ops [(om n33 n12),(om n34 n13),(om n10 n33),(om n11 n34)])
 .ret))))
def f9p:XFn:=⟨g8f,n35,[(.t n10),(.t n11)],g6s⟩
def h0l:Ann:=⟨[(n1,n6,n1)],[]⟩
def g6p:a0c:=
 (.seq (.ops [(oq n2 (.alloc [(.int .i64 (.l (i n0))),.nil,.nil])),(oq n3 (.mv (k n0))),(oq n4 (.mv (.c (.d (.bool false)))))])
 (.seq (.ops [(om n5 n0),(om n6 n0),(oq n7 (.nilchk (.t n6))),(of n8 n4 n7),(ol n9 n8),(oq n10 (.build [(.bool false),(.bool false),(.bool false),(.bool false)] [])),(oq n11 (.call (.c (.fn b8f [] [])) [(.t n5),(.t n9),(.t n10)] .share)),(oq n12 (.extract (.t n11) n0)),(oq n13 (.extract (.t n11) n1)),(oq n14 (.extract (.t n11) n2)),⟨none,none,.store n3 (.t n2) (.t n12)⟩,(om n3 n13),(om n4 n14)])
 .ret))
def g0e:XFn:=⟨h0l,n15,[(.c n2 (some n3)),(.t n3),(.t n4)],g6p⟩
def g8h:Ann:=⟨[(n1,n1,n0),(n2,n0,n1),(n3,n2,n1),(n12,n2,n2),(n15,n3,n1),(n17,n3,n2),(n17,n4,n3),(n17,n8,n2),(n17,n9,n3)],[]⟩
def h2n:a0c:=
 (.seq (.ops [(oq n3 (.box (.t n0))),(oq n5 (.box (.t n2))),(oq n6 (.alloc [(.int .i64 (.l (i n0))),.nil,.nil])),(oq n7 (.mv (k n0))),(oq n8 (.mv (.c (.d (.bool false)))))])
 (.scope (.seq (.seq (.ops [(om n18 n1),(oq n19 (.call (.c (.fn c1j [] [])) [(.t n18)] .borrow))])
 (.cond (.t n19) (.seq (.ops [(oq n20 (.call (.c (.fn d6v [] [])) [] .share)),⟨none,none,.store n3 (.t n6) (.t n20)⟩,(oq n7 (.mv (k n0))),(oq n8 (.mv (.c (.d (.bool true)))))])
 .ret)
 .skip))
 (.seq (.seq (.draw n0 [(dq (oq n21 (.load (some n4) (.t n5))) n0 n0 [] [] false true),(dz (ol n22 n3) n1 n0),(dq (oq n23 (.call (.c (.fn d5a [] [])) [(.t n22)] .share)) n2 n0 [] [n1] false false),(dz (oq n24 (.aeqw false [.o,.o,.o,.o] (.t n21) (.t n23))) n3 n0)])
 (.cond (.t n24) (.seq (.ops [(oq n25 (.build [(.int .i64 (.l (i n0))),.nil,.nil] [])),⟨none,none,.store n3 (.t n6) (.t n25)⟩,(oq n7 (.mv (k n0))),(oq n8 (.mv (.c (.d (.bool false)))))])
 .ret)
 .skip))
 (.seq (.label n0)
 (.seq (.seq (.ops [(ol n26 n3),(oq n27 (.nilchk (.t n26))),(of n28 n2 n27),(ol n29 n28),(oq n30 (.mv (k n0)))])
 (.block n0 (.loop (.seq (.ops [(oq n31 (.bin .lss (.t n30) (.t n29)))])
 (.seq (.cond (.t n31) .skip
 (.exit n0))
 (.seq (.block n1 (.seq (.ops [(om n32 n30),(om n9 n32)])
 (.seq (.seq (.ops [(om n33 n9),(oq n34 (.iaddrA n4 n1 (.t n5) (.t n33))),(ol n35 n34)])
 (.cond (.t n35) (.exit n1)
 .skip))
 (.seq (.ops [(oq n36 (.load (some n4) (.t n5))),(oq n10 (.alloc [(.bool false),(.bool false),(.bool false),(.bool false)])),⟨none,none,.store n4 (.t n10) (.t n36)⟩])
 (.seq (.ops [(om n37 n9),(oq n38 (.iaddrA n4 n1 (.t n10) (.t n37))),⟨none,none,.store n1 (.t n38) (.c (.d (.bool true)))⟩])
 (.seq (.ops [(om n39 n9),(oq n40 (.build [(.int .i64 (.l (i n0))),.nil,.nil] [(n0,n1,(.t n39))])),(oq n11 (.alloc [(.int .i64 (.l (i n0))),.nil,.nil])),(oq n12 (.alloc [(.int .i64 (.l (i n0)))])),⟨none,none,.store n3 (.t n11) (.t n40)⟩,⟨none,none,.store n1 (.t n12) (k n0)⟩])
 (.seq (.seq (.ops [(om n41 n1),(om n42 n9),(oq n43 (.call (.c (.fn c5o [] [])) [(.t n41),(.t n42)] .raw))])
 (.block n2 (.range (.t n43) [n44,n45] (.seq (.ops [(oq n13 (.alloc [(.int .u8 (.l (i n0))),(.int .i64 (.l (i n0)))])),⟨none,none,.store n2 (.t n13) (.t n44)⟩])
 (.ops [(om n14 n45)])) (.block n3 (.seq (.ops [(ol n47 n3),(om n48 n14),(oq n49 (.load (some n4) (.t n10))),(oq n50 (.call (.c (.fn b8f [] [])) [(.t n47),(.t n48),(.t n49)] .share)),(om n46 n50),(oq n51 (.extract (.t n46) n0)),(oq n52 (.extract (.t n46) n1)),(oq n53 (.extract (.t n46) n2)),(oq n15 (.alloc [(.int .i64 (.l (i n0))),.nil,.nil])),⟨none,none,.store n3 (.t n15) (.t n51)⟩,(om n16 n52),(om n17 n53)])
 (.seq (.seq (.ops [(om n54 n17),(oq n55 (.un .not (.t n54)))])
 (.cond (.t n55) (.exit n1)
 .skip))
 (.seq (.draw n0 [(dz (of n56 n1 n11) n0 n0),(dq (of n61 n2 n11) n5 n0 [] [] false true),(dz (ol n57 n56) n1 n0),(dz (oq n58 (.load (some n2) (.t n13))) n2 n0),(dz (oq n59 (.bsliceP n2 n1 [(.int .u8 (.l (i n0))),(.int .i64 (.l (i n0)))] [(n0,(.t n58))])) n3 n0),(dq (ol n62 n61) n6 n0 [] [] false true),(dq (oq n63 (.load (some n3) (.t n15))) n7 n0 [] [] false true),(dq (oq n64 (.bsliceP n3 n1 [(.int .i64 (.l (i n0))),.nil,.nil] [(n0,(.t n63))])) n8 n0 [] [] false true),(dq (oq n60 (.appendN n2 n16 (.t n57) (.t n59) true)) n4 n0 [] [n1,n3,n0,n2] false false),(dq (of n66 n1 n11) n10 n0 [] [] false true),(dq (oq n65 (.appendN n3 n56 (.t n62) (.t n64) true)) n9 n0 [] [n6,n8,n4,n5,n7,n1,n3,n0,n2] false false),⟨⟨none,none,.store n1 (.t n66) (.t n60)⟩,n11,n0,[],[n10,n4,n9,n0,n1,n2,n3,n5,n6,n8,n7],true,false⟩,(dz (of n67 n2 n11) n12 n0),⟨⟨none,none,.store n1 (.t n67) (.t n65)⟩,n13,n0,[],[n12,n9,n11,n0,n1,n2,n3,n4,n5,n6,n7,n8,n10],true,false⟩])
 (.ops [(ol n68 n12),(om n69 n16),(oq n70 (.max (.t n68) (.t n69))),⟨none,none,.store n1 (.t n12) (.t n70)⟩]))))))))
 (.seq (.ops [(om n71 n8),(oq n72 (.un .not (.t n71))),(om n73 n72),(og n74 n73 false (.load none (.t n12))),(og n75 n73 false (.bin .add (.t n74) (k n1))),(og n76 n73 false (.mv (.t n7))),(og n77 n73 false (.bin .lss (.t n75) (.t n76))),(oq n78 (.pick (.t n73) (.c (.d (.bool true))) (.t n77)))])
 (.cond (.t n78) (.draw n0 [(dz (oq n79 (.load (some n3) (.t n11))) n0 n0),(dq (ol n80 n12) n1 n0 [] [] false true),(dq (oq n81 (.bin .add (.t n80) (k n1))) n2 n0 [] [] false true),⟨⟨none,none,.store n3 (.t n6) (.t n79)⟩,n3,n0,[],[n0],false,false⟩,(dz (om n7 n81) n4 n0),(dz (oq n8 (.mv (.c (.d (.bool true))))) n5 n0)])
 .skip)))))))))
 (.ops [(oq n82 (.bin .add (.t n30) (k n1))),(om n30 n82)])))))))
 (.seq (.ops [(oq n83 (.load (some n3) (.t n6))),(om n84 n7),(om n85 n8),⟨none,none,.store n3 (.t n6) (.t n83)⟩,(om n7 n84),(om n8 n85)])
 .ret)))))))
def g2j:XFn:=⟨g8h,n86,[(.c n6 (some n3)),(.t n7),(.t n8)],h2n⟩
def g8v:Ann:=⟨[],[]⟩
def g4s:a0c:=
 (.seq (.ops [(oq n3 (.box (.t n1))),(oq n4 (.mv (k n0)))])
 (.seq (.seq (.ops [(om n6 n0),(oq n7 (.len (.t n6))),(oq n8 (.mv (k n0)))])
 (.block n0 (.loop (.seq (.ops [(oq n9 (.bin .lss (.t n8) (.t n7)))])
 (.seq (.cond (.t n9) .skip
 (.exit n0))
 (.seq (.block n1 (.seq (.ops [(om n10 n8),(om n5 n10)])
 (.seq (.draw n0 [(dz (om n12 n0) n1 n0),(dz (om n13 n5) n2 n0),(dz (oq n14 (.iaddr n9 (.t n12) (.t n13))) n3 n0),(dz (oq n11 (.load (some n9) (.t n3))) n0 n0),(dz (oq n15 (.load (some n9) (.t n14))) n4 n0),(dz (oq n16 (.aeqw false [(.i .u8),(.i .i64),(.i .u8),(.i .i64),(.i .u8),(.i .i64),(.i .u8),(.i .i64),.o] (.t n11) (.t n15))) n5 n0)])
 (.cond (.t n16) (.seq (.ops [(om n17 n5),(om n4 n17)])
 .ret)
 .skip))))
 (.ops [(oq n18 (.bin .add (.t n8) (k n1))),(om n8 n18)])))))))
 (.seq (.ops [(oq n4 (.mv (.c (.d (.int .i64 (.l (.negSucc n0)))))))])
 .ret)))
def f8s:XFn:=⟨g8v,n19,[(.t n4)],g4s⟩
def g9i:Ann:=⟨[(n2,n2,n2)],[]⟩
def g3o:a0c:=
 (.seq (.ops [(oq n2 (.box (.t n0))),(oq n3 (.box (.t n1))),(oq n4 (.mv (.c (.d .nil))))])
 (.seq (.ops [(of n8 n0 n2),(ol n9 n8),(oq n10 (.len (.t n9))),(oq n11 (.mkslice n1 [(.int .i64 (.l (i n0)))] n8 (.t n10))),(oq n5 (.alloc [.nil])),⟨none,none,.store n1 (.t n5) (.t n11)⟩])
 (.seq (.seq (.ops [(of n12 n0 n2),(ol n13 n12),(oq n14 (.call (.c (.fn d8x [] [])) [(.t n13)] .raw))])
 (.block n0 (.range (.t n14) [n15,n16] (.seq (.ops [(om n6 n15)])
 (.ops [(om n7 n16)])) (.block n1 (.draw n0 [(dz (om n18 n6) n1 n0),(dz (om n20 n7) n3 n0),(dq (om n23 n7) n6 n0 [] [] false true),(dz (ol n17 n5) n0 n0),(dz (ol n19 n3) n2 n0),(dz (oq n21 (.bin .rem (.t n19) (.t n20))) n4 n0),(dz (oq n25 (.iaddr n1 (.t n17) (.t n18))) n8 n0),(dq (ol n22 n3) n5 n0 [] [] false true),(dq (oq n24 (.bin .quo (.t n22) (.t n23))) n7 n0 [] [] false true),⟨⟨none,none,.store n1 (.t n25) (.t n21)⟩,n9,n0,[],[n8,n4,n0,n1,n2,n3],false,false⟩,⟨⟨none,none,.store n1 (.t n3) (.t n24)⟩,n10,n0,[],[n7,n9,n0,n1,n2,n3,n4,n5,n6,n8],true,false⟩])))))
 (.seq (.ops [(ol n26 n5),(om n4 n26)])
 .ret))))
def f8p:XFn:=⟨g9i,n27,[(.t n4)],g3o⟩
def g2z:Ann:=⟨[],[]⟩
def g5j:a0c:=
 (.seq (.ops [(oq n1 (.box (.t n0))),(oq n2 (.mv (.c (.d (.bool false)))))])
 (.seq (.ops [(of n3 n0 n1),(of n4 n0 n3),(ol n5 n4),(oq n6 (.bin .leq (.c (.d (.int .i64 (.l (.negSucc n0))))) (.t n5))),(om n7 n6),(og n8 n7 true (.faddr n0 (.t n1))),(og n9 n7 true (.faddr n0 (.t n8))),(og n10 n7 true (.load none (.t n9))),(og n11 n7 true (.bin .lss (.t n10) (k n4))),(oq n12 (.pick (.t n7) (.t n11) (.c (.d (.bool false))))),(om n2 n12)])
 .ret))
def f6y:XFn:=⟨g2z,n13,[(.t n2)],g5j⟩
def g7q:Ann:=⟨[],[]⟩
def h2z:a0c:=
 (.seq (.ops [(oq n1 (.box (.t n0))),(oq n2 (.mv (.c (.d (.bool false)))))])
 (.seq (.ops [(of n3 n0 n1),(of n4 n0 n3),(ol n5 n4),(oq n6 (.bin .geq (.t n5) (k n0))),(om n7 n6),(og n8 n7 false (.faddr n0 (.t n1))),(og n9 n7 false (.faddr n1 (.t n8))),(og n10 n7 false (.load none (.t n9))),(og n11 n7 false (.len (.t n10))),(og n12 n7 false (.faddr n0 (.t n1))),(og n13 n7 false (.faddr n2 (.t n12))),(og n14 n7 false (.load none (.t n13))),(og n15 n7 false (.len (.t n14))),(og n16 n7 false (.bin .add (.t n11) (.t n15))),(og n17 n7 false (.bin .eql (.t n16) (k n0))),(oq n18 (.pick (.t n7) (.c (.d (.bool true))) (.t n17))),(om n2 n18)])
 .ret))
def f3s:XFn:=⟨g7q,n19,[(.t n2)],h2z⟩
def g4t:Ann:=⟨[],[]⟩
def g5g:a0c:=
 (.seq (.ops [(oq n1 (.box (.t n0))),(oq n2 (.mv (.c (.d (.bool false)))))])
 (.seq (.ops [(of n3 n0 n1),(of n4 n0 n3),(ol n5 n4),(oq n6 (.bin .lss (.t n5) (k n0))),(om n7 n6),(og n8 n7 false (.faddr n0 (.t n1))),(og n9 n7 false (.faddr n1 (.t n8))),(og n10 n7 false (.load none (.t n9))),(og n11 n7 false (.len (.t n10))),(og n12 n7 false (.bin .gtr (.t n11) (k n0))),(og n13 n7 false (.mv (.t n12))),(og n14 n13 true (.faddr n0 (.t n1))),(og n15 n13 true (.faddr n2 (.t n14))),(og n16 n13 true (.load none (.t n15))),(og n17 n13 true (.len (.t n16))),(og n18 n13 true (.faddr n0 (.t n1))),(og n19 n13 true (.faddr n1 (.t n18))),(og n20 n13 true (.load none (.t n19))),(og n21 n13 true (.len (.t n20))),(og n22 n13 true (.bin .eql (.t n17) (.t n21))),(og n23 n7 false (.pick (.t n13) (.t n22) (.c (.d (.bool false))))),(oq n24 (.pick (.t n7) (.c (.d (.bool true))) (.t n23))),(om n2 n24)])
 .ret))
def f6a:XFn:=⟨g4t,n25,[(.t n2)],g5g⟩
def g3s:Ann:=⟨[(n4,n1,n0),(n4,n15,n0)],[]⟩
def g6d:a0c:=
 (.seq (.ops [(oq n1 (.box (.t n0))),(oq n2 (.mv (.c (.d (.bool false)))))])
 (.seq (.seq (.ops [(of n5 n0 n1),(of n6 n1 n5),(ol n7 n6),(oq n8 (.len (.t n7))),(oq n9 (.mv (k n0)))])
 (.block n0 (.loop (.seq (.ops [(oq n10 (.bin .lss (.t n9) (.t n8)))])
 (.seq (.cond (.t n10) .skip
 (.exit n0))
 (.seq (.block n1 (.seq (.ops [(om n11 n9),(oq n12 (.iaddr n2 (.t n7) (.t n9))),(oq n13 (.load (some n2) (.t n12))),(oq n4 (.alloc [(.int .u8 (.l (i n0))),(.int .i64 (.l (i n0)))])),(om n3 n11),⟨none,none,.store n2 (.t n4) (.t n13)⟩])
 (.seq (.draw n0 [(dz (oq n14 (.load (some n2) (.t n4))) n0 n0),(dq (oq n15 (.call (.c (.fn d5e [] [])) [(.t n14)] .borrow)) n1 n0 [] [n0] true false),(dz (oq n16 (.bin .neq (.t n15) (k n0))) n2 n0),(dz (om n17 n16) n3 n0),(dz (og n18 n17 false (.mv (.t n3))) n4 n0),(dz (og n19 n17 false (.bin .gtr (.t n18) (k n0))) n5 n0),(dz (og n20 n17 false (.mv (.t n19))) n6 n0),(dz (og n21 n20 true (.faddr n0 (.t n1))) n7 n0),(dz (og n22 n20 true (.faddr n1 (.t n21))) n8 n0),(dz (og n24 n20 true (.mv (.t n3))) n10 n0),(dz (og n25 n20 true (.bin .sub (.t n24) (k n1))) n11 n0),(dz (og n23 n20 true (.load none (.t n22))) n9 n0),(dz (og n26 n20 true (.iaddr n2 (.t n23) (.t n25))) n12 n0),(dz (og n27 n20 true (.load (some n2) (.t n26))) n13 n0),(dz (og n28 n20 true (.load (some n2) (.t n4))) n14 n0),(dq (og n29 n20 true (.call (.c (.fn d9j [] [])) [(.t n27),(.t n28)] .borrow)) n15 n0 [] [n13,n14,n6,n12,n9,n11,n8,n7,n5,n3,n4,n2,n1,n0,n10] true false),(dz (og n30 n20 true (.bin .geq (.t n29) (k n0))) n16 n0),(dz (og n31 n17 false (.pick (.t n20) (.t n30) (.c (.d (.bool false))))) n17 n0),(dz (oq n32 (.pick (.t n17) (.c (.d (.bool true))) (.t n31))) n18 n0)])
 (.cond (.t n32) (.seq (.ops [(oq n2 (.mv (.c (.d (.bool false)))))])
 .ret)
 .skip))))
 (.ops [(oq n33 (.bin .add (.t n9) (k n1))),(om n9 n33)])))))))
 (.seq (.ops [(oq n2 (.mv (.c (.d (.bool true)))))])
 .ret)))
def f6h:XFn:=⟨g3s,n34,[(.t n2)],g6d⟩
def g6g:Ann:=⟨[(n1,n2,n2)],[]⟩
def h1v:a0c:=
 (.seq (.ops [(oq n3 (.box (.t n1))),(oq n4 (.mv (.c (.d (.bool false)))))])
 (.seq (.ops [(om n5 n0),(oq n6 (.mkfn e6l [] [(.t n3)])),(oq n7 (.call (.c (.fn e2f [] [])) [(.t n5),(.t n6)] .raw)),(oq n8 (.un .not (.t n7))),(om n4 n8)])
 .ret))
def f3b:XFn:=⟨g6g,n9,[(.t n4)],h1v⟩
def h1i:Ann:=⟨[(n1,n3,n2)],[]⟩
def h0i:a0c:=
 (.seq (.ops [(oq n2 (.box (.t n0))),(oq n3 (.mv (.c (.d (.bool false)))))])
 (.seq (.ops [(of n4 n0 n2),(ol n5 n4),(oq n6 (.load (some n3) (.t n1))),(oq n7 (.call (.t n5) [(.t n6)] .raw)),(om n3 n7)])
 .ret))
def f8x:XFn:=⟨h1i,n8,[(.t n3)],h0i⟩
def h1y:Ann:=⟨[(n3,n1,n0),(n13,n1,n2),(n14,n1,n2),(n15,n3,n1),(n15,n4,n0)],[]⟩
def g5r:a0c:=
 (.seq (.ops [(oq n4 (.mv (k n0)))])
 (.seq (.block n0 (.seq (.ops [(om n10 n0),(oq n11 (.len (.t n10))),(oq n12 (.bin .gtr (.t n11) (k n6))),(om n9 n12)])
 (.cond (.t n9) (.seq (.ops [(oq n4 (.mv (k n5)))])
 .ret)
 (.seq (.ops [(om n14 n0),(oq n15 (.call (.c (.fn c5e [] [])) [(k n1),(k n12),(.t n14)] .borrow)),(oq n16 (.un .not (.t n15))),(om n13 n16)])
 (.cond (.t n13) (.seq (.ops [(oq n4 (.mv (k n3)))])
 .ret)
 .skip)))))
 (.seq (.ops [(oq n5 (.mv (k n1)))])
 (.seq (.seq (.ops [(om n17 n0),(oq n18 (.len (.t n17))),(oq n19 (.mv (k n0)))])
 (.block n1 (.loop (.seq (.ops [(oq n20 (.bin .lss (.t n19) (.t n18)))])
 (.seq (.cond (.t n20) .skip
 (.exit n1))
 (.seq (.block n2 (.seq (.ops [(oq n21 (.iaddr n1 (.t n17) (.t n19))),(ol n22 n21),(om n7 n22)])
 (.ops [(om n23 n5),(om n24 n7),(oq n25 (.bin .mul (.t n23) (.t n24))),(om n5 n25)])))
 (.ops [(oq n26 (.bin .add (.t n19) (k n1))),(om n19 n26)])))))))
 (.seq (.seq (.ops [(om n27 n5),(oq n28 (.bin .gtr (.t n27) (k e7x)))])
 (.cond (.t n28) (.seq (.ops [(oq n4 (.mv (k n5)))])
 .ret)
 .skip))
 (.seq (.ops [(om n29 n1),(oq n30 (.call (.c (.fn d4n [] [])) [(.t n29)] .raw)),(om n8 n30)])
 (.seq (.ops [(om n31 n8),(oq n32 (.call (.c (.fn e5y [] [])) [(.t n31)] .raw))])
 (.seq (.seq (.ops [(om n33 n8),(om n34 n0),(oq n35 (.len (.t n34))),(oq n36 (.call (.c (.fn d9o [] [])) [(.t n35)] .share)),(oq n37 (.call (.c (.fn d0p [] [])) [(.t n33),(.t n36)] .borrow)),(oq n38 (.un .not (.t n37)))])
 (.cond (.t n38) (.seq (.ops [(oq n4 (.mv (k n4)))])
 .ret)
 .skip))
 (.seq (.ops [(oq n4 (.mv (k n0)))])
 .ret)))))))))
def f4d:XFn:=⟨h1y,n39,[(.t n4)],g5r⟩
def g7r:Ann:=⟨[(n1,n2,n0),(n4,n2,n1),(n4,n3,n1),(n5,n1,n2),(n5,n3,n2),(n5,n4,n2),(n5,n5,n0),(n11,n3,n1),(n11,n4,n1)],[]⟩
def h2s:a0c:=
 (.seq (.ops [(oq n6 (.alloc [.nil,.nil,.nil,.nil,(.int .i64 (.l (i n0)))])),(oq n7 (.mv (k n0)))])
 (.seq (.seq (.ops [(om n13 n0),(om n14 n1),(oq n15 (.call (.c (.fn b2v [] [])) [(.t n13),(.t n14)] .borrow)),(om n8 n15)])
 (.seq (.ops [(om n16 n8),(oq n17 (.bin .neq (.t n16) (k n0)))])
 (.cond (.t n17) (.seq (.ops [(oq n18 (.build [.nil,.nil,.nil,.nil,(.int .i64 (.l (i n0)))] [])),(om n19 n8),⟨none,none,.store n5 (.t n6) (.t n18)⟩,(om n7 n19)])
 .ret)
 .skip)))
 (.seq (.ops [(om n20 n0),(om n21 n1),(oq n22 (.call (.c (.fn d3x [] [])) [] .share)),(oq n23 (.call (.c (.fn e6j [] [])) [(.t n20),(.t n21),(.t n22)] .share)),(oq n9 (.alloc [.nil,.nil,.nil,.nil,(.int .i64 (.l (i n0)))])),⟨none,none,.store n5 (.t n9) (.t n23)⟩])
 (.seq (.seq (.draw n0 [(dz (om n24 n2) n0 n0),(dq (oq n26 (.load (some n5) (.t n9))) n2 n0 [] [] false true),(dq (oq n27 (.bsliceP n5 n1 [.nil,.nil,.nil,.nil,(.int .i64 (.l (i n0)))] [(n0,(.t n26))])) n3 n0 [] [] false true),(dq (oq n25 (.call (.c (.fn b4f [] [])) [(.t n24)] .raw)) n1 n0 [] [n0] false false),(dq (oq n28 (.call (.c (.fn e6m [] [])) [(.t n25),(k n0),(.t n27)] .raw)) n4 n0 [] [n1,n3,n0,n2] true false),(dq (oq n29 (.call (.c (.fn n99 [] [])) [(.t n28)] .borrow)) n5 n0 [] [n4,n1,n3,n0,n2] true false),(dz (om n10 n29) n6 n0)])
 (.seq (.ops [(om n30 n10),(oq n31 (.bin .neq (.t n30) (k n0)))])
 (.cond (.t n31) (.seq (.ops [(oq n32 (.build [.nil,.nil,.nil,.nil,(.int .i64 (.l (i n0)))] [])),(om n33 n10),⟨none,none,.store n5 (.t n6) (.t n32)⟩,(om n7 n33)])
 .ret)
 .skip)))
 (.seq (.seq (.ops [(om n34 n2),(oq n35 (.len (.t n34))),(oq n36 (.mv (k n0)))])
 (.block n0 (.loop (.seq (.ops [(oq n37 (.bin .lss (.t n36) (.t n35)))])
 (.seq (.cond (.t n37) .skip
 (.exit n0))
 (.seq (.block n1 (.seq (.ops [(oq n38 (.iaddr n5 (.t n34) (.t n36))),(oq n39 (.load (some n5) (.t n38))),(oq n12 (.alloc [.nil,.nil,.nil,.nil,(.int .i64 (.l (i n0)))])),⟨none,none,.store n5 (.t n12) (.t n39)⟩])
 (.ops [(oq n40 (.load (some n5) (.t n9))),(oq n41 (.load (some n5) (.t n12))),(oq n42 (.bslice n5 n2 [.nil,.nil,.nil,.nil,(.int .i64 (.l (i n0)))] [(n0,(.t n40)),(n1,(.t n41))] false)),(oq n43 (.call (.c (.fn b9n [] [])) [(.c (.fn d1l [] [])),(.t n42)] .share)),(oq n44 (.call (.c (.fn e9y [] [])) [(.t n43)] .share)),⟨none,none,.store n5 (.t n9) (.t n44)⟩])))
 (.ops [(oq n45 (.bin .add (.t n36) (k n1))),(om n36 n45)])))))))
 (.seq (.ops [(oq n46 (.load (some n5) (.t n9))),⟨none,none,.store n5 (.t n6) (.t n46)⟩,(oq n7 (.mv (k n0)))])
 .ret))))))
def f6k:XFn:=⟨g7r,n47,[(.c n6 (some n5)),(.t n7)],h2s⟩
def h0h:Ann:=⟨[(n1,n1,n1),(n4,n3,n0),(n6,n5,n0)],[]⟩
def g5b:a0c:=
 (.seq (.ops [(oq n2 (.box (.t n0))),(oq n4 (.alloc [(.int .u8 (.l (i n0))),(.int .i64 (.l (i n0)))])),(oq n5 (.mv (k n0)))])
 (.seq (.ops [(oq n9 (.load (some n5) (.t n2))),(oq n10 (.call (.c (.fn d4p [] [])) [(.t n9)] .share)),(om n8 n10),(oq n11 (.extract (.t n8) n0)),(oq n12 (.extract (.t n8) n1)),(oq n6 (.alloc [.nil,.nil,.nil,.nil,.nil,.nil,(.int .i64 (.l (i n0)))])),⟨none,none,.store n7 (.t n6) (.t n11)⟩,(om n7 n12)])
 (.seq (.block n0 (.seq (.ops [(om n14 n7),(oq n15 (.bin .neq (.t n14) (k n0))),(om n13 n15)])
 (.cond (.t n13) (.seq (.ops [(oq n16 (.build [(.int .u8 (.l (i n0))),(.int .i64 (.l (i n0)))] [])),(om n17 n7),⟨none,none,.store n2 (.t n4) (.t n16)⟩,(om n5 n17)])
 .ret)
 (.seq (.ops [(of n19 n0 n6),(oq n20 (.load (some n2) (.t n19))),(om n21 n1),(oq n22 (.call (.c (.fn e6f [] [])) [(.t n20),(.t n21)] .borrow)),(oq n23 (.un .not (.t n22))),(om n18 n23)])
 (.cond (.t n18) (.seq (.ops [(oq n24 (.build [(.int .u8 (.l (i n0))),(.int .i64 (.l (i n0)))] [])),⟨none,none,.store n2 (.t n4) (.t n24)⟩,(oq n5 (.mv (k n3)))])
 .ret)
 .skip)))))
 (.seq (.draw n0 [(dq (of n25 n2 n6) n0 n0 [] [] false true),(dq (of n26 n2 n25) n1 n0 [] [] false true),(dz (om n29 n1) n4 n0),(dq (ol n27 n26) n2 n0 [] [] false true),(dz (oq n28 (.load (some n7) (.t n6))) n3 n0),(dq (oq n30 (.call (.c (.fn e4k [] [])) [(.t n28),(.t n29),(.c (.fn e6i [] []))] .borrow)) n5 n0 [] [n3,n4] false false),(dz (oq n31 (.iaddr n2 (.t n27) (.t n30))) n6 n0),(dz (oq n32 (.load (some n2) (.t n31))) n7 n0),⟨⟨none,none,.store n2 (.t n4) (.t n32)⟩,n8,n0,[],[n7,n5,n0,n1,n2,n3,n4,n6],true,false⟩,(dz (oq n5 (.mv (k n0))) n9 n0)])
 .ret))))
def f8o:XFn:=⟨h0h,n33,[(.c n4 (some n2)),(.t n5)],g5b⟩
def g7o:Ann:=⟨[],[]⟩
def h2w:a0c:=
 (.seq (.ops [(oq n3 (.box (.t n1))),(oq n4 (.mv (k n0)))])
 (.seq (.seq (.ops [(om n6 n0),(oq n7 (.len (.t n6))),(oq n8 (.mv (k n0)))])
 (.block n0 (.loop (.seq (.ops [(oq n9 (.bin .lss (.t n8) (.t n7)))])
 (.seq (.cond (.t n9) .skip
 (.exit n0))
 (.seq (.block n1 (.seq (.ops [(om n10 n8),(om n5 n10)])
 (.seq (.draw n0 [(dz (om n12 n0) n1 n0),(dz (om n13 n5) n2 n0),(dz (oq n14 (.iaddr n2 (.t n12) (.t n13))) n3 n0),(dz (oq n11 (.load (some n2) (.t n3))) n0 n0),(dz (oq n15 (.load (some n2) (.t n14))) n4 n0),(dz (oq n16 (.aeq false [.u8,.i64] (.t n11) (.t n15))) n5 n0)])
 (.cond (.t n16) (.seq (.ops [(om n17 n5),(om n4 n17)])
 .ret)
 .skip))))
 (.ops [(oq n18 (.bin .add (.t n8) (k n1))),(om n8 n18)])))))))
 (.seq (.ops [(oq n4 (.mv (.c (.d (.int .i64 (.l (.negSucc n0)))))))])
 .ret)))
def f9i:XFn:=⟨g7o,n19,[(.t n4)],h2w⟩
def h2f:Ann:=⟨[],[]⟩
def g8w:a0c:=
 (.seq (.ops [(oq n1 (.box (.t n0))),(oq n2 (.mv (.c (.d (.bool false)))))])
 (.seq (.seq (.ops [(oq n3 (.mv (k n1)))])
 (.block n0 (.loop (.seq (.seq (.ops [(om n4 n3),(of n5 n1 n1),(ol n6 n5),(oq n7 (.len (.t n6))),(oq n8 (.bin .lss (.t n4) (.t n7)))])
 (.cond (.t n8) .skip
 (.exit n0)))
 (.seq (.block n1 (.seq (.draw n0 [(dz (of n11 n1 n1) n0 n0),(dz (om n13 n3) n2 n0),(dz (of n16 n1 n1) n5 n0),(dz (ol n12 n11) n1 n0),(dz (oq n14 (.iaddr n1 (.t n12) (.t n13))) n3 n0),(dz (ol n15 n14) n4 n0),(dz (ol n17 n16) n6 n0),(dz (oq n18 (.iaddr n1 (.t n17) (k n0))) n7 n0),(dz (ol n19 n18) n8 n0),(dz (oq n20 (.bin .neq (.t n15) (.t n19))) n9 n0)])
 (.cond (.t n20) (.seq (.ops [(oq n2 (.mv (.c (.d (.bool false)))))])
 .ret)
 .skip)))
 (.ops [(om n9 n3),(oq n10 (.bin .add (.t n9) (k n1))),(om n3 n10)]))))))
 (.seq (.ops [(oq n2 (.mv (.c (.d (.bool true)))))])
 .ret)))
def g1d:XFn:=⟨h2f,n21,[(.t n2)],g8w⟩
def g3p:Ann:=⟨[(n2,n1,n0),(n6,n3,n2),(n9,n22,n1)],[]⟩
def g7d:a0c:=
 (.seq (.ops [(oq n3 (.box (.t n0))),(oq n4 (.box (.t n1))),(oq n6 (.alloc [(.bool false)]))])
 (.seq (.seq (.ops [(of n10 n0 n4),(ol n11 n10),(oq n12 (.bin .lss (.t n11) (k n0)))])
 (.cond (.t n12) (.seq (.ops [(om n13 n2),(oq n14 (.call (.c (.fn c1j [] [])) [(.t n13)] .borrow)),⟨none,none,.store n1 (.t n6) (.t n14)⟩])
 .ret)
 .skip))
 (.seq (.seq (.draw n0 [(dz (of n15 n0 n4) n0 n0),(dz (ol n16 n15) n1 n0),(dz (ol n17 n3) n2 n0),(dz (oq n18 (.nilchk (.t n17))) n3 n0),(dz (of n19 n2 n18) n4 n0),(dz (ol n20 n19) n5 n0),(dz (oq n21 (.bin .geq (.t n16) (.t n20))) n6 n0)])
 (.cond (.t n21) (.seq (.ops [⟨none,none,.store n1 (.t n6) (.c (.d (.bool false)))⟩])
 .ret)
 .skip))
 (.seq (.ops [(oq n7 (.alloc [(.int .i64 (.l (i n0)))])),⟨none,none,.store n1 (.t n7) (k n0)⟩])
 (.seq (.seq (.ops [(om n22 n2),(of n23 n0 n4),(ol n24 n23),(oq n25 (.call (.c (.fn c5o [] [])) [(.t n22),(.t n24)] .raw))])
 (.block n0 (.range (.t n25) [n26,n27] (.seq (.ops [(oq n8 (.alloc [(.int .u8 (.l (i n0))),(.int .i64 (.l (i n0)))])),⟨none,none,.store n2 (.t n8) (.t n26)⟩])
 (.ops [(om n9 n27)])) (.block n1 (.seq (.seq (.draw n0 [(dz (of n29 n1 n4) n1 n0),(dz (ol n28 n7) n0 n0),(dz (ol n30 n29) n2 n0),(dz (oq n31 (.len (.t n30))) n3 n0),(dz (oq n32 (.bin .eql (.t n28) (.t n31))) n4 n0),(dz (om n33 n32) n5 n0),(dz (og n34 n33 false (.faddr n1 (.t n4))) n6 n0),(dz (og n35 n33 false (.load none (.t n34))) n7 n0),(dz (og n36 n33 false (.load none (.t n7))) n8 n0),(dz (og n37 n33 false (.iaddr n2 (.t n35) (.t n36))) n9 n0),(dz (og n38 n33 false (.load (some n2) (.t n37))) n10 n0),(dz (og n39 n33 false (.load (some n2) (.t n8))) n11 n0),(dz (og n40 n33 false (.aeq true [.u8,.i64] (.t n38) (.t n39))) n12 n0),(dz (oq n41 (.pick (.t n33) (.c (.d (.bool true))) (.t n40))) n13 n0),(dz (om n42 n41) n14 n0),(dz (og n44 n42 false (.faddr n2 (.t n4))) n16 n0),(dz (og n49 n42 false (.mv (.t n9))) n21 n0),(dz (og n43 n42 false (.load none (.t n3))) n15 n0),(dz (og n45 n42 false (.load none (.t n44))) n17 n0),(dz (og n46 n42 false (.load none (.t n7))) n18 n0),(dz (og n47 n42 false (.iaddr n3 (.t n45) (.t n46))) n19 n0),(dz (og n48 n42 false (.load (some n3) (.t n47))) n20 n0),(dq (og n50 n42 false (.call (.c (.fn b8e [] [])) [(.t n43),(.t n48),(.t n49)] .share)) n22 n0 [] [n15,n20,n21,n14,n13,n5,n12,n4,n0,n3,n2,n1,n10,n11,n9,n7,n8,n6,n19,n17,n18,n16] true false),(dz (og n51 n42 false (.un .not (.t n50))) n23 n0),(dz (oq n52 (.pick (.t n42) (.c (.d (.bool true))) (.t n51))) n24 n0)])
 (.cond (.t n52) (.seq (.ops [⟨none,none,.store n1 (.t n6) (.c (.d (.bool false)))⟩])
 .ret)
 .skip))
 (.ops [(ol n53 n7),(oq n54 (.bin .add (.t n53) (k n1))),⟨none,none,.store n1 (.t n7) (.t n54)⟩]))))))
 (.seq (.ops [(ol n55 n7),(of n56 n1 n4),(ol n57 n56),(oq n58 (.len (.t n57))),(oq n59 (.bin .eql (.t n55) (.t n58))),⟨none,none,.store n1 (.t n6) (.t n59)⟩])
 .ret))))))
def g2i:XFn:=⟨g3p,n60,[(.c n6 none)],g7d⟩
def g9t:Ann:=⟨[(n1,n2,n2)],[]⟩
def g7y:a0c:=
 (.seq (.ops [(oq n1 (.box (.t n0))),(oq n2 (.mv (.c (.d (.bool false)))))])
 (.seq (.ops [(ol n3 n1),(oq n4 (.mkfn e5g [] [(.t n1)])),(oq n5 (.call (.c (.fn e5b [] [])) [(.t n3),(.t n4)] .raw)),(om n2 n5)])
 .ret))
def f8j:XFn:=⟨g9t,n6,[(.t n2)],g7y⟩
def g9l:Ann:=⟨[(n1,n5,n0),(n9,n3,n1),(n11,n1,n1),(n12,n1,n1),(n16,n1,n0),(n17,n4,n0),(n23,n7,n2),(n23,n8,n3),(n23,n14,n2),(n23,n15,n3)],[]⟩
def g5m:a0c:=
 (.seq (.ops [(oq n8 (.box (.t n3))),(oq n9 (.box (.t n4))),(oq n10 (.mv (.c (.d (.raw (.pointer none)))))),(oq n11 (.mv (k n0)))])
 (.seq (.seq (.ops [(om n26 n0),(om n27 n1),(om n28 n2),(oq n29 (.load (some n5) (.t n8))),(oq n30 (.load (some n5) (.t n9))),(oq n31 (.call (.c (.fn n98 [] [])) [(.t n26),(.t n27),(.t n28),(.t n29),(.t n30)] .borrow)),(om n12 n31)])
 (.seq (.ops [(om n32 n12),(oq n33 (.bin .neq (.t n32) (k n0)))])
 (.cond (.t n33) (.seq (.ops [(om n34 n12),(oq n10 (.mv (.c (.d (.raw (.pointer none)))))),(om n11 n34)])
 .ret)
 .skip)))
 (.seq (.ops [(om n35 n0),(om n36 n1),(oq n37 (.build [.nil,.nil] [(n0,n1,(.t n35)),(n1,n1,(.t n36))])),(om n38 n2),(oq n39 (.len (.t n38))),(oq n40 (.build [.nil,.nil,(.int .i64 (.l (i n0))),.nil,.nil] [(n0,n2,(.t n37)),(n2,n1,(.t n39))])),(oq n41 (.box (.t n40))),(om n13 n41)])
 (.seq (.ops [(om n42 n2),(oq n43 (.len (.t n42))),(oq n44 (.mkslice n1 [.nil] n24 (.t n43))),(om n14 n44)])
 (.seq (.seq (.ops [(om n45 n2),(oq n46 (.len (.t n45))),(oq n47 (.mv (k n0)))])
 (.block n0 (.loop (.seq (.ops [(oq n48 (.bin .lss (.t n47) (.t n46)))])
 (.seq (.cond (.t n48) .skip
 (.exit n0))
 (.seq (.block n1 (.seq (.ops [(om n49 n47),(oq n50 (.iaddr n5 (.t n45) (.t n47))),(oq n51 (.load (some n5) (.t n50))),(oq n16 (.alloc [.nil,.nil,.nil,.nil,(.int .i64 (.l (i n0)))])),(om n15 n49),⟨none,none,.store n5 (.t n16) (.t n51)⟩])
 (.ops [(om n53 n14),(om n54 n15),(oq n55 (.load (some n5) (.t n16))),(oq n56 (.call (.c (.fn e0a [] [])) [(.t n55)] .share)),(om n52 n56),(oq n57 (.extract (.t n52) n0)),(oq n58 (.extract (.t n52) n1)),(oq n59 (.iaddr n1 (.t n53) (.t n54))),⟨none,none,.store n1 (.t n59) (.t n57)⟩])))
 (.ops [(oq n60 (.bin .add (.t n47) (k n1))),(om n47 n60)])))))))
 (.seq (.ops [(oq n62 (.load (some n5) (.t n9))),(oq n63 (.call (.c (.fn e0a [] [])) [(.t n62)] .share)),(om n61 n63),(oq n64 (.extract (.t n61) n0)),(oq n65 (.extract (.t n61) n1)),(om n17 n64),(om n18 n65)])
 (.seq (.ops [(oq n67 (.load (some n5) (.t n8))),(oq n68 (.call (.c (.fn e0a [] [])) [(.t n67)] .share)),(om n66 n68),(oq n69 (.extract (.t n66) n0)),(oq n70 (.extract (.t n66) n1)),(om n19 n69),(om n20 n70)])
 (.seq (.seq (.ops [(om n71 n19),(oq n72 (.len (.t n71))),(oq n73 (.mv (k n0)))])
 (.block n2 (.loop (.seq (.ops [(oq n74 (.bin .lss (.t n73) (.t n72)))])
 (.seq (.cond (.t n74) .skip
 (.exit n2))
 (.seq (.block n3 (.seq (.ops [(om n75 n73),(oq n76 (.iaddr n2 (.t n71) (.t n73))),(oq n77 (.load (some n2) (.t n76))),(oq n22 (.alloc [(.int .u8 (.l (i n0))),(.int .i64 (.l (i n0)))])),(om n21 n75),⟨none,none,.store n2 (.t n22) (.t n77)⟩])
 (.seq (.seq (.ops [(oq n78 (.load (some n2) (.t n22))),(oq n79 (.call (.c (.fn e4d [] [])) [(.t n78)] .borrow)),(oq n80 (.un .not (.t n79)))])
 (.cond (.t n80) (.exit n3)
 .skip))
 (.seq (.ops [(om n81 n17),(om n82 n21),(oq n83 (.iaddr n2 (.t n81) (.t n82))),(oq n84 (.load (some n2) (.t n83))),(oq n85 (.call (.c (.fn e4d [] [])) [(.t n84)] .borrow)),(oq n86 (.build [(.int .u8 (.l (i n0))),(.int .i64 (.l (i n0))),(.int .u8 (.l (i n0))),(.int .i64 (.l (i n0))),(.int .u8 (.l (i n0))),(.int .i64 (.l (i n0))),(.int .u8 (.l (i n0))),(.int .i64 (.l (i n0))),(.bool false)] [(n8,n1,(.t n85))])),(oq n23 (.alloc [(.int .u8 (.l (i n0))),(.int .i64 (.l (i n0))),(.int .u8 (.l (i n0))),(.int .i64 (.l (i n0))),(.int .u8 (.l (i n0))),(.int .i64 (.l (i n0))),(.int .u8 (.l (i n0))),(.int .i64 (.l (i n0))),(.bool false)])),⟨none,none,.store n9 (.t n23) (.t n86)⟩])
 (.seq (.seq (.ops [(om n87 n14),(oq n88 (.len (.t n87))),(oq n89 (.mv (k n0)))])
 (.block n4 (.loop (.seq (.ops [(oq n90 (.bin .lss (.t n89) (.t n88)))])
 (.seq (.cond (.t n90) .skip
 (.exit n4))
 (.seq (.block n5 (.seq (.ops [(om n91 n89),(oq n92 (.iaddr n1 (.t n87) (.t n89))),(ol n93 n92),(om n24 n91),(om n25 n93)])
 (.ops [(om n94 n24),(om n95 n25),(om n96 n21),(oq n97 (.iaddr n2 (.t n95) (.t n96))),(oq n98 (.load (some n2) (.t n97))),(of n99 n0 n23),(oq c1w (.iaddrA n4 n2 (.t n99) (.t n94))),⟨none,none,.store n2 (.t c1w) (.t n98)⟩])))
 (.ops [(oq b9n (.bin .add (.t n89) (k n1))),(om n89 b9n)])))))))
 (.draw n0 [(dq (om c2d n13) n0 n0 [] [] false true),(dq (om b8s n13) n1 n0 [] [] false true),(dz (om b0g n13) n2 n0),(dz (oq b9l (.nilchk (.t b0g))) n3 n0),(dz (of c1v n3 b9l) n4 n0),(dz (om a9u n21) n6 n0),(dz (oq b7w (.bsliceP n1 n1 [(.int .i64 (.l (i n0)))] [(n0,(.t a9u))])) n7 n0),(dq (om c2p n13) n9 n0 [] [] false true),(dq (oq b8v (.nilchk (.t c2p))) n10 n0 [] [] false true),(dq (of c3o n4 b8v) n11 n0 [] [] false true),(dz (ol b3k c1v) n5 n0),(dq (ol c3g c3o) n12 n0 [] [] false true),(dq (oq b4y (.load (some n9) (.t n23))) n13 n0 [] [] false true),(dq (oq c1y (.bsliceP n9 n1 [(.int .u8 (.l (i n0))),(.int .i64 (.l (i n0))),(.int .u8 (.l (i n0))),(.int .i64 (.l (i n0))),(.int .u8 (.l (i n0))),(.int .i64 (.l (i n0))),(.int .u8 (.l (i n0))),(.int .i64 (.l (i n0))),(.bool false)] [(n0,(.t b4y))])) n14 n0 [] [] false true),(dq (oq b8f (.appendN n1 n8 (.t b3k) (.t b7w) true)) n8 n0 [] [n5,n7,n4,n3,n2,n6] false false),(dq (oq c3q (.appendN n9 n72 (.t c3g) (.t c1y) true)) n15 n0 [] [n12,n14,n8,n11,n10,n9,n13,n5,n7,n4,n3,n2,n6] false false),(dz (oq b1a (.nilchk (.t c2d))) n16 n0),(dz (of b2v n3 b1a) n17 n0),⟨⟨none,none,.store n1 (.t b2v) (.t b8f)⟩,n18,n0,[],[n17,n8,n15,n0,n2,n3,n4,n5,n6,n7,n12,n16,n11,n10,n9,n14,n13],false,false⟩,(dz (oq b8r (.nilchk (.t b8s))) n19 n0),(dz (of c3u n4 b8r) n20 n0),⟨⟨none,none,.store n1 (.t c3u) (.t c3q)⟩,n21,n0,[],[n20,n15,n18,n0,n1,n2,n3,n4,n5,n6,n7,n8,n9,n10,n11,n12,n13,n14,n16,n17,n19],true,false⟩]))))))
 (.ops [(oq c1h (.bin .add (.t n73) (k n1))),(om n73 c1h)])))))))
 (.seq (.ops [(om c3f n13),(om n10 c3f),(oq n11 (.mv (k n0)))])
 .ret)))))))))
def f5h:XFn:=⟨g9l,b8e,[(.t n10),(.t n11)],g5m⟩
def g8g:Ann:=⟨[],[]⟩
def g8a:a0c:=
 (.seq (.ops [(oq n2 (.box (.t n0))),(oq n3 (.box (.t n1))),(oq n4 (.mv (.c (.d (.raw .nilFunc)))))])
 (.seq (.ops [(oq n5 (.mkfn e6x [] [(.t n2),(.t n3)])),(om n4 n5)])
 .ret))
def f6u:XFn:=⟨g8g,n6,[(.t n4)],g8a⟩
def g7f:Ann:=⟨[(n3,n0,n1),(n3,n2,n3)],[]⟩
def g5f:a0c:=
 (.seq (.ops [(oq n2 (.mv (.c (.d .nil))))])
 (.seq (.seq (.ops [(om n3 n0),(oq n4 (.isnil false (.t n3)))])
 (.cond (.t n4) (.seq (.ops [(oq n2 (.mv (.c (.d .nil))))])
 .ret)
 .skip))
 (.seq (.ops [(oq n5 (.bnew n5)),(om n6 n0),(oq n7 (.appendN n5 b0g (.t n5) (.t n6) true)),(om n2 n7)])
 .ret)))
def f3e:XFn:=⟨g7f,n8,[(.t n2)],g5f⟩
def g7t:Ann:=⟨[(n1,n1,n1)],[]⟩
def h0u:a0c:=
 (.seq (.ops [(oq n1 (.box (.t n0))),(oq n2 (.mv (k n0)))])
 (.seq (.ops [(oq n6 (.load (some n5) (.t n1))),(oq n7 (.call (.c (.fn d4p [] [])) [(.t n6)] .share)),(om n5 n7),(oq n8 (.extract (.t n5) n0)),(oq n9 (.extract (.t n5) n1)),(oq n3 (.alloc [.nil,.nil,.nil,.nil,.nil,.nil,(.int .i64 (.l (i n0)))])),⟨none,none,.store n7 (.t n3) (.t n8)⟩,(om n4 n9)])
 (.seq (.ops [(om n10 n4),(om n2 n10)])
 .ret)))
def f8u:XFn:=⟨g7t,n11,[(.t n2)],h0u⟩
def h3c:Ann:=⟨[(n1,n4,n0),(n1,n10,n0)],[]⟩
def g3t:a0c:=
 (.seq (.ops [(oq n2 (.box (.t n0))),(oq n3 (.box (.t n1))),(oq n4 (.mv (.c (.d (.bool false)))))])
 (.seq (.ops [(of n5 n0 n3),(ol n6 n5),(of n7 n0 n2),(ol n8 n7),(oq n9 (.call (.c (.fn d0p [] [])) [(.t n6),(.t n8)] .borrow)),(om n10 n9),(og n11 n10 true (.faddr n1 (.t n3))),(og n12 n10 true (.load none (.t n11))),(og n13 n10 true (.faddr n1 (.t n2))),(og n14 n10 true (.load none (.t n13))),(og n15 n10 true (.call (.c (.fn d0p [] [])) [(.t n12),(.t n14)] .borrow)),(oq n16 (.pick (.t n10) (.t n15) (.c (.d (.bool false))))),(om n4 n16)])
 .ret))
def g1m:XFn:=⟨h3c,n17,[(.t n4)],g3t⟩
def h1n:Ann:=⟨[(n1,n2,n2)],[]⟩
def g8z:a0c:=
 (.seq (.ops [(oq n3 (.box (.t n1))),(oq n4 (.mv (.c (.d (.bool false)))))])
 (.seq (.ops [(om n5 n0),(oq n6 (.mkfn e6e [] [(.t n3)])),(oq n7 (.call (.c (.fn e3z [] [])) [(.t n5),(.t n6)] .raw)),(oq n8 (.un .not (.t n7))),(om n4 n8)])
 .ret))
def f4q:XFn:=⟨h1n,n9,[(.t n4)],g8z⟩
def g3c:Ann:=⟨[(n1,n2,n2)],[]⟩
def g4v:a0c:=
 (.seq (.ops [(oq n2 (.box (.t n0))),(oq n4 (.mv (.c (.d (.bool false)))))])
 (.seq (.ops [(om n5 n1),(oq n6 (.mkfn e5q [] [(.t n2)])),(oq n7 (.call (.c (.fn e3z [] [])) [(.t n5),(.t n6)] .raw)),(oq n8 (.un .not (.t n7))),(om n4 n8)])
 .ret))
def g2h:XFn:=⟨g3c,n9,[(.t n4)],g4v⟩
def g9r:Ann:=⟨[(n1,n4,n0),(n1,n10,n0)],[]⟩
def h2t:a0c:=
 (.seq (.ops [(oq n2 (.box (.t n0))),(oq n3 (.box (.t n1))),(oq n4 (.mv (.c (.d (.bool false)))))])
 (.seq (.ops [(of n5 n0 n3),(ol n6 n5),(of n7 n0 n2),(ol n8 n7),(oq n9 (.call (.c (.fn d0p [] [])) [(.t n6),(.t n8)] .borrow)),(om n10 n9),(og n11 n10 true (.faddr n1 (.t n3))),(og n12 n10 true (.load none (.t n11))),(og n13 n10 true (.faddr n1 (.t n2))),(og n14 n10 true (.load none (.t n13))),(og n15 n10 true (.call (.c (.fn d0p [] [])) [(.t n12),(.t n14)] .borrow)),(oq n16 (.pick (.t n10) (.t n15) (.c (.d (.bool false))))),(om n4 n16)])
 .ret))
def g2s:XFn:=⟨g9r,n17,[(.t n4)],h2t⟩
def g6o:Ann:=⟨[],[]⟩
def g3d:a0c:=
 (.seq (.ops [(oq n0 (.alloc [(.int .u8 (.l (i n0))),(.int .i64 (.l (i n0)))]))])
 (.seq (.ops [(oq n1 (.build [(.int .u8 (.l (i n0))),(.int .i64 (.l (i n0)))] [(n1,n1,(k n1))])),⟨none,none,.store n2 (.t n0) (.t n1)⟩])
 .ret))
def g2c:XFn:=⟨g6o,n2,[(.c n0 (some n2))],g3d⟩
def g4c:Ann:=⟨[(n1,n1,n0)],[]⟩
def g3r:a0c:=
 (.seq (.ops [(oq n1 (.box (.t n0))),(oq n2 (.mv (k n0)))])
 (.seq (.seq (.ops [(oq n3 (.load (some n2) (.t n1))),(oq n4 (.call (.c (.fn e0j [] [])) [(.t n3)] .borrow)),(oq n5 (.un .not (.t n4)))])
 (.cond (.t n5) (.seq (.ops [(oq n2 (.mv (k n2)))])
 .ret)
 .skip))
 (.seq (.ops [(oq n2 (.mv (k n0)))])
 .ret)))
def f9y:XFn:=⟨g4c,n6,[(.t n2)],g3r⟩
def h0s:Ann:=⟨[],[]⟩
def h3t:a0c:=
 (.seq (.ops [(oq n0 (.alloc [(.int .i64 (.l (i n0))),.nil,.nil]))])
 (.seq (.ops [(oq n1 (.build [(.int .i64 (.l (i n0))),.nil,.nil] [(n0,n1,(.c (.d (.int .i64 (.l (.negSucc n0))))))])),⟨none,none,.store n3 (.t n0) (.t n1)⟩])
 .ret))
def f7v:XFn:=⟨h0s,n2,[(.c n0 (some n3))],h3t⟩
def g6l:Ann:=⟨[],[]⟩
def g3f:a0c:=
 (.seq (.ops [(oq n2 (.alloc [(.bool false),(.bool false),(.bool false),(.bool false)]))])
 (.seq (.seq (.ops [(om n4 n0),(oq n5 (.nilchk (.t n4))),(of n6 n2 n5),(ol n7 n6),(oq n8 (.mv (k n0)))])
 (.block n0 (.loop (.seq (.ops [(oq n9 (.bin .lss (.t n8) (.t n7)))])
 (.seq (.cond (.t n9) .skip
 (.exit n0))
 (.seq (.block n1 (.seq (.ops [(om n10 n8),(om n3 n10)])
 (.ops [(om n11 n3),(oq n12 (.iaddrA n4 n1 (.t n2) (.t n11))),⟨none,none,.store n1 (.t n12) (.c (.d (.bool true)))⟩])))
 (.ops [(oq n13 (.bin .add (.t n8) (k n1))),(om n8 n13)])))))))
 (.seq (.ops [(oq n14 (.load (some n4) (.t n2))),⟨none,none,.store n4 (.t n2) (.t n14)⟩])
 .ret)))
def g2u:XFn:=⟨g6l,n15,[(.c n2 (some n4))],g3f⟩
def h0q:Ann:=⟨[],[]⟩
def h3n:a0c:=
 (.seq (.ops [(oq n1 (.box (.t n0))),(oq n2 (.mv (.c (.d (.raw .nilFunc)))))])
 (.seq (.ops [(oq n3 (.mkfn e5j [] [(.t n1)])),(om n2 n3)])
 .ret))
def g2q:XFn:=⟨h0q,n4,[(.t n2)],h3n⟩
def g4r:Ann:=⟨[(n1,n2,n0)],[]⟩
def g6a:a0c:=
 (.seq (.ops [(oq n2 (.box (.t n0))),(oq n3 (.box (.t n1))),(oq n4 (.mv (k n0)))])
 (.seq (.ops [(oq n8 (.load (some n2) (.t n2))),(oq n9 (.load (some n2) (.t n3))),(oq n10 (.call (.c (.fn e7d [] [])) [(.t n8),(.t n9)] .borrow)),(om n7 n10),(oq n11 (.extract (.t n7) n0)),(oq n12 (.extract (.t n7) n1)),(om n5 n11),(om n6 n12)])
 (.seq (.block n0 (.seq (.ops [(oq n14 (.load (some n2) (.t n2))),(oq n15 (.load (some n2) (.t n3))),(oq n16 (.aeq false [.u8,.i64] (.t n14) (.t n15))),(om n13 n16)])
 (.cond (.t n13) (.seq (.ops [(oq n4 (.mv (k n0)))])
 .ret)
 (.seq (.ops [(om n18 n5),(om n17 n18)])
 (.cond (.t n17) (.seq (.ops [(oq n4 (.mv (.c (.d (.int .i64 (.l (.negSucc n0)))))))])
 .ret)
 .skip)))))
 (.seq (.ops [(oq n4 (.mv (k n1)))])
 .ret))))
def g2x:XFn:=⟨g4r,n19,[(.t n4)],g6a⟩
def h0p:Ann:=⟨[(n1,n2,n2)],[]⟩
def g9s:a0c:=
 (.seq (.ops [(oq n4 (.mv (.c (.d (.bool false)))))])
 (.seq (.ops [(om n5 n0),(om n6 n1),(oq n7 (.call (.c (.fn d9y [] [])) [(.t n5),(.t n6)] .raw)),(oq n8 (.bin .geq (.t n7) (k n0))),(om n4 n8)])
 .ret))
def f6j:XFn:=⟨h0p,n9,[(.t n4)],g9s⟩
def h3f:Ann:=⟨[(n1,n2,n2)],[]⟩
def h2p:a0c:=
 (.seq (.ops [(oq n2 (.box (.t n0))),(oq n3 (.mv (.c (.d (.bool false)))))])
 (.seq (.ops [(ol n4 n1),(oq n5 (.load (some n1) (.t n2))),(oq n6 (.call (.t n4) [(.t n5)] .raw)),(oq n7 (.un .not (.t n6))),(om n3 n7)])
 .ret))
def f6c:XFn:=⟨h3f,n8,[(.t n3)],h2p⟩
def g5k:Ann:=⟨[(n1,n2,n2)],[]⟩
def h2x:a0c:=
 (.seq (.ops [(oq n3 (.box (.t n0))),(oq n4 (.box (.t n1))),(oq n6 (.mv (.c (.d (.bool false)))))])
 (.seq (.ops [(om n7 n2),(oq n8 (.mkfn e5r [] [(.t n3),(.t n4)])),(oq n9 (.call (.c (.fn d8s [] [])) [(.t n7),(.t n8)] .raw)),(oq n10 (.un .not (.t n9))),(om n6 n10)])
 .ret))
def f5g:XFn:=⟨g5k,n11,[(.t n6)],h2x⟩
def g4j:Ann:=⟨[(n3,n0,n1),(n3,n2,n3)],[]⟩
def h0m:a0c:=
 (.seq (.ops [(oq n2 (.mv (.c (.d .nil))))])
 (.seq (.seq (.ops [(om n3 n0),(oq n4 (.isnil false (.t n3)))])
 (.cond (.t n4) (.seq (.ops [(oq n2 (.mv (.c (.d .nil))))])
 .ret)
 .skip))
 (.seq (.ops [(oq n5 (.bnew n1)),(om n6 n0),(oq n7 (.appendN n1 n8 (.t n5) (.t n6) true)),(om n2 n7)])
 .ret)))
def f8q:XFn:=⟨g4j,n8,[(.t n2)],h0m⟩
def h3h:Ann:=⟨[(n1,n4,n0),(n1,n5,n2)],[]⟩
def h2d:a0c:=
 (.seq (.ops [(om n3 n0),(oq n4 (.len (.t n3))),(om n2 n4)])
 (.ops [(om n5 n0),(om n6 n2),(om n7 n2),(oq n8 (.conv .u64 (.t n7))),(oq n9 (.call (.c (.fn d2i [] [])) [(.t n8)] .borrow)),(oq n10 (.call (.c (.fn d9r [] [])) [(.t n5),(k n0),(.t n6),(.t n9)] .raw))]))
def f5f:XFn:=⟨h3h,n11,[],h2d⟩
def g5x:Ann:=⟨[],[]⟩
def h2j:a0c:=
 (.seq (.ops [(oq n4 (.mv (.c (.d (.bool false)))))])
 (.seq (.seq (.ops [(om n6 n0),(oq n7 (.len (.t n6))),(om n8 n1),(oq n9 (.len (.t n8))),(oq n10 (.bin .neq (.t n7) (.t n9)))])
 (.cond (.t n10) (.seq (.ops [(oq n4 (.mv (.c (.d (.bool false)))))])
 .ret)
 .skip))
 (.seq (.seq (.ops [(om n11 n0),(oq n12 (.len (.t n11))),(oq n13 (.mv (k n0)))])
 (.block n0 (.loop (.seq (.ops [(oq n14 (.bin .lss (.t n13) (.t n12)))])
 (.seq (.cond (.t n14) .skip
 (.exit n0))
 (.seq (.block n1 (.seq (.ops [(om n15 n13),(om n5 n15)])
 (.seq (.draw n0 [(dz (om n16 n0) n0 n0),(dz (om n17 n5) n1 n0),(dz (oq n18 (.iaddr n1 (.t n16) (.t n17))) n2 n0),(dz (om n20 n1) n4 n0),(dz (om n21 n5) n5 n0),(dz (oq n22 (.iaddr n1 (.t n20) (.t n21))) n6 n0),(dz (ol n19 n18) n3 n0),(dz (ol n23 n22) n7 n0),(dz (oq n24 (.bin .neq (.t n19) (.t n23))) n8 n0)])
 (.cond (.t n24) (.seq (.ops [(oq n4 (.mv (.c (.d (.bool false)))))])
 .ret)
 .skip))))
 (.ops [(oq n25 (.bin .add (.t n13) (k n1))),(om n13 n25)])))))))
 (.seq (.ops [(oq n4 (.mv (.c (.d (.bool true)))))])
 .ret))))
def f4v:XFn:=⟨g5x,n26,[(.t n4)],h2j⟩
def h1d:Ann:=⟨[],[]⟩
def h0v:a0c:=
 (.seq (.ops [(oq n2 (.mv (.c (.d .nil))))])
 (.seq (.ops [(om n5 n0),(oq n6 (.mkslice n1 [(.int .i64 (.l (i n0)))] n8 (.t n5))),(om n3 n6)])
 (.seq (.seq (.ops [(om n7 n0),(oq n8 (.mv (k n0)))])
 (.block n0 (.loop (.seq (.ops [(oq n9 (.bin .lss (.t n8) (.t n7)))])
 (.seq (.cond (.t n9) .skip
 (.exit n0))
 (.seq (.block n1 (.seq (.ops [(om n10 n8),(om n4 n10)])
 (.ops [(om n11 n3),(om n12 n4),(om n13 n4),(oq n14 (.iaddr n1 (.t n11) (.t n12))),⟨none,none,.store n1 (.t n14) (.t n13)⟩])))
 (.ops [(oq n15 (.bin .add (.t n8) (k n1))),(om n8 n15)])))))))
 (.seq (.ops [(om n16 n3),(om n2 n16)])
 .ret))))
def g0u:XFn:=⟨h1d,n17,[(.t n2)],h0v⟩
def g9b:Ann:=⟨[(n1,n1,n2),(n1,n3,n2),(n1,n5,n2)],[]⟩
def g8s:a0c:=
 (.seq (.ops [(oq n5 (.box (.t n2))),(oq n6 (.alloc [.nil,.nil,.nil,.nil,(.int .i64 (.l (i n0)))]))])
 (.seq (.draw n0 [(dz (om n7 n0) n0 n0),(dq (om n9 n1) n2 n0 [] [] false true),(dq (oq n11 (.load (some n2) (.t n5))) n4 n0 [] [] false true),(dq (oq n12 (.bsliceP n2 n1 [(.int .u8 (.l (i n0))),(.int .i64 (.l (i n0)))] [(n0,(.t n11))])) n5 n0 [] [] false true),(dq (oq n8 (.call (.c (.fn d4n [] [])) [(.t n7)] .raw)) n1 n0 [] [n0] false false),(dq (oq n10 (.call (.c (.fn d4n [] [])) [(.t n9)] .raw)) n3 n0 [] [n2,n1,n0] false false),(dz (oq n13 (.build [.nil,.nil,.nil,.nil,(.int .i64 (.l (i n0)))] [(n0,n1,(.t n8)),(n1,n1,(.t n10)),(n2,n1,(.t n12)),(n4,n1,(.c (.d (.int .i64 (.l (.negSucc n0))))))])) n6 n0),⟨⟨none,none,.store n5 (.t n6) (.t n13)⟩,n7,n0,[],[n6,n3,n0,n1,n2,n4,n5],true,false⟩])
 .ret))
def g0v:XFn:=⟨g9b,n14,[(.c n6 (some n5))],g8s⟩
def g4x:Ann:=⟨[(n7,n2,n3),(n9,n8,n3),(n14,n6,n0),(n19,n4,n2)],[]⟩
def h3i:a0c:=
 (.seq (.ops [(oq n6 (.mv (.c (.d .nil))))])
 (.seq (.ops [(om n10 n0),(om n11 n1),(oq n12 (.slice n5 (.t n10) (some (.t n11)) none none))])
 (.seq (.ops [(om n13 n2),(oq n14 (.len (.t n13))),(om n7 n14)])
 (.seq (.seq (.ops [(om n15 n7),(oq n16 (.bin .eql (.t n15) (k n0)))])
 (.cond (.t n16) (.seq (.ops [(om n17 n0),(om n6 n17)])
 .ret)
 .skip))
 (.seq (.ops [(om n18 n0),(oq n19 (.len (.t n18))),(om n8 n19)])
 (.seq (.seq (.ops [(om n20 n1),(om n21 n8),(oq n22 (.bin .eql (.t n20) (.t n21)))])
 (.cond (.t n22) (.seq (.ops [(om n23 n0),(om n24 n2),(oq n25 (.appendN n5 b0g (.t n23) (.t n24) true)),(om n6 n25)])
 .ret)
 .skip))
 (.seq (.seq (.ops [(om n26 n8),(om n27 n7),(oq n28 (.bin .add (.t n26) (.t n27))),(om n29 n0),(oq n30 (.cap (.t n29))),(oq n31 (.bin .gtr (.t n28) (.t n30)))])
 (.cond (.t n31) (.seq (.ops [(om n32 n0),(om n33 n1),(oq n34 (.slice n5 (.t n32) none (some (.t n33)) none)),(om n35 n8),(om n36 n7),(oq n37 (.bin .add (.t n35) (.t n36))),(om n38 n1),(oq n39 (.bin .sub (.t n37) (.t n38))),(oq n40 (.bad)),(om n9 n40)])
 (.seq (.ops [(om n41 n9),(om n42 n1),(oq n43 (.slice n5 (.t n41) (some (.t n42)) none none)),(om n44 n2),(oq n45 (.copy n5 (.t n43) (.t n44)))])
 (.seq (.draw n0 [(dz (om n46 n9) n0 n0),(dz (om n47 n1) n1 n0),(dz (om n48 n7) n2 n0),(dz (oq n49 (.bin .add (.t n47) (.t n48))) n3 n0),(dz (oq n50 (.slice n5 (.t n46) (some (.t n49)) none none)) n4 n0),(dz (om n51 n0) n5 n0),(dz (om n52 n1) n6 n0),(dz (oq n53 (.slice n5 (.t n51) (some (.t n52)) none none)) n7 n0),(dq (oq n54 (.copy n5 (.t n50) (.t n53))) n8 n0 [] [n4,n7,n0,n3,n1,n2,n5,n6] true false)])
 (.seq (.ops [(om n55 n9),(om n6 n55)])
 .ret))))
 .skip))
 (.seq (.ops [(om n56 n0),(om n57 n8),(om n58 n7),(oq n59 (.bin .add (.t n57) (.t n58))),(oq n60 (.slice n5 (.t n56) none (some (.t n59)) none)),(om n0 n60)])
 (.seq (.seq (.ops [(om n61 n2),(om n62 n0),(om n63 n1),(om n64 n7),(oq n65 (.bin .add (.t n63) (.t n64))),(oq n66 (.slice n5 (.t n62) (some (.t n65)) none none)),(oq n67 (.call (.c (.fn f1d [] [])) [(.t n61),(.t n66)] .borrow)),(oq n68 (.un .not (.t n67)))])
 (.cond (.t n68) (.seq (.draw n0 [(dz (om n69 n0) n0 n0),(dz (om n70 n1) n1 n0),(dz (om n71 n7) n2 n0),(dz (oq n72 (.bin .add (.t n70) (.t n71))) n3 n0),(dz (oq n73 (.slice n5 (.t n69) (some (.t n72)) none none)) n4 n0),(dz (om n74 n0) n5 n0),(dz (om n75 n1) n6 n0),(dz (oq n76 (.slice n5 (.t n74) (some (.t n75)) none none)) n7 n0),(dq (oq n77 (.copy n5 (.t n73) (.t n76))) n8 n0 [] [n4,n7,n0,n3,n1,n2,n5,n6] true false)])
 (.seq (.ops [(om n78 n0),(om n79 n1),(oq n80 (.slice n5 (.t n78) (some (.t n79)) none none)),(om n81 n2),(oq n82 (.copy n5 (.t n80) (.t n81)))])
 (.seq (.ops [(om n83 n0),(om n6 n83)])
 .ret)))
 .skip))
 (.seq (.ops [(om n84 n0),(om n85 n8),(oq n86 (.slice n5 (.t n84) (some (.t n85)) none none)),(om n87 n2),(oq n88 (.copy n5 (.t n86) (.t n87)))])
 (.seq (.ops [(om n89 n0),(om n90 n1),(oq n91 (.slice n5 (.t n89) (some (.t n90)) none none)),(om n92 n7),(oq n93 (.call (.c (.fn e6a [] [])) [(.t n91),(.t n92)] .raw))])
 (.seq (.ops [(om n94 n0),(om n6 n94)])
 .ret))))))))))))
def g2t:XFn:=⟨g4x,n95,[(.t n6)],h3i⟩
def g6n:Ann:=⟨[(n1,n1,n1),(n2,n4,n1),(n2,n6,n0)],[]⟩
def g9z:a0c:=
 (.seq (.ops [(oq n1 (.box (.t n0))),(oq n2 (.alloc [.nil,.nil,.nil,.nil,.nil,.nil,(.int .i64 (.l (i n0)))])),(oq n3 (.mv (k n0)))])
 (.seq (.ops [(oq n5 (.load (some n5) (.t n1))),(oq n6 (.call (.c (.fn e6u [] [])) [(.t n5)] .share)),(om n4 n6),(oq n7 (.extract (.t n4) n0)),(oq n8 (.extract (.t n4) n1)),⟨none,none,.store n7 (.t n2) (.t n7)⟩,(om n3 n8)])
 (.seq (.seq (.draw n0 [(dz (om n9 n3) n0 n0),(dz (oq n10 (.bin .eql (.t n9) (k n0))) n1 n0),(dz (om n11 n10) n2 n0),(dz (og n12 n11 true (.load (some n7) (.t n2))) n3 n0),(dq (og n14 n11 true (.load (some n5) (.t n1))) n5 n0 [] [] false true),(dq (og n13 n11 true (.call (.c (.fn e5z [] [])) [(.t n12)] .share)) n4 n0 [] [n3,n2,n1,n0] false false),(dq (og n15 n11 true (.call (.c (.fn d9n [] [])) [(.t n13),(.t n14)] .borrow)) n6 n0 [] [n4,n5,n2,n3,n1,n0] true false),(dz (og n16 n11 true (.un .not (.t n15))) n7 n0),(dz (oq n17 (.pick (.t n11) (.t n16) (.c (.d (.bool false))))) n8 n0)])
 (.cond (.t n17) (.seq (.ops [(oq n18 (.load (some n7) (.t n2))),⟨none,none,.store n7 (.t n2) (.t n18)⟩,(oq n3 (.mv (k n4)))])
 .ret)
 .skip))
 (.seq (.ops [(oq n19 (.load (some n7) (.t n2))),(om n20 n3),⟨none,none,.store n7 (.t n2) (.t n19)⟩,(om n3 n20)])
 .ret))))
def f6d:XFn:=⟨g6n,n21,[(.c n2 (some n7)),(.t n3)],g9z⟩
def g5i:Ann:=⟨[(n1,n9,n1),(n1,n11,n2)],[]⟩
def g6h:a0c:=
 (.seq (.ops [(oq n2 (.box (.t n0))),(oq n3 (.box (.t n1))),(oq n4 (.mv (.c (.d (.bool false)))))])
 (.seq (.ops [(ol n5 n3),(oq n6 (.len (.t n5))),(of n7 n0 n2),(ol n8 n7),(oq n9 (.len (.t n8))),(oq n10 (.bin .eql (.t n6) (.t n9))),(om n11 n10),(og n12 n11 true (.load none (.t n3))),(og n13 n11 true (.len (.t n12))),(og n14 n11 true (.call (.c (.fn d9o [] [])) [(.t n13)] .share)),(og n15 n11 true (.mkfn e6h [] [(.t n2),(.t n3)])),(og n16 n11 true (.call (.c (.fn d8s [] [])) [(.t n14),(.t n15)] .raw)),(og n17 n11 true (.un .not (.t n16))),(oq n18 (.pick (.t n11) (.t n17) (.c (.d (.bool false))))),(om n4 n18)])
 .ret))
def f2x:XFn:=⟨g5i,n19,[(.t n4)],g6h⟩
def h1f:Ann:=⟨[(n3,n2,n2),(n5,n1,n0)],[]⟩
def g5q:a0c:=
 (.seq (.ops [(oq n3 (.box (.t n0))),(oq n6 (.mv (k n0)))])
 (.seq (.ops [(of n8 n2 n3),(of n9 n4 n8),(ol n10 n9),(om n7 n10)])
 (.seq (.block n0 (.loop (.seq (.seq (.ops [(om n11 n7),(oq n12 (.bin .geq (.t n11) (k n0)))])
 (.cond (.t n12) .skip
 (.exit n0)))
 (.block n1 (.seq (.ops [(om n13 n2),(om n14 n7),(oq n15 (.call (.t n13) [(.t n14)] .raw))])
 (.draw n0 [(dz (of n16 n2 n3) n0 n0),(dz (of n17 n3 n16) n1 n0),(dz (om n19 n7) n3 n0),(dz (om n23 n1) n7 n0),(dz (of n24 n2 n3) n8 n0),(dz (of n25 n3 n24) n9 n0),(dz (om n27 n7) n11 n0),(dz (ol n18 n17) n2 n0),(dz (oq n20 (.iaddr n2 (.t n18) (.t n19))) n4 n0),(dz (of n21 n1 n20) n5 n0),(dz (ol n22 n21) n6 n0),(dz (ol n26 n25) n10 n0),(dz (oq n28 (.iaddr n2 (.t n26) (.t n27))) n12 n0),(dz (of n29 n0 n28) n13 n0),(dz (ol n30 n29) n14 n0),(dz (oq n31 (.iaddr n1 (.t n23) (.t n30))) n15 n0),(dz (ol n32 n31) n16 n0),(dz (oq n33 (.iaddr n1 (.t n22) (.t n32))) n17 n0),(dz (ol n34 n33) n18 n0),(dz (om n7 n34) n19 n0)]))))))
 (.seq (.ops [(om n35 n7),(oq n36 (.call (.c (.fn d7p [] [])) [(.t n35)] .borrow)),(om n6 n36)])
 .ret))))
def f6s:XFn:=⟨h1f,n37,[(.t n6)],g5q⟩
def h3o:Ann:=⟨[],[]⟩
def h1q:a0c:=
 .skip
def g1g:XFn:=⟨h3o,n2,[],h1q⟩
def h2l:Ann:=⟨[(n1,n2,n2)],[]⟩
def g7m:a0c:=
 (.seq (.ops [(oq n3 (.box (.t n1))),(oq n4 (.mv (.c (.d (.bool false)))))])
 (.seq (.ops [(om n5 n0),(oq n6 (.mkfn e5v [] [(.t n3)])),(oq n7 (.call (.c (.fn e0q [] [])) [(.t n5),(.t n6)] .raw)),(oq n8 (.un .not (.t n7))),(om n4 n8)])
 .ret))
def f2z:XFn:=⟨h2l,n9,[(.t n4)],g7m⟩
def h2e:Ann:=⟨[],[]⟩
def h1j:a0c:=
 (.seq (.ops [(oq n2 (.box (.t n0))),(oq n3 (.mv (.c (.d (.bool false)))))])
 (.seq (.draw n0 [(dz (of n4 n8 n2) n0 n0),(dz (ol n5 n4) n1 n0),(dz (ol n6 n1) n2 n0),(dz (oq n7 (.iaddr n9 (.t n6) (k n0))) n3 n0),(dz (of n8 n8 n7) n4 n0),(dz (ol n9 n8) n5 n0),(dz (oq n10 (.binb .eql (.t n5) (.t n9))) n6 n0),(dz (om n3 n10) n7 n0)])
 .ret))
def g2k:XFn:=⟨h2e,n11,[(.t n3)],h1j⟩
def h3d:Ann:=⟨[(n1,n1,n1),(n4,n1,n1)],[]⟩
def g3k:a0c:=
 (.seq (.ops [(oq n1 (.box (.t n0))),(oq n2 (.mv (.c (.d .nil)))),(oq n3 (.mv (k n0)))])
 (.seq (.ops [(oq n7 (.load (some n5) (.t n1))),(oq n8 (.call (.c (.fn d4p [] [])) [(.t n7)] .share)),(om n6 n8),(oq n9 (.extract (.t n6) n0)),(oq n10 (.extract (.t n6) n1)),(oq n4 (.alloc [.nil,.nil,.nil,.nil,.nil,.nil,(.int .i64 (.l (i n0)))])),⟨none,none,.store n7 (.t n4) (.t n9)⟩,(om n5 n10)])
 (.seq (.seq (.ops [(om n11 n5),(oq n12 (.bin .neq (.t n11) (k n0)))])
 (.cond (.t n12) (.seq (.ops [(om n13 n5),(oq n2 (.mv (.c (.d .nil)))),(om n3 n13)])
 .ret)
 .skip))
 (.seq (.ops [(oq n14 (.load (some n7) (.t n4))),(oq n15 (.call (.c (.fn e7e [] [])) [(.t n14)] .share)),(om n2 n15),(oq n3 (.mv (k n0)))])
 .ret))))
def g0b:XFn:=⟨h3d,n16,[(.t n2),(.t n3)],g3k⟩
def g7b:Ann:=⟨[],[]⟩
def g9h:a0c:=
 (.seq (.ops [(oq n1 (.box (.t n0))),(oq n2 (.mv (.c (.d (.bool false)))))])
 (.seq (.ops [(oq n3 (.load (some n2) (.t n1))),(oq n4 (.build [(.int .u8 (.l (i n0))),(.int .i64 (.l (i n0)))] [(n1,n1,(k n1))])),(oq n5 (.aeq false [.u8,.i64] (.t n3) (.t n4))),(om n2 n5)])
 .ret))
def f4w:XFn:=⟨g7b,n6,[(.t n2)],g9h⟩
def g8x:Ann:=⟨[(n7,n3,n3),(n8,n6,n3),(n10,n1,n2),(n14,n5,n2)],[]⟩
def g9w:a0c:=
 (.seq (.ops [(oq n11 (.mkmapv true [.u8,.i64])),(om n4 n11)])
 (.seq (.ops [(oq n5 (.mv (.c (.d .nil))))])
 (.seq (.seq (.ops [(ol n12 n1),(oq n13 (.len (.t n12))),(oq n14 (.mv (k n0)))])
 (.block n0 (.loop (.seq (.ops [(oq n15 (.bin .lss (.t n14) (.t n13)))])
 (.seq (.cond (.t n15) .skip
 (.exit n0))
 (.seq (.block n1 (.seq (.ops [(oq n16 (.iaddr n9 (.t n12) (.t n14))),(oq n17 (.load (some n9) (.t n16))),(oq n7 (.alloc [(.int .u8 (.l (i n0))),(.int .i64 (.l (i n0))),(.int .u8 (.l (i n0))),(.int .i64 (.l (i n0))),(.int .u8 (.l (i n0))),(.int .i64 (.l (i n0))),(.int .u8 (.l (i n0))),(.int .i64 (.l (i n0))),(.bool false)])),⟨none,none,.store n9 (.t n7) (.t n17)⟩])
 (.seq (.ops [(ol n18 n2),(of n19 n0 n7),(oq n20 (.iaddrA n4 n2 (.t n19) (.t n18))),(oq n21 (.load (some n2) (.t n20))),(oq n8 (.alloc [(.int .u8 (.l (i n0))),(.int .i64 (.l (i n0)))])),⟨none,none,.store n2 (.t n8) (.t n21)⟩])
 (.seq (.seq (.ops [(om n22 n4),(oq n23 (.load (some n2) (.t n8))),(oq n24 (.lookupv true [.u8,.i64] false (.d .nil) (.t n22) (.t n23))),(oq n25 (.len (.t n24))),(oq n26 (.bin .eql (.t n25) (k n0)))])
 (.cond (.t n26) (.ops [(om n27 n5),(oq n28 (.load (some n2) (.t n8))),(oq n29 (.bslice n2 n1 [(.int .u8 (.l (i n0))),(.int .i64 (.l (i n0)))] [(n0,(.t n28))] false)),(oq n30 (.appendN n2 n16 (.t n27) (.t n29) true)),(om n5 n30)])
 .skip))
 (.ops [(om n31 n4),(oq n32 (.load (some n2) (.t n8))),(oq n34 (.load (some n9) (.t n7))),(oq n35 (.bslice n9 n1 [(.int .u8 (.l (i n0))),(.int .i64 (.l (i n0))),(.int .u8 (.l (i n0))),(.int .i64 (.l (i n0))),(.int .u8 (.l (i n0))),(.int .i64 (.l (i n0))),(.int .u8 (.l (i n0))),(.int .i64 (.l (i n0))),(.bool false)] [(n0,(.t n34))] false)),(oq n36 (.mapent true [.u8,.i64] (.d .nil) (.t n31) (.t n32))),(oq n33 (.extract (.t n36) n0)),(oq n37 (.appendN n9 n72 (.t n33) (.t n35) true)),(oq n38 (.extract (.t n36) n1)),⟨none,none,.entst (.t n31) (.t n38) (.t n37)⟩])))))
 (.ops [(oq n39 (.bin .add (.t n14) (k n1))),(om n14 n39)])))))))
 (.seq (.ops [(om n40 n5),(oq n41 (.call (.c (.fn d5s [] [])) [(.t n40),(.c (.fn d9j [] []))] .raw))])
 (.seq (.ops [(om n42 n5),(oq n43 (.len (.t n42))),(oq n44 (.mv (k n0)))])
 (.block n2 (.loop (.seq (.ops [(oq n45 (.bin .lss (.t n44) (.t n43)))])
 (.seq (.cond (.t n45) .skip
 (.exit n2))
 (.seq (.block n3 (.seq (.ops [(oq n46 (.iaddr n2 (.t n42) (.t n44))),(oq n47 (.load (some n2) (.t n46))),(oq n10 (.alloc [(.int .u8 (.l (i n0))),(.int .i64 (.l (i n0)))])),⟨none,none,.store n2 (.t n10) (.t n47)⟩])
 (.seq (.draw n0 [(dz (om n48 n0) n0 n0),(dz (om n50 n4) n2 n0),(dz (oq n49 (.load (some n2) (.t n10))) n1 n0),(dz (oq n51 (.load (some n2) (.t n10))) n3 n0),(dz (oq n52 (.lookupv true [.u8,.i64] false (.d .nil) (.t n50) (.t n51))) n4 n0),(dq (oq n53 (.call (.t n48) [(.t n49),(.t n52)] .raw)) n5 n0 [] [n0,n1,n4,n2,n3] true false),(dz (oq n54 (.un .not (.t n53))) n6 n0)])
 (.cond (.t n54) .ret
 .skip))))
 (.ops [(oq n55 (.bin .add (.t n44) (k n1))),(om n44 n55)])))))))))))
def g0i:XFn:=⟨g8x,n56,[],g9w⟩
def g9g:Ann:=⟨[(n1,n4,n0),(n1,n6,n2)],[]⟩
def g7u:a0c:=
 (.seq (.ops [(om n5 n0),(oq n6 (.len (.t n5))),(om n4 n6)])
 (.ops [(om n7 n0),(om n8 n4),(om n9 n4),(oq n10 (.conv .u64 (.t n9))),(oq n11 (.call (.c (.fn d2i [] [])) [(.t n10)] .borrow)),(om n12 n1),(oq n13 (.call (.c (.fn d4r [] [])) [(.t n7),(k n0),(.t n8),(.t n11),(.t n12)] .raw))]))
def g1h:XFn:=⟨g9g,n14,[],g7u⟩
def g3i:Ann:=⟨[(n1,n2,n2)],[]⟩
def g6v:a0c:=
 (.seq (.ops [(oq n4 (.mv (.c (.d (.bool false)))))])
 (.seq (.ops [(om n5 n0),(om n6 n1),(oq n7 (.call (.c (.fn e5w [] [])) [(.t n5),(.t n6)] .raw)),(oq n8 (.bin .geq (.t n7) (k n0))),(om n4 n8)])
 .ret))
def f5v:XFn:=⟨g3i,n9,[(.t n4)],g6v⟩
def g4a:Ann:=⟨[(n1,n2,n2)],[]⟩
def g4g:a0c:=
 (.seq (.ops [(oq n2 (.box (.t n0))),(oq n3 (.mv (.c (.d (.bool false)))))])
 (.seq (.ops [(ol n4 n1),(oq n5 (.load (some n5) (.t n2))),(oq n6 (.call (.t n4) [(.t n5)] .raw)),(oq n7 (.un .not (.t n6))),(om n3 n7)])
 .ret))
def f3t:XFn:=⟨g4a,n8,[(.t n3)],g4g⟩
def h1a:Ann:=⟨[(n1,n2,n2)],[]⟩
def h0r:a0c:=
 (.seq (.ops [(oq n2 (.box (.t n0))),(oq n3 (.mv (.c (.d (.bool false)))))])
 (.seq (.ops [(ol n4 n1),(oq n5 (.load (some n5) (.t n2))),(oq n6 (.call (.t n4) [(.t n5)] .raw)),(oq n7 (.un .not (.t n6))),(om n3 n7)])
 .ret))
def f4g:XFn:=⟨h1a,n8,[(.t n3)],h0r⟩
def g5t:Ann:=⟨[(n2,n3,n0)],[]⟩
def h0f:a0c:=
 (.seq (.ops [(oq n1 (.box (.t n0))),(oq n2 (.mv (.c (.d (.bool false)))))])
 (.seq (.seq (.ops [(of n3 n0 n1),(ol n4 n3),(oq n5 (.bin .eql (.t n4) (.c (.d (.int .u8 (.l (i n0)))))))])
 (.cond (.t n5) (.seq (.ops [(of n6 n1 n1),(ol n7 n6),(oq n8 (.bslice n1 n1 [(.int .i64 (.l (i n0)))] [(n0,(.t n7))] false)),(oq n9 (.call (.c (.fn e6n [] [])) [(.c (.d (.int .i64 (.l (.negSucc d8e))))),(k d7v),(.t n8)] .borrow)),(om n2 n9)])
 .ret)
 .skip))
 (.seq (.ops [(of n10 n0 n1),(ol n11 n10),(oq n12 (.bin .leq (.t n11) (.c (.d (.int .u8 (.l (i n4))))))),(om n13 n12),(og n14 n13 true (.faddr n1 (.t n1))),(og n15 n13 true (.load none (.t n14))),(og n16 n13 true (.bin .eql (.t n15) (k n0))),(oq n17 (.pick (.t n13) (.t n16) (.c (.d (.bool false))))),(om n2 n17)])
 .ret)))
def g2g:XFn:=⟨g5t,n18,[(.t n2)],h0f⟩
def h2m:Ann:=⟨[(n3,n6,n2)],[]⟩
def h0z:a0c:=
 (.seq (.ops [(ol n4 n1),(oq n5 (.len (.t n4))),(oq n6 (.bin .sub (.t n5) (k n1))),(om n3 n6)])
 (.block n0 (.loop (.seq (.seq (.ops [(om n7 n3),(oq n8 (.bin .geq (.t n7) (k n0)))])
 (.cond (.t n8) .skip
 (.exit n0)))
 (.seq (.block n1 (.seq (.ops [(om n11 n0),(om n12 n3),(ol n13 n1),(om n14 n3),(oq n15 (.iaddr n1 (.t n13) (.t n14))),(ol n16 n15),(oq n17 (.call (.t n11) [(.t n12),(.t n16)] .raw)),(oq n18 (.un .not (.t n17)))])
 (.cond (.t n18) .ret
 .skip)))
 (.ops [(om n9 n3),(oq n10 (.bin .sub (.t n9) (k n1))),(om n3 n10)]))))))
def f5x:XFn:=⟨h2m,n19,[],h0z⟩
def g5h:Ann:=⟨[(n1,n3,n0),(n3,n4,n0),(n3,n9,n0),(n3,n11,n0)],[]⟩
def h2r:a0c:=
 (.seq (.ops [(oq n2 (.box (.t n0))),(oq n3 (.box (.t n1))),(oq n4 (.mv (.c (.d (.bool false))))),(oq n5 (.mv (k n0)))])
 (.seq (.seq (.ops [(oq n6 (.load (some n2) (.t n2))),(oq n7 (.load (some n2) (.t n3))),(oq n8 (.bslice n2 n2 [(.int .u8 (.l (i n0))),(.int .i64 (.l (i n0)))] [(n0,(.t n6)),(n1,(.t n7))] false)),(oq n9 (.call (.c (.fn e5f [] [])) [(.t n8)] .borrow)),(oq n10 (.un .not (.t n9)))])
 (.cond (.t n10) (.seq (.ops [(oq n4 (.mv (.c (.d (.bool false))))),(oq n5 (.mv (k n2)))])
 .ret)
 .skip))
 (.seq (.draw n0 [(dz (of n11 n0 n2) n0 n0),(dz (of n13 n0 n3) n2 n0),(dq (of n16 n1 n2) n5 n0 [] [] false true),(dq (of n18 n1 n3) n7 n0 [] [] false true),(dz (ol n12 n11) n1 n0),(dz (ol n14 n13) n3 n0),(dq (ol n17 n16) n6 n0 [] [] false true),(dq (ol n19 n18) n8 n0 [] [] false true),(dq (oq n15 (.call (.c (.fn e5m [] [])) [(.t n12),(.t n14)] .borrow)) n4 n0 [] [n1,n3,n0,n2] false false),(dq (oq n20 (.call (.c (.fn e5u [] [])) [(.t n17),(.t n19)] .borrow)) n9 n0 [] [n6,n8,n4,n5,n7,n1,n3,n0,n2] true false),(dq (oq n21 (.bslice n1 n2 [(.int .i64 (.l (i n0)))] [(n0,(.t n15)),(n1,(.t n20))] false)) n10 n0 [] [n4,n9,n1,n3,n0,n2,n6,n8,n5,n7] true false),(dq (oq n22 (.call (.c (.fn e6r [] [])) [(.t n21)] .borrow)) n11 n0 [] [n10,n9,n4,n1,n3,n0,n2,n6,n8,n5,n7] true false),(dz (oq n23 (.bin .lss (.t n22) (k n0))) n12 n0),(dz (om n4 n23) n13 n0),(dz (oq n5 (.mv (k n0))) n14 n0)])
 .ret)))
def g0o:XFn:=⟨g5h,n24,[(.t n4),(.t n5)],h2r⟩
def g5p:Ann:=⟨[(n4,n5,n2)],[]⟩
def g5v:a0c:=
 (.seq (.ops [(oq n4 (.mv (k n0)))])
 (.seq (.seq (.ops [(om n6 n0),(oq n7 (.len (.t n6))),(oq n8 (.mv (k n0)))])
 (.block n0 (.loop (.seq (.ops [(oq n9 (.bin .lss (.t n8) (.t n7)))])
 (.seq (.cond (.t n9) .skip
 (.exit n0))
 (.seq (.block n1 (.seq (.ops [(om n10 n8),(om n5 n10)])
 (.seq (.ops [(om n11 n1),(om n12 n0),(om n13 n5),(oq n14 (.iaddr n1 (.t n12) (.t n13))),(oq n15 (.load (some n1) (.t n14))),(oq n16 (.call (.t n11) [(.t n15)] .raw))])
 (.cond (.t n16) (.seq (.ops [(om n17 n5),(om n4 n17)])
 .ret)
 .skip))))
 (.ops [(oq n18 (.bin .add (.t n8) (k n1))),(om n8 n18)])))))))
 (.seq (.ops [(oq n4 (.mv (.c (.d (.int .i64 (.l (.negSucc n0)))))))])
 .ret)))
def f6w:XFn:=⟨g5p,n19,[(.t n4)],g5v⟩
def g8y:Ann:=⟨[(n1,n2,n2)],[]⟩
def h1z:a0c:=
 (.seq (.ops [(oq n4 (.mv (.c (.d (.bool false)))))])
 (.seq (.ops [(om n5 n0),(om n6 n1),(oq n7 (.call (.c (.fn e6p [] [])) [(.t n5),(.t n6)] .raw)),(oq n8 (.bin .geq (.t n7) (k n0))),(om n4 n8)])
 .ret))
def g1b:XFn:=⟨g8y,n9,[(.t n4)],h1z⟩
def g6e:Ann:=⟨[],[]⟩
def g7h:a0c:=
 (.seq (.ops [(oq n4 (.mv (.c (.d (.bool false)))))])
 (.seq (.ops [(om n5 n0),(ol n6 n1),(oq n7 (.bin .lss (.t n5) (.t n6))),(om n8 n7),(og n9 n8 false (.mv (.t n0))),(og n10 n8 false (.load none (.t n2))),(og n11 n8 false (.bin .gtr (.t n9) (.t n10))),(oq n12 (.pick (.t n8) (.c (.d (.bool true))) (.t n11))),(om n4 n12)])
 .ret))
def f6i:XFn:=⟨g6e,n13,[(.t n4)],g7h⟩
def g4p:Ann:=⟨[(n4,n3,n2),(n6,n3,n2),(n8,n3,n2),(n10,n3,n2),(n12,n3,n2),(n16,n3,n2),(n17,n12,n0),(n18,n4,n2),(n20,n4,n2),(n26,n4,n2),(n29,n5,n2)],[]⟩
def g6x:a0c:=
 (.seq (.ops [(oq n8 (.mv (.c (.d (.bool true)))))])
 (.seq (.ops [(oq n9 (.mv (.c (.d (.bool true)))))])
 (.block n0 (.loop (.block n1 (.seq (.ops [(om n19 n2),(om n20 n1),(oq n21 (.bin .sub (.t n19) (.t n20))),(om n10 n21)])
 (.seq (.seq (.ops [(om n22 n10),(oq n23 (.bin .leq (.t n22) (k n12)))])
 (.cond (.t n23) (.seq (.ops [(om n24 n0),(om n25 n1),(om n26 n2),(oq n27 (.call (.c (.fn e6y [] [])) [(.t n24),(.t n25),(.t n26)] .raw))])
 .ret)
 .skip))
 (.seq (.seq (.ops [(om n28 n3),(oq n29 (.bin .eql (.t n28) (k n0)))])
 (.cond (.t n29) (.seq (.ops [(om n30 n0),(om n31 n1),(om n32 n2),(oq n33 (.call (.c (.fn f2h [] [])) [(.t n30),(.t n31),(.t n32)] .raw))])
 .ret)
 .skip))
 (.seq (.seq (.ops [(om n34 n8),(oq n35 (.un .not (.t n34)))])
 (.cond (.t n35) (.seq (.ops [(om n36 n0),(om n37 n1),(om n38 n2),(oq n39 (.call (.c (.fn e9t [] [])) [(.t n36),(.t n37),(.t n38)] .raw))])
 (.ops [(om n40 n3),(oq n41 (.bin .sub (.t n40) (k n1))),(om n3 n41)]))
 .skip))
 (.seq (.ops [(om n43 n0),(om n44 n1),(om n45 n2),(oq n46 (.call (.c (.fn e9n [] [])) [(.t n43),(.t n44),(.t n45)] .raw)),(om n42 n46),(oq n47 (.extract (.t n42) n0)),(oq n48 (.extract (.t n42) n1)),(om n11 n47),(om n12 n48)])
 (.seq (.seq (.ops [(om n49 n12),(oq n50 (.bin .eql (.t n49) (k n2)))])
 (.cond (.t n50) (.seq (.ops [(om n51 n0),(om n52 n1),(om n53 n2),(oq n54 (.call (.c (.fn f2a [] [])) [(.t n51),(.t n52),(.t n53)] .raw))])
 (.seq (.ops [(om n55 n2),(oq n56 (.bin .sub (.t n55) (k n1))),(om n57 n11),(om n58 n1),(oq n59 (.bin .sub (.t n57) (.t n58))),(oq n60 (.bin .sub (.t n56) (.t n59))),(om n11 n60)])
 (.ops [(oq n12 (.mv (k n1)))])))
 .skip))
 (.seq (.seq (.ops [(om n61 n8),(om n62 n61),(og n63 n62 true (.mv (.t n9))),(oq n64 (.pick (.t n62) (.t n63) (.c (.d (.bool false))))),(om n65 n64),(og n66 n65 true (.mv (.t n12))),(og n67 n65 true (.bin .eql (.t n66) (k n1))),(oq n68 (.pick (.t n65) (.t n67) (.c (.d (.bool false)))))])
 (.cond (.t n68) (.seq (.ops [(om n69 n0),(om n70 n1),(om n71 n2),(oq n72 (.call (.c (.fn f0p [] [])) [(.t n69),(.t n70),(.t n71)] .raw))])
 (.cond (.t n72) .ret
 .skip))
 .skip))
 (.seq (.seq (.draw n0 [(dz (om n73 n1) n0 n0),(dz (oq n74 (.bin .gtr (.t n73) (k n0))) n1 n0),(dz (om n75 n74) n2 n0),(dz (og n76 n75 true (.mv (.t n0))) n3 n0),(dz (og n77 n75 true (.mv (.t n1))) n4 n0),(dz (og n78 n75 true (.bin .sub (.t n77) (k n1))) n5 n0),(dz (og n79 n75 true (.iaddr n1 (.t n76) (.t n78))) n6 n0),(dz (og n81 n75 true (.mv (.t n0))) n8 n0),(dz (og n82 n75 true (.mv (.t n11))) n9 n0),(dz (og n83 n75 true (.iaddr n1 (.t n81) (.t n82))) n10 n0),(dz (og n80 n75 true (.load none (.t n79))) n7 n0),(dz (og n84 n75 true (.load none (.t n83))) n11 n0),(dq (og n85 n75 true (.call (.c (.fn e2l [] [])) [(.t n80),(.t n84)] .borrow)) n12 n0 [] [n7,n11,n2,n6,n3,n5,n1,n0,n4,n10,n8,n9] true false),(dz (og n86 n75 true (.un .not (.t n85))) n13 n0),(dz (oq n87 (.pick (.t n75) (.t n86) (.c (.d (.bool false))))) n14 n0)])
 (.cond (.t n87) (.seq (.ops [(om n88 n0),(om n89 n1),(om n90 n2),(om n91 n11),(oq n92 (.call (.c (.fn f1m [] [])) [(.t n88),(.t n89),(.t n90),(.t n91)] .raw)),(om n13 n92)])
 (.seq (.ops [(om n93 n13),(om n1 n93)])
 (.exit n1)))
 .skip))
 (.seq (.ops [(om n95 n0),(om n96 n1),(om n97 n2),(om n98 n11),(oq n99 (.call (.c (.fn f1l [] [])) [(.t n95),(.t n96),(.t n97),(.t n98)] .raw)),(om n94 n99),(oq c1w (.extract (.t n94) n0)),(oq b9n (.extract (.t n94) n1)),(om n14 c1w),(om n15 b9n)])
 (.seq (.ops [(om c2d n15),(om n9 c2d)])
 (.seq (.ops [(om b8s n14),(om b0g n1),(oq b9l (.bin .sub (.t b8s) (.t b0g))),(om c1v n2),(om b3k n14),(oq a9u (.bin .sub (.t c1v) (.t b3k))),(om n16 b9l),(om n17 a9u)])
 (.seq (.ops [(om b7w n10),(oq b8f (.bin .quo (.t b7w) (k n8))),(om n18 b8f)])
 (.seq (.ops [(om c2p n16),(om b8v n17),(oq c3o (.bin .lss (.t c2p) (.t b8v)))])
 (.cond (.t c3o) (.seq (.ops [(om c3g n16),(om b4y n18),(oq c1y (.bin .geq (.t c3g) (.t b4y))),(om n8 c1y)])
 (.seq (.ops [(om c3q n0),(om b1a n1),(om b2v n14),(om b8r n3),(oq c3u (.call (.c (.fn d9r [] [])) [(.t c3q),(.t b1a),(.t b2v),(.t b8r)] .raw))])
 (.ops [(om c1h n14),(oq c3f (.bin .add (.t c1h) (k n1))),(om n1 c3f)])))
 (.seq (.ops [(om b8e n17),(om c6b n18),(oq d0w (.bin .geq (.t b8e) (.t c6b))),(om n8 d0w)])
 (.seq (.ops [(om d0x n0),(om d0z n14),(oq c3l (.bin .add (.t d0z) (k n1))),(om c1j n2),(om c5d n3),(oq c5o (.call (.c (.fn d9r [] [])) [(.t d0x),(.t c3l),(.t c1j),(.t c5d)] .raw))])
 (.ops [(om b4f n14),(om n2 b4f)]))))))))))))))))))))))
def f3n:XFn:=⟨g4p,d0n,[],g6x⟩
def g9v:Ann:=⟨[(n1,n2,n0),(n2,n1,n0)],[]⟩
def h0g:a0c:=
 (.seq (.ops [(oq n2 (.mv (k n0)))])
 (.seq (.cond (.c (.d (.bool false))) (.seq (.ops [(om n3 n0),(oq n4 (.conv .u32 (.t n3))),(oq n5 (.call (.c (.fn e5a [] [])) [(.t n4)] .borrow)),(om n2 n5)])
 .ret)
 .skip)
 (.seq (.ops [(om n6 n0),(oq n7 (.call (.c (.fn e6s [] [])) [(.t n6)] .borrow)),(om n2 n7)])
 .ret)))
def g0r:XFn:=⟨g9v,n8,[(.t n2)],h0g⟩
def h3j:Ann:=⟨[(n0,n5,n2)],[]⟩
def h1s:a0c:=
 (.ops [(om n4 n0),(om n5 n0),(oq n6 (.len (.t n5))),(om n7 n1),(oq n8 (.bin .sub (.t n6) (.t n7))),(oq n9 (.call (.c (.fn e6c [] [])) [(.t n4),(.t n8)] .raw))])
def f7c:XFn:=⟨h3j,n10,[],h1s⟩
def g3g:Ann:=⟨[(n1,n4,n0),(n7,n2,n0),(n8,n3,n1),(n8,n6,n2),(n9,n6,n0)],[]⟩
def h1t:a0c:=
 (.seq (.ops [(oq n1 (.box (.t n0))),(oq n2 (.alloc [.nil,.nil,.nil,.nil,.nil,.nil,(.int .i64 (.l (i n0)))])),(oq n3 (.mv (k n0)))])
 (.seq (.seq (.ops [(of n5 n0 n1),(ol n6 n5),(of n7 n1 n1),(ol n8 n7),(oq n9 (.call (.c (.fn b2v [] [])) [(.t n6),(.t n8)] .borrow)),(om n4 n9)])
 (.seq (.ops [(om n10 n4),(oq n11 (.bin .neq (.t n10) (k n0)))])
 (.cond (.t n11) (.seq (.ops [(oq n12 (.load (some n7) (.t n2))),(om n13 n4),⟨none,none,.store n7 (.t n2) (.t n12)⟩,(om n3 n13)])
 .ret)
 .skip)))
 (.seq (.ops [(of n14 n0 n1),(ol n15 n14),(of n16 n1 n1),(ol n17 n16),(oq n18 (.build [.nil,.nil] [(n0,n1,(.t n15)),(n1,n1,(.t n17))])),(oq n19 (.load (some n5) (.t n1))),(oq n20 (.build [.nil,.nil,.nil,.nil,.nil,.nil,(.int .i64 (.l (i n0)))] [(n0,n2,(.t n18)),(n2,n5,(.t n19))])),⟨none,none,.store n7 (.t n2) (.t n20)⟩])
 (.seq (.block n0 (.seq (.ops [(of n22 n3 n1),(ol n23 n22),(oq n24 (.len (.t n23))),(oq n25 (.bin .gtr (.t n24) (k e9u))),(om n21 n25)])
 (.cond (.t n21) (.seq (.ops [(oq n26 (.load (some n7) (.t n2))),⟨none,none,.store n7 (.t n2) (.t n26)⟩,(oq n3 (.mv (k n5)))])
 .ret)
 (.seq (.seq (.ops [(of n28 n2 n1),(ol n29 n28),(oq n30 (.call (.c (.fn e7g [] [])) [(.t n29),(.c (.fn e7f [] []))] .borrow)),(oq n31 (.un .not (.t n30))),(om n27 n31)])
 (.cond (.t n27) .skip
 (.seq (.draw n0 [(dz (of n32 n3 n1) n0 n0),(dz (ol n33 n32) n1 n0),(dz (oq n34 (.len (.t n33))) n2 n0),(dq (oq n36 (.load (some n7) (.t n2))) n4 n0 [] [] false true),(dq (oq n37 (.mkfn e0b [(.t n36)] [])) n5 n0 [] [] false true),(dq (oq n35 (.call (.c (.fn d9o [] [])) [(.t n34)] .share)) n3 n0 [] [n2,n1,n0] false false),(dq (oq n38 (.call (.c (.fn d9z [] [])) [(.t n35),(.t n37)] .raw)) n6 n0 [] [n3,n5,n2,n1,n0,n4] true false),(dz (oq n39 (.un .not (.t n38))) n7 n0),(dz (om n27 n39) n8 n0)])
 (.cond (.t n27) .skip
 (.ops [(oq n40 (.load (some n7) (.t n2))),(of n41 n4 n1),(ol n42 n41),(of n43 n3 n1),(ol n44 n43),(oq n45 (.len (.t n44))),(oq n46 (.call (.c (.fn e4u [] [])) [(.t n40),(.t n42),(.t n45),(.c (.d (.int .i64 (.l (.negSucc n0)))))] .borrow)),(oq n47 (.un .not (.t n46))),(om n27 n47)])))))
 (.cond (.t n27) (.seq (.ops [(oq n48 (.load (some n7) (.t n2))),⟨none,none,.store n7 (.t n2) (.t n48)⟩,(oq n3 (.mv (k n4)))])
 .ret)
 .skip)))))
 (.seq (.ops [(oq n49 (.load (some n7) (.t n2))),⟨none,none,.store n7 (.t n2) (.t n49)⟩,(oq n3 (.mv (k n0)))])
 .ret)))))
def g1l:XFn:=⟨g3g,n50,[(.c n2 (some n7)),(.t n3)],h1t⟩
def h1b:Ann:=⟨[(n2,n4,n0),(n2,n10,n0),(n2,n17,n0),(n2,n25,n2)],[]⟩
def g6u:a0c:=
 (.seq (.ops [(oq n2 (.box (.t n0))),(oq n3 (.box (.t n1))),(oq n4 (.mv (.c (.d (.bool false)))))])
 (.seq (.ops [(oq n5 (.mv (.c (.fn e5o [] []))))])
 (.seq (.ops [(of n6 n0 n2),(ol n7 n6),(of n8 n0 n3),(ol n9 n8),(oq n10 (.call (.c (.fn d0p [] [])) [(.t n7),(.t n9)] .borrow)),(om n11 n10),(og n12 n11 true (.faddr n1 (.t n2))),(og n13 n11 true (.load none (.t n12))),(og n14 n11 true (.faddr n1 (.t n3))),(og n15 n11 true (.load none (.t n14))),(og n16 n11 true (.call (.c (.fn d0p [] [])) [(.t n13),(.t n15)] .borrow)),(oq n17 (.pick (.t n11) (.t n16) (.c (.d (.bool false))))),(om n18 n17),(og n19 n18 true (.faddr n2 (.t n2))),(og n20 n18 true (.load none (.t n19))),(og n21 n18 true (.faddr n2 (.t n3))),(og n22 n18 true (.load none (.t n21))),(og n23 n18 true (.call (.c (.fn f0i [] [])) [(.t n20),(.t n22)] .borrow)),(oq n24 (.pick (.t n18) (.t n23) (.c (.d (.bool false))))),(om n25 n24),(og n26 n25 true (.faddr n3 (.t n2))),(og n27 n25 true (.load none (.t n26))),(og n28 n25 true (.faddr n3 (.t n3))),(og n29 n25 true (.load none (.t n28))),(og n30 n25 true (.mv (.t n5))),(og n31 n25 true (.call (.c (.fn f1p [] [])) [(.t n27),(.t n29),(.t n30)] .raw)),(oq n32 (.pick (.t n25) (.t n31) (.c (.d (.bool false))))),(om n33 n32),(og n34 n33 true (.faddr n4 (.t n2))),(og n35 n33 true (.load none (.t n34))),(og n36 n33 true (.faddr n4 (.t n3))),(og n37 n33 true (.load none (.t n36))),(og n38 n33 true (.bin .eql (.t n35) (.t n37))),(oq n39 (.pick (.t n33) (.t n38) (.c (.d (.bool false))))),(om n4 n39)])
 .ret)))
def f7j:XFn:=⟨h1b,n40,[(.t n4)],g6u⟩
def h0o:Ann:=⟨[(n1,n2,n2),(n5,n5,n2)],[]⟩
def h1x:a0c:=
 (.seq (.ops [(oq n1 (.box (.t n0))),(oq n2 (.alloc [.nil,.nil,.nil,.nil,(.int .i64 (.l (i n0)))]))])
 (.seq (.ops [(of n6 n0 n1),(oq n7 (.load (some n2) (.t n6))),(oq n8 (.call (.c (.fn e5p [] [])) [(.t n7)] .raw)),(oq n3 (.alloc [(.raw (.pointer none))])),⟨none,none,.store n1 (.t n3) (.t n8)⟩])
 (.seq (.ops [(oq n9 (.mkmap false [.i64])),(oq n4 (.alloc [(.raw (.map none))])),⟨none,none,.store n1 (.t n4) (.t n9)⟩])
 (.seq (.ops [(oq n5 (.alloc [(.raw .nilFunc)]))])
 (.seq (.ops [(oq n10 (.mkfn e4w [] [(.t n3),(.t n1),(.t n4),(.t n5)])),⟨none,none,.store n1 (.t n5) (.t n10)⟩])
 (.seq (.draw n0 [(dz (of n13 n2 n1) n2 n0),(dz (of n14 n4 n13) n3 n0),(dq (ol n11 n3) n0 n0 [] [] false true),(dz (ol n12 n5) n1 n0),(dz (ol n15 n14) n4 n0),(dq (oq n16 (.call (.t n12) [(.t n15)] .raw)) n5 n0 [] [n1,n4,n3,n2] false false),(dz (oq n17 (.nilchk (.t n11))) n6 n0),(dz (of n18 n2 n17) n7 n0),(dz (of n19 n4 n18) n8 n0),⟨⟨none,none,.store n1 (.t n19) (.t n16)⟩,n9,n0,[],[n8,n5,n0,n1,n2,n3,n4,n7,n6],true,false⟩])
 (.seq (.ops [(ol n20 n3),(oq n21 (.nilchk (.t n20))),(of n22 n2 n21),(oq n23 (.load (some n5) (.t n22))),⟨none,none,.store n5 (.t n2) (.t n23)⟩])
 .ret)))))))
def f5i:XFn:=⟨h0o,n24,[(.c n2 (some n5))],h1x⟩
def g3e:Ann:=⟨[(n1,n11,n0)],[]⟩
def h2a:a0c:=
 (.seq (.ops [(oq n4 (.mv (.c (.d (.bool false)))))])
 (.seq (.draw n0 [(dq (of n5 n0 n1) n0 n0 [] [] false true),(dq (om n7 n0) n2 n0 [] [] false true),(dz (om n12 n0) n7 n0),(dq (ol n6 n5) n1 n0 [] [] false true),(dq (oq n8 (.iaddr n1 (.t n6) (.t n7))) n3 n0 [] [] false true),(dq (ol n9 n8) n4 n0 [] [] false true),(dq (oq n10 (.bin .sub (.t n9) (k n1))) n5 n0 [] [] false true),(dz (ol n11 n2) n6 n0),(dz (oq n13 (.iaddr n1 (.t n11) (.t n12))) n8 n0),(dz (ol n14 n13) n9 n0),(dq (oq n15 (.bslice n1 n1 [(.int .i64 (.l (i n0)))] [(n0,(.t n14))] false)) n10 n0 [] [n9,n8,n6,n7] false false),(dq (oq n16 (.call (.c (.fn c5e [] [])) [(k n0),(.t n10),(.t n15)] .borrow)) n11 n0 [] [n5,n10,n4,n3,n1,n2,n0,n9,n8,n6,n7] true false),(dz (oq n17 (.un .not (.t n16))) n12 n0),(dz (om n4 n17) n13 n0)])
 .ret))
def f7w:XFn:=⟨g3e,n18,[(.t n4)],h2a⟩
def g8d:Ann:=⟨[],[]⟩
def g7e:a0c:=
 (.seq (.ops [(oq n2 (.mv (k n0)))])
 (.seq (.ops [(om n3 n0),(oq n4 (.bin .sub (.c (.d (.int .i64 (.l (.negSucc n0))))) (.t n3))),(om n2 n4)])
 .ret))
def f4j:XFn:=⟨g8d,n5,[(.t n2)],g7e⟩
def g9p:Ann:=⟨[(n1,n2,n2)],[]⟩
def g5n:a0c:=
 (.seq (.ops [(oq n4 (.mv (.c (.d (.bool false)))))])
 (.seq (.ops [(om n5 n0),(om n6 n1),(oq n7 (.call (.c (.fn e9p [] [])) [(.t n5),(.t n6)] .raw)),(oq n8 (.bin .geq (.t n7) (k n0))),(om n4 n8)])
 .ret))
def f9j:XFn:=⟨g9p,n9,[(.t n4)],g5n⟩
def g7z:Ann:=⟨[(n1,n2,n2)],[]⟩
def g3l:a0c:=
 (.seq (.ops [(oq n2 (.box (.t n0))),(oq n3 (.mv (.c (.d (.bool false)))))])
 (.seq (.ops [(ol n4 n1),(oq n5 (.load (some n9) (.t n2))),(oq n6 (.call (.t n4) [(.t n5)] .raw)),(oq n7 (.un .not (.t n6))),(om n3 n7)])
 .ret))
def f5e:XFn:=⟨g7z,n8,[(.t n3)],g3l⟩
def g8e:Ann:=⟨[(n3,n6,n0),(n3,n10,n3)],[]⟩
def g9y:a0c:=
 (.seq (.ops [(oq n1 (.box (.t n0))),(oq n2 (.alloc [.nil]))])
 (.seq (.seq (.ops [(of n5 n0 n1),(oq n6 (.load (some n2) (.t n5))),(oq n7 (.mkfn e5s [(.t n6)] []))])
 (.block n0 (.range (.t n7) [n8,n9] (.ops [(om n4 n9)]) (.block n1 (.draw n0 [(dq (of n11 n2 n1) n1 n0 [] [] false true),(dq (of n12 n2 n11) n2 n0 [] [] false true),(dz (om n15 n4) n5 n0),(dq (ol n10 n2) n0 n0 [] [] false true),(dq (ol n13 n12) n3 n0 [] [] false true),(dz (oq n14 (.load (some n7) (.t n1))) n4 n0),(dq (oq n16 (.call (.c (.fn e4k [] [])) [(.t n14),(.t n15),(.c (.fn d9v [] []))] .borrow)) n6 n0 [] [n4,n5] false false),(dz (oq n17 (.iaddr n2 (.t n13) (.t n16))) n7 n0),(dz (oq n18 (.load (some n2) (.t n17))) n8 n0),(dq (oq n19 (.bslice n2 n1 [(.int .u8 (.l (i n0))),(.int .i64 (.l (i n0)))] [(n0,(.t n18))] false)) n9 n0 [] [n8,n7,n3,n6,n2,n1,n4,n5] false false),(dq (oq n20 (.appendN n2 n16 (.t n10) (.t n19) true)) n10 n0 [] [n0,n9,n6,n8,n7,n3,n2,n1,n4,n5] true false),⟨⟨none,none,.store n1 (.t n2) (.t n20)⟩,n11,n0,[],[n10,n0,n1,n2,n3,n4,n5,n6,n7,n8,n9],true,false⟩])))))
 (.seq (.ops [(ol n21 n2),⟨none,none,.store n1 (.t n2) (.t n21)⟩])
 .ret)))
def g1f:XFn:=⟨g8e,n22,[(.c n2 none)],g9y⟩
def g7n:Ann:=⟨[(n4,n4,n2),(n6,n4,n2),(n8,n4,n2),(n10,n4,n2),(n12,n4,n2),(n16,n4,n2),(n17,n13,n2),(n18,n5,n2),(n20,n5,n2),(n26,n5,n2),(n29,n6,n2)],[]⟩
def h3m:a0c:=
 (.seq (.ops [(oq n10 (.mv (.c (.d (.bool true)))))])
 (.seq (.ops [(oq n11 (.mv (.c (.d (.bool true)))))])
 (.block n0 (.loop (.block n1 (.seq (.ops [(om n21 n2),(om n22 n1),(oq n23 (.bin .sub (.t n21) (.t n22))),(om n12 n23)])
 (.seq (.seq (.ops [(om n24 n12),(oq n25 (.bin .leq (.t n24) (k n12)))])
 (.cond (.t n25) (.seq (.ops [(om n26 n0),(om n27 n1),(om n28 n2),(om n29 n4),(oq n30 (.call (.c (.fn e7i [] [])) [(.t n26),(.t n27),(.t n28),(.t n29)] .raw))])
 .ret)
 .skip))
 (.seq (.seq (.ops [(om n31 n3),(oq n32 (.bin .eql (.t n31) (k n0)))])
 (.cond (.t n32) (.seq (.ops [(om n33 n0),(om n34 n1),(om n35 n2),(om n36 n4),(oq n37 (.call (.c (.fn f0d [] [])) [(.t n33),(.t n34),(.t n35),(.t n36)] .raw))])
 .ret)
 .skip))
 (.seq (.seq (.ops [(om n38 n10),(oq n39 (.un .not (.t n38)))])
 (.cond (.t n39) (.seq (.ops [(om n40 n0),(om n41 n1),(om n42 n2),(om n43 n4),(oq n44 (.call (.c (.fn f8k [] [])) [(.t n40),(.t n41),(.t n42),(.t n43)] .raw))])
 (.ops [(om n45 n3),(oq n46 (.bin .sub (.t n45) (k n1))),(om n3 n46)]))
 .skip))
 (.seq (.ops [(om n48 n0),(om n49 n1),(om n50 n2),(om n51 n4),(oq n52 (.call (.c (.fn f4r [] [])) [(.t n48),(.t n49),(.t n50),(.t n51)] .raw)),(om n47 n52),(oq n53 (.extract (.t n47) n0)),(oq n54 (.extract (.t n47) n1)),(om n13 n53),(om n14 n54)])
 (.seq (.seq (.ops [(om n55 n14),(oq n56 (.bin .eql (.t n55) (k n2)))])
 (.cond (.t n56) (.seq (.ops [(om n57 n0),(om n58 n1),(om n59 n2),(om n60 n4),(oq n61 (.call (.c (.fn e7u [] [])) [(.t n57),(.t n58),(.t n59),(.t n60)] .raw))])
 (.seq (.ops [(om n62 n2),(oq n63 (.bin .sub (.t n62) (k n1))),(om n64 n13),(om n65 n1),(oq n66 (.bin .sub (.t n64) (.t n65))),(oq n67 (.bin .sub (.t n63) (.t n66))),(om n13 n67)])
 (.ops [(oq n14 (.mv (k n1)))])))
 .skip))
 (.seq (.seq (.ops [(om n68 n10),(om n69 n68),(og n70 n69 true (.mv (.t n11))),(oq n71 (.pick (.t n69) (.t n70) (.c (.d (.bool false))))),(om n72 n71),(og n73 n72 true (.mv (.t n14))),(og n74 n72 true (.bin .eql (.t n73) (k n1))),(oq n75 (.pick (.t n72) (.t n74) (.c (.d (.bool false)))))])
 (.cond (.t n75) (.seq (.ops [(om n76 n0),(om n77 n1),(om n78 n2),(om n79 n4),(oq n80 (.call (.c (.fn e0t [] [])) [(.t n76),(.t n77),(.t n78),(.t n79)] .raw))])
 (.cond (.t n80) .ret
 .skip))
 .skip))
 (.seq (.seq (.draw n0 [(dz (om n81 n1) n0 n0),(dz (oq n82 (.bin .gtr (.t n81) (k n0))) n1 n0),(dz (om n83 n82) n2 n0),(dz (og n84 n83 true (.mv (.t n4))) n3 n0),(dz (og n85 n83 true (.mv (.t n0))) n4 n0),(dz (og n86 n83 true (.mv (.t n1))) n5 n0),(dz (og n87 n83 true (.bin .sub (.t n86) (k n1))) n6 n0),(dz (og n88 n83 true (.iaddr n2 (.t n85) (.t n87))) n7 n0),(dz (og n90 n83 true (.mv (.t n0))) n9 n0),(dz (og n91 n83 true (.mv (.t n13))) n10 n0),(dz (og n92 n83 true (.iaddr n2 (.t n90) (.t n91))) n11 n0),(dz (og n89 n83 true (.load (some n2) (.t n88))) n8 n0),(dz (og n93 n83 true (.load (some n2) (.t n92))) n12 n0),(dq (og n94 n83 true (.call (.t n84) [(.t n89),(.t n93)] .raw)) n13 n0 [] [n3,n8,n12,n2,n1,n0,n7,n4,n6,n5,n11,n9,n10] true false),(dz (og n95 n83 true (.bin .lss (.t n94) (k n0))) n14 n0),(dz (og n96 n83 true (.un .not (.t n95))) n15 n0),(dz (oq n97 (.pick (.t n83) (.t n96) (.c (.d (.bool false))))) n16 n0)])
 (.cond (.t n97) (.seq (.ops [(om n98 n0),(om n99 n1),(om c1w n2),(om b9n n13),(om c2d n4),(oq b8s (.call (.c (.fn e7z [] [])) [(.t n98),(.t n99),(.t c1w),(.t b9n),(.t c2d)] .raw)),(om n15 b8s)])
 (.seq (.ops [(om b0g n15),(om n1 b0g)])
 (.exit n1)))
 .skip))
 (.seq (.ops [(om c1v n0),(om b3k n1),(om a9u n2),(om b7w n13),(om b8f n4),(oq c2p (.call (.c (.fn e8r [] [])) [(.t c1v),(.t b3k),(.t a9u),(.t b7w),(.t b8f)] .raw)),(om b9l c2p),(oq b8v (.extract (.t b9l) n0)),(oq c3o (.extract (.t b9l) n1)),(om n16 b8v),(om n17 c3o)])
 (.seq (.ops [(om c3g n17),(om n11 c3g)])
 (.seq (.ops [(om b4y n16),(om c1y n1),(oq c3q (.bin .sub (.t b4y) (.t c1y))),(om b1a n2),(om b2v n16),(oq b8r (.bin .sub (.t b1a) (.t b2v))),(om n18 c3q),(om n19 b8r)])
 (.seq (.ops [(om c3u n12),(oq c1h (.bin .quo (.t c3u) (k n8))),(om n20 c1h)])
 (.seq (.ops [(om c3f n18),(om b8e n19),(oq c6b (.bin .lss (.t c3f) (.t b8e)))])
 (.cond (.t c6b) (.seq (.ops [(om d0w n18),(om d0x n20),(oq d0z (.bin .geq (.t d0w) (.t d0x))),(om n10 d0z)])
 (.seq (.ops [(om c3l n0),(om c1j n1),(om c5d n16),(om c5o n3),(om b4f n4),(oq d0n (.call (.c (.fn d4r [] [])) [(.t c3l),(.t c1j),(.t c5d),(.t c5o),(.t b4f)] .raw))])
 (.ops [(om d0t n16),(oq d1a (.bin .add (.t d0t) (k n1))),(om n1 d1a)])))
 (.seq (.ops [(om d0u n19),(om b8c n20),(oq d4v (.bin .geq (.t d0u) (.t b8c))),(om n10 d4v)])
 (.seq (.ops [(om d6b n0),(om d1l n16),(oq d3x (.bin .add (.t d1l) (k n1))),(om c7z n2),(om c5y n3),(om d5e n4),(oq d6v (.call (.c (.fn d4r [] [])) [(.t d6b),(.t d3x),(.t c7z),(.t c5y),(.t d5e)] .raw))])
 (.ops [(om d5a n16),(om n2 d5a)]))))))))))))))))))))))
def f7y:XFn:=⟨g7n,d8x,[],h3m⟩
def g6j:Ann:=⟨[(n4,n5,n2)],[]⟩
def g9d:a0c:=
 (.seq (.ops [(oq n4 (.mv (k n0)))])
 (.seq (.seq (.ops [(om n6 n0),(oq n7 (.len (.t n6))),(oq n8 (.mv (k n0)))])
 (.block n0 (.loop (.seq (.ops [(oq n9 (.bin .lss (.t n8) (.t n7)))])
 (.seq (.cond (.t n9) .skip
 (.exit n0))
 (.seq (.block n1 (.seq (.ops [(om n10 n8),(om n5 n10)])
 (.seq (.ops [(om n11 n1),(om n12 n0),(om n13 n5),(oq n14 (.iaddr n5 (.t n12) (.t n13))),(oq n15 (.load (some n5) (.t n14))),(oq n16 (.call (.t n11) [(.t n15)] .raw))])
 (.cond (.t n16) (.seq (.ops [(om n17 n5),(om n4 n17)])
 .ret)
 .skip))))
 (.ops [(oq n18 (.bin .add (.t n8) (k n1))),(om n8 n18)])))))))
 (.seq (.ops [(oq n4 (.mv (.c (.d (.int .i64 (.l (.negSucc n0)))))))])
 .ret)))
def g1a:XFn:=⟨g6j,n19,[(.t n4)],g9d⟩
def h1l:Ann:=⟨[(n1,n2,n2)],[]⟩
def g6q:a0c:=
 (.seq (.ops [(oq n4 (.mv (.c (.d (.bool false)))))])
 (.seq (.ops [(om n5 n0),(om n6 n1),(oq n7 (.call (.c (.fn e8p [] [])) [(.t n5),(.t n6)] .raw)),(oq n8 (.bin .geq (.t n7) (k n0))),(om n4 n8)])
 .ret))
def f8n:XFn:=⟨h1l,n9,[(.t n4)],g6q⟩
def g3q:Ann:=⟨[(n1,n2,n2)],[]⟩
def g4o:a0c:=
 (.seq (.ops [(oq n3 (.box (.t n0))),(oq n4 (.box (.t n1))),(oq n6 (.mv (.c (.d (.bool false)))))])
 (.seq (.ops [(om n7 n2),(oq n8 (.mkfn e8m [] [(.t n3),(.t n4)])),(oq n9 (.call (.c (.fn d8s [] [])) [(.t n7),(.t n8)] .raw)),(oq n10 (.un .not (.t n9))),(om n6 n10)])
 .ret))
def f3m:XFn:=⟨g3q,n11,[(.t n6)],g4o⟩
def g7v:Ann:=⟨[(n1,n1,n0)],[]⟩
def h1p:a0c:=
 (.seq (.ops [(oq n2 (.mv (.c (.d (.bool false)))))])
 (.seq (.ops [(om n3 n0),(oq n4 (.call (.c (.fn d7s [] [])) [(.t n3),(.c (.fn e6d [] []))] .borrow)),(oq n5 (.un .not (.t n4))),(om n2 n5)])
 .ret))
def f9n:XFn:=⟨g7v,n6,[(.t n2)],h1p⟩
def h3p:Ann:=⟨[],[]⟩
def g4k:a0c:=
 (.seq (.ops [(oq n2 (.mv (k n0)))])
 (.seq (.ops [(oq n3 (.mv (k n0)))])
 (.seq (.seq (.ops [(om n6 n0),(oq n7 (.len (.t n6))),(oq n8 (.mv (k n0)))])
 (.block n0 (.loop (.seq (.ops [(oq n9 (.bin .lss (.t n8) (.t n7)))])
 (.seq (.cond (.t n9) .skip
 (.exit n0))
 (.seq (.block n1 (.seq (.ops [(oq n10 (.iaddr n1 (.t n6) (.t n8))),(ol n11 n10),(om n5 n11)])
 (.seq (.ops [(om n12 n5),(om n13 n3),(oq n14 (.bin .neq (.t n12) (.t n13)))])
 (.cond (.t n14) (.seq (.ops [(om n15 n5),(om n2 n15)])
 .ret)
 .skip))))
 (.ops [(oq n16 (.bin .add (.t n8) (k n1))),(om n8 n16)])))))))
 (.seq (.ops [(om n17 n3),(om n2 n17)])
 .ret))))
def f7q:XFn:=⟨h3p,n18,[(.t n2)],g4k⟩
def g3a:Ann:=⟨[(n1,n1,n0),(n2,n1,n0)],[]⟩
def g8p:a0c:=
 (.seq (.ops [(oq n4 (.mv (k n0)))])
 (.seq (.ops [(om n7 n0),(oq n8 (.call (.c (.fn d7m [] [])) [(.t n7)] .borrow)),(om n5 n8)])
 (.seq (.ops [(om n9 n1),(oq n10 (.call (.c (.fn d7m [] [])) [(.t n9)] .borrow)),(om n6 n10)])
 (.seq (.seq (.ops [(om n11 n5)])
 (.cond (.t n11) (.seq (.seq (.ops [(om n12 n6)])
 (.cond (.t n12) (.seq (.ops [(oq n4 (.mv (k n0)))])
 .ret)
 .skip))
 (.seq (.ops [(oq n4 (.mv (.c (.d (.int .i64 (.l (.negSucc n0)))))))])
 .ret))
 .skip))
 (.seq (.seq (.ops [(om n13 n6)])
 (.cond (.t n13) (.seq (.ops [(oq n4 (.mv (k n1)))])
 .ret)
 .skip))
 (.seq (.seq (.ops [(om n14 n0),(om n15 n1),(oq n16 (.bin .lss (.t n14) (.t n15)))])
 (.cond (.t n16) (.seq (.ops [(oq n4 (.mv (.c (.d (.int .i64 (.l (.negSucc n0)))))))])
 .ret)
 .skip))
 (.seq (.seq (.ops [(om n17 n0),(om n18 n1),(oq n19 (.bin .gtr (.t n17) (.t n18)))])
 (.cond (.t n19) (.seq (.ops [(oq n4 (.mv (k n1)))])
 .ret)
 .skip))
 (.seq (.ops [(oq n4 (.mv (k n0)))])
 .ret))))))))
def f7h:XFn:=⟨g3a,n20,[(.t n4)],g8p⟩
def g4q:Ann:=⟨[(n1,n1,n0),(n2,n1,n0)],[]⟩
def g5d:a0c:=
 (.seq (.ops [(oq n4 (.mv (k n0)))])
 (.seq (.ops [(om n7 n0),(oq n8 (.call (.c (.fn d9c [] [])) [(.t n7)] .borrow)),(om n5 n8)])
 (.seq (.ops [(om n9 n1),(oq n10 (.call (.c (.fn d9c [] [])) [(.t n9)] .borrow)),(om n6 n10)])
 (.seq (.seq (.ops [(om n11 n5)])
 (.cond (.t n11) (.seq (.seq (.ops [(om n12 n6)])
 (.cond (.t n12) (.seq (.ops [(oq n4 (.mv (k n0)))])
 .ret)
 .skip))
 (.seq (.ops [(oq n4 (.mv (.c (.d (.int .i64 (.l (.negSucc n0)))))))])
 .ret))
 .skip))
 (.seq (.seq (.ops [(om n13 n6)])
 (.cond (.t n13) (.seq (.ops [(oq n4 (.mv (k n1)))])
 .ret)
 .skip))
 (.seq (.seq (.ops [(om n14 n0),(om n15 n1),(oq n16 (.bin .lss (.t n14) (.t n15)))])
 (.cond (.t n16) (.seq (.ops [(oq n4 (.mv (.c (.d (.int .i64 (.l (.negSucc n0)))))))])
 .ret)
 .skip))
 (.seq (.seq (.ops [(om n17 n0),(om n18 n1),(oq n19 (.bin .gtr (.t n17) (.t n18)))])
 (.cond (.t n19) (.seq (.ops [(oq n4 (.mv (k n1)))])
 .ret)
 .skip))
 (.seq (.ops [(oq n4 (.mv (k n0)))])
 .ret))))))))
def g2f:XFn:=⟨g4q,n20,[(.t n4)],g5d⟩
def h3r:Ann:=⟨[(n4,n5,n2)],[]⟩
def g3z:a0c:=
 (.seq (.ops [(oq n4 (.mv (k n0)))])
 (.seq (.seq (.ops [(om n6 n0),(oq n7 (.len (.t n6))),(oq n8 (.mv (k n0)))])
 (.block n0 (.loop (.seq (.ops [(oq n9 (.bin .lss (.t n8) (.t n7)))])
 (.seq (.cond (.t n9) .skip
 (.exit n0))
 (.seq (.block n1 (.seq (.ops [(om n10 n8),(om n5 n10)])
 (.seq (.ops [(om n11 n1),(om n12 n0),(om n13 n5),(oq n14 (.iaddr n1 (.t n12) (.t n13))),(ol n15 n14),(oq n16 (.call (.t n11) [(.t n15)] .raw))])
 (.cond (.t n16) (.seq (.ops [(om n17 n5),(om n4 n17)])
 .ret)
 .skip))))
 (.ops [(oq n18 (.bin .add (.t n8) (k n1))),(om n8 n18)])))))))
 (.seq (.ops [(oq n4 (.mv (.c (.d (.int .i64 (.l (.negSucc n0)))))))])
 .ret)))
def g2r:XFn:=⟨h3r,n19,[(.t n4)],g3z⟩
def g4d:Ann:=⟨[(n4,n13,n0)],[]⟩
def g9a:a0c:=
 (.seq (.ops [(om n8 n1),(oq n9 (.bin .add (.t n8) (k n1))),(om n6 n9)])
 (.block n0 (.loop (.seq (.seq (.ops [(om n10 n6),(om n11 n2),(oq n12 (.bin .lss (.t n10) (.t n11)))])
 (.cond (.t n12) .skip
 (.exit n0)))
 (.seq (.block n1 (.seq (.ops [(om n15 n6),(om n7 n15)])
 (.block n2 (.loop (.seq (.seq (.draw n0 [(dz (om n16 n7) n0 n0),(dz (om n17 n1) n1 n0),(dz (oq n18 (.bin .gtr (.t n16) (.t n17))) n2 n0),(dz (om n19 n18) n3 n0),(dz (og n20 n19 true (.mv (.t n0))) n4 n0),(dz (og n21 n19 true (.mv (.t n7))) n5 n0),(dz (og n22 n19 true (.iaddr n1 (.t n20) (.t n21))) n6 n0),(dz (og n24 n19 true (.mv (.t n0))) n8 n0),(dz (og n25 n19 true (.mv (.t n7))) n9 n0),(dz (og n26 n19 true (.bin .sub (.t n25) (k n1))) n10 n0),(dz (og n27 n19 true (.iaddr n1 (.t n24) (.t n26))) n11 n0),(dz (og n23 n19 true (.load none (.t n22))) n7 n0),(dz (og n28 n19 true (.load none (.t n27))) n12 n0),(dq (og n29 n19 true (.call (.c (.fn e2l [] [])) [(.t n23),(.t n28)] .borrow)) n13 n0 [] [n7,n12,n3,n6,n4,n5,n2,n0,n1,n11,n8,n10,n9] true false),(dz (oq n30 (.pick (.t n19) (.t n29) (.c (.d (.bool false))))) n14 n0)])
 (.cond (.t n30) .skip
 (.exit n2)))
 (.seq (.block n3 (.draw n0 [(dz (om n33 n0) n0 n0),(dz (om n34 n7) n1 n0),(dq (om n35 n0) n2 n0 [] [] false true),(dq (om n36 n7) n3 n0 [] [] false true),(dq (oq n37 (.bin .sub (.t n36) (k n1))) n4 n0 [] [] false true),(dz (om n38 n0) n5 n0),(dz (om n39 n7) n6 n0),(dz (oq n40 (.bin .sub (.t n39) (k n1))) n7 n0),(dz (oq n41 (.iaddr n1 (.t n38) (.t n40))) n8 n0),(dz (om n43 n0) n10 n0),(dz (om n44 n7) n11 n0),(dz (oq n45 (.iaddr n1 (.t n43) (.t n44))) n12 n0),(dz (ol n42 n41) n9 n0),(dz (ol n46 n45) n13 n0),(dz (oq n47 (.iaddr n1 (.t n33) (.t n34))) n14 n0),⟨⟨none,none,.store n1 (.t n47) (.t n42)⟩,n15,n0,[],[n14,n9,n0,n1,n5,n6,n7,n8,n13,n12,n10,n11],false,false⟩,(dz (oq n48 (.iaddr n1 (.t n35) (.t n37))) n16 n0),⟨⟨none,none,.store n1 (.t n48) (.t n46)⟩,n17,n0,[],[n16,n13,n15,n0,n1,n2,n3,n4,n5,n6,n7,n8,n9,n10,n11,n12,n14],true,false⟩]))
 (.ops [(om n31 n7),(oq n32 (.bin .sub (.t n31) (k n1))),(om n7 n32)])))))))
 (.ops [(om n13 n6),(oq n14 (.bin .add (.t n13) (k n1))),(om n6 n14)]))))))
def g1x:XFn:=⟨g4d,n49,[],g9a⟩
def g6z:Ann:=⟨[(n1,n1,n0),(n1,n4,n0)],[]⟩
def g3x:a0c:=
 (.seq (.ops [(oq n4 (.mv (.c (.d (.bool false)))))])
 (.seq (.ops [(om n5 n0),(oq n6 (.call (.c (.fn d9c [] [])) [(.t n5)] .borrow)),(om n7 n6),(og n8 n7 true (.mv (.t n1))),(og n9 n7 true (.call (.c (.fn d9c [] [])) [(.t n8)] .borrow)),(og n10 n7 true (.un .not (.t n9))),(oq n11 (.pick (.t n7) (.t n10) (.c (.d (.bool false))))),(om n12 n11),(og n13 n12 false (.mv (.t n0))),(og n14 n12 false (.mv (.t n1))),(og n15 n12 false (.bin .lss (.t n13) (.t n14))),(oq n16 (.pick (.t n12) (.c (.d (.bool true))) (.t n15))),(om n4 n16)])
 .ret))
def f8a:XFn:=⟨g6z,n17,[(.t n4)],g3x⟩
def h2y:Ann:=⟨[],[]⟩
def g7w:a0c:=
 (.seq (.ops [(oq n2 (.mv (k n0)))])
 (.seq (.seq (.ops [(om n3 n0),(oq n4 (.bin .geq (.t n3) (.c (.d (.int .u32 (.l (i d4l)))))))])
 (.cond (.t n4) (.seq (.ops [(om n5 n0),(oq n6 (.bw .shr (.t n5) (.c (.d (.int .u64 (.l (i n16))))))),(om n0 n6)])
 (.ops [(oq n2 (.mv (k n16)))]))
 .skip))
 (.seq (.seq (.ops [(om n7 n0),(oq n8 (.bin .geq (.t n7) (.c (.d (.int .u32 (.l (i e6q)))))))])
 (.cond (.t n8) (.seq (.ops [(om n9 n0),(oq n10 (.bw .shr (.t n9) (.c (.d (.int .u64 (.l (i n8))))))),(om n0 n10)])
 (.ops [(om n11 n2),(oq n12 (.bin .add (.t n11) (k n8))),(om n2 n12)]))
 .skip))
 (.seq (.ops [(om n13 n2),(om n14 n0),(oq n15 (.conv .u8 (.t n14))),(oq n16 (.idxs [0,1,2,2,3,3,3,3,4,4,4,4,4,4,4,4,5,5,5,5,5,5,5,5,5,5,5,5,5,5,5,5,6,6,6,6,6,6,6,6,6,6,6,6,6,6,6,6,6,6,6,6,6,6,6,6,6,6,6,6,6,6,6,6,7,7,7,7,7,7,7,7,7,7,7,7,7,7,7,7,7,7,7,7,7,7,7,7,7,7,7,7,7,7,7,7,7,7,7,7,7,7,7,7,7,7,7,7,7,7,7,7,7,7,7,7,7,7,7,7,7,7,7,7,7,7,7,7,8,8,8,8,8,8,8,8,8,8,8,8,8,8,8,8,8,8,8,8,8,8,8,8,8,8,8,8,8,8,8,8,8,8,8,8,8,8,8,8,8,8,8,8,8,8,8,8,8,8,8,8,8,8,8,8,8,8,8,8,8,8,8,8,8,8,8,8,8,8,8,8,8,8,8,8,8,8,8,8,8,8,8,8,8,8,8,8,8,8,8,8,8,8,8,8,8,8,8,8,8,8,8,8,8,8,8,8,8,8,8,8,8,8,8,8,8,8,8,8,8,8,8,8,8,8,8,8] (.t n15))),(oq n17 (.conv .i64 (.t n16))),(oq n18 (.bin .add (.t n13) (.t n17))),(om n2 n18)])
 .ret))))
def f4c:XFn:=⟨h2y,n19,[(.t n2)],g7w⟩
def g8l:Ann:=⟨[],[]⟩
def g5e:a0c:=
 (.seq (.ops [(oq n2 (.mv (k n0)))])
 (.seq (.seq (.ops [(om n3 n0),(oq n4 (.bin .geq (.t n3) (.c (.d (.int .u64 (.l (i b9r)))))))])
 (.cond (.t n4) (.seq (.ops [(om n5 n0),(oq n6 (.bw .shr (.t n5) (.c (.d (.int .u64 (.l (i n32))))))),(om n0 n6)])
 (.ops [(oq n2 (.mv (k n32)))]))
 .skip))
 (.seq (.seq (.ops [(om n7 n0),(oq n8 (.bin .geq (.t n7) (.c (.d (.int .u64 (.l (i d4l)))))))])
 (.cond (.t n8) (.seq (.ops [(om n9 n0),(oq n10 (.bw .shr (.t n9) (.c (.d (.int .u64 (.l (i n16))))))),(om n0 n10)])
 (.ops [(om n11 n2),(oq n12 (.bin .add (.t n11) (k n16))),(om n2 n12)]))
 .skip))
 (.seq (.seq (.ops [(om n13 n0),(oq n14 (.bin .geq (.t n13) (.c (.d (.int .u64 (.l (i e6q)))))))])
 (.cond (.t n14) (.seq (.ops [(om n15 n0),(oq n16 (.bw .shr (.t n15) (.c (.d (.int .u64 (.l (i n8))))))),(om n0 n16)])
 (.ops [(om n17 n2),(oq n18 (.bin .add (.t n17) (k n8))),(om n2 n18)]))
 .skip))
 (.seq (.ops [(om n19 n2),(om n20 n0),(oq n21 (.conv .u8 (.t n20))),(oq n22 (.idxs [0,1,2,2,3,3,3,3,4,4,4,4,4,4,4,4,5,5,5,5,5,5,5,5,5,5,5,5,5,5,5,5,6,6,6,6,6,6,6,6,6,6,6,6,6,6,6,6,6,6,6,6,6,6,6,6,6,6,6,6,6,6,6,6,7,7,7,7,7,7,7,7,7,7,7,7,7,7,7,7,7,7,7,7,7,7,7,7,7,7,7,7,7,7,7,7,7,7,7,7,7,7,7,7,7,7,7,7,7,7,7,7,7,7,7,7,7,7,7,7,7,7,7,7,7,7,7,7,8,8,8,8,8,8,8,8,8,8,8,8,8,8,8,8,8,8,8,8,8,8,8,8,8,8,8,8,8,8,8,8,8,8,8,8,8,8,8,8,8,8,8,8,8,8,8,8,8,8,8,8,8,8,8,8,8,8,8,8,8,8,8,8,8,8,8,8,8,8,8,8,8,8,8,8,8,8,8,8,8,8,8,8,8,8,8,8,8,8,8,8,8,8,8,8,8,8,8,8,8,8,8,8,8,8,8,8,8,8,8,8,8,8,8,8,8,8,8,8,8,8,8,8,8,8,8,8] (.t n21))),(oq n23 (.conv .i64 (.t n22))),(oq n24 (.bin .add (.t n19) (.t n23))),(om n2 n24)])
 .ret)))))
def f7z:XFn:=⟨g8l,n25,[(.t n2)],g5e⟩
def g8r:Ann:=⟨[(n0,n3,n2),(n1,n3,n2),(n2,n1,n2)],[]⟩
def g8b:a0c:=
 (.seq (.ops [(om n4 n0),(om n5 n1),(oq n6 (.slice n5 (.t n4) none (some (.t n5)) none)),(oq n7 (.call (.c (.fn e4v [] [])) [(.t n6)] .raw))])
 (.seq (.ops [(om n8 n0),(om n9 n1),(oq n10 (.slice n5 (.t n8) (some (.t n9)) none none)),(oq n11 (.call (.c (.fn e4v [] [])) [(.t n10)] .raw))])
 (.ops [(om n12 n0),(oq n13 (.call (.c (.fn e4v [] [])) [(.t n12)] .raw))])))
def f5j:XFn:=⟨g8r,n14,[],g8b⟩
def g3v:Ann:=⟨[(n1,n2,n2)],[]⟩
def g5u:a0c:=
 (.seq (.ops [(oq n3 (.box (.t n1))),(oq n4 (.mv (.c (.d (.bool false)))))])
 (.seq (.ops [(om n5 n0),(oq n6 (.mkfn e7b [] [(.t n3)])),(oq n7 (.call (.c (.fn d7s [] [])) [(.t n5),(.t n6)] .raw)),(oq n8 (.un .not (.t n7))),(om n4 n8)])
 .ret))
def f7d:XFn:=⟨g3v,n9,[(.t n4)],g5u⟩
def g3j:Ann:=⟨[(n3,n3,n0)],[]⟩
def g7s:a0c:=
 (.seq (.ops [(oq n1 (.box (.t n0))),(oq n2 (.mv (.c (.d (.bool false)))))])
 (.seq (.seq (.ops [(of n3 n0 n1),(ol n4 n3),(oq n5 (.bin .gtr (.t n4) (.c (.d (.int .u8 (.l (i n0)))))))])
 (.cond (.t n5) (.seq (.ops [(of n6 n0 n1),(ol n7 n6),(oq n8 (.bin .leq (.t n7) (.c (.d (.int .u8 (.l (i n4))))))),(om n9 n8),(og n10 n9 true (.faddr n1 (.t n1))),(og n11 n9 true (.load none (.t n10))),(og n12 n9 true (.bin .eql (.t n11) (k n0))),(oq n13 (.pick (.t n9) (.t n12) (.c (.d (.bool false))))),(om n2 n13)])
 .ret)
 .skip))
 (.seq (.ops [(of n14 n1 n1),(ol n15 n14),(oq n16 (.bslice n1 n1 [(.int .i64 (.l (i n0)))] [(n0,(.t n15))] false)),(oq n17 (.call (.c (.fn c5e [] [])) [(.c (.d (.int .i64 (.l (.negSucc d8e))))),(k d7v),(.t n16)] .borrow)),(om n2 n17)])
 .ret)))
def f5s:XFn:=⟨g3j,n18,[(.t n2)],g7s⟩
def h1o:Ann:=⟨[(n1,n2,n2)],[]⟩
def g3m:a0c:=
 (.seq (.ops [(oq n3 (.box (.t n1))),(oq n4 (.mv (.c (.d (.bool false)))))])
 (.seq (.ops [(om n5 n0),(oq n6 (.mkfn e5d [] [(.t n3)])),(oq n7 (.call (.c (.fn d8s [] [])) [(.t n5),(.t n6)] .raw)),(oq n8 (.un .not (.t n7))),(om n4 n8)])
 .ret))
def g0k:XFn:=⟨h1o,n9,[(.t n4)],g3m⟩
def h0w:Ann:=⟨[(n2,n8,n0),(n4,n3,n2)],[]⟩
def g6i:a0c:=
 (.seq (.ops [(oq n2 (.box (.t n0))),(oq n3 (.box (.t n1))),(oq n4 (.mv (.c (.d (.bool false)))))])
 (.seq (.ops [(of n6 n2 n2),(of n7 n3 n6),(ol n8 n7),(ol n9 n3),(oq n10 (.iaddr n2 (.t n8) (.t n9))),(oq n11 (.load (some n2) (.t n10))),(oq n5 (.alloc [(.int .i64 (.l (i n0))),.nil])),⟨none,none,.store n2 (.t n5) (.t n11)⟩])
 (.seq (.seq (.draw n0 [(dq (of n12 n0 n2) n0 n0 [] [] false true),(dq (of n13 n0 n12) n1 n0 [] [] false true),(dz (of n17 n0 n5) n5 n0),(dq (ol n14 n13) n2 n0 [] [] false true),(dq (oq n15 (.len (.t n14))) n3 n0 [] [] false true),(dq (oq n16 (.bin .sub (.t n15) (k n1))) n4 n0 [] [] false true),(dz (ol n18 n17) n6 n0),(dq (oq n19 (.bslice n1 n1 [(.int .i64 (.l (i n0)))] [(n0,(.t n18))] false)) n7 n0 [] [n6,n5] false false),(dq (oq n20 (.call (.c (.fn c5e [] [])) [(k n0),(.t n16),(.t n19)] .borrow)) n8 n0 [] [n4,n7,n3,n2,n1,n0,n6,n5] true false),(dz (oq n21 (.un .not (.t n20))) n9 n0),(dz (om n22 n21) n10 n0),(dz (og n23 n22 false (.faddr n1 (.t n5))) n11 n0),(dz (og n26 n22 false (.faddr n0 (.t n2))) n14 n0),(dz (og n27 n22 false (.faddr n0 (.t n26))) n15 n0),(dz (og n29 n22 false (.faddr n0 (.t n5))) n17 n0),(dz (og n24 n22 false (.load none (.t n23))) n12 n0),(dz (og n25 n22 false (.len (.t n24))) n13 n0),(dz (og n28 n22 false (.load none (.t n27))) n16 n0),(dz (og n30 n22 false (.load none (.t n29))) n18 n0),(dz (og n31 n22 false (.iaddr n1 (.t n28) (.t n30))) n19 n0),(dz (og n32 n22 false (.load none (.t n31))) n20 n0),(dz (og n33 n22 false (.bin .neq (.t n25) (.t n32))) n21 n0),(dz (oq n34 (.pick (.t n22) (.c (.d (.bool true))) (.t n33))) n22 n0)])
 (.cond (.t n34) (.seq (.ops [(oq n4 (.mv (.c (.d (.bool false)))))])
 .ret)
 .skip))
 (.seq (.ops [(of n35 n1 n5),(ol n36 n35),(oq n37 (.mkfn e5h [] [(.t n2),(.t n3),(.t n5)])),(oq n38 (.call (.c (.fn d9z [] [])) [(.t n36),(.t n37)] .raw)),(om n4 n38)])
 .ret))))
def g1t:XFn:=⟨h0w,n39,[(.t n4)],g6i⟩
def g6m:Ann:=⟨[(n2,n1,n0),(n3,n13,n0)],[]⟩
def h2o:a0c:=
 (.seq (.ops [(oq n4 (.box (.t n0))),(oq n8 (.mv (.c (.d (.bool false)))))])
 (.seq (.seq (.ops [(om n9 n1),(oq n10 (.bin .lss (.t n9) (k n0)))])
 (.cond (.t n10) (.seq (.draw n0 [(dz (om n11 n1) n0 n0),(dq (of n13 n2 n4) n2 n0 [] [] false true),(dq (of n14 n2 n13) n3 n0 [] [] false true),(dq (ol n15 n14) n4 n0 [] [] false true),(dq (oq n16 (.len (.t n15))) n5 n0 [] [] false true),(dq (oq n12 (.call (.c (.fn d7p [] [])) [(.t n11)] .borrow)) n1 n0 [] [n0] false false),(dz (oq n17 (.bin .lss (.t n12) (.t n16))) n6 n0),(dz (om n8 n17) n7 n0)])
 .ret)
 .skip))
 (.seq (.draw n0 [(dz (om n18 n1) n0 n0),(dz (om n19 n2) n1 n0),(dz (oq n20 (.bin .lss (.t n18) (.t n19))) n2 n0),(dz (om n21 n20) n3 n0),(dz (og n22 n21 true (.faddr n0 (.t n4))) n4 n0),(dz (og n24 n21 true (.faddr n2 (.t n4))) n6 n0),(dz (og n25 n21 true (.faddr n3 (.t n24))) n7 n0),(dz (og n27 n21 true (.mv (.t n1))) n9 n0),(dq (og n32 n21 true (.mv (.t n3))) n14 n0 [] [] false true),(dz (og n23 n21 true (.load (some n2) (.t n22))) n5 n0),(dz (og n26 n21 true (.load none (.t n25))) n8 n0),(dz (og n28 n21 true (.iaddr n2 (.t n26) (.t n27))) n10 n0),(dz (og n29 n21 true (.faddr n0 (.t n28))) n11 n0),(dz (og n30 n21 true (.load none (.t n29))) n12 n0),(dq (og n31 n21 true (.call (.c (.fn e2i [] [])) [(.t n23),(.t n30)] .borrow)) n13 n0 [] [n5,n12,n3,n4,n2,n0,n1,n11,n10,n8,n9,n7,n6] false false),(dz (og n33 n21 true (.bin .gtr (.t n31) (.t n32))) n15 n0),(dz (oq n34 (.pick (.t n21) (.t n33) (.c (.d (.bool false))))) n16 n0),(dz (om n8 n34) n17 n0)])
 .ret)))
def f2w:XFn:=⟨g6m,n35,[(.t n8)],h2o⟩
def g6t:Ann:=⟨[(n1,n10,n0)],[]⟩
def g9m:a0c:=
 (.seq (.ops [(oq n2 (.box (.t n0))),(oq n3 (.box (.t n1))),(oq n4 (.mv (.c (.d (.bool false)))))])
 (.seq (.ops [(of n5 n0 n2),(ol n6 n5),(of n7 n0 n3),(ol n8 n7),(oq n9 (.bin .eql (.t n6) (.t n8))),(om n10 n9),(og n11 n10 true (.faddr n1 (.t n2))),(og n12 n10 true (.load none (.t n11))),(og n13 n10 true (.faddr n1 (.t n3))),(og n14 n10 true (.load none (.t n13))),(og n15 n10 true (.call (.c (.fn d0p [] [])) [(.t n12),(.t n14)] .borrow)),(oq n16 (.pick (.t n10) (.t n15) (.c (.d (.bool false))))),(om n4 n16)])
 .ret))
def f4a:XFn:=⟨g6t,n17,[(.t n4)],g9m⟩
def g8q:Ann:=⟨[],[]⟩
def g9k:a0c:=
 (.seq (.ops [(oq n4 (.mv (.c (.d (.bool false)))))])
 (.seq (.seq (.ops [(om n6 n0),(oq n7 (.len (.t n6))),(om n8 n1),(oq n9 (.len (.t n8))),(oq n10 (.bin .neq (.t n7) (.t n9)))])
 (.cond (.t n10) (.seq (.ops [(oq n4 (.mv (.c (.d (.bool false)))))])
 .ret)
 .skip))
 (.seq (.seq (.ops [(om n11 n0),(oq n12 (.len (.t n11))),(oq n13 (.mv (k n0)))])
 (.block n0 (.loop (.seq (.ops [(oq n14 (.bin .lss (.t n13) (.t n12)))])
 (.seq (.cond (.t n14) .skip
 (.exit n0))
 (.seq (.block n1 (.seq (.ops [(om n15 n13),(om n5 n15)])
 (.seq (.draw n0 [(dz (om n16 n0) n0 n0),(dz (om n17 n5) n1 n0),(dz (oq n18 (.iaddr n2 (.t n16) (.t n17))) n2 n0),(dz (om n20 n1) n4 n0),(dz (om n21 n5) n5 n0),(dz (oq n22 (.iaddr n2 (.t n20) (.t n21))) n6 n0),(dz (oq n19 (.load (some n2) (.t n18))) n3 n0),(dz (oq n23 (.load (some n2) (.t n22))) n7 n0),(dz (oq n24 (.aeq true [.u8,.i64] (.t n19) (.t n23))) n8 n0)])
 (.cond (.t n24) (.seq (.ops [(oq n4 (.mv (.c (.d (.bool false)))))])
 .ret)
 .skip))))
 (.ops [(oq n25 (.bin .add (.t n13) (k n1))),(om n13 n25)])))))))
 (.seq (.ops [(oq n4 (.mv (.c (.d (.bool true)))))])
 .ret))))
def f3o:XFn:=⟨g8q,n26,[(.t n4)],g9k⟩
end
end Go.Proofs.Tryz.Run
