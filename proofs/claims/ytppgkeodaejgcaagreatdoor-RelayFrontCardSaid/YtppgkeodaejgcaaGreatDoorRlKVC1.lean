/- The texts of this claim, put together. -/
import Derived.Test.YtppgkeodaejgcaaGreatDoorRlKVC0
import Derived.Test.YtppgkeodaejgcaaGreatDoorChecked
import Derived.KernelRfl
set_option linter.unusedSimpArgs false
set_option linter.unusedVariables false
set_option linter.unusedSectionVars false
set_option maxRecDepth 100000
open Go.Instr (loadAt fieldAt indexAt extract buildSlice build)
namespace Go.Proofs.YtppgkeodaejgcaaGreatDoor
open Go
noncomputable abbrev PG:Program:=Tryz.prog
theorem mix:PG.follows .mixedOrders=true:=by kernel_rfl
abbrev yZ:FuncId:=4
abbrev aCM:FuncId:=9
abbrev aDj:FuncId:=10
abbrev zI:FuncId:=11
abbrev aGR:FuncId:=12
abbrev tN:FuncId:=13
abbrev jU:FuncId:=14
abbrev aA3:FuncId:=15
abbrev zN:FuncId:=16
abbrev aCp:FuncId:=36
abbrev aDt:FuncId:=37
abbrev aIe:FuncId:=38
abbrev qK:FuncId:=39
abbrev uL:FuncId:=40
abbrev vH:FuncId:=41
abbrev aDm:FuncId:=42
abbrev aDu:FuncId:=43
abbrev aCU:FuncId:=44
abbrev aDk:FuncId:=45
abbrev aET:FuncId:=46
abbrev aBk:FuncId:=47
abbrev aCV:FuncId:=48
abbrev aBf:FuncId:=49
abbrev xY:FuncId:=50
abbrev sI:FuncId:=51
abbrev tD:FuncId:=52
abbrev qI:FuncId:=53
abbrev pN:FuncId:=54
abbrev qA:FuncId:=55
abbrev aEF:FuncId:=56
abbrev xC:FuncId:=57
abbrev oU:FuncId:=58
abbrev zG:FuncId:=59
abbrev aB0:FuncId:=60
abbrev oR:FuncId:=65
abbrev yA:FuncId:=67
abbrev aAj:FuncId:=79
abbrev zO:FuncId:=80
abbrev aIi:FuncId:=81
abbrev aH1:FuncId:=82
abbrev aE6:FuncId:=83
abbrev aFp:FuncId:=84
abbrev aGM:FuncId:=85
abbrev aHJ:FuncId:=86
abbrev jJ:FuncId:=87
abbrev xP:FuncId:=88
abbrev tF:FuncId:=89
abbrev sU:FuncId:=90
abbrev sZ:FuncId:=91
abbrev aAz:FuncId:=92
abbrev tK:FuncId:=93
abbrev zF:FuncId:=94
abbrev vW:FuncId:=95
abbrev vS:FuncId:=96
abbrev aCC:FuncId:=97
abbrev aDI:FuncId:=98
abbrev sK:FuncId:=99
abbrev aCJ:FuncId:=100
abbrev aGp:FuncId:=101
abbrev aFa:FuncId:=102
abbrev sV:FuncId:=103
abbrev tJ:FuncId:=104
abbrev tC:FuncId:=105
abbrev aDB:FuncId:=106
abbrev aDJ:FuncId:=107
abbrev yE:FuncId:=108
abbrev aAK:FuncId:=109
abbrev aHD:FuncId:=110
abbrev mG:FuncId:=111
abbrev aCN:FuncId:=112
abbrev xH:FuncId:=113
abbrev yT:FuncId:=114
abbrev yW:FuncId:=115
abbrev rS:FuncId:=116
abbrev yS:FuncId:=117
abbrev zP:FuncId:=118
abbrev vG:FuncId:=119
abbrev wA:FuncId:=120
abbrev aDR:FuncId:=121
abbrev aCs:FuncId:=122
abbrev aAP:FuncId:=123
abbrev mD:FuncId:=124
abbrev aDq:FuncId:=125
abbrev qP:FuncId:=126
abbrev aFg:FuncId:=128
abbrev aDr:FuncId:=129
abbrev aDp:FuncId:=143
abbrev aBg:FuncId:=144
abbrev zK:FuncId:=145
abbrev aCS:FuncId:=146
abbrev aCP:FuncId:=147
abbrev aFf:FuncId:=148
abbrev uJ:FuncId:=149
abbrev lN:FuncId:=150
abbrev aFn:FuncId:=151
abbrev aBX:FuncId:=152
abbrev nL:FuncId:=153
abbrev mK:FuncId:=154
abbrev rI:FuncId:=155
abbrev tB:FuncId:=156
abbrev tU:FuncId:=157
abbrev iW:FuncId:=158
abbrev aEa:FuncId:=159
abbrev aEX:FuncId:=160
abbrev aBe:FuncId:=161
abbrev aCL:FuncId:=162
abbrev qS:FuncId:=163
abbrev qT:FuncId:=164
abbrev aEl:FuncId:=165
abbrev aEu:FuncId:=166
abbrev aBT:FuncId:=167
abbrev aDh:FuncId:=168
abbrev aC1:FuncId:=169
abbrev qW:FuncId:=170
abbrev tY:FuncId:=171
abbrev aAs:FuncId:=172
abbrev aBh:FuncId:=173
abbrev tA:FuncId:=174
abbrev nR:FuncId:=175
abbrev vB:FuncId:=176
abbrev rV:FuncId:=177
abbrev nC:FuncId:=178
abbrev oS:FuncId:=179
abbrev mO:FuncId:=180
abbrev tZ:FuncId:=181
abbrev mI:FuncId:=182
abbrev aAf:FuncId:=183
abbrev wP:FuncId:=184
abbrev rQ:FuncId:=185
abbrev nQ:FuncId:=186
abbrev aCR:FuncId:=187
abbrev wF:FuncId:=188
abbrev aGf:FuncId:=189
abbrev aEe:FuncId:=190
abbrev sA:FuncId:=191
abbrev qV:FuncId:=192
abbrev aAL:FuncId:=193
abbrev aLX:FuncId:=202
abbrev aHm:FuncId:=203
abbrev aCX:FuncId:=214
abbrev aDQ:FuncId:=215
abbrev qD:FuncId:=216
abbrev pW:FuncId:=217
abbrev oC:FuncId:=218
abbrev xX:FuncId:=219
abbrev aG8:FuncId:=220
abbrev tX:FuncId:=221
abbrev oP:FuncId:=222
abbrev aE8:FuncId:=223
abbrev lD:FuncId:=224
abbrev xS:FuncId:=225
abbrev kR:FuncId:=226
abbrev nZ:FuncId:=227
abbrev kH:FuncId:=228
abbrev aG5:FuncId:=229
abbrev aAR:FuncId:=230
abbrev aFA:FuncId:=231
abbrev vV:FuncId:=232
abbrev aHz:FuncId:=233
abbrev aEP:FuncId:=234
abbrev aFi:FuncId:=235
abbrev aGY:FuncId:=236
abbrev sO:FuncId:=237
abbrev aCc:FuncId:=238
abbrev yF:FuncId:=239
abbrev qQ:FuncId:=240
abbrev zR:FuncId:=241
abbrev kA:FuncId:=242
abbrev yQ:FuncId:=243
abbrev rH:FuncId:=244
abbrev lY:FuncId:=245
abbrev yC:FuncId:=246
abbrev wQ:FuncId:=247
abbrev aH5:FuncId:=248
abbrev aKC:FuncId:=249
abbrev aBv:FuncId:=250
abbrev aGg:FuncId:=251
abbrev aAY:FuncId:=260
abbrev aCE:FuncId:=261
abbrev aDU:FuncId:=262
abbrev aEb:FuncId:=263
abbrev aCT:FuncId:=264
abbrev aCb:FuncId:=265
abbrev aDN:FuncId:=266
abbrev xB:FuncId:=267
abbrev lZ:FuncId:=268
abbrev mB:FuncId:=269
abbrev xG:FuncId:=270
abbrev aEo:FuncId:=271
abbrev aAg:FuncId:=272
abbrev xM:FuncId:=273
abbrev aDi:FuncId:=274
abbrev aB1:FuncId:=275
abbrev tP:FuncId:=276
abbrev xQ:FuncId:=277
abbrev uC:FuncId:=278
abbrev qL:FuncId:=279
abbrev rM:FuncId:=280
abbrev wZ:FuncId:=281
abbrev wW:FuncId:=282
abbrev lW:FuncId:=283
abbrev aCG:FuncId:=284
abbrev aLr:FuncId:=285
abbrev aFj:FuncId:=286
abbrev aFs:FuncId:=287
abbrev aE7:FuncId:=288
abbrev aDo:FuncId:=289
abbrev aBc:FuncId:=292
abbrev vY:FuncId:=293
abbrev yK:FuncId:=294
abbrev aAW:FuncId:=295
abbrev aCa:FuncId:=296
abbrev aDn:FuncId:=297
abbrev aCQ:FuncId:=298
abbrev lJ:FuncId:=299
abbrev tI:FuncId:=300
abbrev pK:FuncId:=301
abbrev xR:FuncId:=302
abbrev aBr:FuncId:=303
abbrev aIg:FuncId:=304
abbrev qE:FuncId:=305
abbrev aFm:FuncId:=306
abbrev uG:FuncId:=307
abbrev aAy:FuncId:=308
abbrev rL:FuncId:=309
abbrev jX:FuncId:=310
abbrev aED:FuncId:=311
abbrev aLi:FuncId:=312
abbrev aHa:FuncId:=313
abbrev aEz:FuncId:=315
abbrev tT:FuncId:=316
abbrev T_:TypeId:=0
abbrev bT:TypeId:=3
abbrev fZ:TypeId:=4
abbrev dQ:TypeId:=5
abbrev bR:TypeId:=9
abbrev cA:TypeId:=22
abbrev eK:TypeId:=23
abbrev iK:TypeId:=24
abbrev jD:TypeId:=25
abbrev aAA:TypeId:=26
abbrev dG:TypeId:=28
abbrev dB:TypeId:=29
abbrev aR:TypeId:=34
abbrev cI:TypeId:=36
abbrev eY:TypeId:=40
abbrev fV:TypeId:=42
abbrev fC:TypeId:=43
abbrev jP:TypeId:=44
abbrev eR:TypeId:=45
abbrev dR:TypeId:=46
abbrev cQ:TypeId:=48
abbrev iG:TypeId:=49
abbrev kU:TypeId:=50
abbrev lL:TypeId:=52
abbrev nI:TypeId:=54
abbrev dC:TypeId:=55
abbrev cX:TypeId:=57
abbrev dA:TypeId:=58
abbrev fW:TypeId:=63
abbrev cJ:TypeId:=65
abbrev hQ:TypeId:=67
abbrev dV:TypeId:=68
abbrev eZ:TypeId:=70
abbrev iP:TypeId:=71
abbrev dX:TypeId:=73
abbrev cH:TypeId:=105
abbrev cM:TypeId:=130
abbrev fE:TypeId:=131
abbrev dN:TypeId:=133
abbrev jA:TypeId:=135
abbrev jB:TypeId:=136
abbrev dP:TypeId:=137
abbrev jO:TypeId:=139
abbrev fY:TypeId:=154
abbrev rO:TypeId:=164
abbrev aPQ:TypeId:=166
abbrev eQ:TypeId:=175
abbrev fT:TypeId:=179
abbrev cN:TypeId:=184
abbrev cC:TypeId:=186
abbrev cK:TypeId:=193
abbrev iS:TypeId:=198
abbrev dT:TypeId:=200
abbrev kV:TypeId:=206
abbrev fO:TypeId:=219
abbrev eM:TypeId:=221
abbrev uD:TypeId:=238
abbrev dS:TypeId:=242
abbrev gA:TypeId:=244
abbrev cL:TypeId:=246
abbrev hE:TypeId:=249
abbrev gO:TypeId:=251
abbrev cP:TypeId:=255
abbrev cB:TypeId:=257
abbrev nM:TypeId:=260
abbrev dW:TypeId:=261
abbrev dH:TypeId:=263
abbrev fI:TypeId:=265
abbrev jC:TypeId:=271
abbrev eH:TypeId:=287
abbrev fK:TypeId:=354
abbrev oA:TypeId:=358
abbrev gH:TypeId:=360
abbrev fQ:TypeId:=363
abbrev eS:TypeId:=368
abbrev gG:TypeId:=374
abbrev eN:TypeId:=376
abbrev gZ:TypeId:=378
abbrev eW:TypeId:=381
abbrev iE:TypeId:=389
abbrev eV:TypeId:=396
theorem bT.und:PG.underlying bT=some (TypeDesc.int IntKind.i64):=Tryz.underlying3
theorem bT.info:PG.info? bT=some Tryz.t3:=by kernel_rfl
theorem bT.size:Tryz.t3.size=1:=rfl
theorem bT.load{h:PH}{a:Addr}:cE PG h (loadAt bT (.pointer (some a)))=dF h a:=iL bT.und rfl
theorem bT.put{h:PH}{r o:Nat}{cs:List Value}{v:Value}{k:cD}(H:Bx h r cs)(ho:o<cs.length)(hv:eP v=true)(hk:∀h',Bx h' r (cs.set o v)->cU [r] h h'->k undef h'):cY PG (dJ bT (pT r o) v) h k:=H.put1 bT.und rfl bT.info bT.size ho hv hk
theorem fZ.und:PG.underlying fZ=some TypeDesc.bool:=Tryz.underlying4
theorem fZ.info:PG.info? fZ=some Tryz.t4:=by kernel_rfl
theorem fZ.size:Tryz.t4.size=1:=rfl
theorem fZ.zbox{h:PH}{r:Nat}:Bx (h.set r (.cells (dL PG fZ) fZ)) r ((Value.bool false)).cells.toList:=Bx.zero (by kernel_rfl)
theorem fZ.load{h:PH}{a:Addr}:cE PG h (loadAt fZ (.pointer (some a)))=dF h a:=iL fZ.und rfl
theorem fZ.put{h:PH}{r o:Nat}{cs:List Value}{v:Value}{k:cD}(H:Bx h r cs)(ho:o<cs.length)(hv:eP v=true)(hk:∀h',Bx h' r (cs.set o v)->cU [r] h h'->k undef h'):cY PG (dJ fZ (pT r o) v) h k:=H.put1 fZ.und rfl fZ.info fZ.size ho hv hk
theorem dQ.und:PG.underlying dQ=some (TypeDesc.int IntKind.u8):=Tryz.underlying5
theorem dQ.info:PG.info? dQ=some Tryz.t5:=by kernel_rfl
theorem dQ.size:Tryz.t5.size=1:=rfl
theorem dQ.bytes:Tryz.t5.bytes=1:=rfl
theorem dQ.zero:Tryz.t5.zero=some (Value.int IntKind.u8 0):=rfl
theorem bR.und:PG.underlying bR=some TypeDesc.string:=Tryz.underlying9
theorem bR.info:PG.info? bR=some Tryz.t9:=by kernel_rfl
theorem bR.size:Tryz.t9.size=1:=rfl
theorem bR.bytes:Tryz.t9.bytes=16:=rfl
theorem bR.zero:Tryz.t9.zero=some (Value.string {data:=#[]}):=rfl
theorem bR.zbox{h:PH}{r:Nat}:Bx (h.set r (.cells (dL PG bR) bR)) r ((Value.string {data:=#[]})).cells.toList:=Bx.zero (by kernel_rfl)
theorem bR.load{h:PH}{a:Addr}:cE PG h (loadAt bR (.pointer (some a)))=dF h a:=iL bR.und rfl
theorem bR.put{h:PH}{r o:Nat}{cs:List Value}{v:Value}{k:cD}(H:Bx h r cs)(ho:o<cs.length)(hv:eP v=true)(hk:∀h',Bx h' r (cs.set o v)->cU [r] h h'->k undef h'):cY PG (dJ bR (pT r o) v) h k:=H.put1 bR.und rfl bR.info bR.size ho hv hk
theorem bR.len{s:ByteArray}{t:TypeId}:cV PG (Builtin.len_ #[bR] t #[.string s])=some (.int .i64 s.size):=lQ bR.und
theorem cA.und:PG.underlying cA=some (TypeDesc.int IntKind.u64):=Tryz.underlying22
theorem cA.info:PG.info? cA=some Tryz.t22:=by kernel_rfl
theorem cA.size:Tryz.t22.size=1:=rfl
theorem cA.bytes:Tryz.t22.bytes=8:=rfl
theorem cA.zero:Tryz.t22.zero=some (Value.int IntKind.u64 0):=rfl
theorem cA.load{h:PH}{a:Addr}:cE PG h (loadAt cA (.pointer (some a)))=dF h a:=iL cA.und rfl
theorem cA.put{h:PH}{r o:Nat}{cs:List Value}{v:Value}{k:cD}(H:Bx h r cs)(ho:o<cs.length)(hv:eP v=true)(hk:∀h',Bx h' r (cs.set o v)->cU [r] h h'->k undef h'):cY PG (dJ cA (pT r o) v) h k:=H.put1 cA.und rfl cA.info cA.size ho hv hk
theorem eK.und:PG.underlying eK=some (TypeDesc.array 2 22):=Tryz.underlying23
theorem eK.info:PG.info? eK=some Tryz.t23:=by kernel_rfl
theorem eK.size:Tryz.t23.size=2:=rfl
theorem eK.agg{h:PH}{r o:Nat}{cs:List Value}(H:Bx h r cs)(hle:o+2≤cs.length):cE PG h (loadAt eK (pT r o))=some (.agg ((cs.drop o).take 2).toArray):=H.agg eK.und rfl eK.info eK.size hle
theorem iK.und:PG.underlying iK=some (TypeDesc.slice 105):=Tryz.underlying24
theorem jD.und:PG.underlying jD=some (TypeDesc.slice 40):=Tryz.underlying25
theorem aAA.und:PG.underlying aAA=some (TypeDesc.func #[] #[4] false):=Tryz.underlying26
theorem aAA.load{h:PH}{a:Addr}:cE PG h (loadAt aAA (.pointer (some a)))=dF h a:=iL aAA.und rfl
theorem dG.und:PG.underlying dG=some (TypeDesc.pointer 73):=Tryz.underlying28
theorem dG.info:PG.info? dG=some Tryz.t28:=by kernel_rfl
theorem dG.size:Tryz.t28.size=1:=rfl
theorem dG.load{h:PH}{a:Addr}:cE PG h (loadAt dG (.pointer (some a)))=dF h a:=iL dG.und rfl
theorem dG.put{h:PH}{r o:Nat}{cs:List Value}{v:Value}{k:cD}(H:Bx h r cs)(ho:o<cs.length)(hv:eP v=true)(hk:∀h',Bx h' r (cs.set o v)->cU [r] h h'->k undef h'):cY PG (dJ dG (pT r o) v) h k:=H.put1 dG.und rfl dG.info dG.size ho hv hk
theorem dB.und:PG.underlying dB=some (TypeDesc.array 2 28):=Tryz.underlying29
theorem dB.info:PG.info? dB=some Tryz.t29:=by kernel_rfl
theorem dB.size:Tryz.t29.size=2:=rfl
theorem dB.zbox{h:PH}{r:Nat}:Bx (h.set r (.cells (dL PG dB) dB)) r ((Value.agg #[Value.pointer none,Value.pointer none])).cells.toList:=Bx.zero (by kernel_rfl)
theorem dB.zc:dL PG dB=((Value.agg #[Value.pointer none,Value.pointer none])).cells:=by kernel_rfl
theorem dB.agg{h:PH}{r o:Nat}{cs:List Value}(H:Bx h r cs)(hle:o+2≤cs.length):cE PG h (loadAt dB (pT r o))=some (.agg ((cs.drop o).take 2).toArray):=H.agg dB.und rfl dB.info dB.size hle
theorem dB.put{h:PH}{r o:Nat}{cs vs:List Value}{k:cD}(H:Bx h r cs)(hl:vs.length=2)(ho:o+2≤cs.length)(hv:∀v∈vs,eP v=true)(hk:∀h',Bx h' r (cs.take o++vs++cs.drop (o+2))->cU [r] h h'->k undef h'):cY PG (dJ dB (pT r o) (.agg vs.toArray)) h k:=H.putN dB.info (by rw[hl];rfl) (by omega) (by omega) hv (by rw[hl];exact hk)
theorem dB.fill{h:PH}{r:Nat}{vs:List Value}{k:cD}(hr:h r=none)(hl:vs.length=2)(hv:∀v∈vs,eP v=true)(hk:∀h',Bx h' r vs->dD h h'->k undef h'):cY PG (dJ dB (pT r 0) (.agg vs.toArray)) (h.set r (.cells (dL PG dB) dB)) k:=Bx.fill hr dB.info (by rw[hl];rfl) (by omega) (by rw[dB.zc,hl];rfl) hv hk
theorem aR.und:PG.underlying aR=some (TypeDesc.struct #[{name:="From",type:=3,offset:=0,embedded:=false,tag:="",pkgPath:="",byteOffset:=0},{name:="Seq",type:=22,offset:=1,embedded:=false,tag:="",pkgPath:="",byteOffset:=8},{name:="Timeout",type:=22,offset:=2,embedded:=false,tag:="",pkgPath:="",byteOffset:=16},{name:="Data",type:=9,offset:=3,embedded:=false,tag:="",pkgPath:="",byteOffset:=24}]):=Tryz.underlying34
theorem aR.info:PG.info? aR=some Tryz.t34:=by kernel_rfl
theorem aR.size:Tryz.t34.size=4:=rfl
theorem aR.zbox{h:PH}{r:Nat}:Bx (h.set r (.cells (dL PG aR) aR)) r ((Value.agg #[Value.int IntKind.i64 0,Value.int IntKind.u64 0,Value.int IntKind.u64 0,Value.string {data:=#[]}])).cells.toList:=Bx.zero (by kernel_rfl)
theorem aR.zc:dL PG aR=((Value.agg #[Value.int IntKind.i64 0,Value.int IntKind.u64 0,Value.int IntKind.u64 0,Value.string {data:=#[]}])).cells:=by kernel_rfl
theorem aR.loadAgg{h:PH}{b o:Nat}{c:Array Value}{e:TypeId}{fr:Nat×Nat}(hb:h b=some (.cells c e fr))(hle:o+4≤c.size):cE PG h (loadAt aR (pT b o))=some (.agg (c.extract o (o+4))):=pG aR.und rfl aR.info aR.size hb hle
theorem aR.agg{h:PH}{r o:Nat}{cs:List Value}(H:Bx h r cs)(hle:o+4≤cs.length):cE PG h (loadAt aR (pT r o))=some (.agg ((cs.drop o).take 4).toArray):=H.agg aR.und rfl aR.info aR.size hle
theorem aR.put{h:PH}{r o:Nat}{cs vs:List Value}{k:cD}(H:Bx h r cs)(hl:vs.length=4)(ho:o+4≤cs.length)(hv:∀v∈vs,eP v=true)(hk:∀h',Bx h' r (cs.take o++vs++cs.drop (o+4))->cU [r] h h'->k undef h'):cY PG (dJ aR (pT r o) (.agg vs.toArray)) h k:=H.putN aR.info (by rw[hl];rfl) (by omega) (by omega) hv (by rw[hl];exact hk)
theorem aR.fill{h:PH}{r:Nat}{vs:List Value}{k:cD}(hr:h r=none)(hl:vs.length=4)(hv:∀v∈vs,eP v=true)(hk:∀h',Bx h' r vs->dD h h'->k undef h'):cY PG (dJ aR (pT r 0) (.agg vs.toArray)) (h.set r (.cells (dL PG aR) aR)) k:=Bx.fill hr aR.info (by rw[hl];rfl) (by omega) (by rw[aR.zc,hl];rfl) hv hk
theorem aR.f0{b o:Nat}:cV PG (fieldAt aR (pT b o) 0)=some (pT b o):=by kernel_rfl
theorem aR.f1{b o:Nat}:cV PG (fieldAt aR (pT b o) 1)=some (pT b (o+1)):=by kernel_rfl
theorem aR.f2{b o:Nat}:cV PG (fieldAt aR (pT b o) 2)=some (pT b (o+2)):=by kernel_rfl
theorem aR.f3{b o:Nat}:cV PG (fieldAt aR (pT b o) 3)=some (pT b (o+3)):=by kernel_rfl
theorem cI.und:PG.underlying cI=some (TypeDesc.struct #[{name:="Kind",type:=3,offset:=0,embedded:=false,tag:="",pkgPath:="",byteOffset:=0},{name:="To",type:=3,offset:=1,embedded:=false,tag:="",pkgPath:="",byteOffset:=8},{name:="Height",type:=22,offset:=2,embedded:=false,tag:="",pkgPath:="",byteOffset:=16},{name:="Packet",type:=34,offset:=3,embedded:=false,tag:="",pkgPath:="",byteOffset:=24},{name:="Proof",type:=9,offset:=7,embedded:=false,tag:="",pkgPath:="",byteOffset:=64}]):=Tryz.underlying36
theorem cI.info:PG.info? cI=some Tryz.t36:=by kernel_rfl
theorem cI.size:Tryz.t36.size=8:=rfl
theorem cI.bytes:Tryz.t36.bytes=80:=rfl
theorem cI.zero:Tryz.t36.zero=some (Value.agg #[Value.int IntKind.i64 0,Value.int IntKind.i64 0,Value.int IntKind.u64 0,Value.int IntKind.i64 0,Value.int IntKind.u64 0,Value.int IntKind.u64 0,Value.string {data:=#[]},Value.string {data:=#[]}]):=rfl
theorem cI.zbox{h:PH}{r:Nat}:Bx (h.set r (.cells (dL PG cI) cI)) r ((Value.agg #[Value.int IntKind.i64 0,Value.int IntKind.i64 0,Value.int IntKind.u64 0,Value.int IntKind.i64 0,Value.int IntKind.u64 0,Value.int IntKind.u64 0,Value.string {data:=#[]},Value.string {data:=#[]}])).cells.toList:=Bx.zero (by kernel_rfl)
theorem cI.zc:dL PG cI=((Value.agg #[Value.int IntKind.i64 0,Value.int IntKind.i64 0,Value.int IntKind.u64 0,Value.int IntKind.i64 0,Value.int IntKind.u64 0,Value.int IntKind.u64 0,Value.string {data:=#[]},Value.string {data:=#[]}])).cells:=by kernel_rfl
theorem cI.agg{h:PH}{r o:Nat}{cs:List Value}(H:Bx h r cs)(hle:o+8≤cs.length):cE PG h (loadAt cI (pT r o))=some (.agg ((cs.drop o).take 8).toArray):=H.agg cI.und rfl cI.info cI.size hle
theorem cI.put{h:PH}{r o:Nat}{cs vs:List Value}{k:cD}(H:Bx h r cs)(hl:vs.length=8)(ho:o+8≤cs.length)(hv:∀v∈vs,eP v=true)(hk:∀h',Bx h' r (cs.take o++vs++cs.drop (o+8))->cU [r] h h'->k undef h'):cY PG (dJ cI (pT r o) (.agg vs.toArray)) h k:=H.putN cI.info (by rw[hl];rfl) (by omega) (by omega) hv (by rw[hl];exact hk)
theorem cI.fill{h:PH}{r:Nat}{vs:List Value}{k:cD}(hr:h r=none)(hl:vs.length=8)(hv:∀v∈vs,eP v=true)(hk:∀h',Bx h' r vs->dD h h'->k undef h'):cY PG (dJ cI (pT r 0) (.agg vs.toArray)) (h.set r (.cells (dL PG cI) cI)) k:=Bx.fill hr cI.info (by rw[hl];rfl) (by omega) (by rw[cI.zc,hl];rfl) hv hk
theorem cI.f0{b o:Nat}:cV PG (fieldAt cI (pT b o) 0)=some (pT b o):=by kernel_rfl
theorem cI.f1{b o:Nat}:cV PG (fieldAt cI (pT b o) 1)=some (pT b (o+1)):=by kernel_rfl
theorem cI.f2{b o:Nat}:cV PG (fieldAt cI (pT b o) 2)=some (pT b (o+2)):=by kernel_rfl
theorem cI.f4{b o:Nat}:cV PG (fieldAt cI (pT b o) 4)=some (pT b (o+7)):=by kernel_rfl
theorem eY.und:PG.underlying eY=some (TypeDesc.struct #[{name:="Packet",type:=34,offset:=0,embedded:=false,tag:="",pkgPath:="",byteOffset:=0},{name:="Stage",type:=3,offset:=4,embedded:=false,tag:="",pkgPath:="",byteOffset:=40}]):=Tryz.underlying40
theorem eY.info:PG.info? eY=some Tryz.t40:=by kernel_rfl
theorem eY.size:Tryz.t40.size=5:=rfl
theorem eY.zc:dL PG eY=((Value.agg #[Value.int IntKind.i64 0,Value.int IntKind.u64 0,Value.int IntKind.u64 0,Value.string {data:=#[]},Value.int IntKind.i64 0])).cells:=by kernel_rfl
theorem eY.loadAgg{h:PH}{b o:Nat}{c:Array Value}{e:TypeId}{fr:Nat×Nat}(hb:h b=some (.cells c e fr))(hle:o+5≤c.size):cE PG h (loadAt eY (pT b o))=some (.agg (c.extract o (o+5))):=pG eY.und rfl eY.info eY.size hb hle
theorem eY.agg{h:PH}{r o:Nat}{cs:List Value}(H:Bx h r cs)(hle:o+5≤cs.length):cE PG h (loadAt eY (pT r o))=some (.agg ((cs.drop o).take 5).toArray):=H.agg eY.und rfl eY.info eY.size hle
theorem eY.fill{h:PH}{r:Nat}{vs:List Value}{k:cD}(hr:h r=none)(hl:vs.length=5)(hv:∀v∈vs,eP v=true)(hk:∀h',Bx h' r vs->dD h h'->k undef h'):cY PG (dJ eY (pT r 0) (.agg vs.toArray)) (h.set r (.cells (dL PG eY) eY)) k:=Bx.fill hr eY.info (by rw[hl];rfl) (by omega) (by rw[eY.zc,hl];rfl) hv hk
theorem eY.f0{b o:Nat}:cV PG (fieldAt eY (pT b o) 0)=some (pT b o):=by kernel_rfl
theorem fV.und:PG.underlying fV=some (TypeDesc.pointer 179):=Tryz.underlying42
theorem fV.load{h:PH}{a:Addr}:cE PG h (loadAt fV (.pointer (some a)))=dF h a:=iL fV.und rfl
theorem fC.und:PG.underlying fC=some (TypeDesc.pointer 133):=Tryz.underlying43
theorem fC.load{h:PH}{a:Addr}:cE PG h (loadAt fC (.pointer (some a)))=dF h a:=iL fC.und rfl
theorem jP.und:PG.underlying jP=some (TypeDesc.pointer 244):=Tryz.underlying44
theorem jP.load{h:PH}{a:Addr}:cE PG h (loadAt jP (.pointer (some a)))=dF h a:=iL jP.und rfl
theorem eR.und:PG.underlying eR=some (TypeDesc.slice 46):=Tryz.underlying45
theorem eR.info:PG.info? eR=some Tryz.t45:=by kernel_rfl
theorem eR.size:Tryz.t45.size=1:=rfl
theorem eR.load{h:PH}{a:Addr}:cE PG h (loadAt eR (.pointer (some a)))=dF h a:=iL eR.und rfl
theorem eR.put{h:PH}{r o:Nat}{cs:List Value}{v:Value}{k:cD}(H:Bx h r cs)(ho:o<cs.length)(hv:eP v=true)(hk:∀h',Bx h' r (cs.set o v)->cU [r] h h'->k undef h'):cY PG (dJ eR (pT r o) v) h k:=H.put1 eR.und rfl eR.info eR.size ho hv hk
theorem dR.und:PG.underlying dR=some (TypeDesc.slice 154):=Tryz.underlying46
theorem dR.info:PG.info? dR=some Tryz.t46:=by kernel_rfl
theorem dR.size:Tryz.t46.size=1:=rfl
theorem dR.bytes:Tryz.t46.bytes=24:=rfl
theorem dR.zero:Tryz.t46.zero=some (Value.slice none 0 0):=rfl
theorem dR.load{h:PH}{a:Addr}:cE PG h (loadAt dR (.pointer (some a)))=dF h a:=iL dR.und rfl
theorem dR.put{h:PH}{r o:Nat}{cs:List Value}{v:Value}{k:cD}(H:Bx h r cs)(ho:o<cs.length)(hv:eP v=true)(hk:∀h',Bx h' r (cs.set o v)->cU [r] h h'->k undef h'):cY PG (dJ dR (pT r o) v) h k:=H.put1 dR.und rfl dR.info dR.size ho hv hk
theorem cQ.f0{b o:Nat}:cV PG (fieldAt cQ (pT b o) 0)=some (pT b o):=by kernel_rfl
theorem cQ.f1{b o:Nat}:cV PG (fieldAt cQ (pT b o) 1)=some (pT b (o+1)):=by kernel_rfl
theorem cQ.f2{b o:Nat}:cV PG (fieldAt cQ (pT b o) 2)=some (pT b (o+2)):=by kernel_rfl
theorem cQ.f3{b o:Nat}:cV PG (fieldAt cQ (pT b o) 3)=some (pT b (o+3)):=by kernel_rfl
theorem cQ.f4{b o:Nat}:cV PG (fieldAt cQ (pT b o) 4)=some (pT b (o+4)):=by kernel_rfl
theorem cQ.f5{b o:Nat}:cV PG (fieldAt cQ (pT b o) 5)=some (pT b (o+5)):=by kernel_rfl
theorem cQ.f6{b o:Nat}:cV PG (fieldAt cQ (pT b o) 6)=some (pT b (o+6)):=by kernel_rfl
theorem iG.und:PG.underlying iG=some (TypeDesc.pointer 48):=Tryz.underlying49
theorem iG.info:PG.info? iG=some Tryz.t49:=by kernel_rfl
theorem iG.size:Tryz.t49.size=1:=rfl
theorem iG.load{h:PH}{a:Addr}:cE PG h (loadAt iG (.pointer (some a)))=dF h a:=iL iG.und rfl
theorem kU.und:PG.underlying kU=some (TypeDesc.array 2 49):=Tryz.underlying50
theorem lL.f0{b o:Nat}:cV PG (fieldAt lL (pT b o) 0)=some (pT b o):=by kernel_rfl
theorem dC.und:PG.underlying dC=some (TypeDesc.slice 5):=Tryz.underlying55
theorem dC.info:PG.info? dC=some Tryz.t55:=by kernel_rfl
theorem dC.size:Tryz.t55.size=1:=rfl
theorem dC.load{h:PH}{a:Addr}:cE PG h (loadAt dC (.pointer (some a)))=dF h a:=iL dC.und rfl
theorem dC.len{a:Option Addr}{n c:Nat}{t:TypeId}:cV PG (Builtin.len_ #[dC] t #[.slice a n c])=some (.int .i64 n):=aPI dC.und
theorem cX.und:PG.underlying cX=some (TypeDesc.slice 36):=Tryz.underlying57
theorem cX.info:PG.info? cX=some Tryz.t57:=by kernel_rfl
theorem cX.size:Tryz.t57.size=1:=rfl
theorem cX.load{h:PH}{a:Addr}:cE PG h (loadAt cX (.pointer (some a)))=dF h a:=iL cX.und rfl
theorem cX.put{h:PH}{r o:Nat}{cs:List Value}{v:Value}{k:cD}(H:Bx h r cs)(ho:o<cs.length)(hv:eP v=true)(hk:∀h',Bx h' r (cs.set o v)->cU [r] h h'->k undef h'):cY PG (dJ cX (pT r o) v) h k:=H.put1 cX.und rfl cX.info cX.size ho hv hk
theorem dA.und:PG.underlying dA=some (TypeDesc.array 2 57):=Tryz.underlying58
theorem dA.info:PG.info? dA=some Tryz.t58:=by kernel_rfl
theorem dA.size:Tryz.t58.size=2:=rfl
theorem dA.zbox{h:PH}{r:Nat}:Bx (h.set r (.cells (dL PG dA) dA)) r ((Value.agg #[Value.slice none 0 0,Value.slice none 0 0])).cells.toList:=Bx.zero (by kernel_rfl)
theorem dA.zc:dL PG dA=((Value.agg #[Value.slice none 0 0,Value.slice none 0 0])).cells:=by kernel_rfl
theorem dA.agg{h:PH}{r o:Nat}{cs:List Value}(H:Bx h r cs)(hle:o+2≤cs.length):cE PG h (loadAt dA (pT r o))=some (.agg ((cs.drop o).take 2).toArray):=H.agg dA.und rfl dA.info dA.size hle
theorem dA.put{h:PH}{r o:Nat}{cs vs:List Value}{k:cD}(H:Bx h r cs)(hl:vs.length=2)(ho:o+2≤cs.length)(hv:∀v∈vs,eP v=true)(hk:∀h',Bx h' r (cs.take o++vs++cs.drop (o+2))->cU [r] h h'->k undef h'):cY PG (dJ dA (pT r o) (.agg vs.toArray)) h k:=H.putN dA.info (by rw[hl];rfl) (by omega) (by omega) hv (by rw[hl];exact hk)
theorem dA.fill{h:PH}{r:Nat}{vs:List Value}{k:cD}(hr:h r=none)(hl:vs.length=2)(hv:∀v∈vs,eP v=true)(hk:∀h',Bx h' r vs->dD h h'->k undef h'):cY PG (dJ dA (pT r 0) (.agg vs.toArray)) (h.set r (.cells (dL PG dA) dA)) k:=Bx.fill hr dA.info (by rw[hl];rfl) (by omega) (by rw[dA.zc,hl];rfl) hv hk
theorem fW.und:PG.underlying fW=some (TypeDesc.int IntKind.i64):=Tryz.underlying63
theorem fW.info:PG.info? fW=some Tryz.t63:=by kernel_rfl
theorem fW.size:Tryz.t63.size=1:=rfl
theorem fW.load{h:PH}{a:Addr}:cE PG h (loadAt fW (.pointer (some a)))=dF h a:=iL fW.und rfl
theorem cJ.und:PG.underlying cJ=some (TypeDesc.slice 130):=Tryz.underlying65
theorem cJ.info:PG.info? cJ=some Tryz.t65:=by kernel_rfl
theorem cJ.size:Tryz.t65.size=1:=rfl
theorem cJ.bytes:Tryz.t65.bytes=24:=rfl
theorem cJ.zero:Tryz.t65.zero=some (Value.slice none 0 0):=rfl
theorem cJ.load{h:PH}{a:Addr}:cE PG h (loadAt cJ (.pointer (some a)))=dF h a:=iL cJ.und rfl
theorem hQ.und:PG.underlying hQ=some (TypeDesc.pointer 221):=Tryz.underlying67
theorem hQ.load{h:PH}{a:Addr}:cE PG h (loadAt hQ (.pointer (some a)))=dF h a:=iL hQ.und rfl
theorem dV.und:PG.underlying dV=some (TypeDesc.map 9 9):=Tryz.underlying68
theorem dV.load{h:PH}{a:Addr}:cE PG h (loadAt dV (.pointer (some a)))=dF h a:=iL dV.und rfl
theorem eZ.f0{b o:Nat}:cV PG (fieldAt eZ (pT b o) 0)=some (pT b o):=by kernel_rfl
theorem eZ.f2{b o:Nat}:cV PG (fieldAt eZ (pT b o) 2)=some (pT b (o+2)):=by kernel_rfl
theorem eZ.f3{b o:Nat}:cV PG (fieldAt eZ (pT b o) 3)=some (pT b (o+3)):=by kernel_rfl
theorem eZ.f4{b o:Nat}:cV PG (fieldAt eZ (pT b o) 4)=some (pT b (o+4)):=by kernel_rfl
theorem iP.und:PG.underlying iP=some (TypeDesc.pointer 251):=Tryz.underlying71
theorem iP.load{h:PH}{a:Addr}:cE PG h (loadAt iP (.pointer (some a)))=dF h a:=iL iP.und rfl
theorem dX.f0{b o:Nat}:cV PG (fieldAt dX (pT b o) 0)=some (pT b o):=by kernel_rfl
theorem dX.f1{b o:Nat}:cV PG (fieldAt dX (pT b o) 1)=some (pT b (o+5)):=by kernel_rfl
theorem dX.f2{b o:Nat}:cV PG (fieldAt dX (pT b o) 2)=some (pT b (o+6)):=by kernel_rfl
theorem dX.f3{b o:Nat}:cV PG (fieldAt dX (pT b o) 3)=some (pT b (o+7)):=by kernel_rfl
theorem cH.und:PG.underlying cH=some (TypeDesc.struct #[{name:="Kind",type:=3,offset:=0,embedded:=false,tag:="",pkgPath:="",byteOffset:=0},{name:="Id",type:=3,offset:=1,embedded:=false,tag:="",pkgPath:="",byteOffset:=8},{name:="Height",type:=22,offset:=2,embedded:=false,tag:="",pkgPath:="",byteOffset:=16},{name:="Data",type:=9,offset:=3,embedded:=false,tag:="",pkgPath:="",byteOffset:=24},{name:="P",type:=34,offset:=4,embedded:=false,tag:="",pkgPath:="",byteOffset:=40},{name:="Spoilt",type:=4,offset:=8,embedded:=false,tag:="",pkgPath:="",byteOffset:=80}]):=Tryz.underlying105
theorem cH.info:PG.info? cH=some Tryz.t105:=by kernel_rfl
theorem cH.size:Tryz.t105.size=9:=rfl
theorem cH.zc:dL PG cH=((Value.agg #[Value.int IntKind.i64 0,Value.int IntKind.i64 0,Value.int IntKind.u64 0,Value.string {data:=#[]},Value.int IntKind.i64 0,Value.int IntKind.u64 0,Value.int IntKind.u64 0,Value.string {data:=#[]},Value.bool false])).cells:=by kernel_rfl
theorem cH.loadAgg{h:PH}{b o:Nat}{c:Array Value}{e:TypeId}{fr:Nat×Nat}(hb:h b=some (.cells c e fr))(hle:o+9≤c.size):cE PG h (loadAt cH (pT b o))=some (.agg (c.extract o (o+9))):=pG cH.und rfl cH.info cH.size hb hle
theorem cH.agg{h:PH}{r o:Nat}{cs:List Value}(H:Bx h r cs)(hle:o+9≤cs.length):cE PG h (loadAt cH (pT r o))=some (.agg ((cs.drop o).take 9).toArray):=H.agg cH.und rfl cH.info cH.size hle
theorem cH.fill{h:PH}{r:Nat}{vs:List Value}{k:cD}(hr:h r=none)(hl:vs.length=9)(hv:∀v∈vs,eP v=true)(hk:∀h',Bx h' r vs->dD h h'->k undef h'):cY PG (dJ cH (pT r 0) (.agg vs.toArray)) (h.set r (.cells (dL PG cH) cH)) k:=Bx.fill hr cH.info (by rw[hl];rfl) (by omega) (by rw[cH.zc,hl];rfl) hv hk
theorem cH.f0{b o:Nat}:cV PG (fieldAt cH (pT b o) 0)=some (pT b o):=by kernel_rfl
theorem cH.f1{b o:Nat}:cV PG (fieldAt cH (pT b o) 1)=some (pT b (o+1)):=by kernel_rfl
theorem cH.f2{b o:Nat}:cV PG (fieldAt cH (pT b o) 2)=some (pT b (o+2)):=by kernel_rfl
theorem cH.f3{b o:Nat}:cV PG (fieldAt cH (pT b o) 3)=some (pT b (o+3)):=by kernel_rfl
theorem cH.f4{b o:Nat}:cV PG (fieldAt cH (pT b o) 4)=some (pT b (o+4)):=by kernel_rfl
theorem cH.f5{b o:Nat}:cV PG (fieldAt cH (pT b o) 5)=some (pT b (o+8)):=by kernel_rfl
theorem cM.und:PG.underlying cM=some (TypeDesc.struct #[{name:="Key",type:=9,offset:=0,embedded:=false,tag:="",pkgPath:="",byteOffset:=0},{name:="Value",type:=9,offset:=1,embedded:=false,tag:="",pkgPath:="",byteOffset:=16}]):=Tryz.underlying130
theorem cM.info:PG.info? cM=some Tryz.t130:=by kernel_rfl
theorem cM.size:Tryz.t130.size=2:=rfl
theorem cM.bytes:Tryz.t130.bytes=32:=rfl
theorem cM.zero:Tryz.t130.zero=some (Value.agg #[Value.string {data:=#[]},Value.string {data:=#[]}]):=rfl
theorem cM.loadAgg{h:PH}{b o:Nat}{c:Array Value}{e:TypeId}{fr:Nat×Nat}(hb:h b=some (.cells c e fr))(hle:o+2≤c.size):cE PG h (loadAt cM (pT b o))=some (.agg (c.extract o (o+2))):=pG cM.und rfl cM.info cM.size hb hle
theorem cM.agg{h:PH}{r o:Nat}{cs:List Value}(H:Bx h r cs)(hle:o+2≤cs.length):cE PG h (loadAt cM (pT r o))=some (.agg ((cs.drop o).take 2).toArray):=H.agg cM.und rfl cM.info cM.size hle
theorem cM.f0{b o:Nat}:cV PG (fieldAt cM (pT b o) 0)=some (pT b o):=by kernel_rfl
theorem cM.f1{b o:Nat}:cV PG (fieldAt cM (pT b o) 1)=some (pT b (o+1)):=by kernel_rfl
theorem fE.und:PG.underlying fE=some (TypeDesc.slice 65):=Tryz.underlying131
theorem fE.info:PG.info? fE=some Tryz.t131:=by kernel_rfl
theorem fE.size:Tryz.t131.size=1:=rfl
theorem fE.load{h:PH}{a:Addr}:cE PG h (loadAt fE (.pointer (some a)))=dF h a:=iL fE.und rfl
theorem dN.f0{b o:Nat}:cV PG (fieldAt dN (pT b o) 0)=some (pT b o):=by kernel_rfl
theorem dN.f1{b o:Nat}:cV PG (fieldAt dN (pT b o) 1)=some (pT b (o+1)):=by kernel_rfl
theorem dN.f2{b o:Nat}:cV PG (fieldAt dN (pT b o) 2)=some (pT b (o+2)):=by kernel_rfl
theorem jA.info:PG.info? jA=some Tryz.t135:=by kernel_rfl
theorem jA.size:Tryz.t135.size=2:=rfl
theorem jA.f0{b o:Nat}:cV PG (fieldAt jA (pT b o) 0)=some (pT b o):=by kernel_rfl
theorem jA.f1{b o:Nat}:cV PG (fieldAt jA (pT b o) 1)=some (pT b (o+1)):=by kernel_rfl
theorem jB.und:PG.underlying jB=some (TypeDesc.array 2 135):=Tryz.underlying136
theorem jB.zbox{h:PH}{r:Nat}:Bx (h.set r (.cells (dL PG jB) jB)) r ((Value.agg #[Value.slice none 0 0,Value.bool false,Value.slice none 0 0,Value.bool false])).cells.toList:=Bx.zero (by kernel_rfl)
theorem dP.und:PG.underlying dP=some (TypeDesc.slice 22):=Tryz.underlying137
theorem dP.info:PG.info? dP=some Tryz.t137:=by kernel_rfl
theorem dP.size:Tryz.t137.size=1:=rfl
theorem dP.load{h:PH}{a:Addr}:cE PG h (loadAt dP (.pointer (some a)))=dF h a:=iL dP.und rfl
theorem jO.und:PG.underlying jO=some (TypeDesc.array 2 137):=Tryz.underlying139
theorem jO.info:PG.info? jO=some Tryz.t139:=by kernel_rfl
theorem jO.zc:dL PG jO=((Value.agg #[Value.slice none 0 0,Value.slice none 0 0])).cells:=by kernel_rfl
theorem jO.fill{h:PH}{r:Nat}{vs:List Value}{k:cD}(hr:h r=none)(hl:vs.length=2)(hv:∀v∈vs,eP v=true)(hk:∀h',Bx h' r vs->dD h h'->k undef h'):cY PG (dJ jO (pT r 0) (.agg vs.toArray)) (h.set r (.cells (dL PG jO) jO)) k:=Bx.fill hr jO.info (by rw[hl];rfl) (by omega) (by rw[jO.zc,hl];rfl) hv hk
theorem fY.info:PG.info? fY=some Tryz.t154:=by kernel_rfl
theorem fY.size:Tryz.t154.size=5:=rfl
theorem fY.bytes:Tryz.t154.bytes=48:=rfl
theorem fY.zero:Tryz.t154.zero=some (Value.agg #[Value.int IntKind.i64 0,Value.int IntKind.i64 0,Value.int IntKind.u64 0,Value.int IntKind.u64 0,Value.string {data:=#[]}]):=rfl
theorem rO.und:PG.underlying rO=some (TypeDesc.struct #[{name:="from",type:=3,offset:=0,embedded:=false,tag:="",pkgPath:="carrack/table",byteOffset:=0},{name:="seq",type:=22,offset:=1,embedded:=false,tag:="",pkgPath:="carrack/table",byteOffset:=8}]):=Tryz.underlying164
theorem rO.info:PG.info? rO=some Tryz.t164:=by kernel_rfl
theorem rO.size:Tryz.t164.size=2:=rfl
theorem rO.loadAgg{h:PH}{b o:Nat}{c:Array Value}{e:TypeId}{fr:Nat×Nat}(hb:h b=some (.cells c e fr))(hle:o+2≤c.size):cE PG h (loadAt rO (pT b o))=some (.agg (c.extract o (o+2))):=pG rO.und rfl rO.info rO.size hb hle
theorem eQ.und:PG.underlying eQ=some (TypeDesc.slice 246):=Tryz.underlying175
theorem eQ.load{h:PH}{a:Addr}:cE PG h (loadAt eQ (.pointer (some a)))=dF h a:=iL eQ.und rfl
theorem fT.f0{b o:Nat}:cV PG (fieldAt fT (pT b o) 0)=some (pT b o):=by kernel_rfl
theorem fT.f1{b o:Nat}:cV PG (fieldAt fT (pT b o) 1)=some (pT b (o+1)):=by kernel_rfl
theorem fT.f2{b o:Nat}:cV PG (fieldAt fT (pT b o) 2)=some (pT b (o+2)):=by kernel_rfl
theorem fT.f3{b o:Nat}:cV PG (fieldAt fT (pT b o) 3)=some (pT b (o+3)):=by kernel_rfl
theorem cN.und:PG.underlying cN=some (TypeDesc.slice 257):=Tryz.underlying184
theorem cN.info:PG.info? cN=some Tryz.t184:=by kernel_rfl
theorem cN.size:Tryz.t184.size=1:=rfl
theorem cN.load{h:PH}{a:Addr}:cE PG h (loadAt cN (.pointer (some a)))=dF h a:=iL cN.und rfl
theorem cN.put{h:PH}{r o:Nat}{cs:List Value}{v:Value}{k:cD}(H:Bx h r cs)(ho:o<cs.length)(hv:eP v=true)(hk:∀h',Bx h' r (cs.set o v)->cU [r] h h'->k undef h'):cY PG (dJ cN (pT r o) v) h k:=H.put1 cN.und rfl cN.info cN.size ho hv hk
theorem cC.und:PG.underlying cC=some (TypeDesc.struct #[{name:="Absent",type:=4,offset:=0,embedded:=false,tag:="",pkgPath:="",byteOffset:=0},{name:="Leaves",type:=184,offset:=1,embedded:=false,tag:="",pkgPath:="",byteOffset:=8}]):=Tryz.underlying186
theorem cC.info:PG.info? cC=some Tryz.t186:=by kernel_rfl
theorem cC.size:Tryz.t186.size=2:=rfl
theorem cC.zbox{h:PH}{r:Nat}:Bx (h.set r (.cells (dL PG cC) cC)) r ((Value.agg #[Value.bool false,Value.slice none 0 0])).cells.toList:=Bx.zero (by kernel_rfl)
theorem cC.zc:dL PG cC=((Value.agg #[Value.bool false,Value.slice none 0 0])).cells:=by kernel_rfl
theorem cC.agg{h:PH}{r o:Nat}{cs:List Value}(H:Bx h r cs)(hle:o+2≤cs.length):cE PG h (loadAt cC (pT r o))=some (.agg ((cs.drop o).take 2).toArray):=H.agg cC.und rfl cC.info cC.size hle
theorem cC.put{h:PH}{r o:Nat}{cs vs:List Value}{k:cD}(H:Bx h r cs)(hl:vs.length=2)(ho:o+2≤cs.length)(hv:∀v∈vs,eP v=true)(hk:∀h',Bx h' r (cs.take o++vs++cs.drop (o+2))->cU [r] h h'->k undef h'):cY PG (dJ cC (pT r o) (.agg vs.toArray)) h k:=H.putN cC.info (by rw[hl];rfl) (by omega) (by omega) hv (by rw[hl];exact hk)
theorem cC.fill{h:PH}{r:Nat}{vs:List Value}{k:cD}(hr:h r=none)(hl:vs.length=2)(hv:∀v∈vs,eP v=true)(hk:∀h',Bx h' r vs->dD h h'->k undef h'):cY PG (dJ cC (pT r 0) (.agg vs.toArray)) (h.set r (.cells (dL PG cC) cC)) k:=Bx.fill hr cC.info (by rw[hl];rfl) (by omega) (by rw[cC.zc,hl];rfl) hv hk
theorem cC.f0{b o:Nat}:cV PG (fieldAt cC (pT b o) 0)=some (pT b o):=by kernel_rfl
theorem cC.f1{b o:Nat}:cV PG (fieldAt cC (pT b o) 1)=some (pT b (o+1)):=by kernel_rfl
theorem cK.und:PG.underlying cK=some (TypeDesc.struct #[{name:="is",type:=26,offset:=0,embedded:=false,tag:="",pkgPath:="carrack/chain",byteOffset:=0},{name:="e",type:=63,offset:=1,embedded:=false,tag:="",pkgPath:="carrack/chain",byteOffset:=8}]):=Tryz.underlying193
theorem cK.info:PG.info? cK=some Tryz.t193:=by kernel_rfl
theorem cK.size:Tryz.t193.size=2:=rfl
theorem cK.bytes:Tryz.t193.bytes=16:=rfl
theorem cK.zero:Tryz.t193.zero=some (Value.agg #[Value.nilFunc,Value.int IntKind.i64 0]):=rfl
theorem cK.zbox{h:PH}{r:Nat}:Bx (h.set r (.cells (dL PG cK) cK)) r ((Value.agg #[Value.nilFunc,Value.int IntKind.i64 0])).cells.toList:=Bx.zero (by kernel_rfl)
theorem cK.zc:dL PG cK=((Value.agg #[Value.nilFunc,Value.int IntKind.i64 0])).cells:=by kernel_rfl
theorem cK.agg{h:PH}{r o:Nat}{cs:List Value}(H:Bx h r cs)(hle:o+2≤cs.length):cE PG h (loadAt cK (pT r o))=some (.agg ((cs.drop o).take 2).toArray):=H.agg cK.und rfl cK.info cK.size hle
theorem cK.put{h:PH}{r o:Nat}{cs vs:List Value}{k:cD}(H:Bx h r cs)(hl:vs.length=2)(ho:o+2≤cs.length)(hv:∀v∈vs,eP v=true)(hk:∀h',Bx h' r (cs.take o++vs++cs.drop (o+2))->cU [r] h h'->k undef h'):cY PG (dJ cK (pT r o) (.agg vs.toArray)) h k:=H.putN cK.info (by rw[hl];rfl) (by omega) (by omega) hv (by rw[hl];exact hk)
theorem cK.fill{h:PH}{r:Nat}{vs:List Value}{k:cD}(hr:h r=none)(hl:vs.length=2)(hv:∀v∈vs,eP v=true)(hk:∀h',Bx h' r vs->dD h h'->k undef h'):cY PG (dJ cK (pT r 0) (.agg vs.toArray)) (h.set r (.cells (dL PG cK) cK)) k:=Bx.fill hr cK.info (by rw[hl];rfl) (by omega) (by rw[cK.zc,hl];rfl) hv hk
theorem cK.f0{b o:Nat}:cV PG (fieldAt cK (pT b o) 0)=some (pT b o):=by kernel_rfl
theorem cK.f1{b o:Nat}:cV PG (fieldAt cK (pT b o) 1)=some (pT b (o+1)):=by kernel_rfl
theorem iS.und:PG.underlying iS=some (TypeDesc.struct #[{name:="l",type:=65,offset:=0,embedded:=false,tag:="",pkgPath:="carrack/store",byteOffset:=0}]):=Tryz.underlying198
theorem iS.info:PG.info? iS=some Tryz.t198:=by kernel_rfl
theorem iS.size:Tryz.t198.size=1:=rfl
theorem iS.loadAgg{h:PH}{b o:Nat}{c:Array Value}{e:TypeId}{fr:Nat×Nat}(hb:h b=some (.cells c e fr))(hle:o+1≤c.size):cE PG h (loadAt iS (pT b o))=some (.agg (c.extract o (o+1))):=pG iS.und rfl iS.info iS.size hb hle
theorem iS.f0{b o:Nat}:cV PG (fieldAt iS (pT b o) 0)=some (pT b o):=by kernel_rfl
theorem dT.und:PG.underlying dT=some (TypeDesc.struct #[{name:="sorted",type:=198,offset:=0,embedded:=true,tag:="",pkgPath:="carrack/store",byteOffset:=0},{name:="root",type:=9,offset:=1,embedded:=false,tag:="",pkgPath:="carrack/store",byteOffset:=24}]):=Tryz.underlying200
theorem dT.info:PG.info? dT=some Tryz.t200:=by kernel_rfl
theorem dT.size:Tryz.t200.size=2:=rfl
theorem dT.bytes:Tryz.t200.bytes=40:=rfl
theorem dT.zero:Tryz.t200.zero=some (Value.agg #[Value.slice none 0 0,Value.string {data:=#[]}]):=rfl
theorem dT.zc:dL PG dT=((Value.agg #[Value.slice none 0 0,Value.string {data:=#[]}])).cells:=by kernel_rfl
theorem dT.loadAgg{h:PH}{b o:Nat}{c:Array Value}{e:TypeId}{fr:Nat×Nat}(hb:h b=some (.cells c e fr))(hle:o+2≤c.size):cE PG h (loadAt dT (pT b o))=some (.agg (c.extract o (o+2))):=pG dT.und rfl dT.info dT.size hb hle
theorem dT.f0{b o:Nat}:cV PG (fieldAt dT (pT b o) 0)=some (pT b o):=by kernel_rfl
theorem dT.f1{b o:Nat}:cV PG (fieldAt dT (pT b o) 1)=some (pT b (o+1)):=by kernel_rfl
theorem kV.und:PG.underlying kV=some (TypeDesc.func #[9] #[4] false):=Tryz.underlying206
theorem kV.load{h:PH}{a:Addr}:cE PG h (loadAt kV (.pointer (some a)))=dF h a:=iL kV.und rfl
theorem fO.und:PG.underlying fO=some (TypeDesc.slice 200):=Tryz.underlying219
theorem fO.info:PG.info? fO=some Tryz.t219:=by kernel_rfl
theorem fO.size:Tryz.t219.size=1:=rfl
theorem fO.load{h:PH}{a:Addr}:cE PG h (loadAt fO (.pointer (some a)))=dF h a:=iL fO.und rfl
theorem eM.f0{b o:Nat}:cV PG (fieldAt eM (pT b o) 0)=some (pT b o):=by kernel_rfl
theorem eM.f1{b o:Nat}:cV PG (fieldAt eM (pT b o) 1)=some (pT b (o+1)):=by kernel_rfl
theorem eM.f2{b o:Nat}:cV PG (fieldAt eM (pT b o) 2)=some (pT b (o+2)):=by kernel_rfl
theorem uD.und:PG.underlying uD=some (TypeDesc.slice 3):=Tryz.underlying238
theorem dS.und:PG.underlying dS=some (TypeDesc.slice 287):=Tryz.underlying242
theorem dS.info:PG.info? dS=some Tryz.t242:=by kernel_rfl
theorem dS.size:Tryz.t242.size=1:=rfl
theorem dS.load{h:PH}{a:Addr}:cE PG h (loadAt dS (.pointer (some a)))=dF h a:=iL dS.und rfl
theorem gA.f0{b o:Nat}:cV PG (fieldAt gA (pT b o) 0)=some (pT b o):=by kernel_rfl
theorem gA.build0:cV PG (build gA #[])=some (Value.agg #[Value.slice none 0 0]):=by kernel_rfl
theorem cL.und:PG.underlying cL=some (TypeDesc.int IntKind.u32):=Tryz.underlying246
theorem cL.info:PG.info? cL=some Tryz.t246:=by kernel_rfl
theorem cL.size:Tryz.t246.size=1:=rfl
theorem cL.bytes:Tryz.t246.bytes=4:=rfl
theorem cL.zero:Tryz.t246.zero=some (Value.int IntKind.u32 0):=rfl
theorem cL.load{h:PH}{a:Addr}:cE PG h (loadAt cL (.pointer (some a)))=dF h a:=iL cL.und rfl
theorem hE.und:PG.underlying hE=some (TypeDesc.map 22 9):=Tryz.underlying249
theorem hE.load{h:PH}{a:Addr}:cE PG h (loadAt hE (.pointer (some a)))=dF h a:=iL hE.und rfl
theorem gO.f0{b o:Nat}:cV PG (fieldAt gO (pT b o) 0)=some (pT b o):=by kernel_rfl
theorem gO.f1{b o:Nat}:cV PG (fieldAt gO (pT b o) 1)=some (pT b (o+1)):=by kernel_rfl
theorem cP.und:PG.underlying cP=some (TypeDesc.slice 9):=Tryz.underlying255
theorem cP.info:PG.info? cP=some Tryz.t255:=by kernel_rfl
theorem cP.size:Tryz.t255.size=1:=rfl
theorem cP.zbox{h:PH}{r:Nat}:Bx (h.set r (.cells (dL PG cP) cP)) r ((Value.slice none 0 0)).cells.toList:=Bx.zero (by kernel_rfl)
theorem cP.load{h:PH}{a:Addr}:cE PG h (loadAt cP (.pointer (some a)))=dF h a:=iL cP.und rfl
theorem cP.put{h:PH}{r o:Nat}{cs:List Value}{v:Value}{k:cD}(H:Bx h r cs)(ho:o<cs.length)(hv:eP v=true)(hk:∀h',Bx h' r (cs.set o v)->cU [r] h h'->k undef h'):cY PG (dJ cP (pT r o) v) h k:=H.put1 cP.und rfl cP.info cP.size ho hv hk
theorem cB.und:PG.underlying cB=some (TypeDesc.struct #[{name:="Index",type:=3,offset:=0,embedded:=false,tag:="",pkgPath:="",byteOffset:=0},{name:="Count",type:=3,offset:=1,embedded:=false,tag:="",pkgPath:="",byteOffset:=8},{name:="Pair",type:=130,offset:=2,embedded:=false,tag:="",pkgPath:="",byteOffset:=16},{name:="Path",type:=255,offset:=4,embedded:=false,tag:="",pkgPath:="",byteOffset:=48}]):=Tryz.underlying257
theorem cB.info:PG.info? cB=some Tryz.t257:=by kernel_rfl
theorem cB.size:Tryz.t257.size=5:=rfl
theorem cB.bytes:Tryz.t257.bytes=72:=rfl
theorem cB.zero:Tryz.t257.zero=some (Value.agg #[Value.int IntKind.i64 0,Value.int IntKind.i64 0,Value.string {data:=#[]},Value.string {data:=#[]},Value.slice none 0 0]):=rfl
theorem cB.zbox{h:PH}{r:Nat}:Bx (h.set r (.cells (dL PG cB) cB)) r ((Value.agg #[Value.int IntKind.i64 0,Value.int IntKind.i64 0,Value.string {data:=#[]},Value.string {data:=#[]},Value.slice none 0 0])).cells.toList:=Bx.zero (by kernel_rfl)
theorem cB.zc:dL PG cB=((Value.agg #[Value.int IntKind.i64 0,Value.int IntKind.i64 0,Value.string {data:=#[]},Value.string {data:=#[]},Value.slice none 0 0])).cells:=by kernel_rfl
theorem cB.agg{h:PH}{r o:Nat}{cs:List Value}(H:Bx h r cs)(hle:o+5≤cs.length):cE PG h (loadAt cB (pT r o))=some (.agg ((cs.drop o).take 5).toArray):=H.agg cB.und rfl cB.info cB.size hle
theorem cB.put{h:PH}{r o:Nat}{cs vs:List Value}{k:cD}(H:Bx h r cs)(hl:vs.length=5)(ho:o+5≤cs.length)(hv:∀v∈vs,eP v=true)(hk:∀h',Bx h' r (cs.take o++vs++cs.drop (o+5))->cU [r] h h'->k undef h'):cY PG (dJ cB (pT r o) (.agg vs.toArray)) h k:=H.putN cB.info (by rw[hl];rfl) (by omega) (by omega) hv (by rw[hl];exact hk)
theorem cB.fill{h:PH}{r:Nat}{vs:List Value}{k:cD}(hr:h r=none)(hl:vs.length=5)(hv:∀v∈vs,eP v=true)(hk:∀h',Bx h' r vs->dD h h'->k undef h'):cY PG (dJ cB (pT r 0) (.agg vs.toArray)) (h.set r (.cells (dL PG cB) cB)) k:=Bx.fill hr cB.info (by rw[hl];rfl) (by omega) (by rw[cB.zc,hl];rfl) hv hk
theorem cB.f0{b o:Nat}:cV PG (fieldAt cB (pT b o) 0)=some (pT b o):=by kernel_rfl
theorem cB.f1{b o:Nat}:cV PG (fieldAt cB (pT b o) 1)=some (pT b (o+1)):=by kernel_rfl
theorem cB.f2{b o:Nat}:cV PG (fieldAt cB (pT b o) 2)=some (pT b (o+2)):=by kernel_rfl
theorem cB.f3{b o:Nat}:cV PG (fieldAt cB (pT b o) 3)=some (pT b (o+4)):=by kernel_rfl
theorem nM.f0{b o:Nat}:cV PG (fieldAt nM (pT b o) 0)=some (pT b o):=by kernel_rfl
theorem dW.und:PG.underlying dW=some (TypeDesc.pointer 263):=Tryz.underlying261
theorem dW.info:PG.info? dW=some Tryz.t261:=by kernel_rfl
theorem dW.size:Tryz.t261.size=1:=rfl
theorem dW.load{h:PH}{a:Addr}:cE PG h (loadAt dW (.pointer (some a)))=dF h a:=iL dW.und rfl
theorem dH.info:PG.info? dH=some Tryz.t263:=by kernel_rfl
theorem dH.size:Tryz.t263.size=2:=rfl
theorem dH.zc:dL PG dH=((Value.agg #[Value.pointer none,Value.slice none 0 0])).cells:=by kernel_rfl
theorem dH.f0{b o:Nat}:cV PG (fieldAt dH (pT b o) 0)=some (pT b o):=by kernel_rfl
theorem dH.f1{b o:Nat}:cV PG (fieldAt dH (pT b o) 1)=some (pT b (o+1)):=by kernel_rfl
theorem fI.zc:dL PG fI=((Value.agg #[Value.int IntKind.i64 0,Value.pointer none,Value.slice none 0 0])).cells:=by kernel_rfl
theorem fI.f0{b o:Nat}:cV PG (fieldAt fI (pT b o) 0)=some (pT b o):=by kernel_rfl
theorem fI.f1{b o:Nat}:cV PG (fieldAt fI (pT b o) 1)=some (pT b (o+1)):=by kernel_rfl
theorem jC.und:PG.underlying jC=some (TypeDesc.slice 193):=Tryz.underlying271
theorem eH.und:PG.underlying eH=some (TypeDesc.struct #[{name:="Height",type:=22,offset:=0,embedded:=false,tag:="",pkgPath:="",byteOffset:=0},{name:="Root",type:=9,offset:=1,embedded:=false,tag:="",pkgPath:="",byteOffset:=8}]):=Tryz.underlying287
theorem eH.info:PG.info? eH=some Tryz.t287:=by kernel_rfl
theorem eH.size:Tryz.t287.size=2:=rfl
theorem eH.bytes:Tryz.t287.bytes=24:=rfl
theorem eH.zero:Tryz.t287.zero=some (Value.agg #[Value.int IntKind.u64 0,Value.string {data:=#[]}]):=rfl
theorem eH.f0{b o:Nat}:cV PG (fieldAt eH (pT b o) 0)=some (pT b o):=by kernel_rfl
theorem eH.f1{b o:Nat}:cV PG (fieldAt eH (pT b o) 1)=some (pT b (o+1)):=by kernel_rfl
theorem fK.und:PG.underlying fK=some (TypeDesc.func #[65,3] #[] false):=Tryz.underlying354
theorem fK.info:PG.info? fK=some Tryz.t354:=by kernel_rfl
theorem fK.size:Tryz.t354.size=1:=rfl
theorem fK.zc:dL PG fK=(Value.nilFunc).cells:=by kernel_rfl
theorem fK.load{h:PH}{a:Addr}:cE PG h (loadAt fK (.pointer (some a)))=dF h a:=iL fK.und rfl
theorem fK.fill{h:PH}{r:Nat}{v:Value}{k:cD}(hr:h r=none)(hv:eP v=true)(hk:∀h',Bx h' r [v]->dD h h'->k undef h'):cY PG (dJ fK (pT r 0) v) (h.set r (.cells (dL PG fK) fK)) k:=Bx.fill1 hr fK.und rfl fK.info fK.size (by rw[fK.zc];rfl) hv hk
theorem gH.f0{b o:Nat}:cV PG (fieldAt gH (pT b o) 0)=some (pT b o):=by kernel_rfl
theorem gH.f1{b o:Nat}:cV PG (fieldAt gH (pT b o) 1)=some (pT b (o+1)):=by kernel_rfl
theorem fQ.und:PG.underlying fQ=some (TypeDesc.func #[3,3] #[9] false):=Tryz.underlying363
theorem fQ.info:PG.info? fQ=some Tryz.t363:=by kernel_rfl
theorem fQ.size:Tryz.t363.size=1:=rfl
theorem fQ.zc:dL PG fQ=(Value.nilFunc).cells:=by kernel_rfl
theorem fQ.load{h:PH}{a:Addr}:cE PG h (loadAt fQ (.pointer (some a)))=dF h a:=iL fQ.und rfl
theorem fQ.fill{h:PH}{r:Nat}{v:Value}{k:cD}(hr:h r=none)(hv:eP v=true)(hk:∀h',Bx h' r [v]->dD h h'->k undef h'):cY PG (dJ fQ (pT r 0) v) (h.set r (.cells (dL PG fQ) fQ)) k:=Bx.fill1 hr fQ.und rfl fQ.info fQ.size (by rw[fQ.zc];rfl) hv hk
theorem eS.f0{b o:Nat}:cV PG (fieldAt eS (pT b o) 0)=some (pT b o):=by kernel_rfl
theorem eS.f1{b o:Nat}:cV PG (fieldAt eS (pT b o) 1)=some (pT b (o+1)):=by kernel_rfl
theorem eS.f2{b o:Nat}:cV PG (fieldAt eS (pT b o) 2)=some (pT b (o+2)):=by kernel_rfl
theorem gG.f0{b o:Nat}:cV PG (fieldAt gG (pT b o) 0)=some (pT b o):=by kernel_rfl
theorem gG.f1{b o:Nat}:cV PG (fieldAt gG (pT b o) 1)=some (pT b (o+1)):=by kernel_rfl
theorem eN.und:PG.underlying eN=some (TypeDesc.array 8 246):=Tryz.underlying376
theorem eN.info:PG.info? eN=some Tryz.t376:=by kernel_rfl
theorem eN.size:Tryz.t376.size=8:=rfl
theorem eN.zc:dL PG eN=((Value.agg #[Value.int IntKind.u32 0,Value.int IntKind.u32 0,Value.int IntKind.u32 0,Value.int IntKind.u32 0,Value.int IntKind.u32 0,Value.int IntKind.u32 0,Value.int IntKind.u32 0,Value.int IntKind.u32 0])).cells:=by kernel_rfl
theorem eN.loadAgg{h:PH}{b o:Nat}{c:Array Value}{e:TypeId}{fr:Nat×Nat}(hb:h b=some (.cells c e fr))(hle:o+8≤c.size):cE PG h (loadAt eN (pT b o))=some (.agg (c.extract o (o+8))):=pG eN.und rfl eN.info eN.size hb hle
theorem gZ.und:PG.underlying gZ=some (TypeDesc.struct #[{name:="h",type:=376,offset:=0,embedded:=false,tag:="",pkgPath:="carrack/sha",byteOffset:=0}]):=Tryz.underlying378
theorem gZ.info:PG.info? gZ=some Tryz.t378:=by kernel_rfl
theorem gZ.size:Tryz.t378.size=8:=rfl
theorem gZ.zc:dL PG gZ=((Value.agg #[Value.int IntKind.u32 0,Value.int IntKind.u32 0,Value.int IntKind.u32 0,Value.int IntKind.u32 0,Value.int IntKind.u32 0,Value.int IntKind.u32 0,Value.int IntKind.u32 0,Value.int IntKind.u32 0])).cells:=by kernel_rfl
theorem gZ.loadAgg{h:PH}{b o:Nat}{c:Array Value}{e:TypeId}{fr:Nat×Nat}(hb:h b=some (.cells c e fr))(hle:o+8≤c.size):cE PG h (loadAt gZ (pT b o))=some (.agg (c.extract o (o+8))):=pG gZ.und rfl gZ.info gZ.size hb hle
theorem gZ.f0{b o:Nat}:cV PG (fieldAt gZ (pT b o) 0)=some (pT b o):=by kernel_rfl
theorem eW.und:PG.underlying eW=some (TypeDesc.struct #[{name:="state",type:=378,offset:=0,embedded:=true,tag:="",pkgPath:="carrack/sha",byteOffset:=0},{name:="rest",type:=9,offset:=8,embedded:=false,tag:="",pkgPath:="carrack/sha",byteOffset:=32},{name:="n",type:=3,offset:=9,embedded:=false,tag:="",pkgPath:="carrack/sha",byteOffset:=48}]):=Tryz.underlying381
theorem eW.info:PG.info? eW=some Tryz.t381:=by kernel_rfl
theorem eW.size:Tryz.t381.size=10:=rfl
theorem eW.zc:dL PG eW=((Value.agg #[Value.int IntKind.u32 0,Value.int IntKind.u32 0,Value.int IntKind.u32 0,Value.int IntKind.u32 0,Value.int IntKind.u32 0,Value.int IntKind.u32 0,Value.int IntKind.u32 0,Value.int IntKind.u32 0,Value.string {data:=#[]},Value.int IntKind.i64 0])).cells:=by kernel_rfl
theorem eW.loadAgg{h:PH}{b o:Nat}{c:Array Value}{e:TypeId}{fr:Nat×Nat}(hb:h b=some (.cells c e fr))(hle:o+10≤c.size):cE PG h (loadAt eW (pT b o))=some (.agg (c.extract o (o+10))):=pG eW.und rfl eW.info eW.size hb hle
theorem eW.f0{b o:Nat}:cV PG (fieldAt eW (pT b o) 0)=some (pT b o):=by kernel_rfl
theorem eW.f1{b o:Nat}:cV PG (fieldAt eW (pT b o) 1)=some (pT b (o+8)):=by kernel_rfl
theorem eW.f2{b o:Nat}:cV PG (fieldAt eW (pT b o) 2)=some (pT b (o+9)):=by kernel_rfl
theorem iE.und:PG.underlying iE=some TypeDesc.unsafePointer:=Tryz.underlying389
theorem eV.und:PG.underlying eV=some (TypeDesc.array 64 246):=Tryz.underlying396
theorem eV.info:PG.info? eV=some Tryz.t396:=by kernel_rfl
theorem eV.size:Tryz.t396.size=64:=rfl
theorem eV.zc:dL PG eV=((Value.agg #[Value.int IntKind.u32 0,Value.int IntKind.u32 0,Value.int IntKind.u32 0,Value.int IntKind.u32 0,Value.int IntKind.u32 0,Value.int IntKind.u32 0,Value.int IntKind.u32 0,Value.int IntKind.u32 0,Value.int IntKind.u32 0,Value.int IntKind.u32 0,Value.int IntKind.u32 0,Value.int IntKind.u32 0,Value.int IntKind.u32 0,Value.int IntKind.u32 0,Value.int IntKind.u32 0,Value.int IntKind.u32 0,Value.int IntKind.u32 0,Value.int IntKind.u32 0,Value.int IntKind.u32 0,Value.int IntKind.u32 0,Value.int IntKind.u32 0,Value.int IntKind.u32 0,Value.int IntKind.u32 0,Value.int IntKind.u32 0,Value.int IntKind.u32 0,Value.int IntKind.u32 0,Value.int IntKind.u32 0,Value.int IntKind.u32 0,Value.int IntKind.u32 0,Value.int IntKind.u32 0,Value.int IntKind.u32 0,Value.int IntKind.u32 0,Value.int IntKind.u32 0,Value.int IntKind.u32 0,Value.int IntKind.u32 0,Value.int IntKind.u32 0,Value.int IntKind.u32 0,Value.int IntKind.u32 0,Value.int IntKind.u32 0,Value.int IntKind.u32 0,Value.int IntKind.u32 0,Value.int IntKind.u32 0,Value.int IntKind.u32 0,Value.int IntKind.u32 0,Value.int IntKind.u32 0,Value.int IntKind.u32 0,Value.int IntKind.u32 0,Value.int IntKind.u32 0,Value.int IntKind.u32 0,Value.int IntKind.u32 0,Value.int IntKind.u32 0,Value.int IntKind.u32 0,Value.int IntKind.u32 0,Value.int IntKind.u32 0,Value.int IntKind.u32 0,Value.int IntKind.u32 0,Value.int IntKind.u32 0,Value.int IntKind.u32 0,Value.int IntKind.u32 0,Value.int IntKind.u32 0,Value.int IntKind.u32 0,Value.int IntKind.u32 0,Value.int IntKind.u32 0,Value.int IntKind.u32 0])).cells:=by kernel_rfl
theorem eV.loadAgg{h:PH}{b o:Nat}{c:Array Value}{e:TypeId}{fr:Nat×Nat}(hb:h b=some (.cells c e fr))(hle:o+64≤c.size):cE PG h (loadAt eV (pT b o))=some (.agg (c.extract o (o+64))):=pG eV.und rfl eV.info eV.size hb hle
end Go.Proofs.YtppgkeodaejgcaaGreatDoor
