/- The texts of this claim, put together. -/
import Derived.Test.YtppgkeodaejgcaaGreatDoorRlXVC0
import Derived.Test.YtppgkeodaejgcaaGreatDoorChecked
import Derived.KernelRfl
set_option linter.all false
set_option maxRecDepth 100000
open Go.Instr (loadAt fieldAt indexAt extract buildSlice build)
namespace Go.Proofs.YtppgkeodaejgcaaGreatDoor
open Go
noncomputable abbrev PG:Program:=Tryz.prog
theorem mix:PG.follows .mixedOrders=true:=by kernel_rfl
abbrev wL:FuncId:=3
abbrev aCj:FuncId:=9
abbrev aDs:FuncId:=10
abbrev zO:FuncId:=11
abbrev aD9:FuncId:=12
abbrev pF:FuncId:=13
abbrev jH:FuncId:=14
abbrev aFl:FuncId:=15
abbrev aDA:FuncId:=36
abbrev aDy:FuncId:=37
abbrev aI8:FuncId:=38
abbrev qO:FuncId:=39
abbrev uL:FuncId:=40
abbrev vQ:FuncId:=41
abbrev aDt:FuncId:=42
abbrev aDw:FuncId:=43
abbrev aCe:FuncId:=44
abbrev aD0:FuncId:=45
abbrev aEZ:FuncId:=46
abbrev aBo:FuncId:=47
abbrev aCP:FuncId:=48
abbrev aBk:FuncId:=49
abbrev yO:FuncId:=50
abbrev tE:FuncId:=51
abbrev sU:FuncId:=52
abbrev qR:FuncId:=53
abbrev pS:FuncId:=54
abbrev qB:FuncId:=55
abbrev aD7:FuncId:=56
abbrev xJ:FuncId:=57
abbrev oO:FuncId:=58
abbrev aAC:FuncId:=59
abbrev aCF:FuncId:=60
abbrev oQ:FuncId:=65
abbrev yN:FuncId:=67
abbrev aAt:FuncId:=79
abbrev zT:FuncId:=80
abbrev aIk:FuncId:=81
abbrev aIE:FuncId:=82
abbrev aFC:FuncId:=83
abbrev aFv:FuncId:=84
abbrev aGR:FuncId:=85
abbrev aG9:FuncId:=86
abbrev jJ:FuncId:=87
abbrev yA:FuncId:=88
abbrev sZ:FuncId:=89
abbrev tB:FuncId:=90
abbrev sO:FuncId:=91
abbrev aA2:FuncId:=92
abbrev sH:FuncId:=93
abbrev zZ:FuncId:=94
abbrev vY:FuncId:=95
abbrev vX:FuncId:=96
abbrev aB9:FuncId:=97
abbrev aDE:FuncId:=98
abbrev sR:FuncId:=99
abbrev aCR:FuncId:=100
abbrev aGZ:FuncId:=101
abbrev aFj:FuncId:=102
abbrev tL:FuncId:=103
abbrev sX:FuncId:=104
abbrev sJ:FuncId:=105
abbrev aC0:FuncId:=106
abbrev aC1:FuncId:=107
abbrev yX:FuncId:=108
abbrev aAc:FuncId:=109
abbrev aHL:FuncId:=110
abbrev mG:FuncId:=111
abbrev aCT:FuncId:=112
abbrev xU:FuncId:=113
abbrev zH:FuncId:=114
abbrev zG:FuncId:=115
abbrev rV:FuncId:=116
abbrev zD:FuncId:=117
abbrev zR:FuncId:=118
abbrev vI:FuncId:=119
abbrev wQ:FuncId:=120
abbrev aDa:FuncId:=121
abbrev aDF:FuncId:=122
abbrev aAV:FuncId:=123
abbrev mB:FuncId:=124
abbrev aDv:FuncId:=125
abbrev qK:FuncId:=126
abbrev aFy:FuncId:=128
abbrev aD2:FuncId:=129
abbrev aDu:FuncId:=143
abbrev aBm:FuncId:=144
abbrev zP:FuncId:=145
abbrev aCW:FuncId:=146
abbrev aCU:FuncId:=147
abbrev aFa:FuncId:=148
abbrev tZ:FuncId:=149
abbrev lN:FuncId:=150
abbrev aF0:FuncId:=151
abbrev aBi:FuncId:=152
abbrev nM:FuncId:=153
abbrev mJ:FuncId:=154
abbrev rJ:FuncId:=155
abbrev tF:FuncId:=156
abbrev uK:FuncId:=157
abbrev iW:FuncId:=158
abbrev aEV:FuncId:=159
abbrev aEX:FuncId:=160
abbrev aBr:FuncId:=161
abbrev aCh:FuncId:=162
abbrev qT:FuncId:=163
abbrev qV:FuncId:=164
abbrev aEr:FuncId:=165
abbrev aEs:FuncId:=166
abbrev aBE:FuncId:=167
abbrev aDx:FuncId:=168
abbrev aCz:FuncId:=169
abbrev qU:FuncId:=170
abbrev uA:FuncId:=171
abbrev aA5:FuncId:=172
abbrev aBw:FuncId:=173
abbrev sV:FuncId:=174
abbrev nR:FuncId:=175
abbrev vE:FuncId:=176
abbrev rT:FuncId:=177
abbrev nC:FuncId:=178
abbrev oN:FuncId:=179
abbrev mP:FuncId:=180
abbrev uI:FuncId:=181
abbrev mK:FuncId:=182
abbrev aAv:FuncId:=183
abbrev wX:FuncId:=184
abbrev rU:FuncId:=185
abbrev nQ:FuncId:=186
abbrev aCo:FuncId:=187
abbrev wG:FuncId:=188
abbrev aGT:FuncId:=189
abbrev aEu:FuncId:=190
abbrev sE:FuncId:=191
abbrev qX:FuncId:=192
abbrev aAS:FuncId:=193
abbrev aLn:FuncId:=202
abbrev aH1:FuncId:=203
abbrev aCV:FuncId:=214
abbrev aDb:FuncId:=215
abbrev qC:FuncId:=216
abbrev qA:FuncId:=217
abbrev oA:FuncId:=218
abbrev yZ:FuncId:=219
abbrev aHQ:FuncId:=220
abbrev uJ:FuncId:=221
abbrev oS:FuncId:=222
abbrev aFG:FuncId:=223
abbrev lD:FuncId:=224
abbrev xY:FuncId:=225
abbrev kU:FuncId:=226
abbrev nZ:FuncId:=227
abbrev kK:FuncId:=228
abbrev aHR:FuncId:=229
abbrev aAe:FuncId:=230
abbrev aFE:FuncId:=231
abbrev vZ:FuncId:=232
abbrev aIG:FuncId:=233
abbrev aEP:FuncId:=234
abbrev aFq:FuncId:=235
abbrev aGf:FuncId:=236
abbrev sL:FuncId:=237
abbrev aCl:FuncId:=238
abbrev yQ:FuncId:=239
abbrev qN:FuncId:=240
abbrev zU:FuncId:=241
abbrev kD:FuncId:=242
abbrev yI:FuncId:=243
abbrev rK:FuncId:=244
abbrev lZ:FuncId:=245
abbrev yB:FuncId:=246
abbrev wY:FuncId:=247
abbrev aIC:FuncId:=248
abbrev aKN:FuncId:=249
abbrev aCC:FuncId:=250
abbrev aGj:FuncId:=251
abbrev aAT:FuncId:=260
abbrev aCi:FuncId:=261
abbrev aDd:FuncId:=262
abbrev aEv:FuncId:=263
abbrev aCO:FuncId:=264
abbrev aCn:FuncId:=265
abbrev aC7:FuncId:=266
abbrev xW:FuncId:=267
abbrev mE:FuncId:=268
abbrev mD:FuncId:=269
abbrev xR:FuncId:=270
abbrev aEw:FuncId:=271
abbrev aAm:FuncId:=272
abbrev xK:FuncId:=273
abbrev aDr:FuncId:=274
abbrev aCK:FuncId:=275
abbrev uC:FuncId:=276
abbrev xQ:FuncId:=277
abbrev tV:FuncId:=278
abbrev qP:FuncId:=279
abbrev rO:FuncId:=280
abbrev wU:FuncId:=281
abbrev xH:FuncId:=282
abbrev lY:FuncId:=283
abbrev aCb:FuncId:=284
abbrev aLO:FuncId:=285
abbrev aF1:FuncId:=286
abbrev aFz:FuncId:=287
abbrev aFB:FuncId:=288
abbrev aDz:FuncId:=289
abbrev aBn:FuncId:=292
abbrev wA:FuncId:=293
abbrev yC:FuncId:=294
abbrev aAP:FuncId:=295
abbrev aCc:FuncId:=296
abbrev aDp:FuncId:=297
abbrev aCS:FuncId:=298
abbrev lL:FuncId:=299
abbrev sP:FuncId:=300
abbrev pM:FuncId:=301
abbrev xT:FuncId:=302
abbrev aBy:FuncId:=303
abbrev aIy:FuncId:=304
abbrev qH:FuncId:=305
abbrev aF2:FuncId:=306
abbrev uH:FuncId:=307
abbrev aA4:FuncId:=308
abbrev rP:FuncId:=309
abbrev jZ:FuncId:=310
abbrev aEN:FuncId:=311
abbrev aLm:FuncId:=312
abbrev aHp:FuncId:=313
abbrev aE6:FuncId:=315
abbrev tT:FuncId:=316
abbrev T_:TypeId:=0
abbrev bT:TypeId:=3
abbrev fU:TypeId:=4
abbrev dJ:TypeId:=5
abbrev bR:TypeId:=9
abbrev cA:TypeId:=22
abbrev eK:TypeId:=23
abbrev iI:TypeId:=24
abbrev iQ:TypeId:=25
abbrev aAG:TypeId:=26
abbrev dE:TypeId:=28
abbrev dB:TypeId:=29
abbrev aR:TypeId:=34
abbrev cI:TypeId:=36
abbrev eW:TypeId:=40
abbrev fX:TypeId:=42
abbrev eS:TypeId:=43
abbrev jO:TypeId:=44
abbrev eQ:TypeId:=45
abbrev dQ:TypeId:=46
abbrev cQ:TypeId:=48
abbrev fW:TypeId:=49
abbrev jT:TypeId:=50
abbrev jU:TypeId:=52
abbrev nK:TypeId:=54
abbrev cX:TypeId:=55
abbrev dI:TypeId:=57
abbrev dW:TypeId:=58
abbrev fY:TypeId:=63
abbrev cJ:TypeId:=65
abbrev hZ:TypeId:=67
abbrev dV:TypeId:=68
abbrev eZ:TypeId:=70
abbrev iO:TypeId:=71
abbrev dX:TypeId:=73
abbrev cH:TypeId:=105
abbrev cM:TypeId:=130
abbrev fC:TypeId:=131
abbrev dM:TypeId:=133
abbrev jA:TypeId:=135
abbrev jB:TypeId:=136
abbrev dO:TypeId:=137
abbrev jY:TypeId:=139
abbrev fZ:TypeId:=154
abbrev rW:TypeId:=164
abbrev aPf:TypeId:=166
abbrev eP:TypeId:=175
abbrev fT:TypeId:=179
abbrev cN:TypeId:=184
abbrev cC:TypeId:=186
abbrev cK:TypeId:=193
abbrev iR:TypeId:=198
abbrev dS:TypeId:=200
abbrev kW:TypeId:=206
abbrev fO:TypeId:=219
abbrev eM:TypeId:=221
abbrev tY:TypeId:=238
abbrev dR:TypeId:=242
abbrev gE:TypeId:=244
abbrev cL:TypeId:=246
abbrev hE:TypeId:=249
abbrev gQ:TypeId:=251
abbrev cP:TypeId:=255
abbrev cB:TypeId:=257
abbrev nN:TypeId:=260
abbrev dU:TypeId:=261
abbrev dG:TypeId:=263
abbrev fJ:TypeId:=265
abbrev jD:TypeId:=271
abbrev eH:TypeId:=287
abbrev fK:TypeId:=354
abbrev oB:TypeId:=358
abbrev gK:TypeId:=360
abbrev fQ:TypeId:=363
abbrev eR:TypeId:=368
abbrev gJ:TypeId:=374
abbrev eN:TypeId:=376
abbrev gZ:TypeId:=378
abbrev eY:TypeId:=381
abbrev iE:TypeId:=389
abbrev eX:TypeId:=396
theorem bT.und:PG.underlying bT=some (TypeDesc.int IntKind.i64):=Tryz.underlying3
theorem bT.info:PG.info? bT=some Tryz.t3:=by kernel_rfl
theorem bT.size:Tryz.t3.size=1:=rfl
theorem bT.load{h:PH}{a:Addr}:cD PG h (loadAt bT (.pointer (some a)))=dD h a:=iK bT.und rfl
abbrev aLM(t:TypeId)(n:Nat):Prop:=∀{h:PH} {r o:Nat} {cs vs:List Value} {k:cE} (H:Bx h r cs) (hl:vs.length=n) (ho:o+n≤cs.length) (hv:∀v∈vs,fP v=true) (hk:∀h',Bx h' r (cs.take o++vs++cs.drop (o+n))->cU [r] h h'->k undef h'),cY PG (dN t (pT r o) (.agg vs.toArray)) h k
theorem aMw{t:TypeId}{n:Nat}{i:TypeInfo}(hi:PG.info? t=some i)(hn:i.size=n)(h0:0<n):aLM t n:=by
 intro h r o cs vs k H hl ho hv hk;exact H.putN hi (by rw[hl];exact hn) (by omega) (by omega) hv (by rw[hl];exact hk)
abbrev aGd(t:TypeId)(n:Nat):Prop:=∀{h:PH} {r:Nat} {vs:List Value} {k:cE} (hr:h r=none) (hl:vs.length=n) (hv:∀v∈vs,fP v=true) (hk:∀h',Bx h' r vs->cZ h h'->k undef h'),cY PG (dN t (pT r 0) (.agg vs.toArray)) (h.set r (.cells (dP PG t) t)) k
theorem aHT{t:TypeId}{n:Nat}{i:TypeInfo}(hi:PG.info? t=some i)(hn:i.size=n)(h0:0<n)(hz:(dP PG t).size=n):aGd t n:=by
 intro h r vs k hr hl hv hk;exact Bx.fill hr hi (by rw[hl];exact hn) (by omega) (by rw[hz,hl]) hv hk
abbrev aIm(t:TypeId)(n:Nat):Prop:=∀{h:PH} {r o:Nat} {cs:List Value} (H:Bx h r cs) (hle:o+n≤cs.length),cD PG h (loadAt t (pT r o))=some (.agg ((cs.drop o).take n).toArray)
abbrev aIz(t:TypeId)(n:Nat):Prop:=∀{h:PH} {b o:Nat} {c:Array Value} {e:TypeId} {fr:Nat×Nat} (hb:h b=some (.cells c e fr)) (hle:o+n≤c.size),cD PG h (loadAt t (pT b o))=some (.agg (c.extract o (o+n)))
abbrev aJm(t:TypeId):Prop:=∀{h:PH} {r o:Nat} {cs:List Value} {v:Value} {k:cE} (H:Bx h r cs) (ho:o<cs.length) (hv:fP v=true) (hk:∀h',Bx h' r (cs.set o v)->cU [r] h h'->k undef h'),cY PG (dN t (pT r o) v) h k
theorem bT.put:aJm bT:=λH a b c=>H.put1 bT.und rfl bT.info bT.size a b c
theorem fU.und:PG.underlying fU=some TypeDesc.bool:=Tryz.underlying4
theorem fU.info:PG.info? fU=some Tryz.t4:=by kernel_rfl
theorem fU.size:Tryz.t4.size=1:=rfl
theorem fU.zbox{h:PH}{r:Nat}:Bx (h.set r (.cells (dP PG fU) fU)) r ((Value.bool false)).cells.toList:=Bx.zero (by kernel_rfl)
theorem fU.load{h:PH}{a:Addr}:cD PG h (loadAt fU (.pointer (some a)))=dD h a:=iK fU.und rfl
theorem fU.put:aJm fU:=λH a b c=>H.put1 fU.und rfl fU.info fU.size a b c
theorem dJ.und:PG.underlying dJ=some (TypeDesc.int IntKind.u8):=Tryz.underlying5
theorem dJ.info:PG.info? dJ=some Tryz.t5:=by kernel_rfl
theorem dJ.size:Tryz.t5.size=1:=rfl
theorem dJ.bytes:Tryz.t5.bytes=1:=rfl
theorem dJ.zero:Tryz.t5.zero=some (Value.int IntKind.u8 0):=rfl
theorem bR.und:PG.underlying bR=some TypeDesc.string:=Tryz.underlying9
theorem bR.info:PG.info? bR=some Tryz.t9:=by kernel_rfl
theorem bR.size:Tryz.t9.size=1:=rfl
theorem bR.bytes:Tryz.t9.bytes=16:=rfl
theorem bR.zero:Tryz.t9.zero=some (Value.string {data:=#[]}):=rfl
theorem bR.zbox{h:PH}{r:Nat}:Bx (h.set r (.cells (dP PG bR) bR)) r ((Value.string {data:=#[]})).cells.toList:=Bx.zero (by kernel_rfl)
theorem bR.load{h:PH}{a:Addr}:cD PG h (loadAt bR (.pointer (some a)))=dD h a:=iK bR.und rfl
theorem bR.put:aJm bR:=λH a b c=>H.put1 bR.und rfl bR.info bR.size a b c
theorem bR.len{s:ByteArray}{t:TypeId}:dA PG (Builtin.len_ #[bR] t #[.string s])=some (.int .i64 s.size):=lP bR.und
theorem cA.und:PG.underlying cA=some (TypeDesc.int IntKind.u64):=Tryz.underlying22
theorem cA.info:PG.info? cA=some Tryz.t22:=by kernel_rfl
theorem cA.size:Tryz.t22.size=1:=rfl
theorem cA.bytes:Tryz.t22.bytes=8:=rfl
theorem cA.zero:Tryz.t22.zero=some (Value.int IntKind.u64 0):=rfl
theorem cA.load{h:PH}{a:Addr}:cD PG h (loadAt cA (.pointer (some a)))=dD h a:=iK cA.und rfl
theorem cA.put:aJm cA:=λH a b c=>H.put1 cA.und rfl cA.info cA.size a b c
theorem eK.und:PG.underlying eK=some (TypeDesc.array 2 22):=Tryz.underlying23
theorem eK.info:PG.info? eK=some Tryz.t23:=by kernel_rfl
theorem eK.size:Tryz.t23.size=2:=rfl
theorem eK.agg:aIm eK 2:=λH=>H.agg eK.und rfl eK.info eK.size
theorem iI.und:PG.underlying iI=some (TypeDesc.slice 105):=Tryz.underlying24
theorem iQ.und:PG.underlying iQ=some (TypeDesc.slice 40):=Tryz.underlying25
theorem aAG.und:PG.underlying aAG=some (TypeDesc.func #[] #[4] false):=Tryz.underlying26
theorem aAG.load{h:PH}{a:Addr}:cD PG h (loadAt aAG (.pointer (some a)))=dD h a:=iK aAG.und rfl
theorem dE.und:PG.underlying dE=some (TypeDesc.pointer 73):=Tryz.underlying28
theorem dE.info:PG.info? dE=some Tryz.t28:=by kernel_rfl
theorem dE.size:Tryz.t28.size=1:=rfl
theorem dE.load{h:PH}{a:Addr}:cD PG h (loadAt dE (.pointer (some a)))=dD h a:=iK dE.und rfl
theorem dE.put:aJm dE:=λH a b c=>H.put1 dE.und rfl dE.info dE.size a b c
theorem dB.und:PG.underlying dB=some (TypeDesc.array 2 28):=Tryz.underlying29
theorem dB.info:PG.info? dB=some Tryz.t29:=by kernel_rfl
theorem dB.size:Tryz.t29.size=2:=rfl
theorem dB.zbox{h:PH}{r:Nat}:Bx (h.set r (.cells (dP PG dB) dB)) r ((Value.agg #[Value.pointer none,Value.pointer none])).cells.toList:=Bx.zero (by kernel_rfl)
theorem dB.zc:dP PG dB=((Value.agg #[Value.pointer none,Value.pointer none])).cells:=by kernel_rfl
theorem dB.agg:aIm dB 2:=λH=>H.agg dB.und rfl dB.info dB.size
theorem dB.put:aLM dB 2:=aMw dB.info rfl (by decide)
theorem dB.fill:aGd dB 2:=aHT dB.info rfl (by decide) (by rw[dB.zc];rfl)
theorem aR.und:PG.underlying aR=some (TypeDesc.struct #[{name:="From",type:=3,offset:=0,embedded:=false,tag:="",pkgPath:="",byteOffset:=0},{name:="Seq",type:=22,offset:=1,embedded:=false,tag:="",pkgPath:="",byteOffset:=8},{name:="Timeout",type:=22,offset:=2,embedded:=false,tag:="",pkgPath:="",byteOffset:=16},{name:="Data",type:=9,offset:=3,embedded:=false,tag:="",pkgPath:="",byteOffset:=24}]):=Tryz.underlying34
theorem aR.info:PG.info? aR=some Tryz.t34:=by kernel_rfl
theorem aR.size:Tryz.t34.size=4:=rfl
theorem aR.zbox{h:PH}{r:Nat}:Bx (h.set r (.cells (dP PG aR) aR)) r ((Value.agg #[Value.int IntKind.i64 0,Value.int IntKind.u64 0,Value.int IntKind.u64 0,Value.string {data:=#[]}])).cells.toList:=Bx.zero (by kernel_rfl)
theorem aR.zc:dP PG aR=((Value.agg #[Value.int IntKind.i64 0,Value.int IntKind.u64 0,Value.int IntKind.u64 0,Value.string {data:=#[]}])).cells:=by kernel_rfl
theorem aR.loadAgg:aIz aR 4:=pH aR.und rfl aR.info aR.size
theorem aR.agg:aIm aR 4:=λH=>H.agg aR.und rfl aR.info aR.size
theorem aR.put:aLM aR 4:=aMw aR.info rfl (by decide)
theorem aR.fill:aGd aR 4:=aHT aR.info rfl (by decide) (by rw[aR.zc];rfl)
abbrev fAz(t:TypeId)(i:Nat):Prop:=∀{b o:Nat},dA PG (fieldAt t (pT b o) i)=some (pT b o)
theorem aR.f0:fAz aR 0:=by intro _ _;kernel_rfl
abbrev pG(t:TypeId)(i n:Nat):Prop:=∀{b o:Nat},dA PG (fieldAt t (pT b o) i)=some (pT b (o+n))
theorem aR.f1:pG aR 1 1:=by intro _ _;kernel_rfl
theorem aR.f2:pG aR 2 2:=by intro _ _;kernel_rfl
theorem aR.f3:pG aR 3 3:=by intro _ _;kernel_rfl
theorem cI.und:PG.underlying cI=some (TypeDesc.struct #[{name:="Kind",type:=3,offset:=0,embedded:=false,tag:="",pkgPath:="",byteOffset:=0},{name:="To",type:=3,offset:=1,embedded:=false,tag:="",pkgPath:="",byteOffset:=8},{name:="Height",type:=22,offset:=2,embedded:=false,tag:="",pkgPath:="",byteOffset:=16},{name:="Packet",type:=34,offset:=3,embedded:=false,tag:="",pkgPath:="",byteOffset:=24},{name:="Proof",type:=9,offset:=7,embedded:=false,tag:="",pkgPath:="",byteOffset:=64}]):=Tryz.underlying36
theorem cI.info:PG.info? cI=some Tryz.t36:=by kernel_rfl
theorem cI.size:Tryz.t36.size=8:=rfl
theorem cI.bytes:Tryz.t36.bytes=80:=rfl
theorem cI.zero:Tryz.t36.zero=some (Value.agg #[Value.int IntKind.i64 0,Value.int IntKind.i64 0,Value.int IntKind.u64 0,Value.int IntKind.i64 0,Value.int IntKind.u64 0,Value.int IntKind.u64 0,Value.string {data:=#[]},Value.string {data:=#[]}]):=rfl
theorem cI.zbox{h:PH}{r:Nat}:Bx (h.set r (.cells (dP PG cI) cI)) r ((Value.agg #[Value.int IntKind.i64 0,Value.int IntKind.i64 0,Value.int IntKind.u64 0,Value.int IntKind.i64 0,Value.int IntKind.u64 0,Value.int IntKind.u64 0,Value.string {data:=#[]},Value.string {data:=#[]}])).cells.toList:=Bx.zero (by kernel_rfl)
theorem cI.zc:dP PG cI=((Value.agg #[Value.int IntKind.i64 0,Value.int IntKind.i64 0,Value.int IntKind.u64 0,Value.int IntKind.i64 0,Value.int IntKind.u64 0,Value.int IntKind.u64 0,Value.string {data:=#[]},Value.string {data:=#[]}])).cells:=by kernel_rfl
theorem cI.agg:aIm cI 8:=λH=>H.agg cI.und rfl cI.info cI.size
theorem cI.put:aLM cI 8:=aMw cI.info rfl (by decide)
theorem cI.fill:aGd cI 8:=aHT cI.info rfl (by decide) (by rw[cI.zc];rfl)
theorem cI.f0:fAz cI 0:=by intro _ _;kernel_rfl
theorem cI.f1:pG cI 1 1:=by intro _ _;kernel_rfl
theorem cI.f2:pG cI 2 2:=by intro _ _;kernel_rfl
theorem cI.f3:pG cI 3 3:=by intro _ _;kernel_rfl
theorem cI.f4:pG cI 4 7:=by intro _ _;kernel_rfl
theorem eW.und:PG.underlying eW=some (TypeDesc.struct #[{name:="Packet",type:=34,offset:=0,embedded:=false,tag:="",pkgPath:="",byteOffset:=0},{name:="Stage",type:=3,offset:=4,embedded:=false,tag:="",pkgPath:="",byteOffset:=40}]):=Tryz.underlying40
theorem eW.info:PG.info? eW=some Tryz.t40:=by kernel_rfl
theorem eW.size:Tryz.t40.size=5:=rfl
theorem eW.zc:dP PG eW=((Value.agg #[Value.int IntKind.i64 0,Value.int IntKind.u64 0,Value.int IntKind.u64 0,Value.string {data:=#[]},Value.int IntKind.i64 0])).cells:=by kernel_rfl
theorem eW.loadAgg:aIz eW 5:=pH eW.und rfl eW.info eW.size
theorem eW.agg:aIm eW 5:=λH=>H.agg eW.und rfl eW.info eW.size
theorem eW.fill:aGd eW 5:=aHT eW.info rfl (by decide) (by rw[eW.zc];rfl)
theorem eW.f0:fAz eW 0:=by intro _ _;kernel_rfl
theorem fX.und:PG.underlying fX=some (TypeDesc.pointer 179):=Tryz.underlying42
theorem fX.load{h:PH}{a:Addr}:cD PG h (loadAt fX (.pointer (some a)))=dD h a:=iK fX.und rfl
theorem eS.und:PG.underlying eS=some (TypeDesc.pointer 133):=Tryz.underlying43
theorem eS.load{h:PH}{a:Addr}:cD PG h (loadAt eS (.pointer (some a)))=dD h a:=iK eS.und rfl
theorem jO.und:PG.underlying jO=some (TypeDesc.pointer 244):=Tryz.underlying44
theorem jO.load{h:PH}{a:Addr}:cD PG h (loadAt jO (.pointer (some a)))=dD h a:=iK jO.und rfl
theorem eQ.und:PG.underlying eQ=some (TypeDesc.slice 46):=Tryz.underlying45
theorem eQ.info:PG.info? eQ=some Tryz.t45:=by kernel_rfl
theorem eQ.size:Tryz.t45.size=1:=rfl
theorem eQ.load{h:PH}{a:Addr}:cD PG h (loadAt eQ (.pointer (some a)))=dD h a:=iK eQ.und rfl
theorem eQ.put:aJm eQ:=λH a b c=>H.put1 eQ.und rfl eQ.info eQ.size a b c
theorem dQ.und:PG.underlying dQ=some (TypeDesc.slice 154):=Tryz.underlying46
theorem dQ.info:PG.info? dQ=some Tryz.t46:=by kernel_rfl
theorem dQ.size:Tryz.t46.size=1:=rfl
theorem dQ.bytes:Tryz.t46.bytes=24:=rfl
theorem dQ.zero:Tryz.t46.zero=some (Value.slice none 0 0):=rfl
theorem dQ.load{h:PH}{a:Addr}:cD PG h (loadAt dQ (.pointer (some a)))=dD h a:=iK dQ.und rfl
theorem dQ.put:aJm dQ:=λH a b c=>H.put1 dQ.und rfl dQ.info dQ.size a b c
theorem cQ.f0:fAz cQ 0:=by intro _ _;kernel_rfl
theorem cQ.f1:pG cQ 1 1:=by intro _ _;kernel_rfl
theorem cQ.f2:pG cQ 2 2:=by intro _ _;kernel_rfl
theorem cQ.f3:pG cQ 3 3:=by intro _ _;kernel_rfl
theorem cQ.f4:pG cQ 4 4:=by intro _ _;kernel_rfl
theorem cQ.f5:pG cQ 5 5:=by intro _ _;kernel_rfl
theorem cQ.f6:pG cQ 6 6:=by intro _ _;kernel_rfl
theorem fW.und:PG.underlying fW=some (TypeDesc.pointer 48):=Tryz.underlying49
theorem fW.info:PG.info? fW=some Tryz.t49:=by kernel_rfl
theorem fW.size:Tryz.t49.size=1:=rfl
theorem fW.load{h:PH}{a:Addr}:cD PG h (loadAt fW (.pointer (some a)))=dD h a:=iK fW.und rfl
theorem jT.und:PG.underlying jT=some (TypeDesc.array 2 49):=Tryz.underlying50
theorem jU.f0:fAz jU 0:=by intro _ _;kernel_rfl
theorem cX.und:PG.underlying cX=some (TypeDesc.slice 5):=Tryz.underlying55
theorem cX.info:PG.info? cX=some Tryz.t55:=by kernel_rfl
theorem cX.size:Tryz.t55.size=1:=rfl
theorem cX.load{h:PH}{a:Addr}:cD PG h (loadAt cX (.pointer (some a)))=dD h a:=iK cX.und rfl
theorem cX.len{a:Option Addr}{n c:Nat}{t:TypeId}:dA PG (Builtin.len_ #[cX] t #[.slice a n c])=some (.int .i64 n):=aO7 cX.und
theorem dI.und:PG.underlying dI=some (TypeDesc.slice 36):=Tryz.underlying57
theorem dI.info:PG.info? dI=some Tryz.t57:=by kernel_rfl
theorem dI.size:Tryz.t57.size=1:=rfl
theorem dI.load{h:PH}{a:Addr}:cD PG h (loadAt dI (.pointer (some a)))=dD h a:=iK dI.und rfl
theorem dI.put:aJm dI:=λH a b c=>H.put1 dI.und rfl dI.info dI.size a b c
theorem dW.und:PG.underlying dW=some (TypeDesc.array 2 57):=Tryz.underlying58
theorem dW.info:PG.info? dW=some Tryz.t58:=by kernel_rfl
theorem dW.size:Tryz.t58.size=2:=rfl
theorem dW.zbox{h:PH}{r:Nat}:Bx (h.set r (.cells (dP PG dW) dW)) r ((Value.agg #[Value.slice none 0 0,Value.slice none 0 0])).cells.toList:=Bx.zero (by kernel_rfl)
theorem dW.zc:dP PG dW=((Value.agg #[Value.slice none 0 0,Value.slice none 0 0])).cells:=by kernel_rfl
theorem dW.agg:aIm dW 2:=λH=>H.agg dW.und rfl dW.info dW.size
theorem dW.put:aLM dW 2:=aMw dW.info rfl (by decide)
theorem dW.fill:aGd dW 2:=aHT dW.info rfl (by decide) (by rw[dW.zc];rfl)
theorem fY.und:PG.underlying fY=some (TypeDesc.int IntKind.i64):=Tryz.underlying63
theorem fY.info:PG.info? fY=some Tryz.t63:=by kernel_rfl
theorem fY.size:Tryz.t63.size=1:=rfl
theorem fY.load{h:PH}{a:Addr}:cD PG h (loadAt fY (.pointer (some a)))=dD h a:=iK fY.und rfl
theorem cJ.und:PG.underlying cJ=some (TypeDesc.slice 130):=Tryz.underlying65
theorem cJ.info:PG.info? cJ=some Tryz.t65:=by kernel_rfl
theorem cJ.size:Tryz.t65.size=1:=rfl
theorem cJ.bytes:Tryz.t65.bytes=24:=rfl
theorem cJ.zero:Tryz.t65.zero=some (Value.slice none 0 0):=rfl
theorem cJ.load{h:PH}{a:Addr}:cD PG h (loadAt cJ (.pointer (some a)))=dD h a:=iK cJ.und rfl
theorem hZ.und:PG.underlying hZ=some (TypeDesc.pointer 221):=Tryz.underlying67
theorem hZ.load{h:PH}{a:Addr}:cD PG h (loadAt hZ (.pointer (some a)))=dD h a:=iK hZ.und rfl
theorem dV.und:PG.underlying dV=some (TypeDesc.map 9 9):=Tryz.underlying68
theorem dV.load{h:PH}{a:Addr}:cD PG h (loadAt dV (.pointer (some a)))=dD h a:=iK dV.und rfl
theorem eZ.f0:fAz eZ 0:=by intro _ _;kernel_rfl
theorem eZ.f2:pG eZ 2 2:=by intro _ _;kernel_rfl
theorem eZ.f3:pG eZ 3 3:=by intro _ _;kernel_rfl
theorem eZ.f4:pG eZ 4 4:=by intro _ _;kernel_rfl
theorem iO.und:PG.underlying iO=some (TypeDesc.pointer 251):=Tryz.underlying71
theorem iO.load{h:PH}{a:Addr}:cD PG h (loadAt iO (.pointer (some a)))=dD h a:=iK iO.und rfl
theorem dX.f0:fAz dX 0:=by intro _ _;kernel_rfl
theorem dX.f1:pG dX 1 5:=by intro _ _;kernel_rfl
theorem dX.f2:pG dX 2 6:=by intro _ _;kernel_rfl
theorem dX.f3:pG dX 3 7:=by intro _ _;kernel_rfl
theorem cH.und:PG.underlying cH=some (TypeDesc.struct #[{name:="Kind",type:=3,offset:=0,embedded:=false,tag:="",pkgPath:="",byteOffset:=0},{name:="Id",type:=3,offset:=1,embedded:=false,tag:="",pkgPath:="",byteOffset:=8},{name:="Height",type:=22,offset:=2,embedded:=false,tag:="",pkgPath:="",byteOffset:=16},{name:="Data",type:=9,offset:=3,embedded:=false,tag:="",pkgPath:="",byteOffset:=24},{name:="P",type:=34,offset:=4,embedded:=false,tag:="",pkgPath:="",byteOffset:=40},{name:="Spoilt",type:=4,offset:=8,embedded:=false,tag:="",pkgPath:="",byteOffset:=80}]):=Tryz.underlying105
theorem cH.info:PG.info? cH=some Tryz.t105:=by kernel_rfl
theorem cH.size:Tryz.t105.size=9:=rfl
theorem cH.zc:dP PG cH=((Value.agg #[Value.int IntKind.i64 0,Value.int IntKind.i64 0,Value.int IntKind.u64 0,Value.string {data:=#[]},Value.int IntKind.i64 0,Value.int IntKind.u64 0,Value.int IntKind.u64 0,Value.string {data:=#[]},Value.bool false])).cells:=by kernel_rfl
theorem cH.loadAgg:aIz cH 9:=pH cH.und rfl cH.info cH.size
theorem cH.agg:aIm cH 9:=λH=>H.agg cH.und rfl cH.info cH.size
theorem cH.fill:aGd cH 9:=aHT cH.info rfl (by decide) (by rw[cH.zc];rfl)
theorem cH.f0:fAz cH 0:=by intro _ _;kernel_rfl
theorem cH.f1:pG cH 1 1:=by intro _ _;kernel_rfl
theorem cH.f2:pG cH 2 2:=by intro _ _;kernel_rfl
theorem cH.f3:pG cH 3 3:=by intro _ _;kernel_rfl
theorem cH.f4:pG cH 4 4:=by intro _ _;kernel_rfl
theorem cH.f5:pG cH 5 8:=by intro _ _;kernel_rfl
theorem cM.und:PG.underlying cM=some (TypeDesc.struct #[{name:="Key",type:=9,offset:=0,embedded:=false,tag:="",pkgPath:="",byteOffset:=0},{name:="Value",type:=9,offset:=1,embedded:=false,tag:="",pkgPath:="",byteOffset:=16}]):=Tryz.underlying130
theorem cM.info:PG.info? cM=some Tryz.t130:=by kernel_rfl
theorem cM.size:Tryz.t130.size=2:=rfl
theorem cM.bytes:Tryz.t130.bytes=32:=rfl
theorem cM.zero:Tryz.t130.zero=some (Value.agg #[Value.string {data:=#[]},Value.string {data:=#[]}]):=rfl
theorem cM.loadAgg:aIz cM 2:=pH cM.und rfl cM.info cM.size
theorem cM.agg:aIm cM 2:=λH=>H.agg cM.und rfl cM.info cM.size
theorem cM.f0:fAz cM 0:=by intro _ _;kernel_rfl
theorem cM.f1:pG cM 1 1:=by intro _ _;kernel_rfl
theorem fC.und:PG.underlying fC=some (TypeDesc.slice 65):=Tryz.underlying131
theorem fC.info:PG.info? fC=some Tryz.t131:=by kernel_rfl
theorem fC.size:Tryz.t131.size=1:=rfl
theorem fC.load{h:PH}{a:Addr}:cD PG h (loadAt fC (.pointer (some a)))=dD h a:=iK fC.und rfl
theorem dM.f0:fAz dM 0:=by intro _ _;kernel_rfl
theorem dM.f1:pG dM 1 1:=by intro _ _;kernel_rfl
theorem dM.f2:pG dM 2 2:=by intro _ _;kernel_rfl
theorem jA.info:PG.info? jA=some Tryz.t135:=by kernel_rfl
theorem jA.size:Tryz.t135.size=2:=rfl
theorem jA.f0:fAz jA 0:=by intro _ _;kernel_rfl
theorem jA.f1:pG jA 1 1:=by intro _ _;kernel_rfl
theorem jB.und:PG.underlying jB=some (TypeDesc.array 2 135):=Tryz.underlying136
theorem jB.zbox{h:PH}{r:Nat}:Bx (h.set r (.cells (dP PG jB) jB)) r ((Value.agg #[Value.slice none 0 0,Value.bool false,Value.slice none 0 0,Value.bool false])).cells.toList:=Bx.zero (by kernel_rfl)
theorem dO.und:PG.underlying dO=some (TypeDesc.slice 22):=Tryz.underlying137
theorem dO.info:PG.info? dO=some Tryz.t137:=by kernel_rfl
theorem dO.size:Tryz.t137.size=1:=rfl
theorem dO.load{h:PH}{a:Addr}:cD PG h (loadAt dO (.pointer (some a)))=dD h a:=iK dO.und rfl
theorem jY.und:PG.underlying jY=some (TypeDesc.array 2 137):=Tryz.underlying139
theorem jY.info:PG.info? jY=some Tryz.t139:=by kernel_rfl
theorem jY.zc:dP PG jY=((Value.agg #[Value.slice none 0 0,Value.slice none 0 0])).cells:=by kernel_rfl
theorem jY.fill:aGd jY 2:=aHT jY.info rfl (by decide) (by rw[jY.zc];rfl)
theorem fZ.info:PG.info? fZ=some Tryz.t154:=by kernel_rfl
theorem fZ.size:Tryz.t154.size=5:=rfl
theorem fZ.bytes:Tryz.t154.bytes=48:=rfl
theorem fZ.zero:Tryz.t154.zero=some (Value.agg #[Value.int IntKind.i64 0,Value.int IntKind.i64 0,Value.int IntKind.u64 0,Value.int IntKind.u64 0,Value.string {data:=#[]}]):=rfl
theorem rW.und:PG.underlying rW=some (TypeDesc.struct #[{name:="from",type:=3,offset:=0,embedded:=false,tag:="",pkgPath:="carrack/table",byteOffset:=0},{name:="seq",type:=22,offset:=1,embedded:=false,tag:="",pkgPath:="carrack/table",byteOffset:=8}]):=Tryz.underlying164
theorem rW.info:PG.info? rW=some Tryz.t164:=by kernel_rfl
theorem rW.size:Tryz.t164.size=2:=rfl
theorem rW.loadAgg:aIz rW 2:=pH rW.und rfl rW.info rW.size
theorem eP.und:PG.underlying eP=some (TypeDesc.slice 246):=Tryz.underlying175
theorem eP.load{h:PH}{a:Addr}:cD PG h (loadAt eP (.pointer (some a)))=dD h a:=iK eP.und rfl
theorem fT.f0:fAz fT 0:=by intro _ _;kernel_rfl
theorem fT.f1:pG fT 1 1:=by intro _ _;kernel_rfl
theorem fT.f2:pG fT 2 2:=by intro _ _;kernel_rfl
theorem fT.f3:pG fT 3 3:=by intro _ _;kernel_rfl
theorem cN.und:PG.underlying cN=some (TypeDesc.slice 257):=Tryz.underlying184
theorem cN.info:PG.info? cN=some Tryz.t184:=by kernel_rfl
theorem cN.size:Tryz.t184.size=1:=rfl
theorem cN.load{h:PH}{a:Addr}:cD PG h (loadAt cN (.pointer (some a)))=dD h a:=iK cN.und rfl
theorem cN.put:aJm cN:=λH a b c=>H.put1 cN.und rfl cN.info cN.size a b c
theorem cC.und:PG.underlying cC=some (TypeDesc.struct #[{name:="Absent",type:=4,offset:=0,embedded:=false,tag:="",pkgPath:="",byteOffset:=0},{name:="Leaves",type:=184,offset:=1,embedded:=false,tag:="",pkgPath:="",byteOffset:=8}]):=Tryz.underlying186
theorem cC.info:PG.info? cC=some Tryz.t186:=by kernel_rfl
theorem cC.size:Tryz.t186.size=2:=rfl
theorem cC.zbox{h:PH}{r:Nat}:Bx (h.set r (.cells (dP PG cC) cC)) r ((Value.agg #[Value.bool false,Value.slice none 0 0])).cells.toList:=Bx.zero (by kernel_rfl)
theorem cC.zc:dP PG cC=((Value.agg #[Value.bool false,Value.slice none 0 0])).cells:=by kernel_rfl
theorem cC.agg:aIm cC 2:=λH=>H.agg cC.und rfl cC.info cC.size
theorem cC.put:aLM cC 2:=aMw cC.info rfl (by decide)
theorem cC.fill:aGd cC 2:=aHT cC.info rfl (by decide) (by rw[cC.zc];rfl)
theorem cC.f0:fAz cC 0:=by intro _ _;kernel_rfl
theorem cC.f1:pG cC 1 1:=by intro _ _;kernel_rfl
theorem cK.und:PG.underlying cK=some (TypeDesc.struct #[{name:="is",type:=26,offset:=0,embedded:=false,tag:="",pkgPath:="carrack/chain",byteOffset:=0},{name:="e",type:=63,offset:=1,embedded:=false,tag:="",pkgPath:="carrack/chain",byteOffset:=8}]):=Tryz.underlying193
theorem cK.info:PG.info? cK=some Tryz.t193:=by kernel_rfl
theorem cK.size:Tryz.t193.size=2:=rfl
theorem cK.bytes:Tryz.t193.bytes=16:=rfl
theorem cK.zero:Tryz.t193.zero=some (Value.agg #[Value.nilFunc,Value.int IntKind.i64 0]):=rfl
theorem cK.zbox{h:PH}{r:Nat}:Bx (h.set r (.cells (dP PG cK) cK)) r ((Value.agg #[Value.nilFunc,Value.int IntKind.i64 0])).cells.toList:=Bx.zero (by kernel_rfl)
theorem cK.zc:dP PG cK=((Value.agg #[Value.nilFunc,Value.int IntKind.i64 0])).cells:=by kernel_rfl
theorem cK.agg:aIm cK 2:=λH=>H.agg cK.und rfl cK.info cK.size
theorem cK.put:aLM cK 2:=aMw cK.info rfl (by decide)
theorem cK.fill:aGd cK 2:=aHT cK.info rfl (by decide) (by rw[cK.zc];rfl)
theorem cK.f0:fAz cK 0:=by intro _ _;kernel_rfl
theorem cK.f1:pG cK 1 1:=by intro _ _;kernel_rfl
theorem iR.und:PG.underlying iR=some (TypeDesc.struct #[{name:="l",type:=65,offset:=0,embedded:=false,tag:="",pkgPath:="carrack/store",byteOffset:=0}]):=Tryz.underlying198
theorem iR.info:PG.info? iR=some Tryz.t198:=by kernel_rfl
theorem iR.size:Tryz.t198.size=1:=rfl
theorem iR.loadAgg:aIz iR 1:=pH iR.und rfl iR.info iR.size
theorem iR.f0:fAz iR 0:=by intro _ _;kernel_rfl
theorem dS.und:PG.underlying dS=some (TypeDesc.struct #[{name:="sorted",type:=198,offset:=0,embedded:=true,tag:="",pkgPath:="carrack/store",byteOffset:=0},{name:="root",type:=9,offset:=1,embedded:=false,tag:="",pkgPath:="carrack/store",byteOffset:=24}]):=Tryz.underlying200
theorem dS.info:PG.info? dS=some Tryz.t200:=by kernel_rfl
theorem dS.size:Tryz.t200.size=2:=rfl
theorem dS.bytes:Tryz.t200.bytes=40:=rfl
theorem dS.zero:Tryz.t200.zero=some (Value.agg #[Value.slice none 0 0,Value.string {data:=#[]}]):=rfl
theorem dS.zc:dP PG dS=((Value.agg #[Value.slice none 0 0,Value.string {data:=#[]}])).cells:=by kernel_rfl
theorem dS.loadAgg:aIz dS 2:=pH dS.und rfl dS.info dS.size
theorem dS.f0:fAz dS 0:=by intro _ _;kernel_rfl
theorem dS.f1:pG dS 1 1:=by intro _ _;kernel_rfl
theorem kW.und:PG.underlying kW=some (TypeDesc.func #[9] #[4] false):=Tryz.underlying206
theorem kW.load{h:PH}{a:Addr}:cD PG h (loadAt kW (.pointer (some a)))=dD h a:=iK kW.und rfl
theorem fO.und:PG.underlying fO=some (TypeDesc.slice 200):=Tryz.underlying219
theorem fO.info:PG.info? fO=some Tryz.t219:=by kernel_rfl
theorem fO.size:Tryz.t219.size=1:=rfl
theorem fO.load{h:PH}{a:Addr}:cD PG h (loadAt fO (.pointer (some a)))=dD h a:=iK fO.und rfl
theorem eM.f0:fAz eM 0:=by intro _ _;kernel_rfl
theorem eM.f1:pG eM 1 1:=by intro _ _;kernel_rfl
theorem eM.f2:pG eM 2 2:=by intro _ _;kernel_rfl
theorem tY.und:PG.underlying tY=some (TypeDesc.slice 3):=Tryz.underlying238
theorem dR.und:PG.underlying dR=some (TypeDesc.slice 287):=Tryz.underlying242
theorem dR.info:PG.info? dR=some Tryz.t242:=by kernel_rfl
theorem dR.size:Tryz.t242.size=1:=rfl
theorem dR.load{h:PH}{a:Addr}:cD PG h (loadAt dR (.pointer (some a)))=dD h a:=iK dR.und rfl
theorem gE.f0:fAz gE 0:=by intro _ _;kernel_rfl
theorem gE.build0:dA PG (build gE #[])=some (Value.agg #[Value.slice none 0 0]):=by kernel_rfl
theorem cL.und:PG.underlying cL=some (TypeDesc.int IntKind.u32):=Tryz.underlying246
theorem cL.info:PG.info? cL=some Tryz.t246:=by kernel_rfl
theorem cL.size:Tryz.t246.size=1:=rfl
theorem cL.bytes:Tryz.t246.bytes=4:=rfl
theorem cL.zero:Tryz.t246.zero=some (Value.int IntKind.u32 0):=rfl
theorem cL.load{h:PH}{a:Addr}:cD PG h (loadAt cL (.pointer (some a)))=dD h a:=iK cL.und rfl
theorem hE.und:PG.underlying hE=some (TypeDesc.map 22 9):=Tryz.underlying249
theorem hE.load{h:PH}{a:Addr}:cD PG h (loadAt hE (.pointer (some a)))=dD h a:=iK hE.und rfl
theorem gQ.f0:fAz gQ 0:=by intro _ _;kernel_rfl
theorem gQ.f1:pG gQ 1 1:=by intro _ _;kernel_rfl
theorem cP.und:PG.underlying cP=some (TypeDesc.slice 9):=Tryz.underlying255
theorem cP.info:PG.info? cP=some Tryz.t255:=by kernel_rfl
theorem cP.size:Tryz.t255.size=1:=rfl
theorem cP.zbox{h:PH}{r:Nat}:Bx (h.set r (.cells (dP PG cP) cP)) r ((Value.slice none 0 0)).cells.toList:=Bx.zero (by kernel_rfl)
theorem cP.load{h:PH}{a:Addr}:cD PG h (loadAt cP (.pointer (some a)))=dD h a:=iK cP.und rfl
theorem cP.put:aJm cP:=λH a b c=>H.put1 cP.und rfl cP.info cP.size a b c
theorem cB.und:PG.underlying cB=some (TypeDesc.struct #[{name:="Index",type:=3,offset:=0,embedded:=false,tag:="",pkgPath:="",byteOffset:=0},{name:="Count",type:=3,offset:=1,embedded:=false,tag:="",pkgPath:="",byteOffset:=8},{name:="Pair",type:=130,offset:=2,embedded:=false,tag:="",pkgPath:="",byteOffset:=16},{name:="Path",type:=255,offset:=4,embedded:=false,tag:="",pkgPath:="",byteOffset:=48}]):=Tryz.underlying257
theorem cB.info:PG.info? cB=some Tryz.t257:=by kernel_rfl
theorem cB.size:Tryz.t257.size=5:=rfl
theorem cB.bytes:Tryz.t257.bytes=72:=rfl
theorem cB.zero:Tryz.t257.zero=some (Value.agg #[Value.int IntKind.i64 0,Value.int IntKind.i64 0,Value.string {data:=#[]},Value.string {data:=#[]},Value.slice none 0 0]):=rfl
theorem cB.zbox{h:PH}{r:Nat}:Bx (h.set r (.cells (dP PG cB) cB)) r ((Value.agg #[Value.int IntKind.i64 0,Value.int IntKind.i64 0,Value.string {data:=#[]},Value.string {data:=#[]},Value.slice none 0 0])).cells.toList:=Bx.zero (by kernel_rfl)
theorem cB.zc:dP PG cB=((Value.agg #[Value.int IntKind.i64 0,Value.int IntKind.i64 0,Value.string {data:=#[]},Value.string {data:=#[]},Value.slice none 0 0])).cells:=by kernel_rfl
theorem cB.agg:aIm cB 5:=λH=>H.agg cB.und rfl cB.info cB.size
theorem cB.put:aLM cB 5:=aMw cB.info rfl (by decide)
theorem cB.fill:aGd cB 5:=aHT cB.info rfl (by decide) (by rw[cB.zc];rfl)
theorem cB.f0:fAz cB 0:=by intro _ _;kernel_rfl
theorem cB.f1:pG cB 1 1:=by intro _ _;kernel_rfl
theorem cB.f2:pG cB 2 2:=by intro _ _;kernel_rfl
theorem cB.f3:pG cB 3 4:=by intro _ _;kernel_rfl
theorem nN.f0:fAz nN 0:=by intro _ _;kernel_rfl
theorem dU.und:PG.underlying dU=some (TypeDesc.pointer 263):=Tryz.underlying261
theorem dU.info:PG.info? dU=some Tryz.t261:=by kernel_rfl
theorem dU.size:Tryz.t261.size=1:=rfl
theorem dU.load{h:PH}{a:Addr}:cD PG h (loadAt dU (.pointer (some a)))=dD h a:=iK dU.und rfl
theorem dG.info:PG.info? dG=some Tryz.t263:=by kernel_rfl
theorem dG.size:Tryz.t263.size=2:=rfl
theorem dG.zc:dP PG dG=((Value.agg #[Value.pointer none,Value.slice none 0 0])).cells:=by kernel_rfl
theorem dG.f0:fAz dG 0:=by intro _ _;kernel_rfl
theorem dG.f1:pG dG 1 1:=by intro _ _;kernel_rfl
theorem fJ.zc:dP PG fJ=((Value.agg #[Value.int IntKind.i64 0,Value.pointer none,Value.slice none 0 0])).cells:=by kernel_rfl
theorem fJ.f0:fAz fJ 0:=by intro _ _;kernel_rfl
theorem fJ.f1:pG fJ 1 1:=by intro _ _;kernel_rfl
theorem jD.und:PG.underlying jD=some (TypeDesc.slice 193):=Tryz.underlying271
theorem eH.und:PG.underlying eH=some (TypeDesc.struct #[{name:="Height",type:=22,offset:=0,embedded:=false,tag:="",pkgPath:="",byteOffset:=0},{name:="Root",type:=9,offset:=1,embedded:=false,tag:="",pkgPath:="",byteOffset:=8}]):=Tryz.underlying287
theorem eH.info:PG.info? eH=some Tryz.t287:=by kernel_rfl
theorem eH.size:Tryz.t287.size=2:=rfl
theorem eH.bytes:Tryz.t287.bytes=24:=rfl
theorem eH.zero:Tryz.t287.zero=some (Value.agg #[Value.int IntKind.u64 0,Value.string {data:=#[]}]):=rfl
theorem eH.f0:fAz eH 0:=by intro _ _;kernel_rfl
theorem eH.f1:pG eH 1 1:=by intro _ _;kernel_rfl
theorem fK.und:PG.underlying fK=some (TypeDesc.func #[65,3] #[] false):=Tryz.underlying354
theorem fK.info:PG.info? fK=some Tryz.t354:=by kernel_rfl
theorem fK.size:Tryz.t354.size=1:=rfl
theorem fK.zc:dP PG fK=(Value.nilFunc).cells:=by kernel_rfl
theorem fK.load{h:PH}{a:Addr}:cD PG h (loadAt fK (.pointer (some a)))=dD h a:=iK fK.und rfl
theorem fK.fill{h:PH}{r:Nat}{v:Value}{k:cE}(hr:h r=none)(hv:fP v=true)(hk:∀h',Bx h' r [v]->cZ h h'->k undef h'):cY PG (dN fK (pT r 0) v) (h.set r (.cells (dP PG fK) fK)) k:=Bx.fill1 hr fK.und rfl fK.info fK.size (by rw[fK.zc];rfl) hv hk
theorem gK.f0:fAz gK 0:=by intro _ _;kernel_rfl
theorem gK.f1:pG gK 1 1:=by intro _ _;kernel_rfl
theorem fQ.und:PG.underlying fQ=some (TypeDesc.func #[3,3] #[9] false):=Tryz.underlying363
theorem fQ.info:PG.info? fQ=some Tryz.t363:=by kernel_rfl
theorem fQ.size:Tryz.t363.size=1:=rfl
theorem fQ.zc:dP PG fQ=(Value.nilFunc).cells:=by kernel_rfl
theorem fQ.load{h:PH}{a:Addr}:cD PG h (loadAt fQ (.pointer (some a)))=dD h a:=iK fQ.und rfl
theorem fQ.fill{h:PH}{r:Nat}{v:Value}{k:cE}(hr:h r=none)(hv:fP v=true)(hk:∀h',Bx h' r [v]->cZ h h'->k undef h'):cY PG (dN fQ (pT r 0) v) (h.set r (.cells (dP PG fQ) fQ)) k:=Bx.fill1 hr fQ.und rfl fQ.info fQ.size (by rw[fQ.zc];rfl) hv hk
theorem eR.f0:fAz eR 0:=by intro _ _;kernel_rfl
theorem eR.f1:pG eR 1 1:=by intro _ _;kernel_rfl
theorem eR.f2:pG eR 2 2:=by intro _ _;kernel_rfl
theorem gJ.f0:fAz gJ 0:=by intro _ _;kernel_rfl
theorem gJ.f1:pG gJ 1 1:=by intro _ _;kernel_rfl
theorem eN.und:PG.underlying eN=some (TypeDesc.array 8 246):=Tryz.underlying376
theorem eN.info:PG.info? eN=some Tryz.t376:=by kernel_rfl
theorem eN.size:Tryz.t376.size=8:=rfl
theorem eN.zc:dP PG eN=((Value.agg (Array.replicate 8 (Value.int IntKind.u32 0)))).cells:=by kernel_rfl
theorem eN.loadAgg:aIz eN 8:=pH eN.und rfl eN.info eN.size
theorem gZ.und:PG.underlying gZ=some (TypeDesc.struct #[{name:="h",type:=376,offset:=0,embedded:=false,tag:="",pkgPath:="carrack/sha",byteOffset:=0}]):=Tryz.underlying378
theorem gZ.info:PG.info? gZ=some Tryz.t378:=by kernel_rfl
theorem gZ.size:Tryz.t378.size=8:=rfl
theorem gZ.zc:dP PG gZ=((Value.agg (Array.replicate 8 (Value.int IntKind.u32 0)))).cells:=by kernel_rfl
theorem gZ.loadAgg:aIz gZ 8:=pH gZ.und rfl gZ.info gZ.size
theorem gZ.f0:fAz gZ 0:=by intro _ _;kernel_rfl
theorem eY.und:PG.underlying eY=some (TypeDesc.struct #[{name:="state",type:=378,offset:=0,embedded:=true,tag:="",pkgPath:="carrack/sha",byteOffset:=0},{name:="rest",type:=9,offset:=8,embedded:=false,tag:="",pkgPath:="carrack/sha",byteOffset:=32},{name:="n",type:=3,offset:=9,embedded:=false,tag:="",pkgPath:="carrack/sha",byteOffset:=48}]):=Tryz.underlying381
theorem eY.info:PG.info? eY=some Tryz.t381:=by kernel_rfl
theorem eY.size:Tryz.t381.size=10:=rfl
theorem eY.zc:dP PG eY=((Value.agg #[Value.int IntKind.u32 0,Value.int IntKind.u32 0,Value.int IntKind.u32 0,Value.int IntKind.u32 0,Value.int IntKind.u32 0,Value.int IntKind.u32 0,Value.int IntKind.u32 0,Value.int IntKind.u32 0,Value.string {data:=#[]},Value.int IntKind.i64 0])).cells:=by kernel_rfl
theorem eY.loadAgg:aIz eY 10:=pH eY.und rfl eY.info eY.size
theorem eY.f0:fAz eY 0:=by intro _ _;kernel_rfl
theorem eY.f1:pG eY 1 8:=by intro _ _;kernel_rfl
theorem eY.f2:pG eY 2 9:=by intro _ _;kernel_rfl
theorem iE.und:PG.underlying iE=some TypeDesc.unsafePointer:=Tryz.underlying389
theorem eX.und:PG.underlying eX=some (TypeDesc.array 64 246):=Tryz.underlying396
theorem eX.info:PG.info? eX=some Tryz.t396:=by kernel_rfl
theorem eX.size:Tryz.t396.size=64:=rfl
theorem eX.zc:dP PG eX=((Value.agg (Array.replicate 64 (Value.int IntKind.u32 0)))).cells:=by kernel_rfl
theorem eX.loadAgg:aIz eX 64:=pH eX.und rfl eX.info eX.size
end Go.Proofs.YtppgkeodaejgcaaGreatDoor
