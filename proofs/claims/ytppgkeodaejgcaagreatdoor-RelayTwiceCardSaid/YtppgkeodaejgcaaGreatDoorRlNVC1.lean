import Derived.Test.YtppgkeodaejgcaaGreatDoorRlNVC0
import Derived.Test.YtppgkeodaejgcaaGreatDoorChecked
import Derived.KernelRfl
set_option linter.all false
set_option maxRecDepth 100000
open Go.Instr (loadAt fieldAt indexAt extract buildSlice build)
namespace Go.Proofs.YtppgkeodaejgcaaGreatDoor
open Go
noncomputable abbrev PG:Program:=Tryz.prog
theorem mix:PG.follows .mixedOrders=true:=by kernel_rfl
abbrev zZ:FuncId:=5
abbrev aDC:FuncId:=9
abbrev aEP:FuncId:=10
abbrev aAE:FuncId:=11
abbrev aHF:FuncId:=12
abbrev uJ:FuncId:=13
abbrev jV:FuncId:=14
abbrev aGC:FuncId:=15
abbrev aAu:FuncId:=17
abbrev rV:FuncId:=18
abbrev zF:FuncId:=19
abbrev aDM:FuncId:=36
abbrev aEF:FuncId:=37
abbrev aJH:FuncId:=38
abbrev rG:FuncId:=39
abbrev uU:FuncId:=40
abbrev wJ:FuncId:=41
abbrev aEO:FuncId:=42
abbrev aBD:FuncId:=43
abbrev zR:FuncId:=44
abbrev aAw:FuncId:=45
abbrev aBf:FuncId:=46
abbrev xQ:FuncId:=47
abbrev aC0:FuncId:=48
abbrev aCA:FuncId:=49
abbrev yT:FuncId:=50
abbrev uC:FuncId:=51
abbrev tW:FuncId:=52
abbrev rB:FuncId:=53
abbrev qC:FuncId:=54
abbrev qT:FuncId:=55
abbrev aES:FuncId:=56
abbrev yQ:FuncId:=57
abbrev pG:FuncId:=58
abbrev aAF:FuncId:=59
abbrev aCT:FuncId:=60
abbrev aBv:FuncId:=61
abbrev aB2:FuncId:=62
abbrev aBX:FuncId:=63
abbrev aBx:FuncId:=64
abbrev kB:FuncId:=65
abbrev tT:FuncId:=66
abbrev uA:FuncId:=67
abbrev aBA:FuncId:=79
abbrev aAP:FuncId:=80
abbrev aJI:FuncId:=81
abbrev aIi:FuncId:=82
abbrev aFd:FuncId:=83
abbrev aGL:FuncId:=84
abbrev aHX:FuncId:=85
abbrev aHj:FuncId:=86
abbrev jM:FuncId:=87
abbrev yP:FuncId:=88
abbrev tQ:FuncId:=89
abbrev tA:FuncId:=90
abbrev tR:FuncId:=91
abbrev aBL:FuncId:=92
abbrev uE:FuncId:=93
abbrev aAL:FuncId:=94
abbrev wM:FuncId:=95
abbrev wS:FuncId:=96
abbrev aCd:FuncId:=97
abbrev aDq:FuncId:=98
abbrev tS:FuncId:=99
abbrev aC4:FuncId:=100
abbrev aGt:FuncId:=101
abbrev aGA:FuncId:=102
abbrev tL:FuncId:=103
abbrev tK:FuncId:=104
abbrev uD:FuncId:=105
abbrev aDY:FuncId:=106
abbrev aDS:FuncId:=107
abbrev zM:FuncId:=108
abbrev aAp:FuncId:=109
abbrev aHn:FuncId:=110
abbrev mM:FuncId:=111
abbrev aDA:FuncId:=112
abbrev yA:FuncId:=113
abbrev zU:FuncId:=114
abbrev zV:FuncId:=115
abbrev sK:FuncId:=116
abbrev aAB:FuncId:=117
abbrev aAJ:FuncId:=118
abbrev vQ:FuncId:=119
abbrev xC:FuncId:=120
abbrev aD3:FuncId:=121
abbrev aDe:FuncId:=122
abbrev aAk:FuncId:=123
abbrev mH:FuncId:=124
abbrev aEL:FuncId:=125
abbrev rC:FuncId:=126
abbrev aGP:FuncId:=128
abbrev aEJ:FuncId:=129
abbrev aED:FuncId:=143
abbrev aCL:FuncId:=144
abbrev aAM:FuncId:=145
abbrev aC1:FuncId:=146
abbrev aC2:FuncId:=147
abbrev aF5:FuncId:=148
abbrev uR:FuncId:=149
abbrev lT:FuncId:=150
abbrev aGI:FuncId:=151
abbrev aB1:FuncId:=152
abbrev nZ:FuncId:=153
abbrev mS:FuncId:=154
abbrev sB:FuncId:=155
abbrev tE:FuncId:=156
abbrev uY:FuncId:=157
abbrev jA:FuncId:=158
abbrev aE7:FuncId:=159
abbrev aEu:FuncId:=160
abbrev aCC:FuncId:=161
abbrev aCs:FuncId:=162
abbrev rM:FuncId:=163
abbrev rN:FuncId:=164
abbrev aFK:FuncId:=165
abbrev aFG:FuncId:=166
abbrev aBY:FuncId:=167
abbrev aEM:FuncId:=168
abbrev aDX:FuncId:=169
abbrev rK:FuncId:=170
abbrev uT:FuncId:=171
abbrev aBH:FuncId:=172
abbrev aCJ:FuncId:=173
abbrev sZ:FuncId:=174
abbrev oD:FuncId:=175
abbrev vX:FuncId:=176
abbrev sN:FuncId:=177
abbrev nJ:FuncId:=178
abbrev pI:FuncId:=179
abbrev mW:FuncId:=180
abbrev uQ:FuncId:=181
abbrev mT:FuncId:=182
abbrev aA6:FuncId:=183
abbrev xR:FuncId:=184
abbrev sG:FuncId:=185
abbrev oE:FuncId:=186
abbrev aCp:FuncId:=187
abbrev wY:FuncId:=188
abbrev aHM:FuncId:=189
abbrev aFV:FuncId:=190
abbrev sU:FuncId:=191
abbrev rJ:FuncId:=192
abbrev aAr:FuncId:=193
abbrev aMU:FuncId:=202
abbrev aIO:FuncId:=203
abbrev aCx:FuncId:=214
abbrev aDz:FuncId:=215
abbrev qV:FuncId:=216
abbrev qR:FuncId:=217
abbrev oO:FuncId:=218
abbrev zC:FuncId:=219
abbrev aHl:FuncId:=220
abbrev uX:FuncId:=221
abbrev pD:FuncId:=222
abbrev aFg:FuncId:=223
abbrev lJ:FuncId:=224
abbrev yD:FuncId:=225
abbrev kX:FuncId:=226
abbrev oN:FuncId:=227
abbrev kM:FuncId:=228
abbrev aHs:FuncId:=229
abbrev aAv:FuncId:=230
abbrev aFh:FuncId:=231
abbrev wT:FuncId:=232
abbrev aIh:FuncId:=233
abbrev aEs:FuncId:=234
abbrev aGU:FuncId:=235
abbrev aGr:FuncId:=236
abbrev tU:FuncId:=237
abbrev aCo:FuncId:=238
abbrev yX:FuncId:=239
abbrev rI:FuncId:=240
abbrev aAQ:FuncId:=241
abbrev kH:FuncId:=242
abbrev zQ:FuncId:=243
abbrev rW:FuncId:=244
abbrev mF:FuncId:=245
abbrev yW:FuncId:=246
abbrev xO:FuncId:=247
abbrev aIs:FuncId:=248
abbrev aLh:FuncId:=249
abbrev aCX:FuncId:=250
abbrev aHH:FuncId:=251
abbrev aAl:FuncId:=260
abbrev aC9:FuncId:=261
abbrev aD4:FuncId:=262
abbrev aFE:FuncId:=263
abbrev aC8:FuncId:=264
abbrev aCt:FuncId:=265
abbrev aDk:FuncId:=266
abbrev yG:FuncId:=267
abbrev mI:FuncId:=268
abbrev mG:FuncId:=269
abbrev xY:FuncId:=270
abbrev aFN:FuncId:=271
abbrev aA2:FuncId:=272
abbrev yE:FuncId:=273
abbrev aEG:FuncId:=274
abbrev aCR:FuncId:=275
abbrev vF:FuncId:=276
abbrev yO:FuncId:=277
abbrev vA:FuncId:=278
abbrev rD:FuncId:=279
abbrev sE:FuncId:=280
abbrev xN:FuncId:=281
abbrev xV:FuncId:=282
abbrev mD:FuncId:=283
abbrev aCw:FuncId:=284
abbrev aMp:FuncId:=285
abbrev aGS:FuncId:=286
abbrev aGV:FuncId:=287
abbrev aFf:FuncId:=288
abbrev aEE:FuncId:=289
abbrev aCE:FuncId:=292
abbrev wP:FuncId:=293
abbrev zA:FuncId:=294
abbrev aAs:FuncId:=295
abbrev aCz:FuncId:=296
abbrev aEK:FuncId:=297
abbrev aCm:FuncId:=298
abbrev lQ:FuncId:=299
abbrev tO:FuncId:=300
abbrev qK:FuncId:=301
abbrev yC:FuncId:=302
abbrev aCP:FuncId:=303
abbrev aJn:FuncId:=304
abbrev qZ:FuncId:=305
abbrev aGM:FuncId:=306
abbrev vD:FuncId:=307
abbrev aBP:FuncId:=308
abbrev sC:FuncId:=309
abbrev jZ:FuncId:=310
abbrev aEU:FuncId:=311
abbrev aL2:FuncId:=312
abbrev aIQ:FuncId:=313
abbrev aFb:FuncId:=315
abbrev uS:FuncId:=316
abbrev T_:TypeId:=0
abbrev bT:TypeId:=3
abbrev fY:TypeId:=4
abbrev dP:TypeId:=5
abbrev bR:TypeId:=9
abbrev cA:TypeId:=22
abbrev eK:TypeId:=23
abbrev iM:TypeId:=24
abbrev lB:TypeId:=25
abbrev aAZ:TypeId:=26
abbrev cU:TypeId:=28
abbrev cX:TypeId:=29
abbrev aR:TypeId:=34
abbrev cH:TypeId:=36
abbrev fE:TypeId:=40
abbrev fX:TypeId:=42
abbrev eZ:TypeId:=43
abbrev jQ:TypeId:=44
abbrev eQ:TypeId:=45
abbrev dQ:TypeId:=46
abbrev cQ:TypeId:=48
abbrev iH:TypeId:=49
abbrev kY:TypeId:=50
abbrev lO:TypeId:=52
abbrev nS:TypeId:=54
abbrev dA:TypeId:=55
abbrev dG:TypeId:=57
abbrev dX:TypeId:=58
abbrev fV:TypeId:=63
abbrev cJ:TypeId:=65
abbrev gV:TypeId:=67
abbrev dS:TypeId:=68
abbrev eS:TypeId:=70
abbrev iT:TypeId:=71
abbrev dV:TypeId:=73
abbrev iQ:TypeId:=74
abbrev cI:TypeId:=105
abbrev cK:TypeId:=130
abbrev eY:TypeId:=131
abbrev dL:TypeId:=133
abbrev jE:TypeId:=135
abbrev jF:TypeId:=136
abbrev dO:TypeId:=137
abbrev kA:TypeId:=139
abbrev mN:TypeId:=141
abbrev gG:TypeId:=143
abbrev fZ:TypeId:=154
abbrev sO:TypeId:=164
abbrev aQR:TypeId:=166
abbrev eP:TypeId:=175
abbrev fT:TypeId:=179
abbrev cN:TypeId:=184
abbrev cC:TypeId:=186
abbrev cL:TypeId:=193
abbrev iX:TypeId:=198
abbrev dT:TypeId:=200
abbrev kZ:TypeId:=206
abbrev fL:TypeId:=219
abbrev eM:TypeId:=221
abbrev uN:TypeId:=238
abbrev dR:TypeId:=242
abbrev gA:TypeId:=244
abbrev cM:TypeId:=246
abbrev hQ:TypeId:=249
abbrev gQ:TypeId:=251
abbrev cP:TypeId:=255
abbrev cB:TypeId:=257
abbrev oA:TypeId:=260
abbrev dW:TypeId:=261
abbrev dH:TypeId:=263
abbrev fJ:TypeId:=265
abbrev jH:TypeId:=271
abbrev eJ:TypeId:=287
abbrev fK:TypeId:=354
abbrev oL:TypeId:=358
abbrev gJ:TypeId:=360
abbrev fS:TypeId:=363
abbrev eR:TypeId:=368
abbrev gK:TypeId:=374
abbrev eN:TypeId:=376
abbrev hE:TypeId:=378
abbrev eW:TypeId:=381
abbrev iG:TypeId:=389
abbrev eV:TypeId:=396
theorem bT.und:PG.underlying bT=some (TypeDesc.int IntKind.i64):=Tryz.underlying3
theorem bT.info:PG.info? bT=some Tryz.t3:=by kernel_rfl
theorem bT.size:Tryz.t3.size=1:=rfl
theorem bT.load{h:PH}{a:Addr}:cG PG h (loadAt bT (.pointer (some a)))=dE h a:=iN bT.und rfl
abbrev aMe(t:TypeId)(n:Nat):Prop:=∀{h:PH} {r o:Nat} {cs vs:List Value} {k:cD} (H:Bx h r cs) (hl:vs.length=n) (ho:o+n≤cs.length) (hv:∀v∈vs,fO v=true) (hk:∀h',Bx h' r (cs.take o++vs++cs.drop (o+n))->cV [r] h h'->k undef h'),cZ PG (dM t (pT r o) (.agg vs.toArray)) h k
theorem aNl{t:TypeId}{n:Nat}{i:TypeInfo}(hi:PG.info? t=some i)(hn:i.size=n)(h0:0<n):aMe t n:=by
 intro h r o cs vs k H hl ho hv hk;exact H.putN hi (by rw[hl];exact hn) (by omega) (by omega) hv (by rw[hl];exact hk)
abbrev aGF(t:TypeId)(n:Nat):Prop:=∀{h:PH} {r:Nat} {vs:List Value} {k:cD} (hr:h r=none) (hl:vs.length=n) (hv:∀v∈vs,fO v=true) (hk:∀h',Bx h' r vs->dB h h'->k undef h'),cZ PG (dM t (pT r 0) (.agg vs.toArray)) (h.set r (.cells (dN PG t) t)) k
theorem aG1{t:TypeId}{n:Nat}{i:TypeInfo}(hi:PG.info? t=some i)(hn:i.size=n)(h0:0<n)(hz:(dN PG t).size=n):aGF t n:=by
 intro h r vs k hr hl hv hk;exact Bx.fill hr hi (by rw[hl];exact hn) (by omega) (by rw[hz,hl]) hv hk
abbrev aJe(t:TypeId)(n:Nat):Prop:=∀{h:PH} {r o:Nat} {cs:List Value} (H:Bx h r cs) (hle:o+n≤cs.length),cG PG h (loadAt t (pT r o))=some (.agg ((cs.drop o).take n).toArray)
abbrev aJi(t:TypeId)(n:Nat):Prop:=∀{h:PH} {b o:Nat} {c:Array Value} {e:TypeId} {fr:Nat×Nat} (hb:h b=some (.cells c e fr)) (hle:o+n≤c.size),cG PG h (loadAt t (pT b o))=some (.agg (c.extract o (o+n)))
abbrev aKT(t:TypeId):Prop:=∀{h:PH} {r o:Nat} {cs:List Value} {v:Value} {k:cD} (H:Bx h r cs) (ho:o<cs.length) (hv:fO v=true) (hk:∀h',Bx h' r (cs.set o v)->cV [r] h h'->k undef h'),cZ PG (dM t (pT r o) v) h k
theorem bT.put:aKT bT:=λH a b c=>H.put1 bT.und rfl bT.info bT.size a b c
theorem fY.und:PG.underlying fY=some TypeDesc.bool:=Tryz.underlying4
theorem fY.info:PG.info? fY=some Tryz.t4:=by kernel_rfl
theorem fY.size:Tryz.t4.size=1:=rfl
theorem fY.zbox{h:PH}{r:Nat}:Bx (h.set r (.cells (dN PG fY) fY)) r ((Value.bool false)).cells.toList:=Bx.zero (by kernel_rfl)
theorem fY.load{h:PH}{a:Addr}:cG PG h (loadAt fY (.pointer (some a)))=dE h a:=iN fY.und rfl
theorem fY.put:aKT fY:=λH a b c=>H.put1 fY.und rfl fY.info fY.size a b c
theorem dP.und:PG.underlying dP=some (TypeDesc.int IntKind.u8):=Tryz.underlying5
theorem dP.info:PG.info? dP=some Tryz.t5:=by kernel_rfl
theorem dP.size:Tryz.t5.size=1:=rfl
theorem dP.bytes:Tryz.t5.bytes=1:=rfl
theorem dP.zero:Tryz.t5.zero=some (Value.int IntKind.u8 0):=rfl
theorem bR.und:PG.underlying bR=some TypeDesc.string:=Tryz.underlying9
theorem bR.info:PG.info? bR=some Tryz.t9:=by kernel_rfl
theorem bR.size:Tryz.t9.size=1:=rfl
theorem bR.bytes:Tryz.t9.bytes=16:=rfl
theorem bR.zero:Tryz.t9.zero=some (Value.string {data:=#[]}):=rfl
theorem bR.zbox{h:PH}{r:Nat}:Bx (h.set r (.cells (dN PG bR) bR)) r ((Value.string {data:=#[]})).cells.toList:=Bx.zero (by kernel_rfl)
theorem bR.load{h:PH}{a:Addr}:cG PG h (loadAt bR (.pointer (some a)))=dE h a:=iN bR.und rfl
theorem bR.put:aKT bR:=λH a b c=>H.put1 bR.und rfl bR.info bR.size a b c
theorem bR.len{s:ByteArray}{t:TypeId}:dD PG (Builtin.len_ #[bR] t #[.string s])=some (.int .i64 s.size):=lX bR.und
theorem cA.und:PG.underlying cA=some (TypeDesc.int IntKind.u64):=Tryz.underlying22
theorem cA.info:PG.info? cA=some Tryz.t22:=by kernel_rfl
theorem cA.size:Tryz.t22.size=1:=rfl
theorem cA.bytes:Tryz.t22.bytes=8:=rfl
theorem cA.zero:Tryz.t22.zero=some (Value.int IntKind.u64 0):=rfl
theorem cA.load{h:PH}{a:Addr}:cG PG h (loadAt cA (.pointer (some a)))=dE h a:=iN cA.und rfl
theorem cA.put:aKT cA:=λH a b c=>H.put1 cA.und rfl cA.info cA.size a b c
theorem eK.und:PG.underlying eK=some (TypeDesc.array 2 22):=Tryz.underlying23
theorem eK.info:PG.info? eK=some Tryz.t23:=by kernel_rfl
theorem eK.size:Tryz.t23.size=2:=rfl
theorem eK.agg:aJe eK 2:=λH=>H.agg eK.und rfl eK.info eK.size
theorem iM.und:PG.underlying iM=some (TypeDesc.slice 105):=Tryz.underlying24
theorem lB.und:PG.underlying lB=some (TypeDesc.slice 40):=Tryz.underlying25
theorem aAZ.und:PG.underlying aAZ=some (TypeDesc.func #[] #[4] false):=Tryz.underlying26
theorem aAZ.load{h:PH}{a:Addr}:cG PG h (loadAt aAZ (.pointer (some a)))=dE h a:=iN aAZ.und rfl
theorem cU.und:PG.underlying cU=some (TypeDesc.pointer 73):=Tryz.underlying28
theorem cU.info:PG.info? cU=some Tryz.t28:=by kernel_rfl
theorem cU.size:Tryz.t28.size=1:=rfl
theorem cU.zc:dN PG cU=((Value.pointer none)).cells:=by kernel_rfl
theorem cU.load{h:PH}{a:Addr}:cG PG h (loadAt cU (.pointer (some a)))=dE h a:=iN cU.und rfl
theorem cU.put:aKT cU:=λH a b c=>H.put1 cU.und rfl cU.info cU.size a b c
theorem cU.fill{h:PH}{r:Nat}{v:Value}{k:cD}(hr:h r=none)(hv:fO v=true)(hk:∀h',Bx h' r [v]->dB h h'->k undef h'):cZ PG (dM cU (pT r 0) v) (h.set r (.cells (dN PG cU) cU)) k:=Bx.fill1 hr cU.und rfl cU.info cU.size (by rw[cU.zc];rfl) hv hk
theorem cX.und:PG.underlying cX=some (TypeDesc.array 2 28):=Tryz.underlying29
theorem cX.info:PG.info? cX=some Tryz.t29:=by kernel_rfl
theorem cX.size:Tryz.t29.size=2:=rfl
theorem cX.zbox{h:PH}{r:Nat}:Bx (h.set r (.cells (dN PG cX) cX)) r ((Value.agg #[Value.pointer none,Value.pointer none])).cells.toList:=Bx.zero (by kernel_rfl)
theorem cX.zc:dN PG cX=((Value.agg #[Value.pointer none,Value.pointer none])).cells:=by kernel_rfl
theorem cX.agg:aJe cX 2:=λH=>H.agg cX.und rfl cX.info cX.size
theorem cX.put:aMe cX 2:=aNl cX.info rfl (by decide)
theorem cX.fill:aGF cX 2:=aG1 cX.info rfl (by decide) (by rw[cX.zc];rfl)
theorem aR.und:PG.underlying aR=some (TypeDesc.struct #[{name:="From",type:=3,offset:=0,embedded:=false,tag:="",pkgPath:="",byteOffset:=0},{name:="Seq",type:=22,offset:=1,embedded:=false,tag:="",pkgPath:="",byteOffset:=8},{name:="Timeout",type:=22,offset:=2,embedded:=false,tag:="",pkgPath:="",byteOffset:=16},{name:="Data",type:=9,offset:=3,embedded:=false,tag:="",pkgPath:="",byteOffset:=24}]):=Tryz.underlying34
theorem aR.info:PG.info? aR=some Tryz.t34:=by kernel_rfl
theorem aR.size:Tryz.t34.size=4:=rfl
theorem aR.zbox{h:PH}{r:Nat}:Bx (h.set r (.cells (dN PG aR) aR)) r ((Value.agg #[Value.int IntKind.i64 0,Value.int IntKind.u64 0,Value.int IntKind.u64 0,Value.string {data:=#[]}])).cells.toList:=Bx.zero (by kernel_rfl)
theorem aR.zc:dN PG aR=((Value.agg #[Value.int IntKind.i64 0,Value.int IntKind.u64 0,Value.int IntKind.u64 0,Value.string {data:=#[]}])).cells:=by kernel_rfl
theorem aR.loadAgg:aJi aR 4:=pV aR.und rfl aR.info aR.size
theorem aR.agg:aJe aR 4:=λH=>H.agg aR.und rfl aR.info aR.size
theorem aR.put:aMe aR 4:=aNl aR.info rfl (by decide)
theorem aR.fill:aGF aR 4:=aG1 aR.info rfl (by decide) (by rw[aR.zc];rfl)
abbrev fAz(t:TypeId)(i:Nat):Prop:=∀{b o:Nat},dD PG (fieldAt t (pT b o) i)=some (pT b o)
theorem aR.f0:fAz aR 0:=by intro _ _;kernel_rfl
abbrev pX(t:TypeId)(i n:Nat):Prop:=∀{b o:Nat},dD PG (fieldAt t (pT b o) i)=some (pT b (o+n))
theorem aR.f1:pX aR 1 1:=by intro _ _;kernel_rfl
theorem aR.f2:pX aR 2 2:=by intro _ _;kernel_rfl
theorem aR.f3:pX aR 3 3:=by intro _ _;kernel_rfl
theorem cH.und:PG.underlying cH=some (TypeDesc.struct #[{name:="Kind",type:=3,offset:=0,embedded:=false,tag:="",pkgPath:="",byteOffset:=0},{name:="To",type:=3,offset:=1,embedded:=false,tag:="",pkgPath:="",byteOffset:=8},{name:="Height",type:=22,offset:=2,embedded:=false,tag:="",pkgPath:="",byteOffset:=16},{name:="Packet",type:=34,offset:=3,embedded:=false,tag:="",pkgPath:="",byteOffset:=24},{name:="Proof",type:=9,offset:=7,embedded:=false,tag:="",pkgPath:="",byteOffset:=64}]):=Tryz.underlying36
theorem cH.info:PG.info? cH=some Tryz.t36:=by kernel_rfl
theorem cH.size:Tryz.t36.size=8:=rfl
theorem cH.bytes:Tryz.t36.bytes=80:=rfl
theorem cH.zero:Tryz.t36.zero=some (Value.agg #[Value.int IntKind.i64 0,Value.int IntKind.i64 0,Value.int IntKind.u64 0,Value.int IntKind.i64 0,Value.int IntKind.u64 0,Value.int IntKind.u64 0,Value.string {data:=#[]},Value.string {data:=#[]}]):=rfl
theorem cH.zbox{h:PH}{r:Nat}:Bx (h.set r (.cells (dN PG cH) cH)) r ((Value.agg #[Value.int IntKind.i64 0,Value.int IntKind.i64 0,Value.int IntKind.u64 0,Value.int IntKind.i64 0,Value.int IntKind.u64 0,Value.int IntKind.u64 0,Value.string {data:=#[]},Value.string {data:=#[]}])).cells.toList:=Bx.zero (by kernel_rfl)
theorem cH.zc:dN PG cH=((Value.agg #[Value.int IntKind.i64 0,Value.int IntKind.i64 0,Value.int IntKind.u64 0,Value.int IntKind.i64 0,Value.int IntKind.u64 0,Value.int IntKind.u64 0,Value.string {data:=#[]},Value.string {data:=#[]}])).cells:=by kernel_rfl
theorem cH.agg:aJe cH 8:=λH=>H.agg cH.und rfl cH.info cH.size
theorem cH.put:aMe cH 8:=aNl cH.info rfl (by decide)
theorem cH.fill:aGF cH 8:=aG1 cH.info rfl (by decide) (by rw[cH.zc];rfl)
theorem cH.f0:fAz cH 0:=by intro _ _;kernel_rfl
theorem cH.f1:pX cH 1 1:=by intro _ _;kernel_rfl
theorem cH.f2:pX cH 2 2:=by intro _ _;kernel_rfl
theorem cH.f3:pX cH 3 3:=by intro _ _;kernel_rfl
theorem cH.f4:pX cH 4 7:=by intro _ _;kernel_rfl
theorem fE.und:PG.underlying fE=some (TypeDesc.struct #[{name:="Packet",type:=34,offset:=0,embedded:=false,tag:="",pkgPath:="",byteOffset:=0},{name:="Stage",type:=3,offset:=4,embedded:=false,tag:="",pkgPath:="",byteOffset:=40}]):=Tryz.underlying40
theorem fE.info:PG.info? fE=some Tryz.t40:=by kernel_rfl
theorem fE.size:Tryz.t40.size=5:=rfl
theorem fE.zc:dN PG fE=((Value.agg #[Value.int IntKind.i64 0,Value.int IntKind.u64 0,Value.int IntKind.u64 0,Value.string {data:=#[]},Value.int IntKind.i64 0])).cells:=by kernel_rfl
theorem fE.loadAgg:aJi fE 5:=pV fE.und rfl fE.info fE.size
theorem fE.agg:aJe fE 5:=λH=>H.agg fE.und rfl fE.info fE.size
theorem fE.fill:aGF fE 5:=aG1 fE.info rfl (by decide) (by rw[fE.zc];rfl)
theorem fE.f0:fAz fE 0:=by intro _ _;kernel_rfl
theorem fX.und:PG.underlying fX=some (TypeDesc.pointer 179):=Tryz.underlying42
theorem fX.load{h:PH}{a:Addr}:cG PG h (loadAt fX (.pointer (some a)))=dE h a:=iN fX.und rfl
theorem eZ.und:PG.underlying eZ=some (TypeDesc.pointer 133):=Tryz.underlying43
theorem eZ.load{h:PH}{a:Addr}:cG PG h (loadAt eZ (.pointer (some a)))=dE h a:=iN eZ.und rfl
theorem jQ.und:PG.underlying jQ=some (TypeDesc.pointer 244):=Tryz.underlying44
theorem jQ.load{h:PH}{a:Addr}:cG PG h (loadAt jQ (.pointer (some a)))=dE h a:=iN jQ.und rfl
theorem eQ.und:PG.underlying eQ=some (TypeDesc.slice 46):=Tryz.underlying45
theorem eQ.info:PG.info? eQ=some Tryz.t45:=by kernel_rfl
theorem eQ.size:Tryz.t45.size=1:=rfl
theorem eQ.load{h:PH}{a:Addr}:cG PG h (loadAt eQ (.pointer (some a)))=dE h a:=iN eQ.und rfl
theorem eQ.put:aKT eQ:=λH a b c=>H.put1 eQ.und rfl eQ.info eQ.size a b c
theorem dQ.und:PG.underlying dQ=some (TypeDesc.slice 154):=Tryz.underlying46
theorem dQ.info:PG.info? dQ=some Tryz.t46:=by kernel_rfl
theorem dQ.size:Tryz.t46.size=1:=rfl
theorem dQ.bytes:Tryz.t46.bytes=24:=rfl
theorem dQ.zero:Tryz.t46.zero=some (Value.slice none 0 0):=rfl
theorem dQ.load{h:PH}{a:Addr}:cG PG h (loadAt dQ (.pointer (some a)))=dE h a:=iN dQ.und rfl
theorem dQ.put:aKT dQ:=λH a b c=>H.put1 dQ.und rfl dQ.info dQ.size a b c
theorem cQ.f0:fAz cQ 0:=by intro _ _;kernel_rfl
theorem cQ.f1:pX cQ 1 1:=by intro _ _;kernel_rfl
theorem cQ.f2:pX cQ 2 2:=by intro _ _;kernel_rfl
theorem cQ.f3:pX cQ 3 3:=by intro _ _;kernel_rfl
theorem cQ.f4:pX cQ 4 4:=by intro _ _;kernel_rfl
theorem cQ.f5:pX cQ 5 5:=by intro _ _;kernel_rfl
theorem cQ.f6:pX cQ 6 6:=by intro _ _;kernel_rfl
theorem iH.und:PG.underlying iH=some (TypeDesc.pointer 48):=Tryz.underlying49
theorem iH.info:PG.info? iH=some Tryz.t49:=by kernel_rfl
theorem iH.size:Tryz.t49.size=1:=rfl
theorem iH.load{h:PH}{a:Addr}:cG PG h (loadAt iH (.pointer (some a)))=dE h a:=iN iH.und rfl
theorem kY.und:PG.underlying kY=some (TypeDesc.array 2 49):=Tryz.underlying50
theorem lO.f0:fAz lO 0:=by intro _ _;kernel_rfl
theorem dA.und:PG.underlying dA=some (TypeDesc.slice 5):=Tryz.underlying55
theorem dA.info:PG.info? dA=some Tryz.t55:=by kernel_rfl
theorem dA.size:Tryz.t55.size=1:=rfl
theorem dA.load{h:PH}{a:Addr}:cG PG h (loadAt dA (.pointer (some a)))=dE h a:=iN dA.und rfl
theorem dA.len{a:Option Addr}{n c:Nat}{t:TypeId}:dD PG (Builtin.len_ #[dA] t #[.slice a n c])=some (.int .i64 n):=aPq dA.und
theorem dG.und:PG.underlying dG=some (TypeDesc.slice 36):=Tryz.underlying57
theorem dG.info:PG.info? dG=some Tryz.t57:=by kernel_rfl
theorem dG.size:Tryz.t57.size=1:=rfl
theorem dG.load{h:PH}{a:Addr}:cG PG h (loadAt dG (.pointer (some a)))=dE h a:=iN dG.und rfl
theorem dG.put:aKT dG:=λH a b c=>H.put1 dG.und rfl dG.info dG.size a b c
theorem dX.und:PG.underlying dX=some (TypeDesc.array 2 57):=Tryz.underlying58
theorem dX.info:PG.info? dX=some Tryz.t58:=by kernel_rfl
theorem dX.size:Tryz.t58.size=2:=rfl
theorem dX.zbox{h:PH}{r:Nat}:Bx (h.set r (.cells (dN PG dX) dX)) r ((Value.agg #[Value.slice none 0 0,Value.slice none 0 0])).cells.toList:=Bx.zero (by kernel_rfl)
theorem dX.zc:dN PG dX=((Value.agg #[Value.slice none 0 0,Value.slice none 0 0])).cells:=by kernel_rfl
theorem dX.agg:aJe dX 2:=λH=>H.agg dX.und rfl dX.info dX.size
theorem dX.put:aMe dX 2:=aNl dX.info rfl (by decide)
theorem dX.fill:aGF dX 2:=aG1 dX.info rfl (by decide) (by rw[dX.zc];rfl)
theorem fV.und:PG.underlying fV=some (TypeDesc.int IntKind.i64):=Tryz.underlying63
theorem fV.info:PG.info? fV=some Tryz.t63:=by kernel_rfl
theorem fV.size:Tryz.t63.size=1:=rfl
theorem fV.load{h:PH}{a:Addr}:cG PG h (loadAt fV (.pointer (some a)))=dE h a:=iN fV.und rfl
theorem cJ.und:PG.underlying cJ=some (TypeDesc.slice 130):=Tryz.underlying65
theorem cJ.info:PG.info? cJ=some Tryz.t65:=by kernel_rfl
theorem cJ.size:Tryz.t65.size=1:=rfl
theorem cJ.bytes:Tryz.t65.bytes=24:=rfl
theorem cJ.zero:Tryz.t65.zero=some (Value.slice none 0 0):=rfl
theorem cJ.load{h:PH}{a:Addr}:cG PG h (loadAt cJ (.pointer (some a)))=dE h a:=iN cJ.und rfl
theorem gV.und:PG.underlying gV=some (TypeDesc.pointer 221):=Tryz.underlying67
theorem gV.load{h:PH}{a:Addr}:cG PG h (loadAt gV (.pointer (some a)))=dE h a:=iN gV.und rfl
theorem dS.und:PG.underlying dS=some (TypeDesc.map 9 9):=Tryz.underlying68
theorem dS.load{h:PH}{a:Addr}:cG PG h (loadAt dS (.pointer (some a)))=dE h a:=iN dS.und rfl
theorem eS.f0:fAz eS 0:=by intro _ _;kernel_rfl
theorem eS.f2:pX eS 2 2:=by intro _ _;kernel_rfl
theorem eS.f3:pX eS 3 3:=by intro _ _;kernel_rfl
theorem eS.f4:pX eS 4 4:=by intro _ _;kernel_rfl
theorem iT.und:PG.underlying iT=some (TypeDesc.pointer 251):=Tryz.underlying71
theorem iT.load{h:PH}{a:Addr}:cG PG h (loadAt iT (.pointer (some a)))=dE h a:=iN iT.und rfl
theorem dV.f0:fAz dV 0:=by intro _ _;kernel_rfl
theorem dV.f1:pX dV 1 5:=by intro _ _;kernel_rfl
theorem dV.f2:pX dV 2 6:=by intro _ _;kernel_rfl
theorem dV.f3:pX dV 3 7:=by intro _ _;kernel_rfl
theorem iQ.und:PG.underlying iQ=some (TypeDesc.array 2 65):=Tryz.underlying74
theorem iQ.info:PG.info? iQ=some Tryz.t74:=by kernel_rfl
theorem iQ.zc:dN PG iQ=((Value.agg #[Value.slice none 0 0,Value.slice none 0 0])).cells:=by kernel_rfl
theorem iQ.fill:aGF iQ 2:=aG1 iQ.info rfl (by decide) (by rw[iQ.zc];rfl)
theorem cI.und:PG.underlying cI=some (TypeDesc.struct #[{name:="Kind",type:=3,offset:=0,embedded:=false,tag:="",pkgPath:="",byteOffset:=0},{name:="Id",type:=3,offset:=1,embedded:=false,tag:="",pkgPath:="",byteOffset:=8},{name:="Height",type:=22,offset:=2,embedded:=false,tag:="",pkgPath:="",byteOffset:=16},{name:="Data",type:=9,offset:=3,embedded:=false,tag:="",pkgPath:="",byteOffset:=24},{name:="P",type:=34,offset:=4,embedded:=false,tag:="",pkgPath:="",byteOffset:=40},{name:="Spoilt",type:=4,offset:=8,embedded:=false,tag:="",pkgPath:="",byteOffset:=80}]):=Tryz.underlying105
theorem cI.info:PG.info? cI=some Tryz.t105:=by kernel_rfl
theorem cI.size:Tryz.t105.size=9:=rfl
theorem cI.zc:dN PG cI=((Value.agg #[Value.int IntKind.i64 0,Value.int IntKind.i64 0,Value.int IntKind.u64 0,Value.string {data:=#[]},Value.int IntKind.i64 0,Value.int IntKind.u64 0,Value.int IntKind.u64 0,Value.string {data:=#[]},Value.bool false])).cells:=by kernel_rfl
theorem cI.loadAgg:aJi cI 9:=pV cI.und rfl cI.info cI.size
theorem cI.agg:aJe cI 9:=λH=>H.agg cI.und rfl cI.info cI.size
theorem cI.fill:aGF cI 9:=aG1 cI.info rfl (by decide) (by rw[cI.zc];rfl)
theorem cI.f0:fAz cI 0:=by intro _ _;kernel_rfl
theorem cI.f1:pX cI 1 1:=by intro _ _;kernel_rfl
theorem cI.f2:pX cI 2 2:=by intro _ _;kernel_rfl
theorem cI.f3:pX cI 3 3:=by intro _ _;kernel_rfl
theorem cI.f4:pX cI 4 4:=by intro _ _;kernel_rfl
theorem cI.f5:pX cI 5 8:=by intro _ _;kernel_rfl
theorem cK.und:PG.underlying cK=some (TypeDesc.struct #[{name:="Key",type:=9,offset:=0,embedded:=false,tag:="",pkgPath:="",byteOffset:=0},{name:="Value",type:=9,offset:=1,embedded:=false,tag:="",pkgPath:="",byteOffset:=16}]):=Tryz.underlying130
theorem cK.info:PG.info? cK=some Tryz.t130:=by kernel_rfl
theorem cK.size:Tryz.t130.size=2:=rfl
theorem cK.bytes:Tryz.t130.bytes=32:=rfl
theorem cK.zero:Tryz.t130.zero=some (Value.agg #[Value.string {data:=#[]},Value.string {data:=#[]}]):=rfl
theorem cK.loadAgg:aJi cK 2:=pV cK.und rfl cK.info cK.size
theorem cK.agg:aJe cK 2:=λH=>H.agg cK.und rfl cK.info cK.size
theorem cK.f0:fAz cK 0:=by intro _ _;kernel_rfl
theorem cK.f1:pX cK 1 1:=by intro _ _;kernel_rfl
theorem eY.und:PG.underlying eY=some (TypeDesc.slice 65):=Tryz.underlying131
theorem eY.info:PG.info? eY=some Tryz.t131:=by kernel_rfl
theorem eY.size:Tryz.t131.size=1:=rfl
theorem eY.load{h:PH}{a:Addr}:cG PG h (loadAt eY (.pointer (some a)))=dE h a:=iN eY.und rfl
theorem dL.f0:fAz dL 0:=by intro _ _;kernel_rfl
theorem dL.f1:pX dL 1 1:=by intro _ _;kernel_rfl
theorem dL.f2:pX dL 2 2:=by intro _ _;kernel_rfl
theorem jE.info:PG.info? jE=some Tryz.t135:=by kernel_rfl
theorem jE.size:Tryz.t135.size=2:=rfl
theorem jE.f0:fAz jE 0:=by intro _ _;kernel_rfl
theorem jE.f1:pX jE 1 1:=by intro _ _;kernel_rfl
theorem jF.und:PG.underlying jF=some (TypeDesc.array 2 135):=Tryz.underlying136
theorem jF.zbox{h:PH}{r:Nat}:Bx (h.set r (.cells (dN PG jF) jF)) r ((Value.agg #[Value.slice none 0 0,Value.bool false,Value.slice none 0 0,Value.bool false])).cells.toList:=Bx.zero (by kernel_rfl)
theorem dO.und:PG.underlying dO=some (TypeDesc.slice 22):=Tryz.underlying137
theorem dO.info:PG.info? dO=some Tryz.t137:=by kernel_rfl
theorem dO.size:Tryz.t137.size=1:=rfl
theorem dO.load{h:PH}{a:Addr}:cG PG h (loadAt dO (.pointer (some a)))=dE h a:=iN dO.und rfl
theorem kA.und:PG.underlying kA=some (TypeDesc.array 2 137):=Tryz.underlying139
theorem kA.info:PG.info? kA=some Tryz.t139:=by kernel_rfl
theorem kA.zc:dN PG kA=((Value.agg #[Value.slice none 0 0,Value.slice none 0 0])).cells:=by kernel_rfl
theorem kA.fill:aGF kA 2:=aG1 kA.info rfl (by decide) (by rw[kA.zc];rfl)
theorem mN.info:PG.info? mN=some Tryz.t141:=by kernel_rfl
theorem mN.zero:Tryz.t141.zero=some Value.nilFunc:=rfl
theorem gG.und:PG.underlying gG=some (TypeDesc.map 3 141):=Tryz.underlying143
theorem fZ.info:PG.info? fZ=some Tryz.t154:=by kernel_rfl
theorem fZ.size:Tryz.t154.size=5:=rfl
theorem fZ.bytes:Tryz.t154.bytes=48:=rfl
theorem fZ.zero:Tryz.t154.zero=some (Value.agg #[Value.int IntKind.i64 0,Value.int IntKind.i64 0,Value.int IntKind.u64 0,Value.int IntKind.u64 0,Value.string {data:=#[]}]):=rfl
theorem sO.und:PG.underlying sO=some (TypeDesc.struct #[{name:="from",type:=3,offset:=0,embedded:=false,tag:="",pkgPath:="carrack/table",byteOffset:=0},{name:="seq",type:=22,offset:=1,embedded:=false,tag:="",pkgPath:="carrack/table",byteOffset:=8}]):=Tryz.underlying164
theorem sO.info:PG.info? sO=some Tryz.t164:=by kernel_rfl
theorem sO.size:Tryz.t164.size=2:=rfl
theorem sO.loadAgg:aJi sO 2:=pV sO.und rfl sO.info sO.size
theorem eP.und:PG.underlying eP=some (TypeDesc.slice 246):=Tryz.underlying175
theorem eP.load{h:PH}{a:Addr}:cG PG h (loadAt eP (.pointer (some a)))=dE h a:=iN eP.und rfl
theorem fT.f0:fAz fT 0:=by intro _ _;kernel_rfl
theorem fT.f1:pX fT 1 1:=by intro _ _;kernel_rfl
theorem fT.f2:pX fT 2 2:=by intro _ _;kernel_rfl
theorem fT.f3:pX fT 3 3:=by intro _ _;kernel_rfl
theorem cN.und:PG.underlying cN=some (TypeDesc.slice 257):=Tryz.underlying184
theorem cN.info:PG.info? cN=some Tryz.t184:=by kernel_rfl
theorem cN.size:Tryz.t184.size=1:=rfl
theorem cN.load{h:PH}{a:Addr}:cG PG h (loadAt cN (.pointer (some a)))=dE h a:=iN cN.und rfl
theorem cN.put:aKT cN:=λH a b c=>H.put1 cN.und rfl cN.info cN.size a b c
theorem cC.und:PG.underlying cC=some (TypeDesc.struct #[{name:="Absent",type:=4,offset:=0,embedded:=false,tag:="",pkgPath:="",byteOffset:=0},{name:="Leaves",type:=184,offset:=1,embedded:=false,tag:="",pkgPath:="",byteOffset:=8}]):=Tryz.underlying186
theorem cC.info:PG.info? cC=some Tryz.t186:=by kernel_rfl
theorem cC.size:Tryz.t186.size=2:=rfl
theorem cC.zbox{h:PH}{r:Nat}:Bx (h.set r (.cells (dN PG cC) cC)) r ((Value.agg #[Value.bool false,Value.slice none 0 0])).cells.toList:=Bx.zero (by kernel_rfl)
theorem cC.zc:dN PG cC=((Value.agg #[Value.bool false,Value.slice none 0 0])).cells:=by kernel_rfl
theorem cC.agg:aJe cC 2:=λH=>H.agg cC.und rfl cC.info cC.size
theorem cC.put:aMe cC 2:=aNl cC.info rfl (by decide)
theorem cC.fill:aGF cC 2:=aG1 cC.info rfl (by decide) (by rw[cC.zc];rfl)
theorem cC.f0:fAz cC 0:=by intro _ _;kernel_rfl
theorem cC.f1:pX cC 1 1:=by intro _ _;kernel_rfl
theorem cL.und:PG.underlying cL=some (TypeDesc.struct #[{name:="is",type:=26,offset:=0,embedded:=false,tag:="",pkgPath:="carrack/chain",byteOffset:=0},{name:="e",type:=63,offset:=1,embedded:=false,tag:="",pkgPath:="carrack/chain",byteOffset:=8}]):=Tryz.underlying193
theorem cL.info:PG.info? cL=some Tryz.t193:=by kernel_rfl
theorem cL.size:Tryz.t193.size=2:=rfl
theorem cL.bytes:Tryz.t193.bytes=16:=rfl
theorem cL.zero:Tryz.t193.zero=some (Value.agg #[Value.nilFunc,Value.int IntKind.i64 0]):=rfl
theorem cL.zbox{h:PH}{r:Nat}:Bx (h.set r (.cells (dN PG cL) cL)) r ((Value.agg #[Value.nilFunc,Value.int IntKind.i64 0])).cells.toList:=Bx.zero (by kernel_rfl)
theorem cL.zc:dN PG cL=((Value.agg #[Value.nilFunc,Value.int IntKind.i64 0])).cells:=by kernel_rfl
theorem cL.agg:aJe cL 2:=λH=>H.agg cL.und rfl cL.info cL.size
theorem cL.put:aMe cL 2:=aNl cL.info rfl (by decide)
theorem cL.fill:aGF cL 2:=aG1 cL.info rfl (by decide) (by rw[cL.zc];rfl)
theorem cL.f0:fAz cL 0:=by intro _ _;kernel_rfl
theorem cL.f1:pX cL 1 1:=by intro _ _;kernel_rfl
theorem iX.und:PG.underlying iX=some (TypeDesc.struct #[{name:="l",type:=65,offset:=0,embedded:=false,tag:="",pkgPath:="carrack/store",byteOffset:=0}]):=Tryz.underlying198
theorem iX.info:PG.info? iX=some Tryz.t198:=by kernel_rfl
theorem iX.size:Tryz.t198.size=1:=rfl
theorem iX.loadAgg:aJi iX 1:=pV iX.und rfl iX.info iX.size
theorem iX.f0:fAz iX 0:=by intro _ _;kernel_rfl
theorem dT.und:PG.underlying dT=some (TypeDesc.struct #[{name:="sorted",type:=198,offset:=0,embedded:=true,tag:="",pkgPath:="carrack/store",byteOffset:=0},{name:="root",type:=9,offset:=1,embedded:=false,tag:="",pkgPath:="carrack/store",byteOffset:=24}]):=Tryz.underlying200
theorem dT.info:PG.info? dT=some Tryz.t200:=by kernel_rfl
theorem dT.size:Tryz.t200.size=2:=rfl
theorem dT.bytes:Tryz.t200.bytes=40:=rfl
theorem dT.zero:Tryz.t200.zero=some (Value.agg #[Value.slice none 0 0,Value.string {data:=#[]}]):=rfl
theorem dT.zc:dN PG dT=((Value.agg #[Value.slice none 0 0,Value.string {data:=#[]}])).cells:=by kernel_rfl
theorem dT.loadAgg:aJi dT 2:=pV dT.und rfl dT.info dT.size
theorem dT.f0:fAz dT 0:=by intro _ _;kernel_rfl
theorem dT.f1:pX dT 1 1:=by intro _ _;kernel_rfl
theorem kZ.und:PG.underlying kZ=some (TypeDesc.func #[9] #[4] false):=Tryz.underlying206
theorem kZ.load{h:PH}{a:Addr}:cG PG h (loadAt kZ (.pointer (some a)))=dE h a:=iN kZ.und rfl
theorem fL.und:PG.underlying fL=some (TypeDesc.slice 200):=Tryz.underlying219
theorem fL.info:PG.info? fL=some Tryz.t219:=by kernel_rfl
theorem fL.size:Tryz.t219.size=1:=rfl
theorem fL.load{h:PH}{a:Addr}:cG PG h (loadAt fL (.pointer (some a)))=dE h a:=iN fL.und rfl
theorem eM.f0:fAz eM 0:=by intro _ _;kernel_rfl
theorem eM.f1:pX eM 1 1:=by intro _ _;kernel_rfl
theorem eM.f2:pX eM 2 2:=by intro _ _;kernel_rfl
theorem uN.und:PG.underlying uN=some (TypeDesc.slice 3):=Tryz.underlying238
theorem dR.und:PG.underlying dR=some (TypeDesc.slice 287):=Tryz.underlying242
theorem dR.info:PG.info? dR=some Tryz.t242:=by kernel_rfl
theorem dR.size:Tryz.t242.size=1:=rfl
theorem dR.load{h:PH}{a:Addr}:cG PG h (loadAt dR (.pointer (some a)))=dE h a:=iN dR.und rfl
theorem gA.f0:fAz gA 0:=by intro _ _;kernel_rfl
theorem gA.build0:dD PG (build gA #[])=some (Value.agg #[Value.slice none 0 0]):=by kernel_rfl
theorem cM.und:PG.underlying cM=some (TypeDesc.int IntKind.u32):=Tryz.underlying246
theorem cM.info:PG.info? cM=some Tryz.t246:=by kernel_rfl
theorem cM.size:Tryz.t246.size=1:=rfl
theorem cM.bytes:Tryz.t246.bytes=4:=rfl
theorem cM.zero:Tryz.t246.zero=some (Value.int IntKind.u32 0):=rfl
theorem cM.load{h:PH}{a:Addr}:cG PG h (loadAt cM (.pointer (some a)))=dE h a:=iN cM.und rfl
theorem hQ.und:PG.underlying hQ=some (TypeDesc.map 22 9):=Tryz.underlying249
theorem hQ.load{h:PH}{a:Addr}:cG PG h (loadAt hQ (.pointer (some a)))=dE h a:=iN hQ.und rfl
theorem gQ.f0:fAz gQ 0:=by intro _ _;kernel_rfl
theorem gQ.f1:pX gQ 1 1:=by intro _ _;kernel_rfl
theorem cP.und:PG.underlying cP=some (TypeDesc.slice 9):=Tryz.underlying255
theorem cP.info:PG.info? cP=some Tryz.t255:=by kernel_rfl
theorem cP.size:Tryz.t255.size=1:=rfl
theorem cP.zbox{h:PH}{r:Nat}:Bx (h.set r (.cells (dN PG cP) cP)) r ((Value.slice none 0 0)).cells.toList:=Bx.zero (by kernel_rfl)
theorem cP.load{h:PH}{a:Addr}:cG PG h (loadAt cP (.pointer (some a)))=dE h a:=iN cP.und rfl
theorem cP.put:aKT cP:=λH a b c=>H.put1 cP.und rfl cP.info cP.size a b c
theorem cB.und:PG.underlying cB=some (TypeDesc.struct #[{name:="Index",type:=3,offset:=0,embedded:=false,tag:="",pkgPath:="",byteOffset:=0},{name:="Count",type:=3,offset:=1,embedded:=false,tag:="",pkgPath:="",byteOffset:=8},{name:="Pair",type:=130,offset:=2,embedded:=false,tag:="",pkgPath:="",byteOffset:=16},{name:="Path",type:=255,offset:=4,embedded:=false,tag:="",pkgPath:="",byteOffset:=48}]):=Tryz.underlying257
theorem cB.info:PG.info? cB=some Tryz.t257:=by kernel_rfl
theorem cB.size:Tryz.t257.size=5:=rfl
theorem cB.bytes:Tryz.t257.bytes=72:=rfl
theorem cB.zero:Tryz.t257.zero=some (Value.agg #[Value.int IntKind.i64 0,Value.int IntKind.i64 0,Value.string {data:=#[]},Value.string {data:=#[]},Value.slice none 0 0]):=rfl
theorem cB.zbox{h:PH}{r:Nat}:Bx (h.set r (.cells (dN PG cB) cB)) r ((Value.agg #[Value.int IntKind.i64 0,Value.int IntKind.i64 0,Value.string {data:=#[]},Value.string {data:=#[]},Value.slice none 0 0])).cells.toList:=Bx.zero (by kernel_rfl)
theorem cB.zc:dN PG cB=((Value.agg #[Value.int IntKind.i64 0,Value.int IntKind.i64 0,Value.string {data:=#[]},Value.string {data:=#[]},Value.slice none 0 0])).cells:=by kernel_rfl
theorem cB.agg:aJe cB 5:=λH=>H.agg cB.und rfl cB.info cB.size
theorem cB.put:aMe cB 5:=aNl cB.info rfl (by decide)
theorem cB.fill:aGF cB 5:=aG1 cB.info rfl (by decide) (by rw[cB.zc];rfl)
theorem cB.f0:fAz cB 0:=by intro _ _;kernel_rfl
theorem cB.f1:pX cB 1 1:=by intro _ _;kernel_rfl
theorem cB.f2:pX cB 2 2:=by intro _ _;kernel_rfl
theorem cB.f3:pX cB 3 4:=by intro _ _;kernel_rfl
theorem oA.f0:fAz oA 0:=by intro _ _;kernel_rfl
theorem dW.und:PG.underlying dW=some (TypeDesc.pointer 263):=Tryz.underlying261
theorem dW.info:PG.info? dW=some Tryz.t261:=by kernel_rfl
theorem dW.size:Tryz.t261.size=1:=rfl
theorem dW.load{h:PH}{a:Addr}:cG PG h (loadAt dW (.pointer (some a)))=dE h a:=iN dW.und rfl
theorem dH.info:PG.info? dH=some Tryz.t263:=by kernel_rfl
theorem dH.size:Tryz.t263.size=2:=rfl
theorem dH.zc:dN PG dH=((Value.agg #[Value.pointer none,Value.slice none 0 0])).cells:=by kernel_rfl
theorem dH.f0:fAz dH 0:=by intro _ _;kernel_rfl
theorem dH.f1:pX dH 1 1:=by intro _ _;kernel_rfl
theorem fJ.zc:dN PG fJ=((Value.agg #[Value.int IntKind.i64 0,Value.pointer none,Value.slice none 0 0])).cells:=by kernel_rfl
theorem fJ.f0:fAz fJ 0:=by intro _ _;kernel_rfl
theorem fJ.f1:pX fJ 1 1:=by intro _ _;kernel_rfl
theorem jH.und:PG.underlying jH=some (TypeDesc.slice 193):=Tryz.underlying271
theorem eJ.und:PG.underlying eJ=some (TypeDesc.struct #[{name:="Height",type:=22,offset:=0,embedded:=false,tag:="",pkgPath:="",byteOffset:=0},{name:="Root",type:=9,offset:=1,embedded:=false,tag:="",pkgPath:="",byteOffset:=8}]):=Tryz.underlying287
theorem eJ.info:PG.info? eJ=some Tryz.t287:=by kernel_rfl
theorem eJ.size:Tryz.t287.size=2:=rfl
theorem eJ.bytes:Tryz.t287.bytes=24:=rfl
theorem eJ.zero:Tryz.t287.zero=some (Value.agg #[Value.int IntKind.u64 0,Value.string {data:=#[]}]):=rfl
theorem eJ.f0:fAz eJ 0:=by intro _ _;kernel_rfl
theorem eJ.f1:pX eJ 1 1:=by intro _ _;kernel_rfl
theorem fK.und:PG.underlying fK=some (TypeDesc.func #[65,3] #[] false):=Tryz.underlying354
theorem fK.info:PG.info? fK=some Tryz.t354:=by kernel_rfl
theorem fK.size:Tryz.t354.size=1:=rfl
theorem fK.zc:dN PG fK=(Value.nilFunc).cells:=by kernel_rfl
theorem fK.load{h:PH}{a:Addr}:cG PG h (loadAt fK (.pointer (some a)))=dE h a:=iN fK.und rfl
theorem fK.fill{h:PH}{r:Nat}{v:Value}{k:cD}(hr:h r=none)(hv:fO v=true)(hk:∀h',Bx h' r [v]->dB h h'->k undef h'):cZ PG (dM fK (pT r 0) v) (h.set r (.cells (dN PG fK) fK)) k:=Bx.fill1 hr fK.und rfl fK.info fK.size (by rw[fK.zc];rfl) hv hk
theorem gJ.f0:fAz gJ 0:=by intro _ _;kernel_rfl
theorem gJ.f1:pX gJ 1 1:=by intro _ _;kernel_rfl
theorem fS.und:PG.underlying fS=some (TypeDesc.func #[3,3] #[9] false):=Tryz.underlying363
theorem fS.info:PG.info? fS=some Tryz.t363:=by kernel_rfl
theorem fS.size:Tryz.t363.size=1:=rfl
theorem fS.zc:dN PG fS=(Value.nilFunc).cells:=by kernel_rfl
theorem fS.load{h:PH}{a:Addr}:cG PG h (loadAt fS (.pointer (some a)))=dE h a:=iN fS.und rfl
theorem fS.fill{h:PH}{r:Nat}{v:Value}{k:cD}(hr:h r=none)(hv:fO v=true)(hk:∀h',Bx h' r [v]->dB h h'->k undef h'):cZ PG (dM fS (pT r 0) v) (h.set r (.cells (dN PG fS) fS)) k:=Bx.fill1 hr fS.und rfl fS.info fS.size (by rw[fS.zc];rfl) hv hk
theorem eR.f0:fAz eR 0:=by intro _ _;kernel_rfl
theorem eR.f1:pX eR 1 1:=by intro _ _;kernel_rfl
theorem eR.f2:pX eR 2 2:=by intro _ _;kernel_rfl
theorem gK.f0:fAz gK 0:=by intro _ _;kernel_rfl
theorem gK.f1:pX gK 1 1:=by intro _ _;kernel_rfl
theorem eN.und:PG.underlying eN=some (TypeDesc.array 8 246):=Tryz.underlying376
theorem eN.info:PG.info? eN=some Tryz.t376:=by kernel_rfl
theorem eN.size:Tryz.t376.size=8:=rfl
theorem eN.zc:dN PG eN=((Value.agg (Array.replicate 8 (Value.int IntKind.u32 0)))).cells:=by kernel_rfl
theorem eN.loadAgg:aJi eN 8:=pV eN.und rfl eN.info eN.size
theorem hE.und:PG.underlying hE=some (TypeDesc.struct #[{name:="h",type:=376,offset:=0,embedded:=false,tag:="",pkgPath:="carrack/sha",byteOffset:=0}]):=Tryz.underlying378
theorem hE.info:PG.info? hE=some Tryz.t378:=by kernel_rfl
theorem hE.size:Tryz.t378.size=8:=rfl
theorem hE.zc:dN PG hE=((Value.agg (Array.replicate 8 (Value.int IntKind.u32 0)))).cells:=by kernel_rfl
theorem hE.loadAgg:aJi hE 8:=pV hE.und rfl hE.info hE.size
theorem hE.f0:fAz hE 0:=by intro _ _;kernel_rfl
theorem eW.und:PG.underlying eW=some (TypeDesc.struct #[{name:="state",type:=378,offset:=0,embedded:=true,tag:="",pkgPath:="carrack/sha",byteOffset:=0},{name:="rest",type:=9,offset:=8,embedded:=false,tag:="",pkgPath:="carrack/sha",byteOffset:=32},{name:="n",type:=3,offset:=9,embedded:=false,tag:="",pkgPath:="carrack/sha",byteOffset:=48}]):=Tryz.underlying381
theorem eW.info:PG.info? eW=some Tryz.t381:=by kernel_rfl
theorem eW.size:Tryz.t381.size=10:=rfl
theorem eW.zc:dN PG eW=((Value.agg #[Value.int IntKind.u32 0,Value.int IntKind.u32 0,Value.int IntKind.u32 0,Value.int IntKind.u32 0,Value.int IntKind.u32 0,Value.int IntKind.u32 0,Value.int IntKind.u32 0,Value.int IntKind.u32 0,Value.string {data:=#[]},Value.int IntKind.i64 0])).cells:=by kernel_rfl
theorem eW.loadAgg:aJi eW 10:=pV eW.und rfl eW.info eW.size
theorem eW.f0:fAz eW 0:=by intro _ _;kernel_rfl
theorem eW.f1:pX eW 1 8:=by intro _ _;kernel_rfl
theorem eW.f2:pX eW 2 9:=by intro _ _;kernel_rfl
theorem iG.und:PG.underlying iG=some TypeDesc.unsafePointer:=Tryz.underlying389
theorem eV.und:PG.underlying eV=some (TypeDesc.array 64 246):=Tryz.underlying396
theorem eV.info:PG.info? eV=some Tryz.t396:=by kernel_rfl
theorem eV.size:Tryz.t396.size=64:=rfl
theorem eV.zc:dN PG eV=((Value.agg (Array.replicate 64 (Value.int IntKind.u32 0)))).cells:=by kernel_rfl
theorem eV.loadAgg:aJi eV 64:=pV eV.und rfl eV.info eV.size
end Go.Proofs.YtppgkeodaejgcaaGreatDoor
