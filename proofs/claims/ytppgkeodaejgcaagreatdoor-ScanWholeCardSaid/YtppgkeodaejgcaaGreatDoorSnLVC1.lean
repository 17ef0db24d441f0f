/- The texts of this claim, put together. -/
import Derived.Test.YtppgkeodaejgcaaGreatDoorSnLVC0
import Derived.Test.YtppgkeodaejgcaaGreatDoorChecked
import Derived.KernelRfl
set_option linter.all false
set_option maxRecDepth 100000
open Go.Instr (loadAt fieldAt indexAt extract buildSlice build)
namespace Go.Proofs.YtppgkeodaejgcaaGreatDoor
open Go
noncomputable abbrev PG:Program:=Tryz.prog
def mix:PG.follows .mixedOrders=true:=by kernel_rfl
abbrev aAU:FuncId:=6
abbrev uP:FuncId:=13
abbrev kF:FuncId:=14
abbrev aC4:FuncId:=20
abbrev aED:FuncId:=21
abbrev aAR:FuncId:=22
abbrev aB6:FuncId:=23
abbrev wY:FuncId:=24
abbrev tV:FuncId:=25
abbrev aHh:FuncId:=26
abbrev aIp:FuncId:=27
abbrev aC5:FuncId:=28
abbrev aAI:FuncId:=29
abbrev aDT:FuncId:=30
abbrev aDe:FuncId:=31
abbrev aE8:FuncId:=33
abbrev aE9:FuncId:=34
abbrev aDN:FuncId:=36
abbrev aEC:FuncId:=37
abbrev aJu:FuncId:=38
abbrev rE:FuncId:=39
abbrev aDV:FuncId:=40
abbrev wP:FuncId:=41
abbrev aEO:FuncId:=42
abbrev aEM:FuncId:=43
abbrev aCr:FuncId:=44
abbrev aEI:FuncId:=45
abbrev aEy:FuncId:=46
abbrev aB8:FuncId:=47
abbrev aCw:FuncId:=48
abbrev aCG:FuncId:=49
abbrev yZ:FuncId:=50
abbrev aBa:FuncId:=51
abbrev aAi:FuncId:=52
abbrev vK:FuncId:=53
abbrev qK:FuncId:=54
abbrev yI:FuncId:=55
abbrev aBq:FuncId:=57
abbrev pM:FuncId:=58
abbrev pL:FuncId:=65
abbrev zA:FuncId:=67
abbrev aHY:FuncId:=68
abbrev vN:FuncId:=69
abbrev rT:FuncId:=70
abbrev zY:FuncId:=71
abbrev lX:FuncId:=72
abbrev pN:FuncId:=73
abbrev sN:FuncId:=74
abbrev aIr:FuncId:=75
abbrev aEx:FuncId:=76
abbrev aCg:FuncId:=77
abbrev aEJ:FuncId:=78
abbrev aBD:FuncId:=79
abbrev aAT:FuncId:=80
abbrev aJm:FuncId:=81
abbrev aIs:FuncId:=82
abbrev aFj:FuncId:=83
abbrev aGX:FuncId:=84
abbrev aG7:FuncId:=85
abbrev aH7:FuncId:=86
abbrev jS:FuncId:=87
abbrev yK:FuncId:=88
abbrev tK:FuncId:=89
abbrev uE:FuncId:=90
abbrev uA:FuncId:=91
abbrev aBN:FuncId:=92
abbrev uJ:FuncId:=93
abbrev aAK:FuncId:=94
abbrev xB:FuncId:=95
abbrev xC:FuncId:=96
abbrev aCP:FuncId:=97
abbrev aDu:FuncId:=98
abbrev uK:FuncId:=99
abbrev aCs:FuncId:=100
abbrev aHk:FuncId:=101
abbrev aGS:FuncId:=102
abbrev uH:FuncId:=103
abbrev tT:FuncId:=104
abbrev tS:FuncId:=105
abbrev aDH:FuncId:=106
abbrev aDf:FuncId:=107
abbrev zO:FuncId:=108
abbrev aAm:FuncId:=109
abbrev aH2:FuncId:=110
abbrev mV:FuncId:=111
abbrev aCf:FuncId:=112
abbrev yN:FuncId:=113
abbrev aAF:FuncId:=114
abbrev aAB:FuncId:=115
abbrev sX:FuncId:=116
abbrev aAG:FuncId:=117
abbrev aAX:FuncId:=118
abbrev wG:FuncId:=119
abbrev xJ:FuncId:=120
abbrev aD3:FuncId:=121
abbrev aDn:FuncId:=122
abbrev aGd:FuncId:=128
abbrev aEL:FuncId:=129
abbrev aIx:FuncId:=130
abbrev lL:FuncId:=131
abbrev kG:FuncId:=132
abbrev iW:FuncId:=133
abbrev aCh:FuncId:=134
abbrev rS:FuncId:=135
abbrev uQ:FuncId:=136
abbrev pI:FuncId:=137
abbrev iS:FuncId:=138
abbrev aDb:FuncId:=140
abbrev aA0:FuncId:=141
abbrev mD:FuncId:=142
abbrev aEP:FuncId:=143
abbrev aCE:FuncId:=144
abbrev aAL:FuncId:=145
abbrev aCl:FuncId:=146
abbrev aCp:FuncId:=147
abbrev aGU:FuncId:=148
abbrev vA:FuncId:=149
abbrev mB:FuncId:=150
abbrev aGj:FuncId:=151
abbrev aBz:FuncId:=152
abbrev oC:FuncId:=153
abbrev mX:FuncId:=154
abbrev sC:FuncId:=155
abbrev tU:FuncId:=156
abbrev vD:FuncId:=157
abbrev jH:FuncId:=158
abbrev aEs:FuncId:=159
abbrev aE1:FuncId:=160
abbrev aB4:FuncId:=161
abbrev aC0:FuncId:=162
abbrev rO:FuncId:=163
abbrev rN:FuncId:=164
abbrev aFY:FuncId:=165
abbrev aFN:FuncId:=166
abbrev aBl:FuncId:=167
abbrev aEK:FuncId:=168
abbrev aDq:FuncId:=169
abbrev rM:FuncId:=170
abbrev uV:FuncId:=171
abbrev aBL:FuncId:=172
abbrev aCA:FuncId:=173
abbrev uF:FuncId:=174
abbrev mE:FuncId:=175
abbrev wE:FuncId:=176
abbrev sU:FuncId:=177
abbrev nR:FuncId:=178
abbrev pQ:FuncId:=179
abbrev nL:FuncId:=180
abbrev uY:FuncId:=181
abbrev mY:FuncId:=182
abbrev aA3:FuncId:=183
abbrev xW:FuncId:=184
abbrev sS:FuncId:=185
abbrev oN:FuncId:=186
abbrev aCy:FuncId:=187
abbrev xQ:FuncId:=188
abbrev aHa:FuncId:=189
abbrev aFU:FuncId:=190
abbrev aMY:FuncId:=202
abbrev aIS:FuncId:=203
abbrev aBs:FuncId:=204
abbrev aIy:FuncId:=213
abbrev aCj:FuncId:=214
abbrev aD1:FuncId:=215
abbrev qV:FuncId:=216
abbrev qX:FuncId:=217
abbrev oV:FuncId:=218
abbrev zR:FuncId:=219
abbrev aHz:FuncId:=220
abbrev vM:FuncId:=221
abbrev pR:FuncId:=222
abbrev aFq:FuncId:=223
abbrev lM:FuncId:=224
abbrev yJ:FuncId:=225
abbrev lC:FuncId:=226
abbrev oW:FuncId:=227
abbrev kU:FuncId:=228
abbrev aH9:FuncId:=229
abbrev aAl:FuncId:=230
abbrev aFk:FuncId:=231
abbrev wX:FuncId:=232
abbrev aIt:FuncId:=233
abbrev aE7:FuncId:=234
abbrev aGY:FuncId:=235
abbrev aHf:FuncId:=236
abbrev tO:FuncId:=237
abbrev aCk:FuncId:=238
abbrev zV:FuncId:=239
abbrev rI:FuncId:=240
abbrev aAV:FuncId:=241
abbrev kL:FuncId:=242
abbrev zQ:FuncId:=243
abbrev sE:FuncId:=244
abbrev mQ:FuncId:=245
abbrev zX:FuncId:=246
abbrev xX:FuncId:=247
abbrev aIv:FuncId:=248
abbrev aLv:FuncId:=249
abbrev aCW:FuncId:=250
abbrev aHS:FuncId:=251
abbrev aAn:FuncId:=260
abbrev aCu:FuncId:=261
abbrev aD0:FuncId:=262
abbrev aFZ:FuncId:=263
abbrev aC6:FuncId:=264
abbrev aC2:FuncId:=265
abbrev aDw:FuncId:=266
abbrev yQ:FuncId:=267
abbrev mR:FuncId:=268
abbrev mS:FuncId:=269
abbrev yT:FuncId:=270
abbrev aFQ:FuncId:=271
abbrev aAy:FuncId:=272
abbrev yX:FuncId:=273
abbrev aEH:FuncId:=274
abbrev aCT:FuncId:=275
abbrev vE:FuncId:=276
abbrev yW:FuncId:=277
abbrev uT:FuncId:=278
abbrev rK:FuncId:=279
abbrev sI:FuncId:=280
abbrev xZ:FuncId:=281
abbrev yB:FuncId:=282
abbrev mO:FuncId:=283
abbrev aC1:FuncId:=284
abbrev aM3:FuncId:=285
abbrev aGh:FuncId:=286
abbrev aGc:FuncId:=287
abbrev aFm:FuncId:=288
abbrev aEE:FuncId:=289
abbrev aCC:FuncId:=292
abbrev wW:FuncId:=293
abbrev zP:FuncId:=294
abbrev aAw:FuncId:=295
abbrev aCt:FuncId:=296
abbrev aEF:FuncId:=297
abbrev aCn:FuncId:=298
abbrev lZ:FuncId:=299
abbrev uC:FuncId:=300
abbrev qO:FuncId:=301
abbrev yR:FuncId:=302
abbrev aCK:FuncId:=303
abbrev aJc:FuncId:=304
abbrev qZ:FuncId:=305
abbrev aGa:FuncId:=306
abbrev uW:FuncId:=307
abbrev aBG:FuncId:=308
abbrev sM:FuncId:=309
abbrev kH:FuncId:=310
abbrev aEm:FuncId:=311
abbrev aMv:FuncId:=312
abbrev aIf:FuncId:=313
abbrev aFh:FuncId:=315
abbrev vP:FuncId:=316
abbrev T_:TypeId:=0
abbrev bR:TypeId:=3
abbrev gT:TypeId:=4
abbrev dU:TypeId:=5
abbrev bT:TypeId:=9
abbrev aNk:TypeId:=20
abbrev cA:TypeId:=22
abbrev eW:TypeId:=23
abbrev iY:TypeId:=24
abbrev cV:TypeId:=25
abbrev aAd:TypeId:=26
abbrev dF:TypeId:=28
abbrev dR:TypeId:=29
abbrev aR:TypeId:=34
abbrev dE:TypeId:=40
abbrev gE:TypeId:=42
abbrev fN:TypeId:=43
abbrev jW:TypeId:=44
abbrev eS:TypeId:=45
abbrev cU:TypeId:=46
abbrev cT:TypeId:=48
abbrev iO:TypeId:=49
abbrev lF:TypeId:=50
abbrev mA:TypeId:=52
abbrev oA:TypeId:=54
abbrev dI:TypeId:=55
abbrev fY:TypeId:=63
abbrev cJ:TypeId:=65
abbrev jE:TypeId:=67
abbrev dZ:TypeId:=68
abbrev eX:TypeId:=70
abbrev jG:TypeId:=71
abbrev eJ:TypeId:=73
abbrev vI:TypeId:=80
abbrev dJ:TypeId:=85
abbrev cH:TypeId:=105
abbrev cM:TypeId:=130
abbrev fO:TypeId:=131
abbrev dP:TypeId:=133
abbrev eH:TypeId:=137
abbrev dQ:TypeId:=151
abbrev dA:TypeId:=154
abbrev dS:TypeId:=162
abbrev gZ:TypeId:=164
abbrev gP:TypeId:=166
abbrev fC:TypeId:=175
abbrev gA:TypeId:=179
abbrev cN:TypeId:=184
abbrev cC:TypeId:=186
abbrev cK:TypeId:=193
abbrev jC:TypeId:=198
abbrev dX:TypeId:=200
abbrev lI:TypeId:=206
abbrev fU:TypeId:=219
abbrev eY:TypeId:=221
abbrev fT:TypeId:=229
abbrev eI:TypeId:=231
abbrev nQ:TypeId:=238
abbrev dW:TypeId:=242
abbrev gG:TypeId:=244
abbrev cL:TypeId:=246
abbrev iB:TypeId:=249
abbrev iC:TypeId:=251
abbrev cP:TypeId:=255
abbrev cB:TypeId:=257
abbrev oF:TypeId:=260
abbrev eD:TypeId:=261
abbrev dN:TypeId:=263
abbrev fR:TypeId:=265
abbrev jN:TypeId:=271
abbrev eV:TypeId:=287
abbrev fS:TypeId:=354
abbrev oX:TypeId:=358
abbrev gL:TypeId:=360
abbrev fX:TypeId:=363
abbrev fE:TypeId:=368
abbrev gK:TypeId:=374
abbrev eZ:TypeId:=376
abbrev iA:TypeId:=378
abbrev fJ:TypeId:=381
abbrev iM:TypeId:=389
abbrev fI:TypeId:=396
def bR.und:PG.underlying bR=some (TypeDesc.int IntKind.i64):=Tryz.underlying3
def bR.info:PG.info? bR=some Tryz.t3:=by kernel_rfl
def bR.size:Tryz.t3.size=1:=rfl
def bR.load{h:PH}{a:Addr}:cG PG h (loadAt bR (.pointer (some a)))=dB h a:=iP bR.und rfl
abbrev aN8(t:TypeId)(n:Nat):Prop:=∀{h:PH} {r o:Nat} {cs vs:List Value} {k:cD} (H:Bx h r cs) (hl:vs.length=n) (ho:o+n≤cs.length) (hv:∀v∈vs,fW v=true) (hk:∀h',Bx h' r (cs.take o++vs++cs.drop (o+n))->cQ [r] h h'->k undef h'),dC PG (dT t (pT r o) (.agg vs.toArray)) h k
def aPm{t:TypeId}{n:Nat}{i:TypeInfo}(hi:PG.info? t=some i)(hn:i.size=n)(h0:0<n):aN8 t n:=by
 intro h r o cs vs k H hl ho hv hk;exact H.putN hi (by rw[hl];exact hn) (by omega) (by omega) hv (by rw[hl];exact hk)
abbrev aKe(t:TypeId)(n:Nat):Prop:=∀{h:PH} {r:Nat} {vs:List Value} {k:cD} (hr:h r=none) (hl:vs.length=n) (hv:∀v∈vs,fW v=true) (hk:∀h',Bx h' r vs->dD h h'->k undef h'),dC PG (dT t (pT r 0) (.agg vs.toArray)) (h.set r (.cells (dV PG t) t)) k
def aLS{t:TypeId}{n:Nat}{i:TypeInfo}(hi:PG.info? t=some i)(hn:i.size=n)(h0:0<n)(hz:(dV PG t).size=n):aKe t n:=by
 intro h r vs k hr hl hv hk;exact Bx.fill hr hi (by rw[hl];exact hn) (by omega) (by rw[hz,hl]) hv hk
abbrev aLU(t:TypeId)(n:Nat):Prop:=∀{h:PH} {r o:Nat} {cs:List Value} (H:Bx h r cs) (hle:o+n≤cs.length),cG PG h (loadAt t (pT r o))=some (.agg ((cs.drop o).take n).toArray)
abbrev aIw(t:TypeId)(n:Nat):Prop:=∀{h:PH} {b o:Nat} {c:Array Value} {e:TypeId} {fr:Nat×Nat} (hb:h b=some (.cells c e fr)) (hle:o+n≤c.size),cG PG h (loadAt t (pT b o))=some (.agg (c.extract o (o+n)))
abbrev aLy(t:TypeId):Prop:=∀{h:PH} {r o:Nat} {cs:List Value} {v:Value} {k:cD} (H:Bx h r cs) (ho:o<cs.length) (hv:fW v=true) (hk:∀h',Bx h' r (cs.set o v)->cQ [r] h h'->k undef h'),dC PG (dT t (pT r o) v) h k
def bR.put:aLy bR:=λH a b c=>H.put1 bR.und rfl bR.info bR.size a b c
def gT.und:PG.underlying gT=some TypeDesc.bool:=Tryz.underlying4
def gT.info:PG.info? gT=some Tryz.t4:=by kernel_rfl
def gT.size:Tryz.t4.size=1:=rfl
def gT.zbox{h:PH}{r:Nat}:Bx (h.set r (.cells (dV PG gT) gT)) r ((Value.bool false)).cells.toList:=Bx.zero (by kernel_rfl)
def gT.load{h:PH}{a:Addr}:cG PG h (loadAt gT (.pointer (some a)))=dB h a:=iP gT.und rfl
def gT.put:aLy gT:=λH a b c=>H.put1 gT.und rfl gT.info gT.size a b c
def dU.und:PG.underlying dU=some (TypeDesc.int IntKind.u8):=Tryz.underlying5
def dU.info:PG.info? dU=some Tryz.t5:=by kernel_rfl
def dU.size:Tryz.t5.size=1:=rfl
def dU.bytes:Tryz.t5.bytes=1:=rfl
def dU.zero:Tryz.t5.zero=some (Value.int IntKind.u8 0):=rfl
def bT.und:PG.underlying bT=some TypeDesc.string:=Tryz.underlying9
def bT.info:PG.info? bT=some Tryz.t9:=by kernel_rfl
def bT.size:Tryz.t9.size=1:=rfl
def bT.bytes:Tryz.t9.bytes=16:=rfl
def bT.zero:Tryz.t9.zero=some (Value.string {data:=#[]}):=rfl
def bT.zbox{h:PH}{r:Nat}:Bx (h.set r (.cells (dV PG bT) bT)) r ((Value.string {data:=#[]})).cells.toList:=Bx.zero (by kernel_rfl)
def bT.load{h:PH}{a:Addr}:cG PG h (loadAt bT (.pointer (some a)))=dB h a:=iP bT.und rfl
def bT.put:aLy bT:=λH a b c=>H.put1 bT.und rfl bT.info bT.size a b c
def bT.len{s:ByteArray}{t:TypeId}:dH PG (Builtin.len_ #[bT] t #[.string s])=some (.int .i64 s.size):=lS bT.und
def cA.und:PG.underlying cA=some (TypeDesc.int IntKind.u64):=Tryz.underlying22
def cA.info:PG.info? cA=some Tryz.t22:=by kernel_rfl
def cA.size:Tryz.t22.size=1:=rfl
def cA.bytes:Tryz.t22.bytes=8:=rfl
def cA.zero:Tryz.t22.zero=some (Value.int IntKind.u64 0):=rfl
def cA.load{h:PH}{a:Addr}:cG PG h (loadAt cA (.pointer (some a)))=dB h a:=iP cA.und rfl
def cA.put:aLy cA:=λH a b c=>H.put1 cA.und rfl cA.info cA.size a b c
def eW.und:PG.underlying eW=some (TypeDesc.array 2 22):=Tryz.underlying23
def eW.info:PG.info? eW=some Tryz.t23:=by kernel_rfl
def eW.size:Tryz.t23.size=2:=rfl
def eW.agg:aLU eW 2:=λH=>H.agg eW.und rfl eW.info eW.size
def iY.und:PG.underlying iY=some (TypeDesc.slice 105):=Tryz.underlying24
def cV.und:PG.underlying cV=some (TypeDesc.slice 40):=Tryz.underlying25
def cV.info:PG.info? cV=some Tryz.t25:=by kernel_rfl
def cV.size:Tryz.t25.size=1:=rfl
def cV.load{h:PH}{a:Addr}:cG PG h (loadAt cV (.pointer (some a)))=dB h a:=iP cV.und rfl
def aAd.und:PG.underlying aAd=some (TypeDesc.func #[] #[4] false):=Tryz.underlying26
def aAd.load{h:PH}{a:Addr}:cG PG h (loadAt aAd (.pointer (some a)))=dB h a:=iP aAd.und rfl
def dF.und:PG.underlying dF=some (TypeDesc.pointer 73):=Tryz.underlying28
def dF.info:PG.info? dF=some Tryz.t28:=by kernel_rfl
def dF.size:Tryz.t28.size=1:=rfl
def dF.load{h:PH}{a:Addr}:cG PG h (loadAt dF (.pointer (some a)))=dB h a:=iP dF.und rfl
def dF.put:aLy dF:=λH a b c=>H.put1 dF.und rfl dF.info dF.size a b c
def dR.und:PG.underlying dR=some (TypeDesc.array 2 28):=Tryz.underlying29
def dR.info:PG.info? dR=some Tryz.t29:=by kernel_rfl
def dR.size:Tryz.t29.size=2:=rfl
def dR.zbox{h:PH}{r:Nat}:Bx (h.set r (.cells (dV PG dR) dR)) r ((Value.agg #[Value.pointer none,Value.pointer none])).cells.toList:=Bx.zero (by kernel_rfl)
def dR.zc:dV PG dR=((Value.agg #[Value.pointer none,Value.pointer none])).cells:=by kernel_rfl
def dR.agg:aLU dR 2:=λH=>H.agg dR.und rfl dR.info dR.size
def dR.put:aN8 dR 2:=aPm dR.info rfl (by decide)
def dR.fill:aKe dR 2:=aLS dR.info rfl (by decide) (by rw[dR.zc];rfl)
def aR.und:PG.underlying aR=some (TypeDesc.struct #[{name:="From",type:=3,offset:=0,embedded:=false,tag:="",pkgPath:="",byteOffset:=0},{name:="Seq",type:=22,offset:=1,embedded:=false,tag:="",pkgPath:="",byteOffset:=8},{name:="Timeout",type:=22,offset:=2,embedded:=false,tag:="",pkgPath:="",byteOffset:=16},{name:="Data",type:=9,offset:=3,embedded:=false,tag:="",pkgPath:="",byteOffset:=24}]):=Tryz.underlying34
def aR.info:PG.info? aR=some Tryz.t34:=by kernel_rfl
def aR.size:Tryz.t34.size=4:=rfl
def aR.zbox{h:PH}{r:Nat}:Bx (h.set r (.cells (dV PG aR) aR)) r ((Value.agg #[Value.int IntKind.i64 0,Value.int IntKind.u64 0,Value.int IntKind.u64 0,Value.string {data:=#[]}])).cells.toList:=Bx.zero (by kernel_rfl)
def aR.zc:dV PG aR=((Value.agg #[Value.int IntKind.i64 0,Value.int IntKind.u64 0,Value.int IntKind.u64 0,Value.string {data:=#[]}])).cells:=by kernel_rfl
def aR.loadAgg:aIw aR 4:=pJ aR.und rfl aR.info aR.size
def aR.agg:aLU aR 4:=λH=>H.agg aR.und rfl aR.info aR.size
def aR.put:aN8 aR 4:=aPm aR.info rfl (by decide)
def aR.fill:aKe aR 4:=aLS aR.info rfl (by decide) (by rw[aR.zc];rfl)
abbrev fAz(t:TypeId)(i:Nat):Prop:=∀{b o:Nat},dH PG (fieldAt t (pT b o) i)=some (pT b o)
def aR.f0:fAz aR 0:=by intro _ _;kernel_rfl
abbrev qA(t:TypeId)(i n:Nat):Prop:=∀{b o:Nat},dH PG (fieldAt t (pT b o) i)=some (pT b (o+n))
def aR.f1:qA aR 1 1:=by intro _ _;kernel_rfl
def aR.f2:qA aR 2 2:=by intro _ _;kernel_rfl
def aR.f3:qA aR 3 3:=by intro _ _;kernel_rfl
def dE.und:PG.underlying dE=some (TypeDesc.struct #[{name:="Packet",type:=34,offset:=0,embedded:=false,tag:="",pkgPath:="",byteOffset:=0},{name:="Stage",type:=3,offset:=4,embedded:=false,tag:="",pkgPath:="",byteOffset:=40}]):=Tryz.underlying40
def dE.info:PG.info? dE=some Tryz.t40:=by kernel_rfl
def dE.size:Tryz.t40.size=5:=rfl
def dE.bytes:Tryz.t40.bytes=48:=rfl
def dE.zero:Tryz.t40.zero=some (Value.agg #[Value.int IntKind.i64 0,Value.int IntKind.u64 0,Value.int IntKind.u64 0,Value.string {data:=#[]},Value.int IntKind.i64 0]):=rfl
def dE.zc:dV PG dE=((Value.agg #[Value.int IntKind.i64 0,Value.int IntKind.u64 0,Value.int IntKind.u64 0,Value.string {data:=#[]},Value.int IntKind.i64 0])).cells:=by kernel_rfl
def dE.loadAgg:aIw dE 5:=pJ dE.und rfl dE.info dE.size
def dE.f0:fAz dE 0:=by intro _ _;kernel_rfl
def dE.f1:qA dE 1 4:=by intro _ _;kernel_rfl
def gE.und:PG.underlying gE=some (TypeDesc.pointer 179):=Tryz.underlying42
def gE.load{h:PH}{a:Addr}:cG PG h (loadAt gE (.pointer (some a)))=dB h a:=iP gE.und rfl
def fN.und:PG.underlying fN=some (TypeDesc.pointer 133):=Tryz.underlying43
def fN.load{h:PH}{a:Addr}:cG PG h (loadAt fN (.pointer (some a)))=dB h a:=iP fN.und rfl
def jW.und:PG.underlying jW=some (TypeDesc.pointer 244):=Tryz.underlying44
def jW.load{h:PH}{a:Addr}:cG PG h (loadAt jW (.pointer (some a)))=dB h a:=iP jW.und rfl
def eS.und:PG.underlying eS=some (TypeDesc.slice 46):=Tryz.underlying45
def eS.info:PG.info? eS=some Tryz.t45:=by kernel_rfl
def eS.size:Tryz.t45.size=1:=rfl
def eS.load{h:PH}{a:Addr}:cG PG h (loadAt eS (.pointer (some a)))=dB h a:=iP eS.und rfl
def eS.put:aLy eS:=λH a b c=>H.put1 eS.und rfl eS.info eS.size a b c
def cU.und:PG.underlying cU=some (TypeDesc.slice 154):=Tryz.underlying46
def cU.info:PG.info? cU=some Tryz.t46:=by kernel_rfl
def cU.size:Tryz.t46.size=1:=rfl
def cU.bytes:Tryz.t46.bytes=24:=rfl
def cU.zero:Tryz.t46.zero=some (Value.slice none 0 0):=rfl
def cU.load{h:PH}{a:Addr}:cG PG h (loadAt cU (.pointer (some a)))=dB h a:=iP cU.und rfl
def cU.put:aLy cU:=λH a b c=>H.put1 cU.und rfl cU.info cU.size a b c
def cT.f0:fAz cT 0:=by intro _ _;kernel_rfl
def cT.f1:qA cT 1 1:=by intro _ _;kernel_rfl
def cT.f2:qA cT 2 2:=by intro _ _;kernel_rfl
def cT.f3:qA cT 3 3:=by intro _ _;kernel_rfl
def cT.f4:qA cT 4 4:=by intro _ _;kernel_rfl
def cT.f5:qA cT 5 5:=by intro _ _;kernel_rfl
def cT.f6:qA cT 6 6:=by intro _ _;kernel_rfl
def iO.und:PG.underlying iO=some (TypeDesc.pointer 48):=Tryz.underlying49
def iO.info:PG.info? iO=some Tryz.t49:=by kernel_rfl
def iO.size:Tryz.t49.size=1:=rfl
def iO.load{h:PH}{a:Addr}:cG PG h (loadAt iO (.pointer (some a)))=dB h a:=iP iO.und rfl
def lF.und:PG.underlying lF=some (TypeDesc.array 2 49):=Tryz.underlying50
def mA.f0:fAz mA 0:=by intro _ _;kernel_rfl
def dI.und:PG.underlying dI=some (TypeDesc.slice 5):=Tryz.underlying55
def dI.info:PG.info? dI=some Tryz.t55:=by kernel_rfl
def dI.size:Tryz.t55.size=1:=rfl
def dI.load{h:PH}{a:Addr}:cG PG h (loadAt dI (.pointer (some a)))=dB h a:=iP dI.und rfl
def dI.len{a:Option Addr}{n c:Nat}{t:TypeId}:dH PG (Builtin.len_ #[dI] t #[.slice a n c])=some (.int .i64 n):=aQB dI.und
def fY.und:PG.underlying fY=some (TypeDesc.int IntKind.i64):=Tryz.underlying63
def fY.info:PG.info? fY=some Tryz.t63:=by kernel_rfl
def fY.size:Tryz.t63.size=1:=rfl
def fY.load{h:PH}{a:Addr}:cG PG h (loadAt fY (.pointer (some a)))=dB h a:=iP fY.und rfl
def cJ.und:PG.underlying cJ=some (TypeDesc.slice 130):=Tryz.underlying65
def cJ.info:PG.info? cJ=some Tryz.t65:=by kernel_rfl
def cJ.size:Tryz.t65.size=1:=rfl
def cJ.bytes:Tryz.t65.bytes=24:=rfl
def cJ.zero:Tryz.t65.zero=some (Value.slice none 0 0):=rfl
def cJ.load{h:PH}{a:Addr}:cG PG h (loadAt cJ (.pointer (some a)))=dB h a:=iP cJ.und rfl
def jE.und:PG.underlying jE=some (TypeDesc.pointer 221):=Tryz.underlying67
def jE.load{h:PH}{a:Addr}:cG PG h (loadAt jE (.pointer (some a)))=dB h a:=iP jE.und rfl
def dZ.und:PG.underlying dZ=some (TypeDesc.map 9 9):=Tryz.underlying68
def dZ.load{h:PH}{a:Addr}:cG PG h (loadAt dZ (.pointer (some a)))=dB h a:=iP dZ.und rfl
def eX.f0:fAz eX 0:=by intro _ _;kernel_rfl
def eX.f1:qA eX 1 1:=by intro _ _;kernel_rfl
def eX.f2:qA eX 2 2:=by intro _ _;kernel_rfl
def eX.f3:qA eX 3 3:=by intro _ _;kernel_rfl
def eX.f4:qA eX 4 4:=by intro _ _;kernel_rfl
def jG.und:PG.underlying jG=some (TypeDesc.pointer 251):=Tryz.underlying71
def jG.load{h:PH}{a:Addr}:cG PG h (loadAt jG (.pointer (some a)))=dB h a:=iP jG.und rfl
def eJ.f0:fAz eJ 0:=by intro _ _;kernel_rfl
def eJ.f1:qA eJ 1 5:=by intro _ _;kernel_rfl
def eJ.f2:qA eJ 2 6:=by intro _ _;kernel_rfl
def eJ.f3:qA eJ 3 7:=by intro _ _;kernel_rfl
def vI.und:PG.underlying vI=some (TypeDesc.pointer 166):=Tryz.underlying80
def dJ.und:PG.underlying dJ=some (TypeDesc.struct #[{name:="Height",type:=22,offset:=0,embedded:=false,tag:="",pkgPath:="",byteOffset:=0},{name:="Index",type:=3,offset:=1,embedded:=false,tag:="",pkgPath:="",byteOffset:=8}]):=Tryz.underlying85
def dJ.info:PG.info? dJ=some Tryz.t85:=by kernel_rfl
def dJ.size:Tryz.t85.size=2:=rfl
def dJ.zbox{h:PH}{r:Nat}:Bx (h.set r (.cells (dV PG dJ) dJ)) r ((Value.agg #[Value.int IntKind.u64 0,Value.int IntKind.i64 0])).cells.toList:=Bx.zero (by kernel_rfl)
def dJ.zc:dV PG dJ=((Value.agg #[Value.int IntKind.u64 0,Value.int IntKind.i64 0])).cells:=by kernel_rfl
def dJ.agg:aLU dJ 2:=λH=>H.agg dJ.und rfl dJ.info dJ.size
def dJ.put:aN8 dJ 2:=aPm dJ.info rfl (by decide)
def dJ.fill:aKe dJ 2:=aLS dJ.info rfl (by decide) (by rw[dJ.zc];rfl)
def dJ.f0:fAz dJ 0:=by intro _ _;kernel_rfl
def dJ.f1:qA dJ 1 1:=by intro _ _;kernel_rfl
def cH.und:PG.underlying cH=some (TypeDesc.struct #[{name:="Kind",type:=3,offset:=0,embedded:=false,tag:="",pkgPath:="",byteOffset:=0},{name:="Id",type:=3,offset:=1,embedded:=false,tag:="",pkgPath:="",byteOffset:=8},{name:="Height",type:=22,offset:=2,embedded:=false,tag:="",pkgPath:="",byteOffset:=16},{name:="Data",type:=9,offset:=3,embedded:=false,tag:="",pkgPath:="",byteOffset:=24},{name:="P",type:=34,offset:=4,embedded:=false,tag:="",pkgPath:="",byteOffset:=40},{name:="Spoilt",type:=4,offset:=8,embedded:=false,tag:="",pkgPath:="",byteOffset:=80}]):=Tryz.underlying105
def cH.info:PG.info? cH=some Tryz.t105:=by kernel_rfl
def cH.size:Tryz.t105.size=9:=rfl
def cH.zc:dV PG cH=((Value.agg #[Value.int IntKind.i64 0,Value.int IntKind.i64 0,Value.int IntKind.u64 0,Value.string {data:=#[]},Value.int IntKind.i64 0,Value.int IntKind.u64 0,Value.int IntKind.u64 0,Value.string {data:=#[]},Value.bool false])).cells:=by kernel_rfl
def cH.loadAgg:aIw cH 9:=pJ cH.und rfl cH.info cH.size
def cH.agg:aLU cH 9:=λH=>H.agg cH.und rfl cH.info cH.size
def cH.fill:aKe cH 9:=aLS cH.info rfl (by decide) (by rw[cH.zc];rfl)
def cH.f0:fAz cH 0:=by intro _ _;kernel_rfl
def cH.f1:qA cH 1 1:=by intro _ _;kernel_rfl
def cH.f2:qA cH 2 2:=by intro _ _;kernel_rfl
def cH.f3:qA cH 3 3:=by intro _ _;kernel_rfl
def cH.f4:qA cH 4 4:=by intro _ _;kernel_rfl
def cH.f5:qA cH 5 8:=by intro _ _;kernel_rfl
def cM.und:PG.underlying cM=some (TypeDesc.struct #[{name:="Key",type:=9,offset:=0,embedded:=false,tag:="",pkgPath:="",byteOffset:=0},{name:="Value",type:=9,offset:=1,embedded:=false,tag:="",pkgPath:="",byteOffset:=16}]):=Tryz.underlying130
def cM.info:PG.info? cM=some Tryz.t130:=by kernel_rfl
def cM.size:Tryz.t130.size=2:=rfl
def cM.bytes:Tryz.t130.bytes=32:=rfl
def cM.zero:Tryz.t130.zero=some (Value.agg #[Value.string {data:=#[]},Value.string {data:=#[]}]):=rfl
def cM.loadAgg:aIw cM 2:=pJ cM.und rfl cM.info cM.size
def cM.agg:aLU cM 2:=λH=>H.agg cM.und rfl cM.info cM.size
def cM.f0:fAz cM 0:=by intro _ _;kernel_rfl
def cM.f1:qA cM 1 1:=by intro _ _;kernel_rfl
def fO.und:PG.underlying fO=some (TypeDesc.slice 65):=Tryz.underlying131
def fO.info:PG.info? fO=some Tryz.t131:=by kernel_rfl
def fO.size:Tryz.t131.size=1:=rfl
def fO.load{h:PH}{a:Addr}:cG PG h (loadAt fO (.pointer (some a)))=dB h a:=iP fO.und rfl
def dP.f0:fAz dP 0:=by intro _ _;kernel_rfl
def dP.f1:qA dP 1 1:=by intro _ _;kernel_rfl
def dP.f2:qA dP 2 2:=by intro _ _;kernel_rfl
def eH.und:PG.underlying eH=some (TypeDesc.slice 22):=Tryz.underlying137
def eH.info:PG.info? eH=some Tryz.t137:=by kernel_rfl
def eH.size:Tryz.t137.size=1:=rfl
def eH.load{h:PH}{a:Addr}:cG PG h (loadAt eH (.pointer (some a)))=dB h a:=iP eH.und rfl
def dQ.f0:fAz dQ 0:=by intro _ _;kernel_rfl
def dQ.f1:qA dQ 1 1:=by intro _ _;kernel_rfl
def dA.und:PG.underlying dA=some (TypeDesc.struct #[{name:="Kind",type:=3,offset:=0,embedded:=false,tag:="",pkgPath:="",byteOffset:=0},{name:="Packet",type:=34,offset:=1,embedded:=false,tag:="",pkgPath:="",byteOffset:=8}]):=Tryz.underlying154
def dA.info:PG.info? dA=some Tryz.t154:=by kernel_rfl
def dA.size:Tryz.t154.size=5:=rfl
def dA.bytes:Tryz.t154.bytes=48:=rfl
def dA.zero:Tryz.t154.zero=some (Value.agg #[Value.int IntKind.i64 0,Value.int IntKind.i64 0,Value.int IntKind.u64 0,Value.int IntKind.u64 0,Value.string {data:=#[]}]):=rfl
def dA.zc:dV PG dA=((Value.agg #[Value.int IntKind.i64 0,Value.int IntKind.i64 0,Value.int IntKind.u64 0,Value.int IntKind.u64 0,Value.string {data:=#[]}])).cells:=by kernel_rfl
def dA.loadAgg:aIw dA 5:=pJ dA.und rfl dA.info dA.size
def dA.f0:fAz dA 0:=by intro _ _;kernel_rfl
def dA.f1:qA dA 1 1:=by intro _ _;kernel_rfl
def dS.und:PG.underlying dS=some (TypeDesc.map 164 40):=Tryz.underlying162
def dS.load{h:PH}{a:Addr}:cG PG h (loadAt dS (.pointer (some a)))=dB h a:=iP dS.und rfl
def gZ.und:PG.underlying gZ=some (TypeDesc.struct #[{name:="from",type:=3,offset:=0,embedded:=false,tag:="",pkgPath:="carrack/table",byteOffset:=0},{name:="seq",type:=22,offset:=1,embedded:=false,tag:="",pkgPath:="carrack/table",byteOffset:=8}]):=Tryz.underlying164
def gZ.info:PG.info? gZ=some Tryz.t164:=by kernel_rfl
def gZ.size:Tryz.t164.size=2:=rfl
def gZ.loadAgg:aIw gZ 2:=pJ gZ.und rfl gZ.info gZ.size
def gP.f0:fAz gP 0:=by intro _ _;kernel_rfl
def gP.f1:qA gP 1 1:=by intro _ _;kernel_rfl
def fC.und:PG.underlying fC=some (TypeDesc.slice 246):=Tryz.underlying175
def fC.load{h:PH}{a:Addr}:cG PG h (loadAt fC (.pointer (some a)))=dB h a:=iP fC.und rfl
def gA.f0:fAz gA 0:=by intro _ _;kernel_rfl
def gA.f1:qA gA 1 1:=by intro _ _;kernel_rfl
def gA.f2:qA gA 2 2:=by intro _ _;kernel_rfl
def gA.f3:qA gA 3 3:=by intro _ _;kernel_rfl
def cN.und:PG.underlying cN=some (TypeDesc.slice 257):=Tryz.underlying184
def cN.info:PG.info? cN=some Tryz.t184:=by kernel_rfl
def cN.size:Tryz.t184.size=1:=rfl
def cN.load{h:PH}{a:Addr}:cG PG h (loadAt cN (.pointer (some a)))=dB h a:=iP cN.und rfl
def cN.put:aLy cN:=λH a b c=>H.put1 cN.und rfl cN.info cN.size a b c
def cC.und:PG.underlying cC=some (TypeDesc.struct #[{name:="Absent",type:=4,offset:=0,embedded:=false,tag:="",pkgPath:="",byteOffset:=0},{name:="Leaves",type:=184,offset:=1,embedded:=false,tag:="",pkgPath:="",byteOffset:=8}]):=Tryz.underlying186
def cC.info:PG.info? cC=some Tryz.t186:=by kernel_rfl
def cC.size:Tryz.t186.size=2:=rfl
def cC.zbox{h:PH}{r:Nat}:Bx (h.set r (.cells (dV PG cC) cC)) r ((Value.agg #[Value.bool false,Value.slice none 0 0])).cells.toList:=Bx.zero (by kernel_rfl)
def cC.zc:dV PG cC=((Value.agg #[Value.bool false,Value.slice none 0 0])).cells:=by kernel_rfl
def cC.agg:aLU cC 2:=λH=>H.agg cC.und rfl cC.info cC.size
def cC.put:aN8 cC 2:=aPm cC.info rfl (by decide)
def cC.fill:aKe cC 2:=aLS cC.info rfl (by decide) (by rw[cC.zc];rfl)
def cC.f0:fAz cC 0:=by intro _ _;kernel_rfl
def cC.f1:qA cC 1 1:=by intro _ _;kernel_rfl
def cK.und:PG.underlying cK=some (TypeDesc.struct #[{name:="is",type:=26,offset:=0,embedded:=false,tag:="",pkgPath:="carrack/chain",byteOffset:=0},{name:="e",type:=63,offset:=1,embedded:=false,tag:="",pkgPath:="carrack/chain",byteOffset:=8}]):=Tryz.underlying193
def cK.info:PG.info? cK=some Tryz.t193:=by kernel_rfl
def cK.size:Tryz.t193.size=2:=rfl
def cK.bytes:Tryz.t193.bytes=16:=rfl
def cK.zero:Tryz.t193.zero=some (Value.agg #[Value.nilFunc,Value.int IntKind.i64 0]):=rfl
def cK.zbox{h:PH}{r:Nat}:Bx (h.set r (.cells (dV PG cK) cK)) r ((Value.agg #[Value.nilFunc,Value.int IntKind.i64 0])).cells.toList:=Bx.zero (by kernel_rfl)
def cK.zc:dV PG cK=((Value.agg #[Value.nilFunc,Value.int IntKind.i64 0])).cells:=by kernel_rfl
def cK.agg:aLU cK 2:=λH=>H.agg cK.und rfl cK.info cK.size
def cK.put:aN8 cK 2:=aPm cK.info rfl (by decide)
def cK.fill:aKe cK 2:=aLS cK.info rfl (by decide) (by rw[cK.zc];rfl)
def cK.f0:fAz cK 0:=by intro _ _;kernel_rfl
def cK.f1:qA cK 1 1:=by intro _ _;kernel_rfl
def jC.und:PG.underlying jC=some (TypeDesc.struct #[{name:="l",type:=65,offset:=0,embedded:=false,tag:="",pkgPath:="carrack/store",byteOffset:=0}]):=Tryz.underlying198
def jC.info:PG.info? jC=some Tryz.t198:=by kernel_rfl
def jC.size:Tryz.t198.size=1:=rfl
def jC.loadAgg:aIw jC 1:=pJ jC.und rfl jC.info jC.size
def jC.f0:fAz jC 0:=by intro _ _;kernel_rfl
def dX.und:PG.underlying dX=some (TypeDesc.struct #[{name:="sorted",type:=198,offset:=0,embedded:=true,tag:="",pkgPath:="carrack/store",byteOffset:=0},{name:="root",type:=9,offset:=1,embedded:=false,tag:="",pkgPath:="carrack/store",byteOffset:=24}]):=Tryz.underlying200
def dX.info:PG.info? dX=some Tryz.t200:=by kernel_rfl
def dX.size:Tryz.t200.size=2:=rfl
def dX.bytes:Tryz.t200.bytes=40:=rfl
def dX.zero:Tryz.t200.zero=some (Value.agg #[Value.slice none 0 0,Value.string {data:=#[]}]):=rfl
def dX.zc:dV PG dX=((Value.agg #[Value.slice none 0 0,Value.string {data:=#[]}])).cells:=by kernel_rfl
def dX.loadAgg:aIw dX 2:=pJ dX.und rfl dX.info dX.size
def dX.f0:fAz dX 0:=by intro _ _;kernel_rfl
def dX.f1:qA dX 1 1:=by intro _ _;kernel_rfl
def lI.und:PG.underlying lI=some (TypeDesc.func #[9] #[4] false):=Tryz.underlying206
def lI.load{h:PH}{a:Addr}:cG PG h (loadAt lI (.pointer (some a)))=dB h a:=iP lI.und rfl
def fU.und:PG.underlying fU=some (TypeDesc.slice 200):=Tryz.underlying219
def fU.info:PG.info? fU=some Tryz.t219:=by kernel_rfl
def fU.size:Tryz.t219.size=1:=rfl
def fU.load{h:PH}{a:Addr}:cG PG h (loadAt fU (.pointer (some a)))=dB h a:=iP fU.und rfl
def eY.f0:fAz eY 0:=by intro _ _;kernel_rfl
def eY.f1:qA eY 1 1:=by intro _ _;kernel_rfl
def eY.f2:qA eY 2 2:=by intro _ _;kernel_rfl
def fT.und:PG.underlying fT=some (TypeDesc.func #[80,164,34] #[63] false):=Tryz.underlying229
def fT.info:PG.info? fT=some Tryz.t229:=by kernel_rfl
def fT.size:Tryz.t229.size=1:=rfl
def fT.load{h:PH}{a:Addr}:cG PG h (loadAt fT (.pointer (some a)))=dB h a:=iP fT.und rfl
def eI.und:PG.underlying eI=some (TypeDesc.array 5 229):=Tryz.underlying231
def eI.info:PG.info? eI=some Tryz.t231:=by kernel_rfl
def eI.zc:dV PG eI=((Value.agg #[Value.nilFunc,Value.nilFunc,Value.nilFunc,Value.nilFunc,Value.nilFunc])).cells:=by kernel_rfl
def nQ.und:PG.underlying nQ=some (TypeDesc.slice 3):=Tryz.underlying238
def dW.und:PG.underlying dW=some (TypeDesc.slice 287):=Tryz.underlying242
def dW.info:PG.info? dW=some Tryz.t242:=by kernel_rfl
def dW.size:Tryz.t242.size=1:=rfl
def dW.load{h:PH}{a:Addr}:cG PG h (loadAt dW (.pointer (some a)))=dB h a:=iP dW.und rfl
def gG.f0:fAz gG 0:=by intro _ _;kernel_rfl
def gG.build0:dH PG (build gG #[])=some (Value.agg #[Value.slice none 0 0]):=by kernel_rfl
def cL.und:PG.underlying cL=some (TypeDesc.int IntKind.u32):=Tryz.underlying246
def cL.info:PG.info? cL=some Tryz.t246:=by kernel_rfl
def cL.size:Tryz.t246.size=1:=rfl
def cL.bytes:Tryz.t246.bytes=4:=rfl
def cL.zero:Tryz.t246.zero=some (Value.int IntKind.u32 0):=rfl
def cL.load{h:PH}{a:Addr}:cG PG h (loadAt cL (.pointer (some a)))=dB h a:=iP cL.und rfl
def iB.und:PG.underlying iB=some (TypeDesc.map 22 9):=Tryz.underlying249
def iB.load{h:PH}{a:Addr}:cG PG h (loadAt iB (.pointer (some a)))=dB h a:=iP iB.und rfl
def iC.f0:fAz iC 0:=by intro _ _;kernel_rfl
def iC.f1:qA iC 1 1:=by intro _ _;kernel_rfl
def cP.und:PG.underlying cP=some (TypeDesc.slice 9):=Tryz.underlying255
def cP.info:PG.info? cP=some Tryz.t255:=by kernel_rfl
def cP.size:Tryz.t255.size=1:=rfl
def cP.zbox{h:PH}{r:Nat}:Bx (h.set r (.cells (dV PG cP) cP)) r ((Value.slice none 0 0)).cells.toList:=Bx.zero (by kernel_rfl)
def cP.load{h:PH}{a:Addr}:cG PG h (loadAt cP (.pointer (some a)))=dB h a:=iP cP.und rfl
def cP.put:aLy cP:=λH a b c=>H.put1 cP.und rfl cP.info cP.size a b c
def cB.und:PG.underlying cB=some (TypeDesc.struct #[{name:="Index",type:=3,offset:=0,embedded:=false,tag:="",pkgPath:="",byteOffset:=0},{name:="Count",type:=3,offset:=1,embedded:=false,tag:="",pkgPath:="",byteOffset:=8},{name:="Pair",type:=130,offset:=2,embedded:=false,tag:="",pkgPath:="",byteOffset:=16},{name:="Path",type:=255,offset:=4,embedded:=false,tag:="",pkgPath:="",byteOffset:=48}]):=Tryz.underlying257
def cB.info:PG.info? cB=some Tryz.t257:=by kernel_rfl
def cB.size:Tryz.t257.size=5:=rfl
def cB.bytes:Tryz.t257.bytes=72:=rfl
def cB.zero:Tryz.t257.zero=some (Value.agg #[Value.int IntKind.i64 0,Value.int IntKind.i64 0,Value.string {data:=#[]},Value.string {data:=#[]},Value.slice none 0 0]):=rfl
def cB.zbox{h:PH}{r:Nat}:Bx (h.set r (.cells (dV PG cB) cB)) r ((Value.agg #[Value.int IntKind.i64 0,Value.int IntKind.i64 0,Value.string {data:=#[]},Value.string {data:=#[]},Value.slice none 0 0])).cells.toList:=Bx.zero (by kernel_rfl)
def cB.zc:dV PG cB=((Value.agg #[Value.int IntKind.i64 0,Value.int IntKind.i64 0,Value.string {data:=#[]},Value.string {data:=#[]},Value.slice none 0 0])).cells:=by kernel_rfl
def cB.agg:aLU cB 5:=λH=>H.agg cB.und rfl cB.info cB.size
def cB.put:aN8 cB 5:=aPm cB.info rfl (by decide)
def cB.fill:aKe cB 5:=aLS cB.info rfl (by decide) (by rw[cB.zc];rfl)
def cB.f0:fAz cB 0:=by intro _ _;kernel_rfl
def cB.f1:qA cB 1 1:=by intro _ _;kernel_rfl
def cB.f2:qA cB 2 2:=by intro _ _;kernel_rfl
def cB.f3:qA cB 3 4:=by intro _ _;kernel_rfl
def oF.f0:fAz oF 0:=by intro _ _;kernel_rfl
def eD.und:PG.underlying eD=some (TypeDesc.pointer 263):=Tryz.underlying261
def eD.info:PG.info? eD=some Tryz.t261:=by kernel_rfl
def eD.size:Tryz.t261.size=1:=rfl
def eD.load{h:PH}{a:Addr}:cG PG h (loadAt eD (.pointer (some a)))=dB h a:=iP eD.und rfl
def dN.info:PG.info? dN=some Tryz.t263:=by kernel_rfl
def dN.size:Tryz.t263.size=2:=rfl
def dN.zc:dV PG dN=((Value.agg #[Value.pointer none,Value.slice none 0 0])).cells:=by kernel_rfl
def dN.f0:fAz dN 0:=by intro _ _;kernel_rfl
def dN.f1:qA dN 1 1:=by intro _ _;kernel_rfl
def fR.zc:dV PG fR=((Value.agg #[Value.int IntKind.i64 0,Value.pointer none,Value.slice none 0 0])).cells:=by kernel_rfl
def fR.f0:fAz fR 0:=by intro _ _;kernel_rfl
def fR.f1:qA fR 1 1:=by intro _ _;kernel_rfl
def jN.und:PG.underlying jN=some (TypeDesc.slice 193):=Tryz.underlying271
def eV.und:PG.underlying eV=some (TypeDesc.struct #[{name:="Height",type:=22,offset:=0,embedded:=false,tag:="",pkgPath:="",byteOffset:=0},{name:="Root",type:=9,offset:=1,embedded:=false,tag:="",pkgPath:="",byteOffset:=8}]):=Tryz.underlying287
def eV.info:PG.info? eV=some Tryz.t287:=by kernel_rfl
def eV.size:Tryz.t287.size=2:=rfl
def eV.bytes:Tryz.t287.bytes=24:=rfl
def eV.zero:Tryz.t287.zero=some (Value.agg #[Value.int IntKind.u64 0,Value.string {data:=#[]}]):=rfl
def eV.f0:fAz eV 0:=by intro _ _;kernel_rfl
def eV.f1:qA eV 1 1:=by intro _ _;kernel_rfl
def fS.und:PG.underlying fS=some (TypeDesc.func #[65,3] #[] false):=Tryz.underlying354
def fS.info:PG.info? fS=some Tryz.t354:=by kernel_rfl
def fS.size:Tryz.t354.size=1:=rfl
def fS.zc:dV PG fS=(Value.nilFunc).cells:=by kernel_rfl
def fS.load{h:PH}{a:Addr}:cG PG h (loadAt fS (.pointer (some a)))=dB h a:=iP fS.und rfl
def fS.fill{h:PH}{r:Nat}{v:Value}{k:cD}(hr:h r=none)(hv:fW v=true)(hk:∀h',Bx h' r [v]->dD h h'->k undef h'):dC PG (dT fS (pT r 0) v) (h.set r (.cells (dV PG fS) fS)) k:=Bx.fill1 hr fS.und rfl fS.info fS.size (by rw[fS.zc];rfl) hv hk
def gL.f0:fAz gL 0:=by intro _ _;kernel_rfl
def gL.f1:qA gL 1 1:=by intro _ _;kernel_rfl
def fX.und:PG.underlying fX=some (TypeDesc.func #[3,3] #[9] false):=Tryz.underlying363
def fX.info:PG.info? fX=some Tryz.t363:=by kernel_rfl
def fX.size:Tryz.t363.size=1:=rfl
def fX.zc:dV PG fX=(Value.nilFunc).cells:=by kernel_rfl
def fX.load{h:PH}{a:Addr}:cG PG h (loadAt fX (.pointer (some a)))=dB h a:=iP fX.und rfl
def fX.fill{h:PH}{r:Nat}{v:Value}{k:cD}(hr:h r=none)(hv:fW v=true)(hk:∀h',Bx h' r [v]->dD h h'->k undef h'):dC PG (dT fX (pT r 0) v) (h.set r (.cells (dV PG fX) fX)) k:=Bx.fill1 hr fX.und rfl fX.info fX.size (by rw[fX.zc];rfl) hv hk
def fE.f0:fAz fE 0:=by intro _ _;kernel_rfl
def fE.f1:qA fE 1 1:=by intro _ _;kernel_rfl
def fE.f2:qA fE 2 2:=by intro _ _;kernel_rfl
def gK.f0:fAz gK 0:=by intro _ _;kernel_rfl
def gK.f1:qA gK 1 1:=by intro _ _;kernel_rfl
def eZ.und:PG.underlying eZ=some (TypeDesc.array 8 246):=Tryz.underlying376
def eZ.info:PG.info? eZ=some Tryz.t376:=by kernel_rfl
def eZ.size:Tryz.t376.size=8:=rfl
def eZ.zc:dV PG eZ=((Value.agg (Array.replicate 8 (Value.int IntKind.u32 0)))).cells:=by kernel_rfl
def eZ.loadAgg:aIw eZ 8:=pJ eZ.und rfl eZ.info eZ.size
def iA.und:PG.underlying iA=some (TypeDesc.struct #[{name:="h",type:=376,offset:=0,embedded:=false,tag:="",pkgPath:="carrack/sha",byteOffset:=0}]):=Tryz.underlying378
def iA.info:PG.info? iA=some Tryz.t378:=by kernel_rfl
def iA.size:Tryz.t378.size=8:=rfl
def iA.zc:dV PG iA=((Value.agg (Array.replicate 8 (Value.int IntKind.u32 0)))).cells:=by kernel_rfl
def iA.loadAgg:aIw iA 8:=pJ iA.und rfl iA.info iA.size
def iA.f0:fAz iA 0:=by intro _ _;kernel_rfl
def fJ.und:PG.underlying fJ=some (TypeDesc.struct #[{name:="state",type:=378,offset:=0,embedded:=true,tag:="",pkgPath:="carrack/sha",byteOffset:=0},{name:="rest",type:=9,offset:=8,embedded:=false,tag:="",pkgPath:="carrack/sha",byteOffset:=32},{name:="n",type:=3,offset:=9,embedded:=false,tag:="",pkgPath:="carrack/sha",byteOffset:=48}]):=Tryz.underlying381
def fJ.info:PG.info? fJ=some Tryz.t381:=by kernel_rfl
def fJ.size:Tryz.t381.size=10:=rfl
def fJ.zc:dV PG fJ=((Value.agg #[Value.int IntKind.u32 0,Value.int IntKind.u32 0,Value.int IntKind.u32 0,Value.int IntKind.u32 0,Value.int IntKind.u32 0,Value.int IntKind.u32 0,Value.int IntKind.u32 0,Value.int IntKind.u32 0,Value.string {data:=#[]},Value.int IntKind.i64 0])).cells:=by kernel_rfl
def fJ.loadAgg:aIw fJ 10:=pJ fJ.und rfl fJ.info fJ.size
def fJ.f0:fAz fJ 0:=by intro _ _;kernel_rfl
def fJ.f1:qA fJ 1 8:=by intro _ _;kernel_rfl
def fJ.f2:qA fJ 2 9:=by intro _ _;kernel_rfl
def iM.und:PG.underlying iM=some TypeDesc.unsafePointer:=Tryz.underlying389
def fI.und:PG.underlying fI=some (TypeDesc.array 64 246):=Tryz.underlying396
def fI.info:PG.info? fI=some Tryz.t396:=by kernel_rfl
def fI.size:Tryz.t396.size=64:=rfl
def fI.zc:dV PG fI=((Value.agg (Array.replicate 64 (Value.int IntKind.u32 0)))).cells:=by kernel_rfl
def fI.loadAgg:aIw fI 64:=pJ fI.und rfl fI.info fI.size
end Go.Proofs.YtppgkeodaejgcaaGreatDoor
