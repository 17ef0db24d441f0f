/- The texts of this claim, put together. -/
import Derived.Test.YtppgkeodaejgcaaGreatDoorSnQVC0
import Derived.Test.YtppgkeodaejgcaaGreatDoorChecked
import Derived.KernelRfl
set_option linter.all false
set_option maxRecDepth 100000
open Go.Instr (loadAt fieldAt indexAt extract buildSlice build)
namespace Go.Proofs.YtppgkeodaejgcaaGreatDoor
open Go
noncomputable abbrev PG:Program:=Tryz.prog
def mix:PG.follows .mixedOrders=true:=by kernel_rfl
abbrev aAA:FuncId:=8
abbrev tZ:FuncId:=13
abbrev jZ:FuncId:=14
abbrev aCh:FuncId:=20
abbrev aDx:FuncId:=21
abbrev aAD:FuncId:=22
abbrev aBt:FuncId:=23
abbrev rN:FuncId:=24
abbrev sZ:FuncId:=25
abbrev aG9:FuncId:=26
abbrev aIU:FuncId:=27
abbrev aCe:FuncId:=28
abbrev aDF:FuncId:=30
abbrev aKS:FuncId:=32
abbrev aBg:FuncId:=33
abbrev aBI:FuncId:=34
abbrev aDv:FuncId:=35
abbrev aDa:FuncId:=36
abbrev aDw:FuncId:=37
abbrev aJW:FuncId:=38
abbrev qS:FuncId:=39
abbrev aC0:FuncId:=40
abbrev vS:FuncId:=41
abbrev aDz:FuncId:=42
abbrev aDy:FuncId:=43
abbrev aCU:FuncId:=44
abbrev aD6:FuncId:=45
abbrev aEo:FuncId:=46
abbrev aB0:FuncId:=47
abbrev aCm:FuncId:=48
abbrev aBu:FuncId:=49
abbrev yZ:FuncId:=50
abbrev aBj:FuncId:=51
abbrev aAV:FuncId:=52
abbrev uO:FuncId:=53
abbrev pW:FuncId:=54
abbrev yD:FuncId:=55
abbrev aBk:FuncId:=57
abbrev pH:FuncId:=58
abbrev pC:FuncId:=65
abbrev yL:FuncId:=67
abbrev aGz:FuncId:=68
abbrev uP:FuncId:=69
abbrev aH6:FuncId:=70
abbrev zN:FuncId:=71
abbrev lV:FuncId:=72
abbrev pF:FuncId:=73
abbrev rX:FuncId:=74
abbrev aId:FuncId:=75
abbrev aEr:FuncId:=76
abbrev aCd:FuncId:=77
abbrev aD8:FuncId:=78
abbrev aAj:FuncId:=79
abbrev aAE:FuncId:=80
abbrev aJb:FuncId:=81
abbrev aIa:FuncId:=82
abbrev aFT:FuncId:=83
abbrev aGI:FuncId:=84
abbrev aHK:FuncId:=85
abbrev aHa:FuncId:=86
abbrev jO:FuncId:=87
abbrev yA:FuncId:=88
abbrev tN:FuncId:=89
abbrev sU:FuncId:=90
abbrev tU:FuncId:=91
abbrev aA4:FuncId:=92
abbrev sT:FuncId:=93
abbrev zX:FuncId:=94
abbrev wF:FuncId:=95
abbrev wJ:FuncId:=96
abbrev aB9:FuncId:=97
abbrev aDI:FuncId:=98
abbrev tB:FuncId:=99
abbrev aCT:FuncId:=100
abbrev aHB:FuncId:=101
abbrev aF8:FuncId:=102
abbrev tL:FuncId:=103
abbrev sX:FuncId:=104
abbrev tT:FuncId:=105
abbrev aDd:FuncId:=106
abbrev aDD:FuncId:=107
abbrev zD:FuncId:=108
abbrev aAX:FuncId:=109
abbrev aHg:FuncId:=110
abbrev mQ:FuncId:=111
abbrev aCb:FuncId:=112
abbrev xQ:FuncId:=113
abbrev zG:FuncId:=114
abbrev zL:FuncId:=115
abbrev sF:FuncId:=116
abbrev zI:FuncId:=117
abbrev zV:FuncId:=118
abbrev vN:FuncId:=119
abbrev wW:FuncId:=120
abbrev aDf:FuncId:=121
abbrev aDX:FuncId:=122
abbrev aGE:FuncId:=128
abbrev aDu:FuncId:=129
abbrev aIO:FuncId:=130
abbrev lG:FuncId:=131
abbrev kB:FuncId:=132
abbrev iR:FuncId:=133
abbrev pA:FuncId:=137
abbrev iN:FuncId:=138
abbrev aDJ:FuncId:=140
abbrev aAr:FuncId:=141
abbrev lZ:FuncId:=142
abbrev aD4:FuncId:=143
abbrev aBw:FuncId:=144
abbrev aAB:FuncId:=145
abbrev aCj:FuncId:=146
abbrev aCk:FuncId:=147
abbrev aFt:FuncId:=148
abbrev uT:FuncId:=149
abbrev lY:FuncId:=150
abbrev aGB:FuncId:=151
abbrev aBf:FuncId:=152
abbrev nZ:FuncId:=153
abbrev mW:FuncId:=154
abbrev rP:FuncId:=155
abbrev tH:FuncId:=156
abbrev uK:FuncId:=157
abbrev jF:FuncId:=158
abbrev aEp:FuncId:=159
abbrev aEc:FuncId:=160
abbrev aB4:FuncId:=161
abbrev aCV:FuncId:=162
abbrev rA:FuncId:=163
abbrev qY:FuncId:=164
abbrev aFE:FuncId:=165
abbrev aFC:FuncId:=166
abbrev aBh:FuncId:=167
abbrev aDt:FuncId:=168
abbrev aDR:FuncId:=169
abbrev rB:FuncId:=170
abbrev uI:FuncId:=171
abbrev aA6:FuncId:=172
abbrev aB2:FuncId:=173
abbrev tP:FuncId:=174
abbrev oE:FuncId:=175
abbrev vP:FuncId:=176
abbrev sC:FuncId:=177
abbrev nR:FuncId:=178
abbrev pD:FuncId:=179
abbrev nC:FuncId:=180
abbrev uV:FuncId:=181
abbrev mV:FuncId:=182
abbrev aAu:FuncId:=183
abbrev xD:FuncId:=184
abbrev sJ:FuncId:=185
abbrev oH:FuncId:=186
abbrev aCn:FuncId:=187
abbrev wP:FuncId:=188
abbrev aG7:FuncId:=189
abbrev aE7:FuncId:=190
abbrev aMd:FuncId:=202
abbrev aIH:FuncId:=203
abbrev aBN:FuncId:=204
abbrev aIS:FuncId:=213
abbrev aCf:FuncId:=214
abbrev aDg:FuncId:=215
abbrev qL:FuncId:=216
abbrev qJ:FuncId:=217
abbrev oP:FuncId:=218
abbrev yM:FuncId:=219
abbrev aHd:FuncId:=220
abbrev uL:FuncId:=221
abbrev pG:FuncId:=222
abbrev aFV:FuncId:=223
abbrev lI:FuncId:=224
abbrev xX:FuncId:=225
abbrev kY:FuncId:=226
abbrev oQ:FuncId:=227
abbrev kO:FuncId:=228
abbrev aHb:FuncId:=229
abbrev aAf:FuncId:=230
abbrev aFP:FuncId:=231
abbrev wH:FuncId:=232
abbrev aIb:FuncId:=233
abbrev aEq:FuncId:=234
abbrev aGF:FuncId:=235
abbrev aGw:FuncId:=236
abbrev sP:FuncId:=237
abbrev aCR:FuncId:=238
abbrev yX:FuncId:=239
abbrev qX:FuncId:=240
abbrev aAJ:FuncId:=241
abbrev kH:FuncId:=242
abbrev yJ:FuncId:=243
abbrev rU:FuncId:=244
abbrev mJ:FuncId:=245
abbrev yO:FuncId:=246
abbrev xO:FuncId:=247
abbrev aIW:FuncId:=248
abbrev aLF:FuncId:=249
abbrev aCF:FuncId:=250
abbrev aHC:FuncId:=251
abbrev aAa:FuncId:=260
abbrev aCQ:FuncId:=261
abbrev aDi:FuncId:=262
abbrev aE3:FuncId:=263
abbrev aCa:FuncId:=264
abbrev aCc:FuncId:=265
abbrev aDe:FuncId:=266
abbrev yE:FuncId:=267
abbrev mN:FuncId:=268
abbrev mM:FuncId:=269
abbrev xY:FuncId:=270
abbrev aE2:FuncId:=271
abbrev aAq:FuncId:=272
abbrev yC:FuncId:=273
abbrev aD2:FuncId:=274
abbrev aCO:FuncId:=275
abbrev uJ:FuncId:=276
abbrev xZ:FuncId:=277
abbrev uR:FuncId:=278
abbrev qP:FuncId:=279
abbrev rV:FuncId:=280
abbrev xK:FuncId:=281
abbrev xN:FuncId:=282
abbrev mG:FuncId:=283
abbrev aCl:FuncId:=284
abbrev aMe:FuncId:=285
abbrev aF9:FuncId:=286
abbrev aGJ:FuncId:=287
abbrev aFR:FuncId:=288
abbrev aD5:FuncId:=289
abbrev aBz:FuncId:=292
abbrev wL:FuncId:=293
abbrev yH:FuncId:=294
abbrev aAe:FuncId:=295
abbrev aCg:FuncId:=296
abbrev aD0:FuncId:=297
abbrev aCp:FuncId:=298
abbrev lW:FuncId:=299
abbrev sS:FuncId:=300
abbrev pV:FuncId:=301
abbrev xT:FuncId:=302
abbrev aB5:FuncId:=303
abbrev aJE:FuncId:=304
abbrev qM:FuncId:=305
abbrev aGD:FuncId:=306
abbrev uS:FuncId:=307
abbrev aA9:FuncId:=308
abbrev rW:FuncId:=309
abbrev kC:FuncId:=310
abbrev aEI:FuncId:=311
abbrev aMf:FuncId:=312
abbrev aHx:FuncId:=313
abbrev aFL:FuncId:=315
abbrev uU:FuncId:=316
abbrev T_:TypeId:=0
abbrev bT:TypeId:=3
abbrev gP:TypeId:=4
abbrev dT:TypeId:=5
abbrev bR:TypeId:=9
abbrev aNE:TypeId:=20
abbrev cA:TypeId:=22
abbrev eV:TypeId:=23
abbrev iS:TypeId:=24
abbrev fN:TypeId:=25
abbrev aAR:TypeId:=26
abbrev dB:TypeId:=28
abbrev dO:TypeId:=29
abbrev aR:TypeId:=34
abbrev dW:TypeId:=40
abbrev gE:TypeId:=42
abbrev fK:TypeId:=43
abbrev jQ:TypeId:=44
abbrev eO:TypeId:=45
abbrev cV:TypeId:=46
abbrev cQ:TypeId:=48
abbrev iM:TypeId:=49
abbrev lB:TypeId:=50
abbrev lT:TypeId:=52
abbrev nU:TypeId:=54
abbrev dF:TypeId:=55
abbrev fY:TypeId:=63
abbrev cJ:TypeId:=65
abbrev jB:TypeId:=67
abbrev dY:TypeId:=68
abbrev eS:TypeId:=70
abbrev jE:TypeId:=71
abbrev eI:TypeId:=73
abbrev uF:TypeId:=80
abbrev cZ:TypeId:=85
abbrev cG:TypeId:=105
abbrev cM:TypeId:=130
abbrev fJ:TypeId:=131
abbrev dP:TypeId:=133
abbrev dZ:TypeId:=137
abbrev uQ:TypeId:=151
abbrev dK:TypeId:=154
abbrev dL:TypeId:=162
abbrev gB:TypeId:=164
abbrev gH:TypeId:=166
abbrev eZ:TypeId:=175
abbrev fZ:TypeId:=179
abbrev cN:TypeId:=184
abbrev cC:TypeId:=186
abbrev cK:TypeId:=193
abbrev jA:TypeId:=198
abbrev dV:TypeId:=200
abbrev lC:TypeId:=206
abbrev fU:TypeId:=219
abbrev eW:TypeId:=221
abbrev fS:TypeId:=229
abbrev eH:TypeId:=231
abbrev nK:TypeId:=238
abbrev dU:TypeId:=242
abbrev gG:TypeId:=244
abbrev cL:TypeId:=246
abbrev hZ:TypeId:=249
abbrev iA:TypeId:=251
abbrev cP:TypeId:=255
abbrev cB:TypeId:=257
abbrev oC:TypeId:=260
abbrev dX:TypeId:=261
abbrev dM:TypeId:=263
abbrev fQ:TypeId:=265
abbrev jJ:TypeId:=271
abbrev eP:TypeId:=287
abbrev fR:TypeId:=354
abbrev oR:TypeId:=358
abbrev gK:TypeId:=360
abbrev fX:TypeId:=363
abbrev fC:TypeId:=368
abbrev gL:TypeId:=374
abbrev eX:TypeId:=376
abbrev hQ:TypeId:=378
abbrev fI:TypeId:=381
abbrev iI:TypeId:=389
abbrev fH:TypeId:=396
def bT.und:PG.underlying bT=some (TypeDesc.int IntKind.i64):=Tryz.underlying3
def bT.info:PG.info? bT=some Tryz.t3:=by kernel_rfl
def bT.size:Tryz.t3.size=1:=rfl
def bT.load{h:PH}{a:Addr}:cH PG h (loadAt bT (.pointer (some a)))=dC h a:=iK bT.und rfl
abbrev aNW(t:TypeId)(n:Nat):Prop:=∀{h:PH} {r o:Nat} {cs vs:List Value} {k:cD} (H:Bx h r cs) (hl:vs.length=n) (ho:o+n≤cs.length) (hv:∀v∈vs,fW v=true) (hk:∀h',Bx h' r (cs.take o++vs++cs.drop (o+n))->cT [r] h h'->k undef h'),dA PG (dS t (pT r o) (.agg vs.toArray)) h k
def aPD{t:TypeId}{n:Nat}{i:TypeInfo}(hi:PG.info? t=some i)(hn:i.size=n)(h0:0<n):aNW t n:=by
 intro h r o cs vs k H hl ho hv hk;exact H.putN hi (by rw[hl];exact hn) (by omega) (by omega) hv (by rw[hl];exact hk)
abbrev aJ4(t:TypeId)(n:Nat):Prop:=∀{h:PH} {r:Nat} {vs:List Value} {k:cD} (hr:h r=none) (hl:vs.length=n) (hv:∀v∈vs,fW v=true) (hk:∀h',Bx h' r vs->dD h h'->k undef h'),dA PG (dS t (pT r 0) (.agg vs.toArray)) (h.set r (.cells (dR PG t) t)) k
def aLO{t:TypeId}{n:Nat}{i:TypeInfo}(hi:PG.info? t=some i)(hn:i.size=n)(h0:0<n)(hz:(dR PG t).size=n):aJ4 t n:=by
 intro h r vs k hr hl hv hk;exact Bx.fill hr hi (by rw[hl];exact hn) (by omega) (by rw[hz,hl]) hv hk
abbrev aLH(t:TypeId)(n:Nat):Prop:=∀{h:PH} {r o:Nat} {cs:List Value} (H:Bx h r cs) (hle:o+n≤cs.length),cH PG h (loadAt t (pT r o))=some (.agg ((cs.drop o).take n).toArray)
abbrev aIY(t:TypeId)(n:Nat):Prop:=∀{h:PH} {b o:Nat} {c:Array Value} {e:TypeId} {fr:Nat×Nat} (hb:h b=some (.cells c e fr)) (hle:o+n≤c.size),cH PG h (loadAt t (pT b o))=some (.agg (c.extract o (o+n)))
abbrev aKw(t:TypeId):Prop:=∀{h:PH} {r o:Nat} {cs:List Value} {v:Value} {k:cD} (H:Bx h r cs) (ho:o<cs.length) (hv:fW v=true) (hk:∀h',Bx h' r (cs.set o v)->cT [r] h h'->k undef h'),dA PG (dS t (pT r o) v) h k
def bT.put:aKw bT:=λH a b c=>H.put1 bT.und rfl bT.info bT.size a b c
def gP.und:PG.underlying gP=some TypeDesc.bool:=Tryz.underlying4
def gP.info:PG.info? gP=some Tryz.t4:=by kernel_rfl
def gP.size:Tryz.t4.size=1:=rfl
def gP.zbox{h:PH}{r:Nat}:Bx (h.set r (.cells (dR PG gP) gP)) r ((Value.bool false)).cells.toList:=Bx.zero (by kernel_rfl)
def gP.load{h:PH}{a:Addr}:cH PG h (loadAt gP (.pointer (some a)))=dC h a:=iK gP.und rfl
def gP.put:aKw gP:=λH a b c=>H.put1 gP.und rfl gP.info gP.size a b c
def dT.und:PG.underlying dT=some (TypeDesc.int IntKind.u8):=Tryz.underlying5
def dT.info:PG.info? dT=some Tryz.t5:=by kernel_rfl
def dT.size:Tryz.t5.size=1:=rfl
def dT.bytes:Tryz.t5.bytes=1:=rfl
def dT.zero:Tryz.t5.zero=some (Value.int IntKind.u8 0):=rfl
def bR.und:PG.underlying bR=some TypeDesc.string:=Tryz.underlying9
def bR.info:PG.info? bR=some Tryz.t9:=by kernel_rfl
def bR.size:Tryz.t9.size=1:=rfl
def bR.bytes:Tryz.t9.bytes=16:=rfl
def bR.zero:Tryz.t9.zero=some (Value.string {data:=#[]}):=rfl
def bR.zbox{h:PH}{r:Nat}:Bx (h.set r (.cells (dR PG bR) bR)) r ((Value.string {data:=#[]})).cells.toList:=Bx.zero (by kernel_rfl)
def bR.load{h:PH}{a:Addr}:cH PG h (loadAt bR (.pointer (some a)))=dC h a:=iK bR.und rfl
def bR.put:aKw bR:=λH a b c=>H.put1 bR.und rfl bR.info bR.size a b c
def bR.len{s:ByteArray}{t:TypeId}:dH PG (Builtin.len_ #[bR] t #[.string s])=some (.int .i64 s.size):=mI bR.und
def cA.und:PG.underlying cA=some (TypeDesc.int IntKind.u64):=Tryz.underlying22
def cA.info:PG.info? cA=some Tryz.t22:=by kernel_rfl
def cA.size:Tryz.t22.size=1:=rfl
def cA.bytes:Tryz.t22.bytes=8:=rfl
def cA.zero:Tryz.t22.zero=some (Value.int IntKind.u64 0):=rfl
def cA.load{h:PH}{a:Addr}:cH PG h (loadAt cA (.pointer (some a)))=dC h a:=iK cA.und rfl
def cA.put:aKw cA:=λH a b c=>H.put1 cA.und rfl cA.info cA.size a b c
def eV.und:PG.underlying eV=some (TypeDesc.array 2 22):=Tryz.underlying23
def eV.info:PG.info? eV=some Tryz.t23:=by kernel_rfl
def eV.size:Tryz.t23.size=2:=rfl
def eV.agg:aLH eV 2:=λH=>H.agg eV.und rfl eV.info eV.size
def iS.und:PG.underlying iS=some (TypeDesc.slice 105):=Tryz.underlying24
def fN.und:PG.underlying fN=some (TypeDesc.slice 40):=Tryz.underlying25
def fN.info:PG.info? fN=some Tryz.t25:=by kernel_rfl
def fN.size:Tryz.t25.size=1:=rfl
def fN.load{h:PH}{a:Addr}:cH PG h (loadAt fN (.pointer (some a)))=dC h a:=iK fN.und rfl
def aAR.und:PG.underlying aAR=some (TypeDesc.func #[] #[4] false):=Tryz.underlying26
def aAR.load{h:PH}{a:Addr}:cH PG h (loadAt aAR (.pointer (some a)))=dC h a:=iK aAR.und rfl
def dB.und:PG.underlying dB=some (TypeDesc.pointer 73):=Tryz.underlying28
def dB.info:PG.info? dB=some Tryz.t28:=by kernel_rfl
def dB.size:Tryz.t28.size=1:=rfl
def dB.load{h:PH}{a:Addr}:cH PG h (loadAt dB (.pointer (some a)))=dC h a:=iK dB.und rfl
def dB.put:aKw dB:=λH a b c=>H.put1 dB.und rfl dB.info dB.size a b c
def dO.und:PG.underlying dO=some (TypeDesc.array 2 28):=Tryz.underlying29
def dO.info:PG.info? dO=some Tryz.t29:=by kernel_rfl
def dO.size:Tryz.t29.size=2:=rfl
def dO.zbox{h:PH}{r:Nat}:Bx (h.set r (.cells (dR PG dO) dO)) r ((Value.agg #[Value.pointer none,Value.pointer none])).cells.toList:=Bx.zero (by kernel_rfl)
def dO.zc:dR PG dO=((Value.agg #[Value.pointer none,Value.pointer none])).cells:=by kernel_rfl
def dO.agg:aLH dO 2:=λH=>H.agg dO.und rfl dO.info dO.size
def dO.put:aNW dO 2:=aPD dO.info rfl (by decide)
def dO.fill:aJ4 dO 2:=aLO dO.info rfl (by decide) (by rw[dO.zc];rfl)
def aR.und:PG.underlying aR=some (TypeDesc.struct #[{name:="From",type:=3,offset:=0,embedded:=false,tag:="",pkgPath:="",byteOffset:=0},{name:="Seq",type:=22,offset:=1,embedded:=false,tag:="",pkgPath:="",byteOffset:=8},{name:="Timeout",type:=22,offset:=2,embedded:=false,tag:="",pkgPath:="",byteOffset:=16},{name:="Data",type:=9,offset:=3,embedded:=false,tag:="",pkgPath:="",byteOffset:=24}]):=Tryz.underlying34
def aR.info:PG.info? aR=some Tryz.t34:=by kernel_rfl
def aR.size:Tryz.t34.size=4:=rfl
def aR.zbox{h:PH}{r:Nat}:Bx (h.set r (.cells (dR PG aR) aR)) r ((Value.agg #[Value.int IntKind.i64 0,Value.int IntKind.u64 0,Value.int IntKind.u64 0,Value.string {data:=#[]}])).cells.toList:=Bx.zero (by kernel_rfl)
def aR.zc:dR PG aR=((Value.agg #[Value.int IntKind.i64 0,Value.int IntKind.u64 0,Value.int IntKind.u64 0,Value.string {data:=#[]}])).cells:=by kernel_rfl
def aR.loadAgg:aIY aR 4:=pB aR.und rfl aR.info aR.size
def aR.agg:aLH aR 4:=λH=>H.agg aR.und rfl aR.info aR.size
def aR.put:aNW aR 4:=aPD aR.info rfl (by decide)
def aR.fill:aJ4 aR 4:=aLO aR.info rfl (by decide) (by rw[aR.zc];rfl)
abbrev fAz(t:TypeId)(i:Nat):Prop:=∀{b o:Nat},dH PG (fieldAt t (pT b o) i)=some (pT b o)
def aR.f0:fAz aR 0:=by intro _ _;kernel_rfl
abbrev pX(t:TypeId)(i n:Nat):Prop:=∀{b o:Nat},dH PG (fieldAt t (pT b o) i)=some (pT b (o+n))
def aR.f1:pX aR 1 1:=by intro _ _;kernel_rfl
def aR.f2:pX aR 2 2:=by intro _ _;kernel_rfl
def aR.f3:pX aR 3 3:=by intro _ _;kernel_rfl
def dW.und:PG.underlying dW=some (TypeDesc.struct #[{name:="Packet",type:=34,offset:=0,embedded:=false,tag:="",pkgPath:="",byteOffset:=0},{name:="Stage",type:=3,offset:=4,embedded:=false,tag:="",pkgPath:="",byteOffset:=40}]):=Tryz.underlying40
def dW.info:PG.info? dW=some Tryz.t40:=by kernel_rfl
def dW.size:Tryz.t40.size=5:=rfl
def dW.bytes:Tryz.t40.bytes=48:=rfl
def dW.zero:Tryz.t40.zero=some (Value.agg #[Value.int IntKind.i64 0,Value.int IntKind.u64 0,Value.int IntKind.u64 0,Value.string {data:=#[]},Value.int IntKind.i64 0]):=rfl
def dW.zc:dR PG dW=((Value.agg #[Value.int IntKind.i64 0,Value.int IntKind.u64 0,Value.int IntKind.u64 0,Value.string {data:=#[]},Value.int IntKind.i64 0])).cells:=by kernel_rfl
def dW.loadAgg:aIY dW 5:=pB dW.und rfl dW.info dW.size
def dW.f0:fAz dW 0:=by intro _ _;kernel_rfl
def gE.und:PG.underlying gE=some (TypeDesc.pointer 179):=Tryz.underlying42
def gE.load{h:PH}{a:Addr}:cH PG h (loadAt gE (.pointer (some a)))=dC h a:=iK gE.und rfl
def fK.und:PG.underlying fK=some (TypeDesc.pointer 133):=Tryz.underlying43
def fK.load{h:PH}{a:Addr}:cH PG h (loadAt fK (.pointer (some a)))=dC h a:=iK fK.und rfl
def jQ.und:PG.underlying jQ=some (TypeDesc.pointer 244):=Tryz.underlying44
def jQ.load{h:PH}{a:Addr}:cH PG h (loadAt jQ (.pointer (some a)))=dC h a:=iK jQ.und rfl
def eO.und:PG.underlying eO=some (TypeDesc.slice 46):=Tryz.underlying45
def eO.info:PG.info? eO=some Tryz.t45:=by kernel_rfl
def eO.size:Tryz.t45.size=1:=rfl
def eO.load{h:PH}{a:Addr}:cH PG h (loadAt eO (.pointer (some a)))=dC h a:=iK eO.und rfl
def eO.put:aKw eO:=λH a b c=>H.put1 eO.und rfl eO.info eO.size a b c
def cV.und:PG.underlying cV=some (TypeDesc.slice 154):=Tryz.underlying46
def cV.info:PG.info? cV=some Tryz.t46:=by kernel_rfl
def cV.size:Tryz.t46.size=1:=rfl
def cV.bytes:Tryz.t46.bytes=24:=rfl
def cV.zero:Tryz.t46.zero=some (Value.slice none 0 0):=rfl
def cV.load{h:PH}{a:Addr}:cH PG h (loadAt cV (.pointer (some a)))=dC h a:=iK cV.und rfl
def cV.put:aKw cV:=λH a b c=>H.put1 cV.und rfl cV.info cV.size a b c
def cQ.f0:fAz cQ 0:=by intro _ _;kernel_rfl
def cQ.f1:pX cQ 1 1:=by intro _ _;kernel_rfl
def cQ.f2:pX cQ 2 2:=by intro _ _;kernel_rfl
def cQ.f3:pX cQ 3 3:=by intro _ _;kernel_rfl
def cQ.f4:pX cQ 4 4:=by intro _ _;kernel_rfl
def cQ.f5:pX cQ 5 5:=by intro _ _;kernel_rfl
def cQ.f6:pX cQ 6 6:=by intro _ _;kernel_rfl
def iM.und:PG.underlying iM=some (TypeDesc.pointer 48):=Tryz.underlying49
def iM.info:PG.info? iM=some Tryz.t49:=by kernel_rfl
def iM.size:Tryz.t49.size=1:=rfl
def iM.load{h:PH}{a:Addr}:cH PG h (loadAt iM (.pointer (some a)))=dC h a:=iK iM.und rfl
def lB.und:PG.underlying lB=some (TypeDesc.array 2 49):=Tryz.underlying50
def lT.f0:fAz lT 0:=by intro _ _;kernel_rfl
def dF.und:PG.underlying dF=some (TypeDesc.slice 5):=Tryz.underlying55
def dF.info:PG.info? dF=some Tryz.t55:=by kernel_rfl
def dF.size:Tryz.t55.size=1:=rfl
def dF.load{h:PH}{a:Addr}:cH PG h (loadAt dF (.pointer (some a)))=dC h a:=iK dF.und rfl
def dF.len{a:Option Addr}{n c:Nat}{t:TypeId}:dH PG (Builtin.len_ #[dF] t #[.slice a n c])=some (.int .i64 n):=aPS dF.und
def fY.und:PG.underlying fY=some (TypeDesc.int IntKind.i64):=Tryz.underlying63
def fY.info:PG.info? fY=some Tryz.t63:=by kernel_rfl
def fY.size:Tryz.t63.size=1:=rfl
def fY.load{h:PH}{a:Addr}:cH PG h (loadAt fY (.pointer (some a)))=dC h a:=iK fY.und rfl
def cJ.und:PG.underlying cJ=some (TypeDesc.slice 130):=Tryz.underlying65
def cJ.info:PG.info? cJ=some Tryz.t65:=by kernel_rfl
def cJ.size:Tryz.t65.size=1:=rfl
def cJ.bytes:Tryz.t65.bytes=24:=rfl
def cJ.zero:Tryz.t65.zero=some (Value.slice none 0 0):=rfl
def cJ.load{h:PH}{a:Addr}:cH PG h (loadAt cJ (.pointer (some a)))=dC h a:=iK cJ.und rfl
def jB.und:PG.underlying jB=some (TypeDesc.pointer 221):=Tryz.underlying67
def jB.load{h:PH}{a:Addr}:cH PG h (loadAt jB (.pointer (some a)))=dC h a:=iK jB.und rfl
def dY.und:PG.underlying dY=some (TypeDesc.map 9 9):=Tryz.underlying68
def dY.load{h:PH}{a:Addr}:cH PG h (loadAt dY (.pointer (some a)))=dC h a:=iK dY.und rfl
def eS.f0:fAz eS 0:=by intro _ _;kernel_rfl
def eS.f1:pX eS 1 1:=by intro _ _;kernel_rfl
def eS.f2:pX eS 2 2:=by intro _ _;kernel_rfl
def eS.f3:pX eS 3 3:=by intro _ _;kernel_rfl
def eS.f4:pX eS 4 4:=by intro _ _;kernel_rfl
def jE.und:PG.underlying jE=some (TypeDesc.pointer 251):=Tryz.underlying71
def jE.load{h:PH}{a:Addr}:cH PG h (loadAt jE (.pointer (some a)))=dC h a:=iK jE.und rfl
def eI.f0:fAz eI 0:=by intro _ _;kernel_rfl
def eI.f1:pX eI 1 5:=by intro _ _;kernel_rfl
def eI.f2:pX eI 2 6:=by intro _ _;kernel_rfl
def eI.f3:pX eI 3 7:=by intro _ _;kernel_rfl
def uF.und:PG.underlying uF=some (TypeDesc.pointer 166):=Tryz.underlying80
def cZ.und:PG.underlying cZ=some (TypeDesc.struct #[{name:="Height",type:=22,offset:=0,embedded:=false,tag:="",pkgPath:="",byteOffset:=0},{name:="Index",type:=3,offset:=1,embedded:=false,tag:="",pkgPath:="",byteOffset:=8}]):=Tryz.underlying85
def cZ.info:PG.info? cZ=some Tryz.t85:=by kernel_rfl
def cZ.size:Tryz.t85.size=2:=rfl
def cZ.zbox{h:PH}{r:Nat}:Bx (h.set r (.cells (dR PG cZ) cZ)) r ((Value.agg #[Value.int IntKind.u64 0,Value.int IntKind.i64 0])).cells.toList:=Bx.zero (by kernel_rfl)
def cZ.zc:dR PG cZ=((Value.agg #[Value.int IntKind.u64 0,Value.int IntKind.i64 0])).cells:=by kernel_rfl
def cZ.agg:aLH cZ 2:=λH=>H.agg cZ.und rfl cZ.info cZ.size
def cZ.put:aNW cZ 2:=aPD cZ.info rfl (by decide)
def cZ.fill:aJ4 cZ 2:=aLO cZ.info rfl (by decide) (by rw[cZ.zc];rfl)
def cZ.f0:fAz cZ 0:=by intro _ _;kernel_rfl
def cZ.f1:pX cZ 1 1:=by intro _ _;kernel_rfl
def cG.und:PG.underlying cG=some (TypeDesc.struct #[{name:="Kind",type:=3,offset:=0,embedded:=false,tag:="",pkgPath:="",byteOffset:=0},{name:="Id",type:=3,offset:=1,embedded:=false,tag:="",pkgPath:="",byteOffset:=8},{name:="Height",type:=22,offset:=2,embedded:=false,tag:="",pkgPath:="",byteOffset:=16},{name:="Data",type:=9,offset:=3,embedded:=false,tag:="",pkgPath:="",byteOffset:=24},{name:="P",type:=34,offset:=4,embedded:=false,tag:="",pkgPath:="",byteOffset:=40},{name:="Spoilt",type:=4,offset:=8,embedded:=false,tag:="",pkgPath:="",byteOffset:=80}]):=Tryz.underlying105
def cG.info:PG.info? cG=some Tryz.t105:=by kernel_rfl
def cG.size:Tryz.t105.size=9:=rfl
def cG.zc:dR PG cG=((Value.agg #[Value.int IntKind.i64 0,Value.int IntKind.i64 0,Value.int IntKind.u64 0,Value.string {data:=#[]},Value.int IntKind.i64 0,Value.int IntKind.u64 0,Value.int IntKind.u64 0,Value.string {data:=#[]},Value.bool false])).cells:=by kernel_rfl
def cG.loadAgg:aIY cG 9:=pB cG.und rfl cG.info cG.size
def cG.agg:aLH cG 9:=λH=>H.agg cG.und rfl cG.info cG.size
def cG.fill:aJ4 cG 9:=aLO cG.info rfl (by decide) (by rw[cG.zc];rfl)
def cG.f0:fAz cG 0:=by intro _ _;kernel_rfl
def cG.f1:pX cG 1 1:=by intro _ _;kernel_rfl
def cG.f2:pX cG 2 2:=by intro _ _;kernel_rfl
def cG.f3:pX cG 3 3:=by intro _ _;kernel_rfl
def cG.f4:pX cG 4 4:=by intro _ _;kernel_rfl
def cG.f5:pX cG 5 8:=by intro _ _;kernel_rfl
def cM.und:PG.underlying cM=some (TypeDesc.struct #[{name:="Key",type:=9,offset:=0,embedded:=false,tag:="",pkgPath:="",byteOffset:=0},{name:="Value",type:=9,offset:=1,embedded:=false,tag:="",pkgPath:="",byteOffset:=16}]):=Tryz.underlying130
def cM.info:PG.info? cM=some Tryz.t130:=by kernel_rfl
def cM.size:Tryz.t130.size=2:=rfl
def cM.bytes:Tryz.t130.bytes=32:=rfl
def cM.zero:Tryz.t130.zero=some (Value.agg #[Value.string {data:=#[]},Value.string {data:=#[]}]):=rfl
def cM.loadAgg:aIY cM 2:=pB cM.und rfl cM.info cM.size
def cM.agg:aLH cM 2:=λH=>H.agg cM.und rfl cM.info cM.size
def cM.f0:fAz cM 0:=by intro _ _;kernel_rfl
def cM.f1:pX cM 1 1:=by intro _ _;kernel_rfl
def fJ.und:PG.underlying fJ=some (TypeDesc.slice 65):=Tryz.underlying131
def fJ.info:PG.info? fJ=some Tryz.t131:=by kernel_rfl
def fJ.size:Tryz.t131.size=1:=rfl
def fJ.load{h:PH}{a:Addr}:cH PG h (loadAt fJ (.pointer (some a)))=dC h a:=iK fJ.und rfl
def dP.f0:fAz dP 0:=by intro _ _;kernel_rfl
def dP.f1:pX dP 1 1:=by intro _ _;kernel_rfl
def dP.f2:pX dP 2 2:=by intro _ _;kernel_rfl
def dZ.und:PG.underlying dZ=some (TypeDesc.slice 22):=Tryz.underlying137
def dZ.info:PG.info? dZ=some Tryz.t137:=by kernel_rfl
def dZ.size:Tryz.t137.size=1:=rfl
def dZ.load{h:PH}{a:Addr}:cH PG h (loadAt dZ (.pointer (some a)))=dC h a:=iK dZ.und rfl
def dK.und:PG.underlying dK=some (TypeDesc.struct #[{name:="Kind",type:=3,offset:=0,embedded:=false,tag:="",pkgPath:="",byteOffset:=0},{name:="Packet",type:=34,offset:=1,embedded:=false,tag:="",pkgPath:="",byteOffset:=8}]):=Tryz.underlying154
def dK.info:PG.info? dK=some Tryz.t154:=by kernel_rfl
def dK.size:Tryz.t154.size=5:=rfl
def dK.bytes:Tryz.t154.bytes=48:=rfl
def dK.zero:Tryz.t154.zero=some (Value.agg #[Value.int IntKind.i64 0,Value.int IntKind.i64 0,Value.int IntKind.u64 0,Value.int IntKind.u64 0,Value.string {data:=#[]}]):=rfl
def dK.zc:dR PG dK=((Value.agg #[Value.int IntKind.i64 0,Value.int IntKind.i64 0,Value.int IntKind.u64 0,Value.int IntKind.u64 0,Value.string {data:=#[]}])).cells:=by kernel_rfl
def dK.loadAgg:aIY dK 5:=pB dK.und rfl dK.info dK.size
def dK.f0:fAz dK 0:=by intro _ _;kernel_rfl
def dK.f1:pX dK 1 1:=by intro _ _;kernel_rfl
def dL.und:PG.underlying dL=some (TypeDesc.map 164 40):=Tryz.underlying162
def dL.load{h:PH}{a:Addr}:cH PG h (loadAt dL (.pointer (some a)))=dC h a:=iK dL.und rfl
def gB.und:PG.underlying gB=some (TypeDesc.struct #[{name:="from",type:=3,offset:=0,embedded:=false,tag:="",pkgPath:="carrack/table",byteOffset:=0},{name:="seq",type:=22,offset:=1,embedded:=false,tag:="",pkgPath:="carrack/table",byteOffset:=8}]):=Tryz.underlying164
def gB.info:PG.info? gB=some Tryz.t164:=by kernel_rfl
def gB.size:Tryz.t164.size=2:=rfl
def gB.zc:dR PG gB=((Value.agg #[Value.int IntKind.i64 0,Value.int IntKind.u64 0])).cells:=by kernel_rfl
def gB.loadAgg:aIY gB 2:=pB gB.und rfl gB.info gB.size
def gH.f0:fAz gH 0:=by intro _ _;kernel_rfl
def gH.f1:pX gH 1 1:=by intro _ _;kernel_rfl
def eZ.und:PG.underlying eZ=some (TypeDesc.slice 246):=Tryz.underlying175
def eZ.load{h:PH}{a:Addr}:cH PG h (loadAt eZ (.pointer (some a)))=dC h a:=iK eZ.und rfl
def fZ.f0:fAz fZ 0:=by intro _ _;kernel_rfl
def fZ.f1:pX fZ 1 1:=by intro _ _;kernel_rfl
def fZ.f2:pX fZ 2 2:=by intro _ _;kernel_rfl
def fZ.f3:pX fZ 3 3:=by intro _ _;kernel_rfl
def cN.und:PG.underlying cN=some (TypeDesc.slice 257):=Tryz.underlying184
def cN.info:PG.info? cN=some Tryz.t184:=by kernel_rfl
def cN.size:Tryz.t184.size=1:=rfl
def cN.load{h:PH}{a:Addr}:cH PG h (loadAt cN (.pointer (some a)))=dC h a:=iK cN.und rfl
def cN.put:aKw cN:=λH a b c=>H.put1 cN.und rfl cN.info cN.size a b c
def cC.und:PG.underlying cC=some (TypeDesc.struct #[{name:="Absent",type:=4,offset:=0,embedded:=false,tag:="",pkgPath:="",byteOffset:=0},{name:="Leaves",type:=184,offset:=1,embedded:=false,tag:="",pkgPath:="",byteOffset:=8}]):=Tryz.underlying186
def cC.info:PG.info? cC=some Tryz.t186:=by kernel_rfl
def cC.size:Tryz.t186.size=2:=rfl
def cC.zbox{h:PH}{r:Nat}:Bx (h.set r (.cells (dR PG cC) cC)) r ((Value.agg #[Value.bool false,Value.slice none 0 0])).cells.toList:=Bx.zero (by kernel_rfl)
def cC.zc:dR PG cC=((Value.agg #[Value.bool false,Value.slice none 0 0])).cells:=by kernel_rfl
def cC.agg:aLH cC 2:=λH=>H.agg cC.und rfl cC.info cC.size
def cC.put:aNW cC 2:=aPD cC.info rfl (by decide)
def cC.fill:aJ4 cC 2:=aLO cC.info rfl (by decide) (by rw[cC.zc];rfl)
def cC.f0:fAz cC 0:=by intro _ _;kernel_rfl
def cC.f1:pX cC 1 1:=by intro _ _;kernel_rfl
def cK.und:PG.underlying cK=some (TypeDesc.struct #[{name:="is",type:=26,offset:=0,embedded:=false,tag:="",pkgPath:="carrack/chain",byteOffset:=0},{name:="e",type:=63,offset:=1,embedded:=false,tag:="",pkgPath:="carrack/chain",byteOffset:=8}]):=Tryz.underlying193
def cK.info:PG.info? cK=some Tryz.t193:=by kernel_rfl
def cK.size:Tryz.t193.size=2:=rfl
def cK.bytes:Tryz.t193.bytes=16:=rfl
def cK.zero:Tryz.t193.zero=some (Value.agg #[Value.nilFunc,Value.int IntKind.i64 0]):=rfl
def cK.zbox{h:PH}{r:Nat}:Bx (h.set r (.cells (dR PG cK) cK)) r ((Value.agg #[Value.nilFunc,Value.int IntKind.i64 0])).cells.toList:=Bx.zero (by kernel_rfl)
def cK.zc:dR PG cK=((Value.agg #[Value.nilFunc,Value.int IntKind.i64 0])).cells:=by kernel_rfl
def cK.agg:aLH cK 2:=λH=>H.agg cK.und rfl cK.info cK.size
def cK.put:aNW cK 2:=aPD cK.info rfl (by decide)
def cK.fill:aJ4 cK 2:=aLO cK.info rfl (by decide) (by rw[cK.zc];rfl)
def cK.f0:fAz cK 0:=by intro _ _;kernel_rfl
def cK.f1:pX cK 1 1:=by intro _ _;kernel_rfl
def jA.und:PG.underlying jA=some (TypeDesc.struct #[{name:="l",type:=65,offset:=0,embedded:=false,tag:="",pkgPath:="carrack/store",byteOffset:=0}]):=Tryz.underlying198
def jA.info:PG.info? jA=some Tryz.t198:=by kernel_rfl
def jA.size:Tryz.t198.size=1:=rfl
def jA.loadAgg:aIY jA 1:=pB jA.und rfl jA.info jA.size
def jA.f0:fAz jA 0:=by intro _ _;kernel_rfl
def dV.und:PG.underlying dV=some (TypeDesc.struct #[{name:="sorted",type:=198,offset:=0,embedded:=true,tag:="",pkgPath:="carrack/store",byteOffset:=0},{name:="root",type:=9,offset:=1,embedded:=false,tag:="",pkgPath:="carrack/store",byteOffset:=24}]):=Tryz.underlying200
def dV.info:PG.info? dV=some Tryz.t200:=by kernel_rfl
def dV.size:Tryz.t200.size=2:=rfl
def dV.bytes:Tryz.t200.bytes=40:=rfl
def dV.zero:Tryz.t200.zero=some (Value.agg #[Value.slice none 0 0,Value.string {data:=#[]}]):=rfl
def dV.zc:dR PG dV=((Value.agg #[Value.slice none 0 0,Value.string {data:=#[]}])).cells:=by kernel_rfl
def dV.loadAgg:aIY dV 2:=pB dV.und rfl dV.info dV.size
def dV.f0:fAz dV 0:=by intro _ _;kernel_rfl
def dV.f1:pX dV 1 1:=by intro _ _;kernel_rfl
def lC.und:PG.underlying lC=some (TypeDesc.func #[9] #[4] false):=Tryz.underlying206
def lC.load{h:PH}{a:Addr}:cH PG h (loadAt lC (.pointer (some a)))=dC h a:=iK lC.und rfl
def fU.und:PG.underlying fU=some (TypeDesc.slice 200):=Tryz.underlying219
def fU.info:PG.info? fU=some Tryz.t219:=by kernel_rfl
def fU.size:Tryz.t219.size=1:=rfl
def fU.load{h:PH}{a:Addr}:cH PG h (loadAt fU (.pointer (some a)))=dC h a:=iK fU.und rfl
def eW.f0:fAz eW 0:=by intro _ _;kernel_rfl
def eW.f1:pX eW 1 1:=by intro _ _;kernel_rfl
def eW.f2:pX eW 2 2:=by intro _ _;kernel_rfl
def fS.und:PG.underlying fS=some (TypeDesc.func #[80,164,34] #[63] false):=Tryz.underlying229
def fS.info:PG.info? fS=some Tryz.t229:=by kernel_rfl
def fS.size:Tryz.t229.size=1:=rfl
def fS.load{h:PH}{a:Addr}:cH PG h (loadAt fS (.pointer (some a)))=dC h a:=iK fS.und rfl
def eH.und:PG.underlying eH=some (TypeDesc.array 5 229):=Tryz.underlying231
def eH.info:PG.info? eH=some Tryz.t231:=by kernel_rfl
def eH.zc:dR PG eH=((Value.agg #[Value.nilFunc,Value.nilFunc,Value.nilFunc,Value.nilFunc,Value.nilFunc])).cells:=by kernel_rfl
def nK.und:PG.underlying nK=some (TypeDesc.slice 3):=Tryz.underlying238
def dU.und:PG.underlying dU=some (TypeDesc.slice 287):=Tryz.underlying242
def dU.info:PG.info? dU=some Tryz.t242:=by kernel_rfl
def dU.size:Tryz.t242.size=1:=rfl
def dU.load{h:PH}{a:Addr}:cH PG h (loadAt dU (.pointer (some a)))=dC h a:=iK dU.und rfl
def gG.f0:fAz gG 0:=by intro _ _;kernel_rfl
def gG.build0:dH PG (build gG #[])=some (Value.agg #[Value.slice none 0 0]):=by kernel_rfl
def cL.und:PG.underlying cL=some (TypeDesc.int IntKind.u32):=Tryz.underlying246
def cL.info:PG.info? cL=some Tryz.t246:=by kernel_rfl
def cL.size:Tryz.t246.size=1:=rfl
def cL.bytes:Tryz.t246.bytes=4:=rfl
def cL.zero:Tryz.t246.zero=some (Value.int IntKind.u32 0):=rfl
def cL.load{h:PH}{a:Addr}:cH PG h (loadAt cL (.pointer (some a)))=dC h a:=iK cL.und rfl
def hZ.und:PG.underlying hZ=some (TypeDesc.map 22 9):=Tryz.underlying249
def hZ.load{h:PH}{a:Addr}:cH PG h (loadAt hZ (.pointer (some a)))=dC h a:=iK hZ.und rfl
def iA.f0:fAz iA 0:=by intro _ _;kernel_rfl
def iA.f1:pX iA 1 1:=by intro _ _;kernel_rfl
def cP.und:PG.underlying cP=some (TypeDesc.slice 9):=Tryz.underlying255
def cP.info:PG.info? cP=some Tryz.t255:=by kernel_rfl
def cP.size:Tryz.t255.size=1:=rfl
def cP.zbox{h:PH}{r:Nat}:Bx (h.set r (.cells (dR PG cP) cP)) r ((Value.slice none 0 0)).cells.toList:=Bx.zero (by kernel_rfl)
def cP.load{h:PH}{a:Addr}:cH PG h (loadAt cP (.pointer (some a)))=dC h a:=iK cP.und rfl
def cP.put:aKw cP:=λH a b c=>H.put1 cP.und rfl cP.info cP.size a b c
def cB.und:PG.underlying cB=some (TypeDesc.struct #[{name:="Index",type:=3,offset:=0,embedded:=false,tag:="",pkgPath:="",byteOffset:=0},{name:="Count",type:=3,offset:=1,embedded:=false,tag:="",pkgPath:="",byteOffset:=8},{name:="Pair",type:=130,offset:=2,embedded:=false,tag:="",pkgPath:="",byteOffset:=16},{name:="Path",type:=255,offset:=4,embedded:=false,tag:="",pkgPath:="",byteOffset:=48}]):=Tryz.underlying257
def cB.info:PG.info? cB=some Tryz.t257:=by kernel_rfl
def cB.size:Tryz.t257.size=5:=rfl
def cB.bytes:Tryz.t257.bytes=72:=rfl
def cB.zero:Tryz.t257.zero=some (Value.agg #[Value.int IntKind.i64 0,Value.int IntKind.i64 0,Value.string {data:=#[]},Value.string {data:=#[]},Value.slice none 0 0]):=rfl
def cB.zbox{h:PH}{r:Nat}:Bx (h.set r (.cells (dR PG cB) cB)) r ((Value.agg #[Value.int IntKind.i64 0,Value.int IntKind.i64 0,Value.string {data:=#[]},Value.string {data:=#[]},Value.slice none 0 0])).cells.toList:=Bx.zero (by kernel_rfl)
def cB.zc:dR PG cB=((Value.agg #[Value.int IntKind.i64 0,Value.int IntKind.i64 0,Value.string {data:=#[]},Value.string {data:=#[]},Value.slice none 0 0])).cells:=by kernel_rfl
def cB.agg:aLH cB 5:=λH=>H.agg cB.und rfl cB.info cB.size
def cB.put:aNW cB 5:=aPD cB.info rfl (by decide)
def cB.fill:aJ4 cB 5:=aLO cB.info rfl (by decide) (by rw[cB.zc];rfl)
def cB.f0:fAz cB 0:=by intro _ _;kernel_rfl
def cB.f1:pX cB 1 1:=by intro _ _;kernel_rfl
def cB.f2:pX cB 2 2:=by intro _ _;kernel_rfl
def cB.f3:pX cB 3 4:=by intro _ _;kernel_rfl
def oC.f0:fAz oC 0:=by intro _ _;kernel_rfl
def dX.und:PG.underlying dX=some (TypeDesc.pointer 263):=Tryz.underlying261
def dX.info:PG.info? dX=some Tryz.t261:=by kernel_rfl
def dX.size:Tryz.t261.size=1:=rfl
def dX.load{h:PH}{a:Addr}:cH PG h (loadAt dX (.pointer (some a)))=dC h a:=iK dX.und rfl
def dM.info:PG.info? dM=some Tryz.t263:=by kernel_rfl
def dM.size:Tryz.t263.size=2:=rfl
def dM.zc:dR PG dM=((Value.agg #[Value.pointer none,Value.slice none 0 0])).cells:=by kernel_rfl
def dM.f0:fAz dM 0:=by intro _ _;kernel_rfl
def dM.f1:pX dM 1 1:=by intro _ _;kernel_rfl
def fQ.zc:dR PG fQ=((Value.agg #[Value.int IntKind.i64 0,Value.pointer none,Value.slice none 0 0])).cells:=by kernel_rfl
def fQ.f0:fAz fQ 0:=by intro _ _;kernel_rfl
def fQ.f1:pX fQ 1 1:=by intro _ _;kernel_rfl
def jJ.und:PG.underlying jJ=some (TypeDesc.slice 193):=Tryz.underlying271
def eP.und:PG.underlying eP=some (TypeDesc.struct #[{name:="Height",type:=22,offset:=0,embedded:=false,tag:="",pkgPath:="",byteOffset:=0},{name:="Root",type:=9,offset:=1,embedded:=false,tag:="",pkgPath:="",byteOffset:=8}]):=Tryz.underlying287
def eP.info:PG.info? eP=some Tryz.t287:=by kernel_rfl
def eP.size:Tryz.t287.size=2:=rfl
def eP.bytes:Tryz.t287.bytes=24:=rfl
def eP.zero:Tryz.t287.zero=some (Value.agg #[Value.int IntKind.u64 0,Value.string {data:=#[]}]):=rfl
def eP.f0:fAz eP 0:=by intro _ _;kernel_rfl
def eP.f1:pX eP 1 1:=by intro _ _;kernel_rfl
def fR.und:PG.underlying fR=some (TypeDesc.func #[65,3] #[] false):=Tryz.underlying354
def fR.info:PG.info? fR=some Tryz.t354:=by kernel_rfl
def fR.size:Tryz.t354.size=1:=rfl
def fR.zc:dR PG fR=(Value.nilFunc).cells:=by kernel_rfl
def fR.load{h:PH}{a:Addr}:cH PG h (loadAt fR (.pointer (some a)))=dC h a:=iK fR.und rfl
def fR.fill{h:PH}{r:Nat}{v:Value}{k:cD}(hr:h r=none)(hv:fW v=true)(hk:∀h',Bx h' r [v]->dD h h'->k undef h'):dA PG (dS fR (pT r 0) v) (h.set r (.cells (dR PG fR) fR)) k:=Bx.fill1 hr fR.und rfl fR.info fR.size (by rw[fR.zc];rfl) hv hk
def gK.f0:fAz gK 0:=by intro _ _;kernel_rfl
def gK.f1:pX gK 1 1:=by intro _ _;kernel_rfl
def fX.und:PG.underlying fX=some (TypeDesc.func #[3,3] #[9] false):=Tryz.underlying363
def fX.info:PG.info? fX=some Tryz.t363:=by kernel_rfl
def fX.size:Tryz.t363.size=1:=rfl
def fX.zc:dR PG fX=(Value.nilFunc).cells:=by kernel_rfl
def fX.load{h:PH}{a:Addr}:cH PG h (loadAt fX (.pointer (some a)))=dC h a:=iK fX.und rfl
def fX.fill{h:PH}{r:Nat}{v:Value}{k:cD}(hr:h r=none)(hv:fW v=true)(hk:∀h',Bx h' r [v]->dD h h'->k undef h'):dA PG (dS fX (pT r 0) v) (h.set r (.cells (dR PG fX) fX)) k:=Bx.fill1 hr fX.und rfl fX.info fX.size (by rw[fX.zc];rfl) hv hk
def fC.f0:fAz fC 0:=by intro _ _;kernel_rfl
def fC.f1:pX fC 1 1:=by intro _ _;kernel_rfl
def fC.f2:pX fC 2 2:=by intro _ _;kernel_rfl
def gL.f0:fAz gL 0:=by intro _ _;kernel_rfl
def gL.f1:pX gL 1 1:=by intro _ _;kernel_rfl
def eX.und:PG.underlying eX=some (TypeDesc.array 8 246):=Tryz.underlying376
def eX.info:PG.info? eX=some Tryz.t376:=by kernel_rfl
def eX.size:Tryz.t376.size=8:=rfl
def eX.zc:dR PG eX=((Value.agg (Array.replicate 8 (Value.int IntKind.u32 0)))).cells:=by kernel_rfl
def eX.loadAgg:aIY eX 8:=pB eX.und rfl eX.info eX.size
def hQ.und:PG.underlying hQ=some (TypeDesc.struct #[{name:="h",type:=376,offset:=0,embedded:=false,tag:="",pkgPath:="carrack/sha",byteOffset:=0}]):=Tryz.underlying378
def hQ.info:PG.info? hQ=some Tryz.t378:=by kernel_rfl
def hQ.size:Tryz.t378.size=8:=rfl
def hQ.zc:dR PG hQ=((Value.agg (Array.replicate 8 (Value.int IntKind.u32 0)))).cells:=by kernel_rfl
def hQ.loadAgg:aIY hQ 8:=pB hQ.und rfl hQ.info hQ.size
def hQ.f0:fAz hQ 0:=by intro _ _;kernel_rfl
def fI.und:PG.underlying fI=some (TypeDesc.struct #[{name:="state",type:=378,offset:=0,embedded:=true,tag:="",pkgPath:="carrack/sha",byteOffset:=0},{name:="rest",type:=9,offset:=8,embedded:=false,tag:="",pkgPath:="carrack/sha",byteOffset:=32},{name:="n",type:=3,offset:=9,embedded:=false,tag:="",pkgPath:="carrack/sha",byteOffset:=48}]):=Tryz.underlying381
def fI.info:PG.info? fI=some Tryz.t381:=by kernel_rfl
def fI.size:Tryz.t381.size=10:=rfl
def fI.zc:dR PG fI=((Value.agg #[Value.int IntKind.u32 0,Value.int IntKind.u32 0,Value.int IntKind.u32 0,Value.int IntKind.u32 0,Value.int IntKind.u32 0,Value.int IntKind.u32 0,Value.int IntKind.u32 0,Value.int IntKind.u32 0,Value.string {data:=#[]},Value.int IntKind.i64 0])).cells:=by kernel_rfl
def fI.loadAgg:aIY fI 10:=pB fI.und rfl fI.info fI.size
def fI.f0:fAz fI 0:=by intro _ _;kernel_rfl
def fI.f1:pX fI 1 8:=by intro _ _;kernel_rfl
def fI.f2:pX fI 2 9:=by intro _ _;kernel_rfl
def iI.und:PG.underlying iI=some TypeDesc.unsafePointer:=Tryz.underlying389
def fH.und:PG.underlying fH=some (TypeDesc.array 64 246):=Tryz.underlying396
def fH.info:PG.info? fH=some Tryz.t396:=by kernel_rfl
def fH.size:Tryz.t396.size=64:=rfl
def fH.zc:dR PG fH=((Value.agg (Array.replicate 64 (Value.int IntKind.u32 0)))).cells:=by kernel_rfl
def fH.loadAgg:aIY fH 64:=pB fH.und rfl fH.info fH.size
end Go.Proofs.YtppgkeodaejgcaaGreatDoor
