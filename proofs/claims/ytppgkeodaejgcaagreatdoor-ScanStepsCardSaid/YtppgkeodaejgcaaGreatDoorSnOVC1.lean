/- The texts of this claim, put together. -/
import Derived.Test.YtppgkeodaejgcaaGreatDoorSnOVC0
import Derived.Test.YtppgkeodaejgcaaGreatDoorChecked
import Derived.KernelRfl
set_option linter.all false
set_option maxRecDepth 100000
open Go.Instr (loadAt fieldAt indexAt extract buildSlice build)
namespace Go.Proofs.YtppgkeodaejgcaaGreatDoor
open Go
noncomputable abbrev PG:Program:=Tryz.prog
def mix:PG.follows .mixedOrders=true:=by kernel_rfl
abbrev aAF:FuncId:=7
abbrev tY:FuncId:=13
abbrev kD:FuncId:=14
abbrev aCe:FuncId:=20
abbrev aD8:FuncId:=21
abbrev zU:FuncId:=22
abbrev xH:FuncId:=23
abbrev aAt:FuncId:=24
abbrev tQ:FuncId:=25
abbrev aEr:FuncId:=26
abbrev aF9:FuncId:=27
abbrev aCw:FuncId:=28
abbrev aAD:FuncId:=29
abbrev aAI:FuncId:=30
abbrev aEf:FuncId:=33
abbrev aEy:FuncId:=34
abbrev aDh:FuncId:=36
abbrev aD3:FuncId:=37
abbrev aJG:FuncId:=38
abbrev qV:FuncId:=39
abbrev aDR:FuncId:=40
abbrev wC:FuncId:=41
abbrev aD6:FuncId:=42
abbrev aEC:FuncId:=43
abbrev aCk:FuncId:=44
abbrev aEA:FuncId:=45
abbrev aEv:FuncId:=46
abbrev aBv:FuncId:=47
abbrev aCi:FuncId:=48
abbrev aBu:FuncId:=49
abbrev zD:FuncId:=50
abbrev aBY:FuncId:=51
abbrev aAW:FuncId:=52
abbrev vA:FuncId:=53
abbrev pZ:FuncId:=54
abbrev yC:FuncId:=55
abbrev aBQ:FuncId:=57
abbrev pK:FuncId:=58
abbrev pG:FuncId:=65
abbrev zG:FuncId:=67
abbrev aG6:FuncId:=68
abbrev uJ:FuncId:=69
abbrev aIB:FuncId:=70
abbrev zK:FuncId:=71
abbrev lW:FuncId:=72
abbrev pH:FuncId:=73
abbrev rX:FuncId:=74
abbrev aIg:FuncId:=75
abbrev aEq:FuncId:=76
abbrev aCt:FuncId:=77
abbrev aD0:FuncId:=78
abbrev aAy:FuncId:=79
abbrev aAB:FuncId:=80
abbrev aJN:FuncId:=81
abbrev aIa:FuncId:=82
abbrev aFb:FuncId:=83
abbrev aGS:FuncId:=84
abbrev aHJ:FuncId:=85
abbrev aHk:FuncId:=86
abbrev jR:FuncId:=87
abbrev yB:FuncId:=88
abbrev sR:FuncId:=89
abbrev sY:FuncId:=90
abbrev tW:FuncId:=91
abbrev aA8:FuncId:=92
abbrev tH:FuncId:=93
abbrev aAH:FuncId:=94
abbrev wI:FuncId:=95
abbrev wL:FuncId:=96
abbrev aCO:FuncId:=97
abbrev aDM:FuncId:=98
abbrev tJ:FuncId:=99
abbrev aCs:FuncId:=100
abbrev aHN:FuncId:=101
abbrev aF2:FuncId:=102
abbrev sX:FuncId:=103
abbrev tA:FuncId:=104
abbrev tG:FuncId:=105
abbrev aDc:FuncId:=106
abbrev aC6:FuncId:=107
abbrev yW:FuncId:=108
abbrev aAd:FuncId:=109
abbrev aHe:FuncId:=110
abbrev mS:FuncId:=111
abbrev aCa:FuncId:=112
abbrev yG:FuncId:=113
abbrev zN:FuncId:=114
abbrev zO:FuncId:=115
abbrev sE:FuncId:=116
abbrev zL:FuncId:=117
abbrev aAA:FuncId:=118
abbrev vT:FuncId:=119
abbrev xC:FuncId:=120
abbrev aDn:FuncId:=121
abbrev aDL:FuncId:=122
abbrev aGK:FuncId:=128
abbrev aD1:FuncId:=129
abbrev aIZ:FuncId:=130
abbrev lL:FuncId:=131
abbrev kF:FuncId:=132
abbrev iU:FuncId:=133
abbrev pC:FuncId:=137
abbrev iQ:FuncId:=138
abbrev aC9:FuncId:=140
abbrev aAz:FuncId:=141
abbrev mB:FuncId:=142
abbrev aD2:FuncId:=143
abbrev aB1:FuncId:=144
abbrev zX:FuncId:=145
abbrev aCj:FuncId:=146
abbrev aCp:FuncId:=147
abbrev aF4:FuncId:=148
abbrev uP:FuncId:=149
abbrev mA:FuncId:=150
abbrev aGU:FuncId:=151
abbrev aBr:FuncId:=152
abbrev oA:FuncId:=153
abbrev mW:FuncId:=154
abbrev rQ:FuncId:=155
abbrev tM:FuncId:=156
abbrev uQ:FuncId:=157
abbrev jI:FuncId:=158
abbrev aEe:FuncId:=159
abbrev aEo:FuncId:=160
abbrev aB0:FuncId:=161
abbrev aCv:FuncId:=162
abbrev rB:FuncId:=163
abbrev rC:FuncId:=164
abbrev aFJ:FuncId:=165
abbrev aE8:FuncId:=166
abbrev aBj:FuncId:=167
abbrev aD9:FuncId:=168
abbrev aDd:FuncId:=169
abbrev rD:FuncId:=170
abbrev uF:FuncId:=171
abbrev aA6:FuncId:=172
abbrev aB2:FuncId:=173
abbrev sP:FuncId:=174
abbrev oI:FuncId:=175
abbrev vQ:FuncId:=176
abbrev sA:FuncId:=177
abbrev nO:FuncId:=178
abbrev pI:FuncId:=179
abbrev nH:FuncId:=180
abbrev uN:FuncId:=181
abbrev mV:FuncId:=182
abbrev aAq:FuncId:=183
abbrev xK:FuncId:=184
abbrev sB:FuncId:=185
abbrev oG:FuncId:=186
abbrev aCq:FuncId:=187
abbrev wW:FuncId:=188
abbrev aHH:FuncId:=189
abbrev aE3:FuncId:=190
abbrev aMa:FuncId:=202
abbrev aIT:FuncId:=203
abbrev aBf:FuncId:=204
abbrev aIh:FuncId:=213
abbrev aCV:FuncId:=214
abbrev aDj:FuncId:=215
abbrev qM:FuncId:=216
abbrev qK:FuncId:=217
abbrev oS:FuncId:=218
abbrev yY:FuncId:=219
abbrev aHq:FuncId:=220
abbrev uH:FuncId:=221
abbrev pJ:FuncId:=222
abbrev aFV:FuncId:=223
abbrev lJ:FuncId:=224
abbrev xY:FuncId:=225
abbrev lF:FuncId:=226
abbrev oQ:FuncId:=227
abbrev kR:FuncId:=228
abbrev aHp:FuncId:=229
abbrev aAe:FuncId:=230
abbrev aFc:FuncId:=231
abbrev wM:FuncId:=232
abbrev aIX:FuncId:=233
abbrev aEl:FuncId:=234
abbrev aGP:FuncId:=235
abbrev aHO:FuncId:=236
abbrev tV:FuncId:=237
abbrev aCm:FuncId:=238
abbrev yQ:FuncId:=239
abbrev qU:FuncId:=240
abbrev zV:FuncId:=241
abbrev kK:FuncId:=242
abbrev yO:FuncId:=243
abbrev rR:FuncId:=244
abbrev mN:FuncId:=245
abbrev yT:FuncId:=246
abbrev xQ:FuncId:=247
abbrev aIc:FuncId:=248
abbrev aLa:FuncId:=249
abbrev aCB:FuncId:=250
abbrev aHP:FuncId:=251
abbrev aAh:FuncId:=260
abbrev aCX:FuncId:=261
abbrev aDl:FuncId:=262
abbrev aFO:FuncId:=263
abbrev aCl:FuncId:=264
abbrev aCo:FuncId:=265
abbrev aC3:FuncId:=266
abbrev yH:FuncId:=267
abbrev mP:FuncId:=268
abbrev mO:FuncId:=269
abbrev yD:FuncId:=270
abbrev aFD:FuncId:=271
abbrev aAw:FuncId:=272
abbrev xX:FuncId:=273
abbrev aD5:FuncId:=274
abbrev aCJ:FuncId:=275
abbrev uI:FuncId:=276
abbrev yI:FuncId:=277
abbrev uZ:FuncId:=278
abbrev qT:FuncId:=279
abbrev rW:FuncId:=280
abbrev xU:FuncId:=281
abbrev xL:FuncId:=282
abbrev mI:FuncId:=283
abbrev aCf:FuncId:=284
abbrev aMY:FuncId:=285
abbrev aGH:FuncId:=286
abbrev aGN:FuncId:=287
abbrev aFX:FuncId:=288
abbrev aD4:FuncId:=289
abbrev aB3:FuncId:=292
abbrev wP:FuncId:=293
abbrev yL:FuncId:=294
abbrev aAZ:FuncId:=295
abbrev aCT:FuncId:=296
abbrev aD7:FuncId:=297
abbrev aCd:FuncId:=298
abbrev lX:FuncId:=299
abbrev tP:FuncId:=300
abbrev qE:FuncId:=301
abbrev yF:FuncId:=302
abbrev aB7:FuncId:=303
abbrev aJf:FuncId:=304
abbrev qO:FuncId:=305
abbrev aGI:FuncId:=306
abbrev uD:FuncId:=307
abbrev aA9:FuncId:=308
abbrev rY:FuncId:=309
abbrev kH:FuncId:=310
abbrev aEJ:FuncId:=311
abbrev aMN:FuncId:=312
abbrev aII:FuncId:=313
abbrev aFT:FuncId:=315
abbrev uK:FuncId:=316
abbrev T_:TypeId:=0
abbrev bT:TypeId:=3
abbrev gQ:TypeId:=4
abbrev dQ:TypeId:=5
abbrev bR:TypeId:=9
abbrev aNJ:TypeId:=20
abbrev cA:TypeId:=22
abbrev eS:TypeId:=23
abbrev iX:TypeId:=24
abbrev fN:TypeId:=25
abbrev aAM:TypeId:=26
abbrev cZ:TypeId:=28
abbrev dN:TypeId:=29
abbrev aR:TypeId:=34
abbrev dV:TypeId:=40
abbrev gG:TypeId:=42
abbrev fJ:TypeId:=43
abbrev jU:TypeId:=44
abbrev eP:TypeId:=45
abbrev cU:TypeId:=46
abbrev cQ:TypeId:=48
abbrev iN:TypeId:=49
abbrev lD:TypeId:=50
abbrev lY:TypeId:=52
abbrev nV:TypeId:=54
abbrev dE:TypeId:=55
abbrev fZ:TypeId:=63
abbrev cJ:TypeId:=65
abbrev jF:TypeId:=67
abbrev dX:TypeId:=68
abbrev eV:TypeId:=70
abbrev jH:TypeId:=71
abbrev eH:TypeId:=73
abbrev rL:TypeId:=80
abbrev dF:TypeId:=85
abbrev cG:TypeId:=105
abbrev cM:TypeId:=130
abbrev fK:TypeId:=131
abbrev dM:TypeId:=133
abbrev dZ:TypeId:=137
abbrev uY:TypeId:=151
abbrev dI:TypeId:=154
abbrev dP:TypeId:=162
abbrev hZ:TypeId:=164
abbrev gP:TypeId:=166
abbrev eZ:TypeId:=175
abbrev gA:TypeId:=179
abbrev cN:TypeId:=184
abbrev cC:TypeId:=186
abbrev cK:TypeId:=193
abbrev jC:TypeId:=198
abbrev dU:TypeId:=200
abbrev lG:TypeId:=206
abbrev fU:TypeId:=219
abbrev eW:TypeId:=221
abbrev fS:TypeId:=229
abbrev eD:TypeId:=231
abbrev nM:TypeId:=238
abbrev dT:TypeId:=242
abbrev gH:TypeId:=244
abbrev cL:TypeId:=246
abbrev iC:TypeId:=249
abbrev iD:TypeId:=251
abbrev cP:TypeId:=255
abbrev cB:TypeId:=257
abbrev oD:TypeId:=260
abbrev dW:TypeId:=261
abbrev dK:TypeId:=263
abbrev fQ:TypeId:=265
abbrev jN:TypeId:=271
abbrev eQ:TypeId:=287
abbrev fR:TypeId:=354
abbrev oT:TypeId:=358
abbrev gJ:TypeId:=360
abbrev fY:TypeId:=363
abbrev fC:TypeId:=368
abbrev gK:TypeId:=374
abbrev eX:TypeId:=376
abbrev iB:TypeId:=378
abbrev fH:TypeId:=381
abbrev iL:TypeId:=389
abbrev fE:TypeId:=396
def bT.und:PG.underlying bT=some (TypeDesc.int IntKind.i64):=Tryz.underlying3
def bT.info:PG.info? bT=some Tryz.t3:=by kernel_rfl
def bT.size:Tryz.t3.size=1:=rfl
def bT.load{h:PH}{a:Addr}:cH PG h (loadAt bT (.pointer (some a)))=dB h a:=iM bT.und rfl
abbrev aNc(t:TypeId)(n:Nat):Prop:=∀{h:PH} {r o:Nat} {cs vs:List Value} {k:cD} (H:Bx h r cs) (hl:vs.length=n) (ho:o+n≤cs.length) (hv:∀v∈vs,fX v=true) (hk:∀h',Bx h' r (cs.take o++vs++cs.drop (o+n))->cT [r] h h'->k undef h'),dA PG (dR t (pT r o) (.agg vs.toArray)) h k
def aPC{t:TypeId}{n:Nat}{i:TypeInfo}(hi:PG.info? t=some i)(hn:i.size=n)(h0:0<n):aNc t n:=by
 intro h r o cs vs k H hl ho hv hk;exact H.putN hi (by rw[hl];exact hn) (by omega) (by omega) hv (by rw[hl];exact hk)
abbrev aKK(t:TypeId)(n:Nat):Prop:=∀{h:PH} {r:Nat} {vs:List Value} {k:cD} (hr:h r=none) (hl:vs.length=n) (hv:∀v∈vs,fX v=true) (hk:∀h',Bx h' r vs->dC h h'->k undef h'),dA PG (dR t (pT r 0) (.agg vs.toArray)) (h.set r (.cells (dS PG t) t)) k
def aLD{t:TypeId}{n:Nat}{i:TypeInfo}(hi:PG.info? t=some i)(hn:i.size=n)(h0:0<n)(hz:(dS PG t).size=n):aKK t n:=by
 intro h r vs k hr hl hv hk;exact Bx.fill hr hi (by rw[hl];exact hn) (by omega) (by rw[hz,hl]) hv hk
abbrev aLF(t:TypeId)(n:Nat):Prop:=∀{h:PH} {r o:Nat} {cs:List Value} (H:Bx h r cs) (hle:o+n≤cs.length),cH PG h (loadAt t (pT r o))=some (.agg ((cs.drop o).take n).toArray)
abbrev aIf(t:TypeId)(n:Nat):Prop:=∀{h:PH} {b o:Nat} {c:Array Value} {e:TypeId} {fr:Nat×Nat} (hb:h b=some (.cells c e fr)) (hle:o+n≤c.size),cH PG h (loadAt t (pT b o))=some (.agg (c.extract o (o+n)))
abbrev aKw(t:TypeId):Prop:=∀{h:PH} {r o:Nat} {cs:List Value} {v:Value} {k:cD} (H:Bx h r cs) (ho:o<cs.length) (hv:fX v=true) (hk:∀h',Bx h' r (cs.set o v)->cT [r] h h'->k undef h'),dA PG (dR t (pT r o) v) h k
def bT.put:aKw bT:=λH a b c=>H.put1 bT.und rfl bT.info bT.size a b c
def gQ.und:PG.underlying gQ=some TypeDesc.bool:=Tryz.underlying4
def gQ.info:PG.info? gQ=some Tryz.t4:=by kernel_rfl
def gQ.size:Tryz.t4.size=1:=rfl
def gQ.zbox{h:PH}{r:Nat}:Bx (h.set r (.cells (dS PG gQ) gQ)) r ((Value.bool false)).cells.toList:=Bx.zero (by kernel_rfl)
def gQ.load{h:PH}{a:Addr}:cH PG h (loadAt gQ (.pointer (some a)))=dB h a:=iM gQ.und rfl
def gQ.put:aKw gQ:=λH a b c=>H.put1 gQ.und rfl gQ.info gQ.size a b c
def dQ.und:PG.underlying dQ=some (TypeDesc.int IntKind.u8):=Tryz.underlying5
def dQ.info:PG.info? dQ=some Tryz.t5:=by kernel_rfl
def dQ.size:Tryz.t5.size=1:=rfl
def dQ.bytes:Tryz.t5.bytes=1:=rfl
def dQ.zero:Tryz.t5.zero=some (Value.int IntKind.u8 0):=rfl
def bR.und:PG.underlying bR=some TypeDesc.string:=Tryz.underlying9
def bR.info:PG.info? bR=some Tryz.t9:=by kernel_rfl
def bR.size:Tryz.t9.size=1:=rfl
def bR.bytes:Tryz.t9.bytes=16:=rfl
def bR.zero:Tryz.t9.zero=some (Value.string {data:=#[]}):=rfl
def bR.zbox{h:PH}{r:Nat}:Bx (h.set r (.cells (dS PG bR) bR)) r ((Value.string {data:=#[]})).cells.toList:=Bx.zero (by kernel_rfl)
def bR.load{h:PH}{a:Addr}:cH PG h (loadAt bR (.pointer (some a)))=dB h a:=iM bR.und rfl
def bR.put:aKw bR:=λH a b c=>H.put1 bR.und rfl bR.info bR.size a b c
def bR.len{s:ByteArray}{t:TypeId}:dG PG (Builtin.len_ #[bR] t #[.string s])=some (.int .i64 s.size):=mL bR.und
def cA.und:PG.underlying cA=some (TypeDesc.int IntKind.u64):=Tryz.underlying22
def cA.info:PG.info? cA=some Tryz.t22:=by kernel_rfl
def cA.size:Tryz.t22.size=1:=rfl
def cA.bytes:Tryz.t22.bytes=8:=rfl
def cA.zero:Tryz.t22.zero=some (Value.int IntKind.u64 0):=rfl
def cA.load{h:PH}{a:Addr}:cH PG h (loadAt cA (.pointer (some a)))=dB h a:=iM cA.und rfl
def cA.put:aKw cA:=λH a b c=>H.put1 cA.und rfl cA.info cA.size a b c
def eS.und:PG.underlying eS=some (TypeDesc.array 2 22):=Tryz.underlying23
def eS.info:PG.info? eS=some Tryz.t23:=by kernel_rfl
def eS.size:Tryz.t23.size=2:=rfl
def eS.agg:aLF eS 2:=λH=>H.agg eS.und rfl eS.info eS.size
def iX.und:PG.underlying iX=some (TypeDesc.slice 105):=Tryz.underlying24
def fN.und:PG.underlying fN=some (TypeDesc.slice 40):=Tryz.underlying25
def fN.info:PG.info? fN=some Tryz.t25:=by kernel_rfl
def fN.size:Tryz.t25.size=1:=rfl
def fN.load{h:PH}{a:Addr}:cH PG h (loadAt fN (.pointer (some a)))=dB h a:=iM fN.und rfl
def aAM.und:PG.underlying aAM=some (TypeDesc.func #[] #[4] false):=Tryz.underlying26
def aAM.load{h:PH}{a:Addr}:cH PG h (loadAt aAM (.pointer (some a)))=dB h a:=iM aAM.und rfl
def cZ.und:PG.underlying cZ=some (TypeDesc.pointer 73):=Tryz.underlying28
def cZ.info:PG.info? cZ=some Tryz.t28:=by kernel_rfl
def cZ.size:Tryz.t28.size=1:=rfl
def cZ.load{h:PH}{a:Addr}:cH PG h (loadAt cZ (.pointer (some a)))=dB h a:=iM cZ.und rfl
def cZ.put:aKw cZ:=λH a b c=>H.put1 cZ.und rfl cZ.info cZ.size a b c
def dN.und:PG.underlying dN=some (TypeDesc.array 2 28):=Tryz.underlying29
def dN.info:PG.info? dN=some Tryz.t29:=by kernel_rfl
def dN.size:Tryz.t29.size=2:=rfl
def dN.zbox{h:PH}{r:Nat}:Bx (h.set r (.cells (dS PG dN) dN)) r ((Value.agg #[Value.pointer none,Value.pointer none])).cells.toList:=Bx.zero (by kernel_rfl)
def dN.zc:dS PG dN=((Value.agg #[Value.pointer none,Value.pointer none])).cells:=by kernel_rfl
def dN.agg:aLF dN 2:=λH=>H.agg dN.und rfl dN.info dN.size
def dN.put:aNc dN 2:=aPC dN.info rfl (by decide)
def dN.fill:aKK dN 2:=aLD dN.info rfl (by decide) (by rw[dN.zc];rfl)
def aR.und:PG.underlying aR=some (TypeDesc.struct #[{name:="From",type:=3,offset:=0,embedded:=false,tag:="",pkgPath:="",byteOffset:=0},{name:="Seq",type:=22,offset:=1,embedded:=false,tag:="",pkgPath:="",byteOffset:=8},{name:="Timeout",type:=22,offset:=2,embedded:=false,tag:="",pkgPath:="",byteOffset:=16},{name:="Data",type:=9,offset:=3,embedded:=false,tag:="",pkgPath:="",byteOffset:=24}]):=Tryz.underlying34
def aR.info:PG.info? aR=some Tryz.t34:=by kernel_rfl
def aR.size:Tryz.t34.size=4:=rfl
def aR.zbox{h:PH}{r:Nat}:Bx (h.set r (.cells (dS PG aR) aR)) r ((Value.agg #[Value.int IntKind.i64 0,Value.int IntKind.u64 0,Value.int IntKind.u64 0,Value.string {data:=#[]}])).cells.toList:=Bx.zero (by kernel_rfl)
def aR.zc:dS PG aR=((Value.agg #[Value.int IntKind.i64 0,Value.int IntKind.u64 0,Value.int IntKind.u64 0,Value.string {data:=#[]}])).cells:=by kernel_rfl
def aR.loadAgg:aIf aR 4:=pD aR.und rfl aR.info aR.size
def aR.agg:aLF aR 4:=λH=>H.agg aR.und rfl aR.info aR.size
def aR.put:aNc aR 4:=aPC aR.info rfl (by decide)
def aR.fill:aKK aR 4:=aLD aR.info rfl (by decide) (by rw[aR.zc];rfl)
abbrev fAz(t:TypeId)(i:Nat):Prop:=∀{b o:Nat},dG PG (fieldAt t (pT b o) i)=some (pT b o)
def aR.f0:fAz aR 0:=by intro _ _;kernel_rfl
abbrev qA(t:TypeId)(i n:Nat):Prop:=∀{b o:Nat},dG PG (fieldAt t (pT b o) i)=some (pT b (o+n))
def aR.f1:qA aR 1 1:=by intro _ _;kernel_rfl
def aR.f2:qA aR 2 2:=by intro _ _;kernel_rfl
def aR.f3:qA aR 3 3:=by intro _ _;kernel_rfl
def dV.und:PG.underlying dV=some (TypeDesc.struct #[{name:="Packet",type:=34,offset:=0,embedded:=false,tag:="",pkgPath:="",byteOffset:=0},{name:="Stage",type:=3,offset:=4,embedded:=false,tag:="",pkgPath:="",byteOffset:=40}]):=Tryz.underlying40
def dV.info:PG.info? dV=some Tryz.t40:=by kernel_rfl
def dV.size:Tryz.t40.size=5:=rfl
def dV.bytes:Tryz.t40.bytes=48:=rfl
def dV.zero:Tryz.t40.zero=some (Value.agg #[Value.int IntKind.i64 0,Value.int IntKind.u64 0,Value.int IntKind.u64 0,Value.string {data:=#[]},Value.int IntKind.i64 0]):=rfl
def dV.zc:dS PG dV=((Value.agg #[Value.int IntKind.i64 0,Value.int IntKind.u64 0,Value.int IntKind.u64 0,Value.string {data:=#[]},Value.int IntKind.i64 0])).cells:=by kernel_rfl
def dV.loadAgg:aIf dV 5:=pD dV.und rfl dV.info dV.size
def dV.f0:fAz dV 0:=by intro _ _;kernel_rfl
def gG.und:PG.underlying gG=some (TypeDesc.pointer 179):=Tryz.underlying42
def gG.load{h:PH}{a:Addr}:cH PG h (loadAt gG (.pointer (some a)))=dB h a:=iM gG.und rfl
def fJ.und:PG.underlying fJ=some (TypeDesc.pointer 133):=Tryz.underlying43
def fJ.load{h:PH}{a:Addr}:cH PG h (loadAt fJ (.pointer (some a)))=dB h a:=iM fJ.und rfl
def jU.und:PG.underlying jU=some (TypeDesc.pointer 244):=Tryz.underlying44
def jU.load{h:PH}{a:Addr}:cH PG h (loadAt jU (.pointer (some a)))=dB h a:=iM jU.und rfl
def eP.und:PG.underlying eP=some (TypeDesc.slice 46):=Tryz.underlying45
def eP.info:PG.info? eP=some Tryz.t45:=by kernel_rfl
def eP.size:Tryz.t45.size=1:=rfl
def eP.load{h:PH}{a:Addr}:cH PG h (loadAt eP (.pointer (some a)))=dB h a:=iM eP.und rfl
def eP.put:aKw eP:=λH a b c=>H.put1 eP.und rfl eP.info eP.size a b c
def cU.und:PG.underlying cU=some (TypeDesc.slice 154):=Tryz.underlying46
def cU.info:PG.info? cU=some Tryz.t46:=by kernel_rfl
def cU.size:Tryz.t46.size=1:=rfl
def cU.bytes:Tryz.t46.bytes=24:=rfl
def cU.zero:Tryz.t46.zero=some (Value.slice none 0 0):=rfl
def cU.load{h:PH}{a:Addr}:cH PG h (loadAt cU (.pointer (some a)))=dB h a:=iM cU.und rfl
def cU.put:aKw cU:=λH a b c=>H.put1 cU.und rfl cU.info cU.size a b c
def cQ.f0:fAz cQ 0:=by intro _ _;kernel_rfl
def cQ.f1:qA cQ 1 1:=by intro _ _;kernel_rfl
def cQ.f2:qA cQ 2 2:=by intro _ _;kernel_rfl
def cQ.f3:qA cQ 3 3:=by intro _ _;kernel_rfl
def cQ.f4:qA cQ 4 4:=by intro _ _;kernel_rfl
def cQ.f5:qA cQ 5 5:=by intro _ _;kernel_rfl
def cQ.f6:qA cQ 6 6:=by intro _ _;kernel_rfl
def iN.und:PG.underlying iN=some (TypeDesc.pointer 48):=Tryz.underlying49
def iN.info:PG.info? iN=some Tryz.t49:=by kernel_rfl
def iN.size:Tryz.t49.size=1:=rfl
def iN.load{h:PH}{a:Addr}:cH PG h (loadAt iN (.pointer (some a)))=dB h a:=iM iN.und rfl
def lD.und:PG.underlying lD=some (TypeDesc.array 2 49):=Tryz.underlying50
def lY.f0:fAz lY 0:=by intro _ _;kernel_rfl
def dE.und:PG.underlying dE=some (TypeDesc.slice 5):=Tryz.underlying55
def dE.info:PG.info? dE=some Tryz.t55:=by kernel_rfl
def dE.size:Tryz.t55.size=1:=rfl
def dE.load{h:PH}{a:Addr}:cH PG h (loadAt dE (.pointer (some a)))=dB h a:=iM dE.und rfl
def dE.len{a:Option Addr}{n c:Nat}{t:TypeId}:dG PG (Builtin.len_ #[dE] t #[.slice a n c])=some (.int .i64 n):=aPe dE.und
def fZ.und:PG.underlying fZ=some (TypeDesc.int IntKind.i64):=Tryz.underlying63
def fZ.info:PG.info? fZ=some Tryz.t63:=by kernel_rfl
def fZ.size:Tryz.t63.size=1:=rfl
def fZ.load{h:PH}{a:Addr}:cH PG h (loadAt fZ (.pointer (some a)))=dB h a:=iM fZ.und rfl
def cJ.und:PG.underlying cJ=some (TypeDesc.slice 130):=Tryz.underlying65
def cJ.info:PG.info? cJ=some Tryz.t65:=by kernel_rfl
def cJ.size:Tryz.t65.size=1:=rfl
def cJ.bytes:Tryz.t65.bytes=24:=rfl
def cJ.zero:Tryz.t65.zero=some (Value.slice none 0 0):=rfl
def cJ.load{h:PH}{a:Addr}:cH PG h (loadAt cJ (.pointer (some a)))=dB h a:=iM cJ.und rfl
def jF.und:PG.underlying jF=some (TypeDesc.pointer 221):=Tryz.underlying67
def jF.load{h:PH}{a:Addr}:cH PG h (loadAt jF (.pointer (some a)))=dB h a:=iM jF.und rfl
def dX.und:PG.underlying dX=some (TypeDesc.map 9 9):=Tryz.underlying68
def dX.load{h:PH}{a:Addr}:cH PG h (loadAt dX (.pointer (some a)))=dB h a:=iM dX.und rfl
def eV.f0:fAz eV 0:=by intro _ _;kernel_rfl
def eV.f1:qA eV 1 1:=by intro _ _;kernel_rfl
def eV.f2:qA eV 2 2:=by intro _ _;kernel_rfl
def eV.f3:qA eV 3 3:=by intro _ _;kernel_rfl
def eV.f4:qA eV 4 4:=by intro _ _;kernel_rfl
def jH.und:PG.underlying jH=some (TypeDesc.pointer 251):=Tryz.underlying71
def jH.load{h:PH}{a:Addr}:cH PG h (loadAt jH (.pointer (some a)))=dB h a:=iM jH.und rfl
def eH.f0:fAz eH 0:=by intro _ _;kernel_rfl
def eH.f1:qA eH 1 5:=by intro _ _;kernel_rfl
def eH.f2:qA eH 2 6:=by intro _ _;kernel_rfl
def eH.f3:qA eH 3 7:=by intro _ _;kernel_rfl
def rL.und:PG.underlying rL=some (TypeDesc.pointer 166):=Tryz.underlying80
def dF.und:PG.underlying dF=some (TypeDesc.struct #[{name:="Height",type:=22,offset:=0,embedded:=false,tag:="",pkgPath:="",byteOffset:=0},{name:="Index",type:=3,offset:=1,embedded:=false,tag:="",pkgPath:="",byteOffset:=8}]):=Tryz.underlying85
def dF.info:PG.info? dF=some Tryz.t85:=by kernel_rfl
def dF.size:Tryz.t85.size=2:=rfl
def dF.zbox{h:PH}{r:Nat}:Bx (h.set r (.cells (dS PG dF) dF)) r ((Value.agg #[Value.int IntKind.u64 0,Value.int IntKind.i64 0])).cells.toList:=Bx.zero (by kernel_rfl)
def dF.zc:dS PG dF=((Value.agg #[Value.int IntKind.u64 0,Value.int IntKind.i64 0])).cells:=by kernel_rfl
def dF.agg:aLF dF 2:=λH=>H.agg dF.und rfl dF.info dF.size
def dF.put:aNc dF 2:=aPC dF.info rfl (by decide)
def dF.fill:aKK dF 2:=aLD dF.info rfl (by decide) (by rw[dF.zc];rfl)
def dF.f0:fAz dF 0:=by intro _ _;kernel_rfl
def dF.f1:qA dF 1 1:=by intro _ _;kernel_rfl
def cG.und:PG.underlying cG=some (TypeDesc.struct #[{name:="Kind",type:=3,offset:=0,embedded:=false,tag:="",pkgPath:="",byteOffset:=0},{name:="Id",type:=3,offset:=1,embedded:=false,tag:="",pkgPath:="",byteOffset:=8},{name:="Height",type:=22,offset:=2,embedded:=false,tag:="",pkgPath:="",byteOffset:=16},{name:="Data",type:=9,offset:=3,embedded:=false,tag:="",pkgPath:="",byteOffset:=24},{name:="P",type:=34,offset:=4,embedded:=false,tag:="",pkgPath:="",byteOffset:=40},{name:="Spoilt",type:=4,offset:=8,embedded:=false,tag:="",pkgPath:="",byteOffset:=80}]):=Tryz.underlying105
def cG.info:PG.info? cG=some Tryz.t105:=by kernel_rfl
def cG.size:Tryz.t105.size=9:=rfl
def cG.zc:dS PG cG=((Value.agg #[Value.int IntKind.i64 0,Value.int IntKind.i64 0,Value.int IntKind.u64 0,Value.string {data:=#[]},Value.int IntKind.i64 0,Value.int IntKind.u64 0,Value.int IntKind.u64 0,Value.string {data:=#[]},Value.bool false])).cells:=by kernel_rfl
def cG.loadAgg:aIf cG 9:=pD cG.und rfl cG.info cG.size
def cG.agg:aLF cG 9:=λH=>H.agg cG.und rfl cG.info cG.size
def cG.fill:aKK cG 9:=aLD cG.info rfl (by decide) (by rw[cG.zc];rfl)
def cG.f0:fAz cG 0:=by intro _ _;kernel_rfl
def cG.f1:qA cG 1 1:=by intro _ _;kernel_rfl
def cG.f2:qA cG 2 2:=by intro _ _;kernel_rfl
def cG.f3:qA cG 3 3:=by intro _ _;kernel_rfl
def cG.f4:qA cG 4 4:=by intro _ _;kernel_rfl
def cG.f5:qA cG 5 8:=by intro _ _;kernel_rfl
def cM.und:PG.underlying cM=some (TypeDesc.struct #[{name:="Key",type:=9,offset:=0,embedded:=false,tag:="",pkgPath:="",byteOffset:=0},{name:="Value",type:=9,offset:=1,embedded:=false,tag:="",pkgPath:="",byteOffset:=16}]):=Tryz.underlying130
def cM.info:PG.info? cM=some Tryz.t130:=by kernel_rfl
def cM.size:Tryz.t130.size=2:=rfl
def cM.bytes:Tryz.t130.bytes=32:=rfl
def cM.zero:Tryz.t130.zero=some (Value.agg #[Value.string {data:=#[]},Value.string {data:=#[]}]):=rfl
def cM.loadAgg:aIf cM 2:=pD cM.und rfl cM.info cM.size
def cM.agg:aLF cM 2:=λH=>H.agg cM.und rfl cM.info cM.size
def cM.f0:fAz cM 0:=by intro _ _;kernel_rfl
def cM.f1:qA cM 1 1:=by intro _ _;kernel_rfl
def fK.und:PG.underlying fK=some (TypeDesc.slice 65):=Tryz.underlying131
def fK.info:PG.info? fK=some Tryz.t131:=by kernel_rfl
def fK.size:Tryz.t131.size=1:=rfl
def fK.load{h:PH}{a:Addr}:cH PG h (loadAt fK (.pointer (some a)))=dB h a:=iM fK.und rfl
def dM.f0:fAz dM 0:=by intro _ _;kernel_rfl
def dM.f1:qA dM 1 1:=by intro _ _;kernel_rfl
def dM.f2:qA dM 2 2:=by intro _ _;kernel_rfl
def dZ.und:PG.underlying dZ=some (TypeDesc.slice 22):=Tryz.underlying137
def dZ.info:PG.info? dZ=some Tryz.t137:=by kernel_rfl
def dZ.size:Tryz.t137.size=1:=rfl
def dZ.load{h:PH}{a:Addr}:cH PG h (loadAt dZ (.pointer (some a)))=dB h a:=iM dZ.und rfl
def dI.und:PG.underlying dI=some (TypeDesc.struct #[{name:="Kind",type:=3,offset:=0,embedded:=false,tag:="",pkgPath:="",byteOffset:=0},{name:="Packet",type:=34,offset:=1,embedded:=false,tag:="",pkgPath:="",byteOffset:=8}]):=Tryz.underlying154
def dI.info:PG.info? dI=some Tryz.t154:=by kernel_rfl
def dI.size:Tryz.t154.size=5:=rfl
def dI.bytes:Tryz.t154.bytes=48:=rfl
def dI.zero:Tryz.t154.zero=some (Value.agg #[Value.int IntKind.i64 0,Value.int IntKind.i64 0,Value.int IntKind.u64 0,Value.int IntKind.u64 0,Value.string {data:=#[]}]):=rfl
def dI.zc:dS PG dI=((Value.agg #[Value.int IntKind.i64 0,Value.int IntKind.i64 0,Value.int IntKind.u64 0,Value.int IntKind.u64 0,Value.string {data:=#[]}])).cells:=by kernel_rfl
def dI.loadAgg:aIf dI 5:=pD dI.und rfl dI.info dI.size
def dI.f0:fAz dI 0:=by intro _ _;kernel_rfl
def dI.f1:qA dI 1 1:=by intro _ _;kernel_rfl
def dP.und:PG.underlying dP=some (TypeDesc.map 164 40):=Tryz.underlying162
def dP.load{h:PH}{a:Addr}:cH PG h (loadAt dP (.pointer (some a)))=dB h a:=iM dP.und rfl
def hZ.und:PG.underlying hZ=some (TypeDesc.struct #[{name:="from",type:=3,offset:=0,embedded:=false,tag:="",pkgPath:="carrack/table",byteOffset:=0},{name:="seq",type:=22,offset:=1,embedded:=false,tag:="",pkgPath:="carrack/table",byteOffset:=8}]):=Tryz.underlying164
def hZ.info:PG.info? hZ=some Tryz.t164:=by kernel_rfl
def hZ.size:Tryz.t164.size=2:=rfl
def hZ.loadAgg:aIf hZ 2:=pD hZ.und rfl hZ.info hZ.size
def gP.f0:fAz gP 0:=by intro _ _;kernel_rfl
def gP.f1:qA gP 1 1:=by intro _ _;kernel_rfl
def eZ.und:PG.underlying eZ=some (TypeDesc.slice 246):=Tryz.underlying175
def eZ.load{h:PH}{a:Addr}:cH PG h (loadAt eZ (.pointer (some a)))=dB h a:=iM eZ.und rfl
def gA.f0:fAz gA 0:=by intro _ _;kernel_rfl
def gA.f1:qA gA 1 1:=by intro _ _;kernel_rfl
def gA.f2:qA gA 2 2:=by intro _ _;kernel_rfl
def gA.f3:qA gA 3 3:=by intro _ _;kernel_rfl
def cN.und:PG.underlying cN=some (TypeDesc.slice 257):=Tryz.underlying184
def cN.info:PG.info? cN=some Tryz.t184:=by kernel_rfl
def cN.size:Tryz.t184.size=1:=rfl
def cN.load{h:PH}{a:Addr}:cH PG h (loadAt cN (.pointer (some a)))=dB h a:=iM cN.und rfl
def cN.put:aKw cN:=λH a b c=>H.put1 cN.und rfl cN.info cN.size a b c
def cC.und:PG.underlying cC=some (TypeDesc.struct #[{name:="Absent",type:=4,offset:=0,embedded:=false,tag:="",pkgPath:="",byteOffset:=0},{name:="Leaves",type:=184,offset:=1,embedded:=false,tag:="",pkgPath:="",byteOffset:=8}]):=Tryz.underlying186
def cC.info:PG.info? cC=some Tryz.t186:=by kernel_rfl
def cC.size:Tryz.t186.size=2:=rfl
def cC.zbox{h:PH}{r:Nat}:Bx (h.set r (.cells (dS PG cC) cC)) r ((Value.agg #[Value.bool false,Value.slice none 0 0])).cells.toList:=Bx.zero (by kernel_rfl)
def cC.zc:dS PG cC=((Value.agg #[Value.bool false,Value.slice none 0 0])).cells:=by kernel_rfl
def cC.agg:aLF cC 2:=λH=>H.agg cC.und rfl cC.info cC.size
def cC.put:aNc cC 2:=aPC cC.info rfl (by decide)
def cC.fill:aKK cC 2:=aLD cC.info rfl (by decide) (by rw[cC.zc];rfl)
def cC.f0:fAz cC 0:=by intro _ _;kernel_rfl
def cC.f1:qA cC 1 1:=by intro _ _;kernel_rfl
def cK.und:PG.underlying cK=some (TypeDesc.struct #[{name:="is",type:=26,offset:=0,embedded:=false,tag:="",pkgPath:="carrack/chain",byteOffset:=0},{name:="e",type:=63,offset:=1,embedded:=false,tag:="",pkgPath:="carrack/chain",byteOffset:=8}]):=Tryz.underlying193
def cK.info:PG.info? cK=some Tryz.t193:=by kernel_rfl
def cK.size:Tryz.t193.size=2:=rfl
def cK.bytes:Tryz.t193.bytes=16:=rfl
def cK.zero:Tryz.t193.zero=some (Value.agg #[Value.nilFunc,Value.int IntKind.i64 0]):=rfl
def cK.zbox{h:PH}{r:Nat}:Bx (h.set r (.cells (dS PG cK) cK)) r ((Value.agg #[Value.nilFunc,Value.int IntKind.i64 0])).cells.toList:=Bx.zero (by kernel_rfl)
def cK.zc:dS PG cK=((Value.agg #[Value.nilFunc,Value.int IntKind.i64 0])).cells:=by kernel_rfl
def cK.agg:aLF cK 2:=λH=>H.agg cK.und rfl cK.info cK.size
def cK.put:aNc cK 2:=aPC cK.info rfl (by decide)
def cK.fill:aKK cK 2:=aLD cK.info rfl (by decide) (by rw[cK.zc];rfl)
def cK.f0:fAz cK 0:=by intro _ _;kernel_rfl
def cK.f1:qA cK 1 1:=by intro _ _;kernel_rfl
def jC.und:PG.underlying jC=some (TypeDesc.struct #[{name:="l",type:=65,offset:=0,embedded:=false,tag:="",pkgPath:="carrack/store",byteOffset:=0}]):=Tryz.underlying198
def jC.info:PG.info? jC=some Tryz.t198:=by kernel_rfl
def jC.size:Tryz.t198.size=1:=rfl
def jC.loadAgg:aIf jC 1:=pD jC.und rfl jC.info jC.size
def jC.f0:fAz jC 0:=by intro _ _;kernel_rfl
def dU.und:PG.underlying dU=some (TypeDesc.struct #[{name:="sorted",type:=198,offset:=0,embedded:=true,tag:="",pkgPath:="carrack/store",byteOffset:=0},{name:="root",type:=9,offset:=1,embedded:=false,tag:="",pkgPath:="carrack/store",byteOffset:=24}]):=Tryz.underlying200
def dU.info:PG.info? dU=some Tryz.t200:=by kernel_rfl
def dU.size:Tryz.t200.size=2:=rfl
def dU.bytes:Tryz.t200.bytes=40:=rfl
def dU.zero:Tryz.t200.zero=some (Value.agg #[Value.slice none 0 0,Value.string {data:=#[]}]):=rfl
def dU.zc:dS PG dU=((Value.agg #[Value.slice none 0 0,Value.string {data:=#[]}])).cells:=by kernel_rfl
def dU.loadAgg:aIf dU 2:=pD dU.und rfl dU.info dU.size
def dU.f0:fAz dU 0:=by intro _ _;kernel_rfl
def dU.f1:qA dU 1 1:=by intro _ _;kernel_rfl
def lG.und:PG.underlying lG=some (TypeDesc.func #[9] #[4] false):=Tryz.underlying206
def lG.load{h:PH}{a:Addr}:cH PG h (loadAt lG (.pointer (some a)))=dB h a:=iM lG.und rfl
def fU.und:PG.underlying fU=some (TypeDesc.slice 200):=Tryz.underlying219
def fU.info:PG.info? fU=some Tryz.t219:=by kernel_rfl
def fU.size:Tryz.t219.size=1:=rfl
def fU.load{h:PH}{a:Addr}:cH PG h (loadAt fU (.pointer (some a)))=dB h a:=iM fU.und rfl
def eW.f0:fAz eW 0:=by intro _ _;kernel_rfl
def eW.f1:qA eW 1 1:=by intro _ _;kernel_rfl
def eW.f2:qA eW 2 2:=by intro _ _;kernel_rfl
def fS.und:PG.underlying fS=some (TypeDesc.func #[80,164,34] #[63] false):=Tryz.underlying229
def fS.info:PG.info? fS=some Tryz.t229:=by kernel_rfl
def fS.size:Tryz.t229.size=1:=rfl
def fS.load{h:PH}{a:Addr}:cH PG h (loadAt fS (.pointer (some a)))=dB h a:=iM fS.und rfl
def eD.und:PG.underlying eD=some (TypeDesc.array 5 229):=Tryz.underlying231
def eD.info:PG.info? eD=some Tryz.t231:=by kernel_rfl
def eD.zc:dS PG eD=((Value.agg #[Value.nilFunc,Value.nilFunc,Value.nilFunc,Value.nilFunc,Value.nilFunc])).cells:=by kernel_rfl
def nM.und:PG.underlying nM=some (TypeDesc.slice 3):=Tryz.underlying238
def dT.und:PG.underlying dT=some (TypeDesc.slice 287):=Tryz.underlying242
def dT.info:PG.info? dT=some Tryz.t242:=by kernel_rfl
def dT.size:Tryz.t242.size=1:=rfl
def dT.load{h:PH}{a:Addr}:cH PG h (loadAt dT (.pointer (some a)))=dB h a:=iM dT.und rfl
def gH.f0:fAz gH 0:=by intro _ _;kernel_rfl
def gH.build0:dG PG (build gH #[])=some (Value.agg #[Value.slice none 0 0]):=by kernel_rfl
def cL.und:PG.underlying cL=some (TypeDesc.int IntKind.u32):=Tryz.underlying246
def cL.info:PG.info? cL=some Tryz.t246:=by kernel_rfl
def cL.size:Tryz.t246.size=1:=rfl
def cL.bytes:Tryz.t246.bytes=4:=rfl
def cL.zero:Tryz.t246.zero=some (Value.int IntKind.u32 0):=rfl
def cL.load{h:PH}{a:Addr}:cH PG h (loadAt cL (.pointer (some a)))=dB h a:=iM cL.und rfl
def iC.und:PG.underlying iC=some (TypeDesc.map 22 9):=Tryz.underlying249
def iC.load{h:PH}{a:Addr}:cH PG h (loadAt iC (.pointer (some a)))=dB h a:=iM iC.und rfl
def iD.f0:fAz iD 0:=by intro _ _;kernel_rfl
def iD.f1:qA iD 1 1:=by intro _ _;kernel_rfl
def cP.und:PG.underlying cP=some (TypeDesc.slice 9):=Tryz.underlying255
def cP.info:PG.info? cP=some Tryz.t255:=by kernel_rfl
def cP.size:Tryz.t255.size=1:=rfl
def cP.zbox{h:PH}{r:Nat}:Bx (h.set r (.cells (dS PG cP) cP)) r ((Value.slice none 0 0)).cells.toList:=Bx.zero (by kernel_rfl)
def cP.load{h:PH}{a:Addr}:cH PG h (loadAt cP (.pointer (some a)))=dB h a:=iM cP.und rfl
def cP.put:aKw cP:=λH a b c=>H.put1 cP.und rfl cP.info cP.size a b c
def cB.und:PG.underlying cB=some (TypeDesc.struct #[{name:="Index",type:=3,offset:=0,embedded:=false,tag:="",pkgPath:="",byteOffset:=0},{name:="Count",type:=3,offset:=1,embedded:=false,tag:="",pkgPath:="",byteOffset:=8},{name:="Pair",type:=130,offset:=2,embedded:=false,tag:="",pkgPath:="",byteOffset:=16},{name:="Path",type:=255,offset:=4,embedded:=false,tag:="",pkgPath:="",byteOffset:=48}]):=Tryz.underlying257
def cB.info:PG.info? cB=some Tryz.t257:=by kernel_rfl
def cB.size:Tryz.t257.size=5:=rfl
def cB.bytes:Tryz.t257.bytes=72:=rfl
def cB.zero:Tryz.t257.zero=some (Value.agg #[Value.int IntKind.i64 0,Value.int IntKind.i64 0,Value.string {data:=#[]},Value.string {data:=#[]},Value.slice none 0 0]):=rfl
def cB.zbox{h:PH}{r:Nat}:Bx (h.set r (.cells (dS PG cB) cB)) r ((Value.agg #[Value.int IntKind.i64 0,Value.int IntKind.i64 0,Value.string {data:=#[]},Value.string {data:=#[]},Value.slice none 0 0])).cells.toList:=Bx.zero (by kernel_rfl)
def cB.zc:dS PG cB=((Value.agg #[Value.int IntKind.i64 0,Value.int IntKind.i64 0,Value.string {data:=#[]},Value.string {data:=#[]},Value.slice none 0 0])).cells:=by kernel_rfl
def cB.agg:aLF cB 5:=λH=>H.agg cB.und rfl cB.info cB.size
def cB.put:aNc cB 5:=aPC cB.info rfl (by decide)
def cB.fill:aKK cB 5:=aLD cB.info rfl (by decide) (by rw[cB.zc];rfl)
def cB.f0:fAz cB 0:=by intro _ _;kernel_rfl
def cB.f1:qA cB 1 1:=by intro _ _;kernel_rfl
def cB.f2:qA cB 2 2:=by intro _ _;kernel_rfl
def cB.f3:qA cB 3 4:=by intro _ _;kernel_rfl
def oD.f0:fAz oD 0:=by intro _ _;kernel_rfl
def dW.und:PG.underlying dW=some (TypeDesc.pointer 263):=Tryz.underlying261
def dW.info:PG.info? dW=some Tryz.t261:=by kernel_rfl
def dW.size:Tryz.t261.size=1:=rfl
def dW.load{h:PH}{a:Addr}:cH PG h (loadAt dW (.pointer (some a)))=dB h a:=iM dW.und rfl
def dK.info:PG.info? dK=some Tryz.t263:=by kernel_rfl
def dK.size:Tryz.t263.size=2:=rfl
def dK.zc:dS PG dK=((Value.agg #[Value.pointer none,Value.slice none 0 0])).cells:=by kernel_rfl
def dK.f0:fAz dK 0:=by intro _ _;kernel_rfl
def dK.f1:qA dK 1 1:=by intro _ _;kernel_rfl
def fQ.zc:dS PG fQ=((Value.agg #[Value.int IntKind.i64 0,Value.pointer none,Value.slice none 0 0])).cells:=by kernel_rfl
def fQ.f0:fAz fQ 0:=by intro _ _;kernel_rfl
def fQ.f1:qA fQ 1 1:=by intro _ _;kernel_rfl
def jN.und:PG.underlying jN=some (TypeDesc.slice 193):=Tryz.underlying271
def eQ.und:PG.underlying eQ=some (TypeDesc.struct #[{name:="Height",type:=22,offset:=0,embedded:=false,tag:="",pkgPath:="",byteOffset:=0},{name:="Root",type:=9,offset:=1,embedded:=false,tag:="",pkgPath:="",byteOffset:=8}]):=Tryz.underlying287
def eQ.info:PG.info? eQ=some Tryz.t287:=by kernel_rfl
def eQ.size:Tryz.t287.size=2:=rfl
def eQ.bytes:Tryz.t287.bytes=24:=rfl
def eQ.zero:Tryz.t287.zero=some (Value.agg #[Value.int IntKind.u64 0,Value.string {data:=#[]}]):=rfl
def eQ.f0:fAz eQ 0:=by intro _ _;kernel_rfl
def eQ.f1:qA eQ 1 1:=by intro _ _;kernel_rfl
def fR.und:PG.underlying fR=some (TypeDesc.func #[65,3] #[] false):=Tryz.underlying354
def fR.info:PG.info? fR=some Tryz.t354:=by kernel_rfl
def fR.size:Tryz.t354.size=1:=rfl
def fR.zc:dS PG fR=(Value.nilFunc).cells:=by kernel_rfl
def fR.load{h:PH}{a:Addr}:cH PG h (loadAt fR (.pointer (some a)))=dB h a:=iM fR.und rfl
def fR.fill{h:PH}{r:Nat}{v:Value}{k:cD}(hr:h r=none)(hv:fX v=true)(hk:∀h',Bx h' r [v]->dC h h'->k undef h'):dA PG (dR fR (pT r 0) v) (h.set r (.cells (dS PG fR) fR)) k:=Bx.fill1 hr fR.und rfl fR.info fR.size (by rw[fR.zc];rfl) hv hk
def gJ.f0:fAz gJ 0:=by intro _ _;kernel_rfl
def gJ.f1:qA gJ 1 1:=by intro _ _;kernel_rfl
def fY.und:PG.underlying fY=some (TypeDesc.func #[3,3] #[9] false):=Tryz.underlying363
def fY.info:PG.info? fY=some Tryz.t363:=by kernel_rfl
def fY.size:Tryz.t363.size=1:=rfl
def fY.zc:dS PG fY=(Value.nilFunc).cells:=by kernel_rfl
def fY.load{h:PH}{a:Addr}:cH PG h (loadAt fY (.pointer (some a)))=dB h a:=iM fY.und rfl
def fY.fill{h:PH}{r:Nat}{v:Value}{k:cD}(hr:h r=none)(hv:fX v=true)(hk:∀h',Bx h' r [v]->dC h h'->k undef h'):dA PG (dR fY (pT r 0) v) (h.set r (.cells (dS PG fY) fY)) k:=Bx.fill1 hr fY.und rfl fY.info fY.size (by rw[fY.zc];rfl) hv hk
def fC.f0:fAz fC 0:=by intro _ _;kernel_rfl
def fC.f1:qA fC 1 1:=by intro _ _;kernel_rfl
def fC.f2:qA fC 2 2:=by intro _ _;kernel_rfl
def gK.f0:fAz gK 0:=by intro _ _;kernel_rfl
def gK.f1:qA gK 1 1:=by intro _ _;kernel_rfl
def eX.und:PG.underlying eX=some (TypeDesc.array 8 246):=Tryz.underlying376
def eX.info:PG.info? eX=some Tryz.t376:=by kernel_rfl
def eX.size:Tryz.t376.size=8:=rfl
def eX.zc:dS PG eX=((Value.agg (Array.replicate 8 (Value.int IntKind.u32 0)))).cells:=by kernel_rfl
def eX.loadAgg:aIf eX 8:=pD eX.und rfl eX.info eX.size
def iB.und:PG.underlying iB=some (TypeDesc.struct #[{name:="h",type:=376,offset:=0,embedded:=false,tag:="",pkgPath:="carrack/sha",byteOffset:=0}]):=Tryz.underlying378
def iB.info:PG.info? iB=some Tryz.t378:=by kernel_rfl
def iB.size:Tryz.t378.size=8:=rfl
def iB.zc:dS PG iB=((Value.agg (Array.replicate 8 (Value.int IntKind.u32 0)))).cells:=by kernel_rfl
def iB.loadAgg:aIf iB 8:=pD iB.und rfl iB.info iB.size
def iB.f0:fAz iB 0:=by intro _ _;kernel_rfl
def fH.und:PG.underlying fH=some (TypeDesc.struct #[{name:="state",type:=378,offset:=0,embedded:=true,tag:="",pkgPath:="carrack/sha",byteOffset:=0},{name:="rest",type:=9,offset:=8,embedded:=false,tag:="",pkgPath:="carrack/sha",byteOffset:=32},{name:="n",type:=3,offset:=9,embedded:=false,tag:="",pkgPath:="carrack/sha",byteOffset:=48}]):=Tryz.underlying381
def fH.info:PG.info? fH=some Tryz.t381:=by kernel_rfl
def fH.size:Tryz.t381.size=10:=rfl
def fH.zc:dS PG fH=((Value.agg #[Value.int IntKind.u32 0,Value.int IntKind.u32 0,Value.int IntKind.u32 0,Value.int IntKind.u32 0,Value.int IntKind.u32 0,Value.int IntKind.u32 0,Value.int IntKind.u32 0,Value.int IntKind.u32 0,Value.string {data:=#[]},Value.int IntKind.i64 0])).cells:=by kernel_rfl
def fH.loadAgg:aIf fH 10:=pD fH.und rfl fH.info fH.size
def fH.f0:fAz fH 0:=by intro _ _;kernel_rfl
def fH.f1:qA fH 1 8:=by intro _ _;kernel_rfl
def fH.f2:qA fH 2 9:=by intro _ _;kernel_rfl
def iL.und:PG.underlying iL=some TypeDesc.unsafePointer:=Tryz.underlying389
def fE.und:PG.underlying fE=some (TypeDesc.array 64 246):=Tryz.underlying396
def fE.info:PG.info? fE=some Tryz.t396:=by kernel_rfl
def fE.size:Tryz.t396.size=64:=rfl
def fE.zc:dS PG fE=((Value.agg (Array.replicate 64 (Value.int IntKind.u32 0)))).cells:=by kernel_rfl
def fE.loadAgg:aIf fE 64:=pD fE.und rfl fE.info fE.size
end Go.Proofs.YtppgkeodaejgcaaGreatDoor
