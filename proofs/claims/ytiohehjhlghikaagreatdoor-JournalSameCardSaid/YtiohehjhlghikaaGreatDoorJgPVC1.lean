/- The texts of this claim, put together. -/
import Derived.Test.YtiohehjhlghikaaGreatDoorJgPVC0
import Derived.Test.YtiohehjhlghikaaGreatDoorChecked
import Derived.KernelRfl
set_option linter.all false
set_option maxRecDepth 100000
open Go.Instr (loadAt fieldAt indexAt extract buildSlice build)
namespace Go.Proofs.YtiohehjhlghikaaGreatDoor
open Go
noncomputable abbrev PG:Program:=Tryz.prog
def mix:PG.follows .mixedOrders=true:=by kernel_rfl
abbrev tW:FuncId:=3
abbrev aAv:FuncId:=7
abbrev aBu:FuncId:=8
abbrev wC:FuncId:=9
abbrev mG:FuncId:=10
abbrev yQ:FuncId:=11
abbrev rJ:FuncId:=12
abbrev mN:FuncId:=13
abbrev wG:FuncId:=14
abbrev pM:FuncId:=15
abbrev oH:FuncId:=16
abbrev aII:FuncId:=24
abbrev aBx:FuncId:=25
abbrev wJ:FuncId:=26
abbrev uT:FuncId:=27
abbrev aIN:FuncId:=28
abbrev aDn:FuncId:=29
abbrev vG:FuncId:=30
abbrev aBO:FuncId:=31
abbrev rK:FuncId:=32
abbrev lT:FuncId:=33
abbrev oM:FuncId:=34
abbrev qM:FuncId:=35
abbrev yY:FuncId:=36
abbrev aAj:FuncId:=37
abbrev aCz:FuncId:=38
abbrev yW:FuncId:=39
abbrev aCH:FuncId:=40
abbrev aDB:FuncId:=41
abbrev aDA:FuncId:=42
abbrev vY:FuncId:=47
abbrev aBW:FuncId:=48
abbrev nW:FuncId:=49
abbrev rX:FuncId:=50
abbrev aA4:FuncId:=51
abbrev aFY:FuncId:=52
abbrev lW:FuncId:=53
abbrev sH:FuncId:=54
abbrev oS:FuncId:=55
abbrev wI:FuncId:=56
abbrev rU:FuncId:=57
abbrev zH:FuncId:=58
abbrev aFN:FuncId:=59
abbrev jZ:FuncId:=60
abbrev vZ:FuncId:=61
abbrev aDH:FuncId:=62
abbrev tM:FuncId:=63
abbrev aGM:FuncId:=64
abbrev vX:FuncId:=65
abbrev pG:FuncId:=66
abbrev aE2:FuncId:=67
abbrev uA:FuncId:=68
abbrev aB8:FuncId:=69
abbrev aCj:FuncId:=70
abbrev yG:FuncId:=71
abbrev tD:FuncId:=72
abbrev aHe:FuncId:=73
abbrev aCn:FuncId:=74
abbrev mK:FuncId:=75
abbrev qV:FuncId:=76
abbrev qS:FuncId:=77
abbrev fR:FuncId:=78
abbrev rH:FuncId:=79
abbrev nC:FuncId:=80
abbrev oE:FuncId:=81
abbrev uJ:FuncId:=82
abbrev aGJ:FuncId:=83
abbrev aCJ:FuncId:=84
abbrev iH:FuncId:=85
abbrev aBA:FuncId:=86
abbrev aDj:FuncId:=87
abbrev nH:FuncId:=88
abbrev aDk:FuncId:=89
abbrev aBy:FuncId:=90
abbrev xG:FuncId:=93
abbrev yJ:FuncId:=94
abbrev iS:FuncId:=95
abbrev kF:FuncId:=96
abbrev aDq:FuncId:=97
abbrev rP:FuncId:=98
abbrev qA:FuncId:=99
abbrev qE:FuncId:=100
abbrev oF:FuncId:=101
abbrev aAI:FuncId:=102
abbrev xZ:FuncId:=103
abbrev sU:FuncId:=104
abbrev yH:FuncId:=105
abbrev aAf:FuncId:=106
abbrev vB:FuncId:=107
abbrev pL:FuncId:=108
abbrev aBZ:FuncId:=109
abbrev aAo:FuncId:=110
abbrev wE:FuncId:=111
abbrev aHC:FuncId:=112
abbrev uR:FuncId:=113
abbrev qK:FuncId:=114
abbrev vR:FuncId:=115
abbrev kO:FuncId:=116
abbrev nO:FuncId:=117
abbrev pZ:FuncId:=118
abbrev aGS:FuncId:=119
abbrev aCU:FuncId:=120
abbrev aAz:FuncId:=121
abbrev yS:FuncId:=122
abbrev aIG:FuncId:=123
abbrev aC7:FuncId:=124
abbrev aDd:FuncId:=125
abbrev nA:FuncId:=126
abbrev jX:FuncId:=127
abbrev aFZ:FuncId:=128
abbrev aCO:FuncId:=129
abbrev aA5:FuncId:=130
abbrev aEq:FuncId:=131
abbrev vW:FuncId:=132
abbrev jJ:FuncId:=133
abbrev aDa:FuncId:=134
abbrev aGU:FuncId:=135
abbrev aGX:FuncId:=136
abbrev iU:FuncId:=137
abbrev aCL:FuncId:=138
abbrev aJC:FuncId:=139
abbrev sY:FuncId:=140
abbrev uY:FuncId:=141
abbrev uX:FuncId:=142
abbrev qR:FuncId:=143
abbrev aBL:FuncId:=144
abbrev tV:FuncId:=145
abbrev aEw:FuncId:=146
abbrev tZ:FuncId:=147
abbrev aEp:FuncId:=148
abbrev iG:FuncId:=149
abbrev aEk:FuncId:=150
abbrev uF:FuncId:=151
abbrev lE:FuncId:=152
abbrev aC3:FuncId:=153
abbrev aJd:FuncId:=154
abbrev aFv:FuncId:=155
abbrev qD:FuncId:=157
abbrev aBz:FuncId:=158
abbrev mR:FuncId:=159
abbrev pH:FuncId:=160
abbrev vU:FuncId:=161
abbrev aBe:FuncId:=162
abbrev aAw:FuncId:=163
abbrev aBC:FuncId:=164
abbrev tQ:FuncId:=165
abbrev nK:FuncId:=166
abbrev gL:FuncId:=167
abbrev aBJ:FuncId:=170
abbrev yA:FuncId:=171
abbrev aEQ:FuncId:=172
abbrev kR:FuncId:=173
abbrev tR:FuncId:=174
abbrev aEL:FuncId:=175
abbrev aGx:FuncId:=176
abbrev aGY:FuncId:=177
abbrev uL:FuncId:=178
abbrev aEn:FuncId:=179
abbrev lU:FuncId:=180
abbrev aEx:FuncId:=181
abbrev lV:FuncId:=182
abbrev xN:FuncId:=183
abbrev aCI:FuncId:=184
abbrev aGR:FuncId:=185
abbrev kC:FuncId:=186
abbrev iO:FuncId:=187
abbrev gO:FuncId:=188
abbrev oX:FuncId:=189
abbrev aDc:FuncId:=190
abbrev xC:FuncId:=191
abbrev rS:FuncId:=192
abbrev uN:FuncId:=193
abbrev jW:FuncId:=194
abbrev aA0:FuncId:=195
abbrev aBw:FuncId:=196
abbrev aAJ:FuncId:=197
abbrev sC:FuncId:=198
abbrev xL:FuncId:=199
abbrev xH:FuncId:=200
abbrev aH7:FuncId:=211
abbrev qO:FuncId:=212
abbrev xY:FuncId:=213
abbrev aEJ:FuncId:=214
abbrev aDf:FuncId:=215
abbrev yN:FuncId:=216
abbrev aDN:FuncId:=217
abbrev aBQ:FuncId:=218
abbrev xO:FuncId:=219
abbrev aHL:FuncId:=225
abbrev yK:FuncId:=226
abbrev xI:FuncId:=227
abbrev aHf:FuncId:=228
abbrev aHa:FuncId:=229
abbrev aGf:FuncId:=230
abbrev aGN:FuncId:=231
abbrev aF8:FuncId:=232
abbrev aBU:FuncId:=233
abbrev aBt:FuncId:=234
abbrev aBX:FuncId:=240
abbrev T_:TypeId:=0
abbrev aR:TypeId:=3
abbrev iY:TypeId:=4
abbrev dJ:TypeId:=5
abbrev bR:TypeId:=9
abbrev cI:TypeId:=22
abbrev cG:TypeId:=24
abbrev cR:TypeId:=25
abbrev fU:TypeId:=26
abbrev oI:TypeId:=29
abbrev gC:TypeId:=31
abbrev eJ:TypeId:=32
abbrev dF:TypeId:=33
abbrev fV:TypeId:=34
abbrev fK:TypeId:=35
abbrev dK:TypeId:=37
abbrev bY:TypeId:=38
abbrev aT:TypeId:=40
abbrev cT:TypeId:=45
abbrev jF:TypeId:=46
abbrev dR:TypeId:=48
abbrev bT:TypeId:=52
abbrev rO:TypeId:=58
abbrev dH:TypeId:=64
abbrev cY:TypeId:=66
abbrev nU:TypeId:=69
abbrev cA:TypeId:=71
abbrev cW:TypeId:=73
abbrev eA:TypeId:=75
abbrev fM:TypeId:=77
abbrev bX:TypeId:=79
abbrev cK:TypeId:=81
abbrev cE:TypeId:=83
abbrev dE:TypeId:=90
abbrev cZ:TypeId:=108
abbrev fE:TypeId:=115
abbrev dZ:TypeId:=117
abbrev eM:TypeId:=119
abbrev eO:TypeId:=121
abbrev cL:TypeId:=123
abbrev dW:TypeId:=125
abbrev dO:TypeId:=127
abbrev cS:TypeId:=129
abbrev wX:TypeId:=138
abbrev mJ:TypeId:=173
abbrev dM:TypeId:=174
abbrev dA:TypeId:=176
abbrev eN:TypeId:=178
abbrev dV:TypeId:=185
abbrev aCN:TypeId:=191
abbrev fI:TypeId:=210
abbrev dL:TypeId:=212
abbrev gA:TypeId:=214
abbrev eK:TypeId:=237
abbrev oB:TypeId:=250
abbrev fD:TypeId:=251
abbrev lP:TypeId:=262
abbrev cQ:TypeId:=268
abbrev eR:TypeId:=278
abbrev dN:TypeId:=280
abbrev gJ:TypeId:=284
abbrev mZ:TypeId:=304
abbrev cH:TypeId:=310
abbrev gW:TypeId:=313
abbrev eY:TypeId:=321
abbrev aCX:TypeId:=325
def aR.und:PG.underlying aR=some (TypeDesc.int IntKind.i64):=Tryz.underlying3
def aR.info:PG.info? aR=some Tryz.t3:=by kernel_rfl
def aR.size:Tryz.t3.size=1:=rfl
def aR.bytes:Tryz.t3.bytes=8:=rfl
def aR.zero:Tryz.t3.zero=some (Value.int IntKind.i64 0):=rfl
def aR.zc:dD PG aR=((Value.int IntKind.i64 0)).cells:=by kernel_rfl
def aR.load{h:PH}{a:Addr}:cB PG h (loadAt aR (.pointer (some a)))=cU h a:=jD aR.und rfl
abbrev aGQ(t:TypeId)(n:Nat):Prop:=∀{h:PH} {r o:Nat} {cs vs:List Value} {k:cF} (H:Bx h r cs) (hl:vs.length=n) (ho:o+n≤cs.length) (hv:∀v∈vs,fH v=true) (hk:∀h',Bx h' r (cs.take o++vs++cs.drop (o+n))->cV [r] h h'->k undef h'),cM PG (cP t (pT r o) (.agg vs.toArray)) h k
def aHP{t:TypeId}{n:Nat}{i:TypeInfo}(hi:PG.info? t=some i)(hn:i.size=n)(h0:0<n):aGQ t n:=by
 intro h r o cs vs k H hl ho hv hk;exact H.putN hi (by rw[hl];exact hn) (by omega) (by omega) hv (by rw[hl];exact hk)
abbrev aCo(t:TypeId)(n:Nat):Prop:=∀{h:PH} {r:Nat} {vs:List Value} {k:cF} (hr:h r=none) (hl:vs.length=n) (hv:∀v∈vs,fH v=true) (hk:∀h',Bx h' r vs->cX h h'->k undef h'),cM PG (cP t (pT r 0) (.agg vs.toArray)) (h.set r (.cells (dD PG t) t)) k
def aDX{t:TypeId}{n:Nat}{i:TypeInfo}(hi:PG.info? t=some i)(hn:i.size=n)(h0:0<n)(hz:(dD PG t).size=n):aCo t n:=by
 intro h r vs k hr hl hv hk;exact Bx.fill hr hi (by rw[hl];exact hn) (by omega) (by rw[hz,hl]) hv hk
abbrev aEb(t:TypeId)(n:Nat):Prop:=∀{h:PH} {r o:Nat} {cs:List Value} (H:Bx h r cs) (hle:o+n≤cs.length),cB PG h (loadAt t (pT r o))=some (.agg ((cs.drop o).take n).toArray)
abbrev aPC(t:TypeId)(n:Nat):Prop:=∀{h:PH} {b o:Nat} {c:Array Value} {e:TypeId} {fr:Nat×Nat} (hb:h b=some (.cells c e fr)) (hle:o+n≤c.size),cB PG h (loadAt t (pT b o))=some (.agg (c.extract o (o+n)))
abbrev aE6(t:TypeId):Prop:=∀{h:PH} {r o:Nat} {cs:List Value} {v:Value} {k:cF} (H:Bx h r cs) (ho:o<cs.length) (hv:fH v=true) (hk:∀h',Bx h' r (cs.set o v)->cV [r] h h'->k undef h'),cM PG (cP t (pT r o) v) h k
def aR.put:aE6 aR:=λH a b c=>H.put1 aR.und rfl aR.info aR.size a b c
def aR.fill{h:PH}{r:Nat}{v:Value}{k:cF}(hr:h r=none)(hv:fH v=true)(hk:∀h',Bx h' r [v]->cX h h'->k undef h'):cM PG (cP aR (pT r 0) v) (h.set r (.cells (dD PG aR) aR)) k:=Bx.fill1 hr aR.und rfl aR.info aR.size (by rw[aR.zc];rfl) hv hk
def iY.und:PG.underlying iY=some TypeDesc.bool:=Tryz.underlying4
def iY.info:PG.info? iY=some Tryz.t4:=by kernel_rfl
def iY.size:Tryz.t4.size=1:=rfl
def iY.load{h:PH}{a:Addr}:cB PG h (loadAt iY (.pointer (some a)))=cU h a:=jD iY.und rfl
def iY.put:aE6 iY:=λH a b c=>H.put1 iY.und rfl iY.info iY.size a b c
def dJ.und:PG.underlying dJ=some (TypeDesc.int IntKind.u8):=Tryz.underlying5
def dJ.info:PG.info? dJ=some Tryz.t5:=by kernel_rfl
def dJ.size:Tryz.t5.size=1:=rfl
def dJ.bytes:Tryz.t5.bytes=1:=rfl
def dJ.zero:Tryz.t5.zero=some (Value.int IntKind.u8 0):=rfl
def dJ.put:aE6 dJ:=λH a b c=>H.put1 dJ.und rfl dJ.info dJ.size a b c
def bR.und:PG.underlying bR=some TypeDesc.string:=Tryz.underlying9
def bR.info:PG.info? bR=some Tryz.t9:=by kernel_rfl
def bR.size:Tryz.t9.size=1:=rfl
def bR.bytes:Tryz.t9.bytes=16:=rfl
def bR.zero:Tryz.t9.zero=some (Value.string {data:=#[]}):=rfl
def bR.load{h:PH}{a:Addr}:cB PG h (loadAt bR (.pointer (some a)))=cU h a:=jD bR.und rfl
def bR.put:aE6 bR:=λH a b c=>H.put1 bR.und rfl bR.info bR.size a b c
def bR.len{s:ByteArray}{t:TypeId}:cC PG (Builtin.len_ #[bR] t #[.string s])=some (.int .i64 s.size):=tN bR.und
def cI.und:PG.underlying cI=some (TypeDesc.int IntKind.u64):=Tryz.underlying22
def cI.info:PG.info? cI=some Tryz.t22:=by kernel_rfl
def cI.size:Tryz.t22.size=1:=rfl
def cI.load{h:PH}{a:Addr}:cB PG h (loadAt cI (.pointer (some a)))=cU h a:=jD cI.und rfl
def cI.put:aE6 cI:=λH a b c=>H.put1 cI.und rfl cI.info cI.size a b c
def cG.und:PG.underlying cG=some (TypeDesc.struct #[{name:="Height",type:=22,offset:=0,embedded:=false,tag:="",pkgPath:="",byteOffset:=0},{name:="Index",type:=3,offset:=1,embedded:=false,tag:="",pkgPath:="",byteOffset:=8}]):=Tryz.underlying24
def cG.info:PG.info? cG=some Tryz.t24:=by kernel_rfl
def cG.size:Tryz.t24.size=2:=rfl
def cG.zbox{h:PH}{r:Nat}:Bx (h.set r (.cells (dD PG cG) cG)) r ((Value.agg #[Value.int IntKind.u64 0,Value.int IntKind.i64 0])).cells.toList:=Bx.zero (by kernel_rfl)
def cG.zc:dD PG cG=((Value.agg #[Value.int IntKind.u64 0,Value.int IntKind.i64 0])).cells:=by kernel_rfl
def cG.loadAgg:aPC cG 2:=zQ cG.und rfl cG.info cG.size
def cG.agg:aEb cG 2:=λH=>H.agg cG.und rfl cG.info cG.size
def cG.put:aGQ cG 2:=aHP cG.info rfl (by decide)
def cG.fill:aCo cG 2:=aDX cG.info rfl (by decide) (by rw[cG.zc];rfl)
abbrev fAz(t:TypeId)(i:Nat):Prop:=∀{b o:Nat},cC PG (fieldAt t (pT b o) i)=some (pT b o)
def cG.f0:fAz cG 0:=by intro _ _;kernel_rfl
abbrev lQ(t:TypeId)(i n:Nat):Prop:=∀{b o:Nat},cC PG (fieldAt t (pT b o) i)=some (pT b (o+n))
def cG.f1:lQ cG 1 1:=by intro _ _;kernel_rfl
def cR.und:PG.underlying cR=some (TypeDesc.array 2 24):=Tryz.underlying25
def cR.info:PG.info? cR=some Tryz.t25:=by kernel_rfl
def cR.size:Tryz.t25.size=4:=rfl
def cR.agg:aEb cR 4:=λH=>H.agg cR.und rfl cR.info cR.size
def fU.und:PG.underlying fU=some (TypeDesc.slice 48):=Tryz.underlying26
def oI.und:PG.underlying oI=some (TypeDesc.pointer 37):=Tryz.underlying29
def gC.und:PG.underlying gC=some (TypeDesc.pointer 119):=Tryz.underlying31
def gC.load{h:PH}{a:Addr}:cB PG h (loadAt gC (.pointer (some a)))=cU h a:=jD gC.und rfl
def eJ.und:PG.underlying eJ=some (TypeDesc.pointer 77):=Tryz.underlying32
def eJ.info:PG.info? eJ=some Tryz.t32:=by kernel_rfl
def eJ.size:Tryz.t32.size=1:=rfl
def eJ.load{h:PH}{a:Addr}:cB PG h (loadAt eJ (.pointer (some a)))=cU h a:=jD eJ.und rfl
def eJ.put:aE6 eJ:=λH a b c=>H.put1 eJ.und rfl eJ.info eJ.size a b c
def dF.und:PG.underlying dF=some (TypeDesc.int IntKind.i64):=Tryz.underlying33
def dF.info:PG.info? dF=some Tryz.t33:=by kernel_rfl
def dF.size:Tryz.t33.size=1:=rfl
def dF.zbox{h:PH}{r:Nat}:Bx (h.set r (.cells (dD PG dF) dF)) r ((Value.int IntKind.i64 0)).cells.toList:=Bx.zero (by kernel_rfl)
def dF.load{h:PH}{a:Addr}:cB PG h (loadAt dF (.pointer (some a)))=cU h a:=jD dF.und rfl
def dF.put:aE6 dF:=λH a b c=>H.put1 dF.und rfl dF.info dF.size a b c
def fV.und:PG.underlying fV=some (TypeDesc.pointer 66):=Tryz.underlying34
def fV.load{h:PH}{a:Addr}:cB PG h (loadAt fV (.pointer (some a)))=cU h a:=jD fV.und rfl
def fK.und:PG.underlying fK=some (TypeDesc.pointer 69):=Tryz.underlying35
def fK.info:PG.info? fK=some Tryz.t35:=by kernel_rfl
def fK.size:Tryz.t35.size=1:=rfl
def fK.load{h:PH}{a:Addr}:cB PG h (loadAt fK (.pointer (some a)))=cU h a:=jD fK.und rfl
def fK.put:aE6 fK:=λH a b c=>H.put1 fK.und rfl fK.info fK.size a b c
def dK.f0:fAz dK 0:=by intro _ _;kernel_rfl
def dK.f1:lQ dK 1 1:=by intro _ _;kernel_rfl
def dK.f2:lQ dK 2 2:=by intro _ _;kernel_rfl
def dK.f3:lQ dK 3 3:=by intro _ _;kernel_rfl
def dK.f4:lQ dK 4 4:=by intro _ _;kernel_rfl
def dK.f5:lQ dK 5 5:=by intro _ _;kernel_rfl
def dK.f6:lQ dK 6 6:=by intro _ _;kernel_rfl
def bY.und:PG.underlying bY=some (TypeDesc.slice 83):=Tryz.underlying38
def bY.info:PG.info? bY=some Tryz.t38:=by kernel_rfl
def bY.size:Tryz.t38.size=1:=rfl
def bY.load{h:PH}{a:Addr}:cB PG h (loadAt bY (.pointer (some a)))=cU h a:=jD bY.und rfl
def bY.put:aE6 bY:=λH a b c=>H.put1 bY.und rfl bY.info bY.size a b c
def aT.und:PG.underlying aT=some (TypeDesc.struct #[{name:="Places",type:=25,offset:=0,embedded:=false,tag:="",pkgPath:="",byteOffset:=0},{name:="Items",type:=38,offset:=4,embedded:=false,tag:="",pkgPath:="",byteOffset:=32}]):=Tryz.underlying40
def aT.info:PG.info? aT=some Tryz.t40:=by kernel_rfl
def aT.size:Tryz.t40.size=5:=rfl
def aT.zbox{h:PH}{r:Nat}:Bx (h.set r (.cells (dD PG aT) aT)) r ((Value.agg #[Value.int IntKind.u64 0,Value.int IntKind.i64 0,Value.int IntKind.u64 0,Value.int IntKind.i64 0,Value.slice none 0 0])).cells.toList:=Bx.zero (by kernel_rfl)
def aT.zc:dD PG aT=((Value.agg #[Value.int IntKind.u64 0,Value.int IntKind.i64 0,Value.int IntKind.u64 0,Value.int IntKind.i64 0,Value.slice none 0 0])).cells:=by kernel_rfl
def aT.agg:aEb aT 5:=λH=>H.agg aT.und rfl aT.info aT.size
def aT.put:aGQ aT 5:=aHP aT.info rfl (by decide)
def aT.fill:aCo aT 5:=aDX aT.info rfl (by decide) (by rw[aT.zc];rfl)
def aT.f0:fAz aT 0:=by intro _ _;kernel_rfl
def aT.f1:lQ aT 1 4:=by intro _ _;kernel_rfl
def cT.und:PG.underlying cT=some (TypeDesc.slice 81):=Tryz.underlying45
def cT.info:PG.info? cT=some Tryz.t45:=by kernel_rfl
def cT.size:Tryz.t45.size=1:=rfl
def cT.load{h:PH}{a:Addr}:cB PG h (loadAt cT (.pointer (some a)))=cU h a:=jD cT.und rfl
def cT.put:aE6 cT:=λH a b c=>H.put1 cT.und rfl cT.info cT.size a b c
def jF.und:PG.underlying jF=some (TypeDesc.slice 58):=Tryz.underlying46
def jF.load{h:PH}{a:Addr}:cB PG h (loadAt jF (.pointer (some a)))=cU h a:=jD jF.und rfl
def dR.und:PG.underlying dR=some (TypeDesc.struct #[{name:="Kind",type:=3,offset:=0,embedded:=false,tag:="",pkgPath:="",byteOffset:=0},{name:="N",type:=3,offset:=1,embedded:=false,tag:="",pkgPath:="",byteOffset:=8},{name:="Chain",type:=3,offset:=2,embedded:=false,tag:="",pkgPath:="",byteOffset:=16},{name:="At",type:=24,offset:=3,embedded:=false,tag:="",pkgPath:="",byteOffset:=24},{name:="L",type:=45,offset:=5,embedded:=false,tag:="",pkgPath:="",byteOffset:=40},{name:="W",type:=46,offset:=6,embedded:=false,tag:="",pkgPath:="",byteOffset:=64}]):=Tryz.underlying48
def dR.info:PG.info? dR=some Tryz.t48:=by kernel_rfl
def dR.size:Tryz.t48.size=7:=rfl
def dR.f0:fAz dR 0:=by intro _ _;kernel_rfl
def dR.f2:lQ dR 2 2:=by intro _ _;kernel_rfl
def dR.f3:lQ dR 3 3:=by intro _ _;kernel_rfl
def dR.f4:lQ dR 4 5:=by intro _ _;kernel_rfl
def dR.f5:lQ dR 5 6:=by intro _ _;kernel_rfl
def bT.und:PG.underlying bT=some (TypeDesc.struct #[{name:="Kind",type:=3,offset:=0,embedded:=false,tag:="",pkgPath:="",byteOffset:=0},{name:="State",type:=40,offset:=1,embedded:=false,tag:="",pkgPath:="",byteOffset:=8},{name:="Chain",type:=3,offset:=6,embedded:=false,tag:="",pkgPath:="",byteOffset:=64},{name:="Place",type:=24,offset:=7,embedded:=false,tag:="",pkgPath:="",byteOffset:=72},{name:="Notes",type:=45,offset:=9,embedded:=false,tag:="",pkgPath:="",byteOffset:=88}]):=Tryz.underlying52
def bT.info:PG.info? bT=some Tryz.t52:=by kernel_rfl
def bT.size:Tryz.t52.size=10:=rfl
def bT.zbox{h:PH}{r:Nat}:Bx (h.set r (.cells (dD PG bT) bT)) r ((Value.agg #[Value.int IntKind.i64 0,Value.int IntKind.u64 0,Value.int IntKind.i64 0,Value.int IntKind.u64 0,Value.int IntKind.i64 0,Value.slice none 0 0,Value.int IntKind.i64 0,Value.int IntKind.u64 0,Value.int IntKind.i64 0,Value.slice none 0 0])).cells.toList:=Bx.zero (by kernel_rfl)
def bT.zc:dD PG bT=((Value.agg #[Value.int IntKind.i64 0,Value.int IntKind.u64 0,Value.int IntKind.i64 0,Value.int IntKind.u64 0,Value.int IntKind.i64 0,Value.slice none 0 0,Value.int IntKind.i64 0,Value.int IntKind.u64 0,Value.int IntKind.i64 0,Value.slice none 0 0])).cells:=by kernel_rfl
def bT.agg:aEb bT 10:=λH=>H.agg bT.und rfl bT.info bT.size
def bT.put:aGQ bT 10:=aHP bT.info rfl (by decide)
def bT.fill:aCo bT 10:=aDX bT.info rfl (by decide) (by rw[bT.zc];rfl)
def bT.f0:fAz bT 0:=by intro _ _;kernel_rfl
def bT.f1:lQ bT 1 1:=by intro _ _;kernel_rfl
def bT.f2:lQ bT 2 6:=by intro _ _;kernel_rfl
def bT.f3:lQ bT 3 7:=by intro _ _;kernel_rfl
def bT.f4:lQ bT 4 9:=by intro _ _;kernel_rfl
def rO.und:PG.underlying rO=some (TypeDesc.struct #[{name:="Lasts",type:=4,offset:=0,embedded:=false,tag:="",pkgPath:="",byteOffset:=0},{name:="Torn",type:=3,offset:=1,embedded:=false,tag:="",pkgPath:="",byteOffset:=8}]):=Tryz.underlying58
def dH.und:PG.underlying dH=some (TypeDesc.slice 185):=Tryz.underlying64
def dH.info:PG.info? dH=some Tryz.t64:=by kernel_rfl
def dH.size:Tryz.t64.size=1:=rfl
def dH.load{h:PH}{a:Addr}:cB PG h (loadAt dH (.pointer (some a)))=cU h a:=jD dH.und rfl
def dH.put:aE6 dH:=λH a b c=>H.put1 dH.und rfl dH.info dH.size a b c
def cY.f0:fAz cY 0:=by intro _ _;kernel_rfl
def cY.f1:lQ cY 1 1:=by intro _ _;kernel_rfl
def cY.f2:lQ cY 2 2:=by intro _ _;kernel_rfl
def cY.f3:lQ cY 3 3:=by intro _ _;kernel_rfl
def cY.f4:lQ cY 4 4:=by intro _ _;kernel_rfl
def cA.und:PG.underlying cA=some (TypeDesc.struct #[{name:="Gen",type:=22,offset:=0,embedded:=false,tag:="",pkgPath:="",byteOffset:=0},{name:="Segment",type:=3,offset:=1,embedded:=false,tag:="",pkgPath:="",byteOffset:=8}]):=Tryz.underlying71
def cA.info:PG.info? cA=some Tryz.t71:=by kernel_rfl
def cA.size:Tryz.t71.size=2:=rfl
def cA.zbox{h:PH}{r:Nat}:Bx (h.set r (.cells (dD PG cA) cA)) r ((Value.agg #[Value.int IntKind.u64 0,Value.int IntKind.i64 0])).cells.toList:=Bx.zero (by kernel_rfl)
def cA.zc:dD PG cA=((Value.agg #[Value.int IntKind.u64 0,Value.int IntKind.i64 0])).cells:=by kernel_rfl
def cA.agg:aEb cA 2:=λH=>H.agg cA.und rfl cA.info cA.size
def cA.put:aGQ cA 2:=aHP cA.info rfl (by decide)
def cA.fill:aCo cA 2:=aDX cA.info rfl (by decide) (by rw[cA.zc];rfl)
def cA.f0:fAz cA 0:=by intro _ _;kernel_rfl
def cA.f1:lQ cA 1 1:=by intro _ _;kernel_rfl
def cW.f0:fAz cW 0:=by intro _ _;kernel_rfl
def cW.f1:lQ cW 1 1:=by intro _ _;kernel_rfl
def cW.f2:lQ cW 2 3:=by intro _ _;kernel_rfl
def cW.f3:lQ cW 3 4:=by intro _ _;kernel_rfl
def cW.f4:lQ cW 4 5:=by intro _ _;kernel_rfl
def cW.f5:lQ cW 5 6:=by intro _ _;kernel_rfl
def cW.f6:lQ cW 6 7:=by intro _ _;kernel_rfl
def eA.und:PG.underlying eA=some (TypeDesc.pointer 127):=Tryz.underlying75
def eA.load{h:PH}{a:Addr}:cB PG h (loadAt eA (.pointer (some a)))=cU h a:=jD eA.und rfl
def fM.f0:fAz fM 0:=by intro _ _;kernel_rfl
def fM.f1:lQ fM 1 1:=by intro _ _;kernel_rfl
def fM.f2:lQ fM 2 2:=by intro _ _;kernel_rfl
def bX.und:PG.underlying bX=some (TypeDesc.struct #[{name:="From",type:=3,offset:=0,embedded:=false,tag:="",pkgPath:="",byteOffset:=0},{name:="Seq",type:=22,offset:=1,embedded:=false,tag:="",pkgPath:="",byteOffset:=8},{name:="Timeout",type:=22,offset:=2,embedded:=false,tag:="",pkgPath:="",byteOffset:=16},{name:="Data",type:=9,offset:=3,embedded:=false,tag:="",pkgPath:="",byteOffset:=24}]):=Tryz.underlying79
def bX.info:PG.info? bX=some Tryz.t79:=by kernel_rfl
def bX.size:Tryz.t79.size=4:=rfl
def bX.bytes:Tryz.t79.bytes=40:=rfl
def bX.zero:Tryz.t79.zero=some (Value.agg #[Value.int IntKind.i64 0,Value.int IntKind.u64 0,Value.int IntKind.u64 0,Value.string {data:=#[]}]):=rfl
def bX.zbox{h:PH}{r:Nat}:Bx (h.set r (.cells (dD PG bX) bX)) r ((Value.agg #[Value.int IntKind.i64 0,Value.int IntKind.u64 0,Value.int IntKind.u64 0,Value.string {data:=#[]}])).cells.toList:=Bx.zero (by kernel_rfl)
def bX.zc:dD PG bX=((Value.agg #[Value.int IntKind.i64 0,Value.int IntKind.u64 0,Value.int IntKind.u64 0,Value.string {data:=#[]}])).cells:=by kernel_rfl
def bX.loadAgg:aPC bX 4:=zQ bX.und rfl bX.info bX.size
def bX.agg:aEb bX 4:=λH=>H.agg bX.und rfl bX.info bX.size
def bX.put:aGQ bX 4:=aHP bX.info rfl (by decide)
def bX.fill:aCo bX 4:=aDX bX.info rfl (by decide) (by rw[bX.zc];rfl)
def bX.f0:fAz bX 0:=by intro _ _;kernel_rfl
def bX.f1:lQ bX 1 1:=by intro _ _;kernel_rfl
def bX.f2:lQ bX 2 2:=by intro _ _;kernel_rfl
def bX.f3:lQ bX 3 3:=by intro _ _;kernel_rfl
def cK.und:PG.underlying cK=some (TypeDesc.struct #[{name:="Kind",type:=3,offset:=0,embedded:=false,tag:="",pkgPath:="",byteOffset:=0},{name:="Packet",type:=79,offset:=1,embedded:=false,tag:="",pkgPath:="",byteOffset:=8}]):=Tryz.underlying81
def cK.info:PG.info? cK=some Tryz.t81:=by kernel_rfl
def cK.size:Tryz.t81.size=5:=rfl
def cK.bytes:Tryz.t81.bytes=48:=rfl
def cK.zero:Tryz.t81.zero=some (Value.agg #[Value.int IntKind.i64 0,Value.int IntKind.i64 0,Value.int IntKind.u64 0,Value.int IntKind.u64 0,Value.string {data:=#[]}]):=rfl
def cK.zbox{h:PH}{r:Nat}:Bx (h.set r (.cells (dD PG cK) cK)) r ((Value.agg #[Value.int IntKind.i64 0,Value.int IntKind.i64 0,Value.int IntKind.u64 0,Value.int IntKind.u64 0,Value.string {data:=#[]}])).cells.toList:=Bx.zero (by kernel_rfl)
def cK.zc:dD PG cK=((Value.agg #[Value.int IntKind.i64 0,Value.int IntKind.i64 0,Value.int IntKind.u64 0,Value.int IntKind.u64 0,Value.string {data:=#[]}])).cells:=by kernel_rfl
def cK.loadAgg:aPC cK 5:=zQ cK.und rfl cK.info cK.size
def cK.agg:aEb cK 5:=λH=>H.agg cK.und rfl cK.info cK.size
def cK.put:aGQ cK 5:=aHP cK.info rfl (by decide)
def cK.fill:aCo cK 5:=aDX cK.info rfl (by decide) (by rw[cK.zc];rfl)
def cK.f0:fAz cK 0:=by intro _ _;kernel_rfl
def cK.f1:lQ cK 1 1:=by intro _ _;kernel_rfl
def cE.und:PG.underlying cE=some (TypeDesc.struct #[{name:="Packet",type:=79,offset:=0,embedded:=false,tag:="",pkgPath:="",byteOffset:=0},{name:="Stage",type:=3,offset:=4,embedded:=false,tag:="",pkgPath:="",byteOffset:=40}]):=Tryz.underlying83
def cE.info:PG.info? cE=some Tryz.t83:=by kernel_rfl
def cE.size:Tryz.t83.size=5:=rfl
def cE.bytes:Tryz.t83.bytes=48:=rfl
def cE.zero:Tryz.t83.zero=some (Value.agg #[Value.int IntKind.i64 0,Value.int IntKind.u64 0,Value.int IntKind.u64 0,Value.string {data:=#[]},Value.int IntKind.i64 0]):=rfl
def cE.zbox{h:PH}{r:Nat}:Bx (h.set r (.cells (dD PG cE) cE)) r ((Value.agg #[Value.int IntKind.i64 0,Value.int IntKind.u64 0,Value.int IntKind.u64 0,Value.string {data:=#[]},Value.int IntKind.i64 0])).cells.toList:=Bx.zero (by kernel_rfl)
def cE.zc:dD PG cE=((Value.agg #[Value.int IntKind.i64 0,Value.int IntKind.u64 0,Value.int IntKind.u64 0,Value.string {data:=#[]},Value.int IntKind.i64 0])).cells:=by kernel_rfl
def cE.loadAgg:aPC cE 5:=zQ cE.und rfl cE.info cE.size
def cE.agg:aEb cE 5:=λH=>H.agg cE.und rfl cE.info cE.size
def cE.put:aGQ cE 5:=aHP cE.info rfl (by decide)
def cE.fill:aCo cE 5:=aDX cE.info rfl (by decide) (by rw[cE.zc];rfl)
def cE.f0:fAz cE 0:=by intro _ _;kernel_rfl
def cE.f1:lQ cE 1 4:=by intro _ _;kernel_rfl
def dE.und:PG.underlying dE=some (TypeDesc.slice 9):=Tryz.underlying90
def dE.info:PG.info? dE=some Tryz.t90:=by kernel_rfl
def dE.size:Tryz.t90.size=1:=rfl
def dE.zbox{h:PH}{r:Nat}:Bx (h.set r (.cells (dD PG dE) dE)) r ((Value.slice none 0 0)).cells.toList:=Bx.zero (by kernel_rfl)
def dE.load{h:PH}{a:Addr}:cB PG h (loadAt dE (.pointer (some a)))=cU h a:=jD dE.und rfl
def dE.put:aE6 dE:=λH a b c=>H.put1 dE.und rfl dE.info dE.size a b c
def cZ.f0:fAz cZ 0:=by intro _ _;kernel_rfl
def cZ.f1:lQ cZ 1 1:=by intro _ _;kernel_rfl
def fE.und:PG.underlying fE=some (TypeDesc.slice 121):=Tryz.underlying115
def fE.info:PG.info? fE=some Tryz.t115:=by kernel_rfl
def fE.size:Tryz.t115.size=1:=rfl
def fE.load{h:PH}{a:Addr}:cB PG h (loadAt fE (.pointer (some a)))=cU h a:=jD fE.und rfl
def fE.put:aE6 fE:=λH a b c=>H.put1 fE.und rfl fE.info fE.size a b c
def dZ.und:PG.underlying dZ=some (TypeDesc.struct #[{name:="size",type:=3,offset:=0,embedded:=false,tag:="",pkgPath:="carrack/disk",byteOffset:=0},{name:="sectors",type:=3,offset:=1,embedded:=false,tag:="",pkgPath:="carrack/disk",byteOffset:=8}]):=Tryz.underlying117
def dZ.info:PG.info? dZ=some Tryz.t117:=by kernel_rfl
def dZ.size:Tryz.t117.size=2:=rfl
def dZ.agg:aEb dZ 2:=λH=>H.agg dZ.und rfl dZ.info dZ.size
def dZ.f0:fAz dZ 0:=by intro _ _;kernel_rfl
def dZ.f1:lQ dZ 1 1:=by intro _ _;kernel_rfl
def eM.f0:fAz eM 0:=by intro _ _;kernel_rfl
def eM.f1:lQ eM 1 2:=by intro _ _;kernel_rfl
def eM.f2:lQ eM 2 3:=by intro _ _;kernel_rfl
def eM.f3:lQ eM 3 4:=by intro _ _;kernel_rfl
def eO.und:PG.underlying eO=some (TypeDesc.struct #[{name:="sector",type:=3,offset:=0,embedded:=false,tag:="",pkgPath:="carrack/disk",byteOffset:=0},{name:="s",type:=9,offset:=1,embedded:=false,tag:="",pkgPath:="carrack/disk",byteOffset:=8}]):=Tryz.underlying121
def eO.info:PG.info? eO=some Tryz.t121:=by kernel_rfl
def eO.size:Tryz.t121.size=2:=rfl
def eO.bytes:Tryz.t121.bytes=24:=rfl
def eO.zero:Tryz.t121.zero=some (Value.agg #[Value.int IntKind.i64 0,Value.string {data:=#[]}]):=rfl
def eO.zc:dD PG eO=((Value.agg #[Value.int IntKind.i64 0,Value.string {data:=#[]}])).cells:=by kernel_rfl
def eO.fill:aCo eO 2:=aDX eO.info rfl (by decide) (by rw[eO.zc];rfl)
def eO.f0:fAz eO 0:=by intro _ _;kernel_rfl
def eO.f1:lQ eO 1 1:=by intro _ _;kernel_rfl
def cL.und:PG.underlying cL=some (TypeDesc.struct #[{name:="Gen",type:=22,offset:=0,embedded:=false,tag:="",pkgPath:="",byteOffset:=0},{name:="Segment",type:=3,offset:=1,embedded:=false,tag:="",pkgPath:="",byteOffset:=8}]):=Tryz.underlying123
def cL.info:PG.info? cL=some Tryz.t123:=by kernel_rfl
def cL.size:Tryz.t123.size=2:=rfl
def cL.zbox{h:PH}{r:Nat}:Bx (h.set r (.cells (dD PG cL) cL)) r ((Value.agg #[Value.int IntKind.u64 0,Value.int IntKind.i64 0])).cells.toList:=Bx.zero (by kernel_rfl)
def cL.zc:dD PG cL=((Value.agg #[Value.int IntKind.u64 0,Value.int IntKind.i64 0])).cells:=by kernel_rfl
def cL.agg:aEb cL 2:=λH=>H.agg cL.und rfl cL.info cL.size
def cL.put:aGQ cL 2:=aHP cL.info rfl (by decide)
def cL.fill:aCo cL 2:=aDX cL.info rfl (by decide) (by rw[cL.zc];rfl)
def cL.f0:fAz cL 0:=by intro _ _;kernel_rfl
def cL.f1:lQ cL 1 1:=by intro _ _;kernel_rfl
def dW.und:PG.underlying dW=some (TypeDesc.struct #[{name:="Disk",type:=31,offset:=0,embedded:=true,tag:="",pkgPath:="",byteOffset:=0}]):=Tryz.underlying125
def dW.info:PG.info? dW=some Tryz.t125:=by kernel_rfl
def dW.size:Tryz.t125.size=1:=rfl
def dW.agg:aEb dW 1:=λH=>H.agg dW.und rfl dW.info dW.size
def dW.f0:fAz dW 0:=by intro _ _;kernel_rfl
def dO.f0:fAz dO 0:=by intro _ _;kernel_rfl
def dO.f1:lQ dO 1 1:=by intro _ _;kernel_rfl
def dO.f2:lQ dO 2 3:=by intro _ _;kernel_rfl
def dO.f3:lQ dO 3 4:=by intro _ _;kernel_rfl
def dO.f4:lQ dO 4 5:=by intro _ _;kernel_rfl
def dO.f5:lQ dO 5 6:=by intro _ _;kernel_rfl
def dO.f6:lQ dO 6 7:=by intro _ _;kernel_rfl
def cS.und:PG.underlying cS=some (TypeDesc.slice 5):=Tryz.underlying129
def cS.info:PG.info? cS=some Tryz.t129:=by kernel_rfl
def cS.size:Tryz.t129.size=1:=rfl
def cS.load{h:PH}{a:Addr}:cB PG h (loadAt cS (.pointer (some a)))=cU h a:=jD cS.und rfl
def cS.len{a:Option Addr}{n c:Nat}{t:TypeId}:cC PG (Builtin.len_ #[cS] t #[.slice a n c])=some (.int .i64 n):=aM2 cS.und
def wX.und:PG.underlying wX=some (TypeDesc.slice 24):=Tryz.underlying138
def mJ.f0:fAz mJ 0:=by intro _ _;kernel_rfl
def dM.und:PG.underlying dM=some (TypeDesc.pointer 176):=Tryz.underlying174
def dM.info:PG.info? dM=some Tryz.t174:=by kernel_rfl
def dM.size:Tryz.t174.size=1:=rfl
def dM.load{h:PH}{a:Addr}:cB PG h (loadAt dM (.pointer (some a)))=cU h a:=jD dM.und rfl
def dA.info:PG.info? dA=some Tryz.t176:=by kernel_rfl
def dA.size:Tryz.t176.size=2:=rfl
def dA.zc:dD PG dA=((Value.agg #[Value.pointer none,Value.slice none 0 0])).cells:=by kernel_rfl
def dA.f0:fAz dA 0:=by intro _ _;kernel_rfl
def dA.f1:lQ dA 1 1:=by intro _ _;kernel_rfl
def eN.zc:dD PG eN=((Value.agg #[Value.int IntKind.i64 0,Value.pointer none,Value.slice none 0 0])).cells:=by kernel_rfl
def eN.f0:fAz eN 0:=by intro _ _;kernel_rfl
def eN.f1:lQ eN 1 1:=by intro _ _;kernel_rfl
def dV.info:PG.info? dV=some Tryz.t185:=by kernel_rfl
def dV.size:Tryz.t185.size=2:=rfl
def dV.bytes:Tryz.t185.bytes=24:=rfl
def dV.zero:Tryz.t185.zero=some (Value.agg #[Value.int IntKind.i64 0,Value.string {data:=#[]}]):=rfl
def dV.f0:fAz dV 0:=by intro _ _;kernel_rfl
def dV.f1:lQ dV 1 1:=by intro _ _;kernel_rfl
def fI.und:PG.underlying fI=some (TypeDesc.struct #[{name:="from",type:=3,offset:=0,embedded:=false,tag:="",pkgPath:="carrack/table",byteOffset:=0},{name:="seq",type:=22,offset:=1,embedded:=false,tag:="",pkgPath:="carrack/table",byteOffset:=8}]):=Tryz.underlying210
def fI.info:PG.info? fI=some Tryz.t210:=by kernel_rfl
def fI.size:Tryz.t210.size=2:=rfl
def fI.zc:dD PG fI=((Value.agg #[Value.int IntKind.i64 0,Value.int IntKind.u64 0])).cells:=by kernel_rfl
def fI.loadAgg:aPC fI 2:=zQ fI.und rfl fI.info fI.size
def dL.und:PG.underlying dL=some (TypeDesc.map 210 83):=Tryz.underlying212
def dL.load{h:PH}{a:Addr}:cB PG h (loadAt dL (.pointer (some a)))=cU h a:=jD dL.und rfl
def gA.f0:fAz gA 0:=by intro _ _;kernel_rfl
def gA.f1:lQ gA 1 1:=by intro _ _;kernel_rfl
def eK.f0:fAz eK 0:=by intro _ _;kernel_rfl
def eK.f1:lQ eK 1 1:=by intro _ _;kernel_rfl
def fD.und:PG.underlying fD=some (TypeDesc.int IntKind.u32):=Tryz.underlying251
def fD.info:PG.info? fD=some Tryz.t251:=by kernel_rfl
def fD.size:Tryz.t251.size=1:=rfl
def fD.load{h:PH}{a:Addr}:cB PG h (loadAt fD (.pointer (some a)))=cU h a:=jD fD.und rfl
def fD.put:aE6 fD:=λH a b c=>H.put1 fD.und rfl fD.info fD.size a b c
def lP.und:PG.underlying lP=some (TypeDesc.slice 3):=Tryz.underlying262
def cQ.und:PG.underlying cQ=some (TypeDesc.struct #[{name:="Gen",type:=22,offset:=0,embedded:=false,tag:="",pkgPath:="",byteOffset:=0},{name:="Serial",type:=22,offset:=1,embedded:=false,tag:="",pkgPath:="",byteOffset:=8},{name:="Part",type:=3,offset:=2,embedded:=false,tag:="",pkgPath:="",byteOffset:=16},{name:="Parts",type:=3,offset:=3,embedded:=false,tag:="",pkgPath:="",byteOffset:=24},{name:="Bytes",type:=9,offset:=4,embedded:=false,tag:="",pkgPath:="",byteOffset:=32}]):=Tryz.underlying268
def cQ.info:PG.info? cQ=some Tryz.t268:=by kernel_rfl
def cQ.size:Tryz.t268.size=5:=rfl
def cQ.zbox{h:PH}{r:Nat}:Bx (h.set r (.cells (dD PG cQ) cQ)) r ((Value.agg #[Value.int IntKind.u64 0,Value.int IntKind.u64 0,Value.int IntKind.i64 0,Value.int IntKind.i64 0,Value.string {data:=#[]}])).cells.toList:=Bx.zero (by kernel_rfl)
def cQ.zc:dD PG cQ=((Value.agg #[Value.int IntKind.u64 0,Value.int IntKind.u64 0,Value.int IntKind.i64 0,Value.int IntKind.i64 0,Value.string {data:=#[]}])).cells:=by kernel_rfl
def cQ.agg:aEb cQ 5:=λH=>H.agg cQ.und rfl cQ.info cQ.size
def cQ.put:aGQ cQ 5:=aHP cQ.info rfl (by decide)
def cQ.fill:aCo cQ 5:=aDX cQ.info rfl (by decide) (by rw[cQ.zc];rfl)
def cQ.f0:fAz cQ 0:=by intro _ _;kernel_rfl
def cQ.f1:lQ cQ 1 1:=by intro _ _;kernel_rfl
def cQ.f2:lQ cQ 2 2:=by intro _ _;kernel_rfl
def cQ.f3:lQ cQ 3 3:=by intro _ _;kernel_rfl
def cQ.f4:lQ cQ 4 4:=by intro _ _;kernel_rfl
def eR.und:PG.underlying eR=some (TypeDesc.func #[134,210,79] #[33] false):=Tryz.underlying278
def eR.info:PG.info? eR=some Tryz.t278:=by kernel_rfl
def eR.size:Tryz.t278.size=1:=rfl
def eR.load{h:PH}{a:Addr}:cB PG h (loadAt eR (.pointer (some a)))=cU h a:=jD eR.und rfl
def dN.und:PG.underlying dN=some (TypeDesc.array 5 278):=Tryz.underlying280
def dN.info:PG.info? dN=some Tryz.t280:=by kernel_rfl
def dN.zc:dD PG dN=((Value.agg #[Value.nilFunc,Value.nilFunc,Value.nilFunc,Value.nilFunc,Value.nilFunc])).cells:=by kernel_rfl
def gJ.und:PG.underlying gJ=some TypeDesc.unsafePointer:=Tryz.underlying284
def mZ.und:PG.underlying mZ=some (TypeDesc.array 4 5):=Tryz.underlying304
def mZ.zbox{h:PH}{r:Nat}:Bx (h.set r (.cells (dD PG mZ) mZ)) r ((Value.agg #[Value.int IntKind.u8 0,Value.int IntKind.u8 0,Value.int IntKind.u8 0,Value.int IntKind.u8 0])).cells.toList:=Bx.zero (by kernel_rfl)
def cH.und:PG.underlying cH=some (TypeDesc.struct #[{name:="Gen",type:=22,offset:=0,embedded:=false,tag:="",pkgPath:="",byteOffset:=0},{name:="Serial",type:=22,offset:=1,embedded:=false,tag:="",pkgPath:="",byteOffset:=8},{name:="Part",type:=3,offset:=2,embedded:=false,tag:="",pkgPath:="",byteOffset:=16},{name:="Parts",type:=3,offset:=3,embedded:=false,tag:="",pkgPath:="",byteOffset:=24},{name:="Bytes",type:=9,offset:=4,embedded:=false,tag:="",pkgPath:="",byteOffset:=32}]):=Tryz.underlying310
def cH.info:PG.info? cH=some Tryz.t310:=by kernel_rfl
def cH.size:Tryz.t310.size=5:=rfl
def cH.zbox{h:PH}{r:Nat}:Bx (h.set r (.cells (dD PG cH) cH)) r ((Value.agg #[Value.int IntKind.u64 0,Value.int IntKind.u64 0,Value.int IntKind.i64 0,Value.int IntKind.i64 0,Value.string {data:=#[]}])).cells.toList:=Bx.zero (by kernel_rfl)
def cH.zc:dD PG cH=((Value.agg #[Value.int IntKind.u64 0,Value.int IntKind.u64 0,Value.int IntKind.i64 0,Value.int IntKind.i64 0,Value.string {data:=#[]}])).cells:=by kernel_rfl
def cH.agg:aEb cH 5:=λH=>H.agg cH.und rfl cH.info cH.size
def cH.put:aGQ cH 5:=aHP cH.info rfl (by decide)
def cH.fill:aCo cH 5:=aDX cH.info rfl (by decide) (by rw[cH.zc];rfl)
def cH.f0:fAz cH 0:=by intro _ _;kernel_rfl
def cH.f1:lQ cH 1 1:=by intro _ _;kernel_rfl
def cH.f2:lQ cH 2 2:=by intro _ _;kernel_rfl
def cH.f3:lQ cH 3 3:=by intro _ _;kernel_rfl
def cH.f4:lQ cH 4 4:=by intro _ _;kernel_rfl
def gW.und:PG.underlying gW=some (TypeDesc.slice 79):=Tryz.underlying313
def eY.und:PG.underlying eY=some (TypeDesc.array 256 251):=Tryz.underlying321
def eY.info:PG.info? eY=some Tryz.t321:=by kernel_rfl
def eY.size:Tryz.t321.size=256:=rfl
def eY.zbox{h:PH}{r:Nat}:Bx (h.set r (.cells (dD PG eY) eY)) r ((Value.agg (List.replicate 256 (Value.int IntKind.u32 0)).toArray)).cells.toList:=Bx.zero (by kernel_rfl)
def eY.zc:dD PG eY=((Value.agg (List.replicate 256 (Value.int IntKind.u32 0)).toArray)).cells:=by kernel_rfl
def eY.agg:aEb eY 256:=λH=>H.agg eY.und rfl eY.info eY.size
def eY.put:aGQ eY 256:=aHP eY.info rfl (by decide)
def eY.fill:aCo eY 256:=aDX eY.info rfl (by decide) (by rw[eY.zc];rfl)
end Go.Proofs.YtiohehjhlghikaaGreatDoor
