/- The texts of this claim, put together. -/
import Derived.Test.YtiohehjhlghikaaGreatDoorJgNVC0
import Derived.Test.YtiohehjhlghikaaGreatDoorChecked
import Derived.KernelRfl
set_option linter.all false
set_option maxRecDepth 100000
open Go.Instr (loadAt fieldAt indexAt extract buildSlice build)
namespace Go.Proofs.YtiohehjhlghikaaGreatDoor
open Go
noncomputable abbrev PG:Program:=Tryz.prog
def mix:PG.follows .mixedOrders=true:=by kernel_rfl
abbrev tN:FuncId:=5
abbrev aAs:FuncId:=7
abbrev aB5:FuncId:=8
abbrev wM:FuncId:=9
abbrev mM:FuncId:=10
abbrev aCB:FuncId:=11
abbrev wF:FuncId:=12
abbrev mV:FuncId:=13
abbrev aBX:FuncId:=14
abbrev pN:FuncId:=15
abbrev lE:FuncId:=16
abbrev aDv:FuncId:=19
abbrev yA:FuncId:=20
abbrev uO:FuncId:=21
abbrev aIQ:FuncId:=24
abbrev aB7:FuncId:=25
abbrev wE:FuncId:=26
abbrev uP:FuncId:=27
abbrev aIT:FuncId:=28
abbrev aDz:FuncId:=29
abbrev vA:FuncId:=30
abbrev aBk:FuncId:=31
abbrev rK:FuncId:=32
abbrev mE:FuncId:=33
abbrev oM:FuncId:=34
abbrev qL:FuncId:=35
abbrev zC:FuncId:=36
abbrev aA6:FuncId:=37
abbrev aC3:FuncId:=38
abbrev zY:FuncId:=39
abbrev aB8:FuncId:=40
abbrev aDF:FuncId:=41
abbrev aDD:FuncId:=42
abbrev aEu:FuncId:=46
abbrev wC:FuncId:=47
abbrev aBo:FuncId:=48
abbrev nV:FuncId:=49
abbrev rW:FuncId:=50
abbrev aA9:FuncId:=51
abbrev aFn:FuncId:=52
abbrev lY:FuncId:=53
abbrev sJ:FuncId:=54
abbrev oW:FuncId:=55
abbrev wD:FuncId:=56
abbrev sD:FuncId:=57
abbrev zH:FuncId:=58
abbrev aFh:FuncId:=59
abbrev kA:FuncId:=60
abbrev vY:FuncId:=61
abbrev aDI:FuncId:=62
abbrev tL:FuncId:=63
abbrev aGg:FuncId:=64
abbrev vZ:FuncId:=65
abbrev pL:FuncId:=66
abbrev aFA:FuncId:=67
abbrev uM:FuncId:=68
abbrev aCE:FuncId:=69
abbrev aCv:FuncId:=70
abbrev yO:FuncId:=71
abbrev tM:FuncId:=72
abbrev aHY:FuncId:=73
abbrev aC4:FuncId:=74
abbrev mT:FuncId:=75
abbrev qZ:FuncId:=76
abbrev qT:FuncId:=77
abbrev fT:FuncId:=78
abbrev rL:FuncId:=79
abbrev nH:FuncId:=80
abbrev oI:FuncId:=81
abbrev uG:FuncId:=82
abbrev aGT:FuncId:=83
abbrev aCK:FuncId:=84
abbrev iJ:FuncId:=85
abbrev aBR:FuncId:=86
abbrev aDs:FuncId:=87
abbrev nK:FuncId:=88
abbrev aD3:FuncId:=89
abbrev aB6:FuncId:=90
abbrev xJ:FuncId:=93
abbrev sV:FuncId:=94
abbrev gW:FuncId:=95
abbrev jH:FuncId:=96
abbrev aD0:FuncId:=97
abbrev sE:FuncId:=98
abbrev qD:FuncId:=99
abbrev qG:FuncId:=100
abbrev oF:FuncId:=101
abbrev aAJ:FuncId:=102
abbrev yF:FuncId:=103
abbrev sZ:FuncId:=104
abbrev yM:FuncId:=105
abbrev aAo:FuncId:=106
abbrev vI:FuncId:=107
abbrev pO:FuncId:=108
abbrev aBi:FuncId:=109
abbrev aAv:FuncId:=110
abbrev wK:FuncId:=111
abbrev aHK:FuncId:=112
abbrev uN:FuncId:=113
abbrev rG:FuncId:=114
abbrev vS:FuncId:=115
abbrev kR:FuncId:=116
abbrev nT:FuncId:=117
abbrev qB:FuncId:=118
abbrev aGZ:FuncId:=119
abbrev aCU:FuncId:=120
abbrev aBD:FuncId:=121
abbrev yY:FuncId:=122
abbrev aIO:FuncId:=123
abbrev aDC:FuncId:=124
abbrev aDY:FuncId:=125
abbrev nF:FuncId:=126
abbrev kE:FuncId:=127
abbrev aFm:FuncId:=128
abbrev aCY:FuncId:=129
abbrev aA5:FuncId:=130
abbrev aEg:FuncId:=131
abbrev vX:FuncId:=132
abbrev jM:FuncId:=133
abbrev aDm:FuncId:=134
abbrev aGR:FuncId:=135
abbrev aGY:FuncId:=136
abbrev iW:FuncId:=137
abbrev aCh:FuncId:=138
abbrev aJY:FuncId:=139
abbrev tB:FuncId:=140
abbrev vD:FuncId:=141
abbrev vE:FuncId:=142
abbrev qK:FuncId:=143
abbrev aBO:FuncId:=144
abbrev uH:FuncId:=145
abbrev aE0:FuncId:=146
abbrev uF:FuncId:=147
abbrev aEs:FuncId:=148
abbrev iI:FuncId:=149
abbrev aEW:FuncId:=150
abbrev uL:FuncId:=151
abbrev lH:FuncId:=152
abbrev aC7:FuncId:=153
abbrev aKU:FuncId:=154
abbrev aFx:FuncId:=155
abbrev qF:FuncId:=157
abbrev aB3:FuncId:=158
abbrev mX:FuncId:=159
abbrev pM:FuncId:=160
abbrev vV:FuncId:=161
abbrev aBj:FuncId:=162
abbrev aA4:FuncId:=163
abbrev aBg:FuncId:=164
abbrev tX:FuncId:=165
abbrev nN:FuncId:=166
abbrev gN:FuncId:=167
abbrev aBb:FuncId:=170
abbrev xU:FuncId:=171
abbrev aEt:FuncId:=172
abbrev kX:FuncId:=173
abbrev tS:FuncId:=174
abbrev aE1:FuncId:=175
abbrev aGx:FuncId:=176
abbrev aGd:FuncId:=177
abbrev tZ:FuncId:=178
abbrev aER:FuncId:=179
abbrev mF:FuncId:=180
abbrev aFC:FuncId:=181
abbrev mC:FuncId:=182
abbrev xW:FuncId:=183
abbrev aCH:FuncId:=184
abbrev aGW:FuncId:=185
abbrev kH:FuncId:=186
abbrev iT:FuncId:=187
abbrev gQ:FuncId:=188
abbrev pH:FuncId:=189
abbrev aDi:FuncId:=190
abbrev xE:FuncId:=191
abbrev rZ:FuncId:=192
abbrev uQ:FuncId:=193
abbrev jZ:FuncId:=194
abbrev aAn:FuncId:=195
abbrev aB2:FuncId:=196
abbrev aAM:FuncId:=197
abbrev rT:FuncId:=198
abbrev xR:FuncId:=199
abbrev xO:FuncId:=200
abbrev aIV:FuncId:=211
abbrev qW:FuncId:=212
abbrev xZ:FuncId:=213
abbrev aEz:FuncId:=214
abbrev aDX:FuncId:=215
abbrev zG:FuncId:=216
abbrev aDR:FuncId:=217
abbrev aBJ:FuncId:=218
abbrev yG:FuncId:=219
abbrev aHW:FuncId:=225
abbrev yQ:FuncId:=226
abbrev xI:FuncId:=227
abbrev aHs:FuncId:=228
abbrev aHJ:FuncId:=229
abbrev aGs:FuncId:=230
abbrev aGb:FuncId:=231
abbrev aF5:FuncId:=232
abbrev aBc:FuncId:=233
abbrev aB1:FuncId:=234
abbrev aBm:FuncId:=240
abbrev T_:TypeId:=0
abbrev aR:TypeId:=3
abbrev iU:TypeId:=4
abbrev dK:TypeId:=5
abbrev aT:TypeId:=9
abbrev cI:TypeId:=22
abbrev cG:TypeId:=24
abbrev cR:TypeId:=25
abbrev gA:TypeId:=26
abbrev oO:TypeId:=29
abbrev fL:TypeId:=31
abbrev dX:TypeId:=32
abbrev dH:TypeId:=33
abbrev fW:TypeId:=34
abbrev fM:TypeId:=35
abbrev cS:TypeId:=37
abbrev bZ:TypeId:=38
abbrev bR:TypeId:=40
abbrev cY:TypeId:=45
abbrev jG:TypeId:=46
abbrev dR:TypeId:=48
abbrev bW:TypeId:=52
abbrev rP:TypeId:=58
abbrev dI:TypeId:=64
abbrev dC:TypeId:=66
abbrev nY:TypeId:=69
abbrev cA:TypeId:=71
abbrev dA:TypeId:=73
abbrev eH:TypeId:=75
abbrev fP:TypeId:=77
abbrev bX:TypeId:=79
abbrev cK:TypeId:=81
abbrev cE:TypeId:=83
abbrev cU:TypeId:=90
abbrev dD:TypeId:=108
abbrev eZ:TypeId:=115
abbrev eA:TypeId:=117
abbrev eB:TypeId:=119
abbrev eR:TypeId:=121
abbrev cL:TypeId:=123
abbrev dW:TypeId:=125
abbrev dO:TypeId:=127
abbrev cW:TypeId:=129
abbrev xD:TypeId:=138
abbrev mQ:TypeId:=173
abbrev dM:TypeId:=174
abbrev cV:TypeId:=176
abbrev eO:TypeId:=178
abbrev dV:TypeId:=185
abbrev aCb:TypeId:=191
abbrev fJ:TypeId:=210
abbrev dL:TypeId:=212
abbrev gG:TypeId:=214
abbrev eM:TypeId:=237
abbrev oE:TypeId:=250
abbrev fE:TypeId:=251
abbrev lT:TypeId:=262
abbrev cP:TypeId:=268
abbrev eV:TypeId:=278
abbrev dN:TypeId:=280
abbrev gK:TypeId:=284
abbrev nE:TypeId:=304
abbrev cH:TypeId:=310
abbrev gZ:TypeId:=313
abbrev fB:TypeId:=321
abbrev aCk:TypeId:=325
def aR.und:PG.underlying aR=some (TypeDesc.int IntKind.i64):=Tryz.underlying3
def aR.info:PG.info? aR=some Tryz.t3:=by kernel_rfl
def aR.size:Tryz.t3.size=1:=rfl
def aR.bytes:Tryz.t3.bytes=8:=rfl
def aR.zero:Tryz.t3.zero=some (Value.int IntKind.i64 0):=rfl
def aR.zc:dF PG aR=((Value.int IntKind.i64 0)).cells:=by kernel_rfl
def aR.load{h:PH}{a:Addr}:cD PG h (loadAt aR (.pointer (some a)))=cX h a:=jF aR.und rfl
abbrev aGV(t:TypeId)(n:Nat):Prop:=∀{h:PH} {r o:Nat} {cs vs:List Value} {k:cF} (H:Bx h r cs) (hl:vs.length=n) (ho:o+n≤cs.length) (hv:∀v∈vs,fI v=true) (hk:∀h',Bx h' r (cs.take o++vs++cs.drop (o+n))->cT [r] h h'->k undef h'),cM PG (cQ t (pT r o) (.agg vs.toArray)) h k
def aHn{t:TypeId}{n:Nat}{i:TypeInfo}(hi:PG.info? t=some i)(hn:i.size=n)(h0:0<n):aGV t n:=by
 intro h r o cs vs k H hl ho hv hk;exact H.putN hi (by rw[hl];exact hn) (by omega) (by omega) hv (by rw[hl];exact hk)
abbrev aCm(t:TypeId)(n:Nat):Prop:=∀{h:PH} {r:Nat} {vs:List Value} {k:cF} (hr:h r=none) (hl:vs.length=n) (hv:∀v∈vs,fI v=true) (hk:∀h',Bx h' r vs->cZ h h'->k undef h'),cM PG (cQ t (pT r 0) (.agg vs.toArray)) (h.set r (.cells (dF PG t) t)) k
def aDo{t:TypeId}{n:Nat}{i:TypeInfo}(hi:PG.info? t=some i)(hn:i.size=n)(h0:0<n)(hz:(dF PG t).size=n):aCm t n:=by
 intro h r vs k hr hl hv hk;exact Bx.fill hr hi (by rw[hl];exact hn) (by omega) (by rw[hz,hl]) hv hk
abbrev aFE(t:TypeId)(n:Nat):Prop:=∀{h:PH} {r o:Nat} {cs:List Value} (H:Bx h r cs) (hle:o+n≤cs.length),cD PG h (loadAt t (pT r o))=some (.agg ((cs.drop o).take n).toArray)
abbrev aOM(t:TypeId)(n:Nat):Prop:=∀{h:PH} {b o:Nat} {c:Array Value} {e:TypeId} {fr:Nat×Nat} (hb:h b=some (.cells c e fr)) (hle:o+n≤c.size),cD PG h (loadAt t (pT b o))=some (.agg (c.extract o (o+n)))
abbrev aEd(t:TypeId):Prop:=∀{h:PH} {r o:Nat} {cs:List Value} {v:Value} {k:cF} (H:Bx h r cs) (ho:o<cs.length) (hv:fI v=true) (hk:∀h',Bx h' r (cs.set o v)->cT [r] h h'->k undef h'),cM PG (cQ t (pT r o) v) h k
def aR.put:aEd aR:=λH a b c=>H.put1 aR.und rfl aR.info aR.size a b c
def aR.fill{h:PH}{r:Nat}{v:Value}{k:cF}(hr:h r=none)(hv:fI v=true)(hk:∀h',Bx h' r [v]->cZ h h'->k undef h'):cM PG (cQ aR (pT r 0) v) (h.set r (.cells (dF PG aR) aR)) k:=Bx.fill1 hr aR.und rfl aR.info aR.size (by rw[aR.zc];rfl) hv hk
def iU.und:PG.underlying iU=some TypeDesc.bool:=Tryz.underlying4
def iU.info:PG.info? iU=some Tryz.t4:=by kernel_rfl
def iU.size:Tryz.t4.size=1:=rfl
def iU.load{h:PH}{a:Addr}:cD PG h (loadAt iU (.pointer (some a)))=cX h a:=jF iU.und rfl
def iU.put:aEd iU:=λH a b c=>H.put1 iU.und rfl iU.info iU.size a b c
def dK.und:PG.underlying dK=some (TypeDesc.int IntKind.u8):=Tryz.underlying5
def dK.info:PG.info? dK=some Tryz.t5:=by kernel_rfl
def dK.size:Tryz.t5.size=1:=rfl
def dK.bytes:Tryz.t5.bytes=1:=rfl
def dK.zero:Tryz.t5.zero=some (Value.int IntKind.u8 0):=rfl
def dK.put:aEd dK:=λH a b c=>H.put1 dK.und rfl dK.info dK.size a b c
def aT.und:PG.underlying aT=some TypeDesc.string:=Tryz.underlying9
def aT.info:PG.info? aT=some Tryz.t9:=by kernel_rfl
def aT.size:Tryz.t9.size=1:=rfl
def aT.bytes:Tryz.t9.bytes=16:=rfl
def aT.zero:Tryz.t9.zero=some (Value.string {data:=#[]}):=rfl
def aT.load{h:PH}{a:Addr}:cD PG h (loadAt aT (.pointer (some a)))=cX h a:=jF aT.und rfl
def aT.put:aEd aT:=λH a b c=>H.put1 aT.und rfl aT.info aT.size a b c
def aT.len{s:ByteArray}{t:TypeId}:cC PG (Builtin.len_ #[aT] t #[.string s])=some (.int .i64 s.size):=tR aT.und
def cI.und:PG.underlying cI=some (TypeDesc.int IntKind.u64):=Tryz.underlying22
def cI.info:PG.info? cI=some Tryz.t22:=by kernel_rfl
def cI.size:Tryz.t22.size=1:=rfl
def cI.load{h:PH}{a:Addr}:cD PG h (loadAt cI (.pointer (some a)))=cX h a:=jF cI.und rfl
def cI.put:aEd cI:=λH a b c=>H.put1 cI.und rfl cI.info cI.size a b c
def cG.und:PG.underlying cG=some (TypeDesc.struct #[{name:="Height",type:=22,offset:=0,embedded:=false,tag:="",pkgPath:="",byteOffset:=0},{name:="Index",type:=3,offset:=1,embedded:=false,tag:="",pkgPath:="",byteOffset:=8}]):=Tryz.underlying24
def cG.info:PG.info? cG=some Tryz.t24:=by kernel_rfl
def cG.size:Tryz.t24.size=2:=rfl
def cG.zbox{h:PH}{r:Nat}:Bx (h.set r (.cells (dF PG cG) cG)) r ((Value.agg #[Value.int IntKind.u64 0,Value.int IntKind.i64 0])).cells.toList:=Bx.zero (by kernel_rfl)
def cG.zc:dF PG cG=((Value.agg #[Value.int IntKind.u64 0,Value.int IntKind.i64 0])).cells:=by kernel_rfl
def cG.loadAgg:aOM cG 2:=zL cG.und rfl cG.info cG.size
def cG.agg:aFE cG 2:=λH=>H.agg cG.und rfl cG.info cG.size
def cG.put:aGV cG 2:=aHn cG.info rfl (by decide)
def cG.fill:aCm cG 2:=aDo cG.info rfl (by decide) (by rw[cG.zc];rfl)
abbrev fAz(t:TypeId)(i:Nat):Prop:=∀{b o:Nat},cC PG (fieldAt t (pT b o) i)=some (pT b o)
def cG.f0:fAz cG 0:=by intro _ _;kernel_rfl
abbrev lR(t:TypeId)(i n:Nat):Prop:=∀{b o:Nat},cC PG (fieldAt t (pT b o) i)=some (pT b (o+n))
def cG.f1:lR cG 1 1:=by intro _ _;kernel_rfl
def cR.und:PG.underlying cR=some (TypeDesc.array 2 24):=Tryz.underlying25
def cR.info:PG.info? cR=some Tryz.t25:=by kernel_rfl
def cR.size:Tryz.t25.size=4:=rfl
def cR.agg:aFE cR 4:=λH=>H.agg cR.und rfl cR.info cR.size
def gA.und:PG.underlying gA=some (TypeDesc.slice 48):=Tryz.underlying26
def oO.und:PG.underlying oO=some (TypeDesc.pointer 37):=Tryz.underlying29
def fL.und:PG.underlying fL=some (TypeDesc.pointer 119):=Tryz.underlying31
def fL.load{h:PH}{a:Addr}:cD PG h (loadAt fL (.pointer (some a)))=cX h a:=jF fL.und rfl
def dX.und:PG.underlying dX=some (TypeDesc.pointer 77):=Tryz.underlying32
def dX.info:PG.info? dX=some Tryz.t32:=by kernel_rfl
def dX.size:Tryz.t32.size=1:=rfl
def dX.load{h:PH}{a:Addr}:cD PG h (loadAt dX (.pointer (some a)))=cX h a:=jF dX.und rfl
def dX.put:aEd dX:=λH a b c=>H.put1 dX.und rfl dX.info dX.size a b c
def dH.und:PG.underlying dH=some (TypeDesc.int IntKind.i64):=Tryz.underlying33
def dH.info:PG.info? dH=some Tryz.t33:=by kernel_rfl
def dH.size:Tryz.t33.size=1:=rfl
def dH.zbox{h:PH}{r:Nat}:Bx (h.set r (.cells (dF PG dH) dH)) r ((Value.int IntKind.i64 0)).cells.toList:=Bx.zero (by kernel_rfl)
def dH.load{h:PH}{a:Addr}:cD PG h (loadAt dH (.pointer (some a)))=cX h a:=jF dH.und rfl
def dH.put:aEd dH:=λH a b c=>H.put1 dH.und rfl dH.info dH.size a b c
def fW.und:PG.underlying fW=some (TypeDesc.pointer 66):=Tryz.underlying34
def fW.load{h:PH}{a:Addr}:cD PG h (loadAt fW (.pointer (some a)))=cX h a:=jF fW.und rfl
def fM.und:PG.underlying fM=some (TypeDesc.pointer 69):=Tryz.underlying35
def fM.info:PG.info? fM=some Tryz.t35:=by kernel_rfl
def fM.size:Tryz.t35.size=1:=rfl
def fM.load{h:PH}{a:Addr}:cD PG h (loadAt fM (.pointer (some a)))=cX h a:=jF fM.und rfl
def fM.put:aEd fM:=λH a b c=>H.put1 fM.und rfl fM.info fM.size a b c
def cS.f0:fAz cS 0:=by intro _ _;kernel_rfl
def cS.f1:lR cS 1 1:=by intro _ _;kernel_rfl
def cS.f2:lR cS 2 2:=by intro _ _;kernel_rfl
def cS.f3:lR cS 3 3:=by intro _ _;kernel_rfl
def cS.f4:lR cS 4 4:=by intro _ _;kernel_rfl
def cS.f5:lR cS 5 5:=by intro _ _;kernel_rfl
def cS.f6:lR cS 6 6:=by intro _ _;kernel_rfl
def bZ.und:PG.underlying bZ=some (TypeDesc.slice 83):=Tryz.underlying38
def bZ.info:PG.info? bZ=some Tryz.t38:=by kernel_rfl
def bZ.size:Tryz.t38.size=1:=rfl
def bZ.load{h:PH}{a:Addr}:cD PG h (loadAt bZ (.pointer (some a)))=cX h a:=jF bZ.und rfl
def bZ.put:aEd bZ:=λH a b c=>H.put1 bZ.und rfl bZ.info bZ.size a b c
def bR.und:PG.underlying bR=some (TypeDesc.struct #[{name:="Places",type:=25,offset:=0,embedded:=false,tag:="",pkgPath:="",byteOffset:=0},{name:="Items",type:=38,offset:=4,embedded:=false,tag:="",pkgPath:="",byteOffset:=32}]):=Tryz.underlying40
def bR.info:PG.info? bR=some Tryz.t40:=by kernel_rfl
def bR.size:Tryz.t40.size=5:=rfl
def bR.zbox{h:PH}{r:Nat}:Bx (h.set r (.cells (dF PG bR) bR)) r ((Value.agg #[Value.int IntKind.u64 0,Value.int IntKind.i64 0,Value.int IntKind.u64 0,Value.int IntKind.i64 0,Value.slice none 0 0])).cells.toList:=Bx.zero (by kernel_rfl)
def bR.zc:dF PG bR=((Value.agg #[Value.int IntKind.u64 0,Value.int IntKind.i64 0,Value.int IntKind.u64 0,Value.int IntKind.i64 0,Value.slice none 0 0])).cells:=by kernel_rfl
def bR.agg:aFE bR 5:=λH=>H.agg bR.und rfl bR.info bR.size
def bR.put:aGV bR 5:=aHn bR.info rfl (by decide)
def bR.fill:aCm bR 5:=aDo bR.info rfl (by decide) (by rw[bR.zc];rfl)
def bR.f0:fAz bR 0:=by intro _ _;kernel_rfl
def bR.f1:lR bR 1 4:=by intro _ _;kernel_rfl
def cY.und:PG.underlying cY=some (TypeDesc.slice 81):=Tryz.underlying45
def cY.info:PG.info? cY=some Tryz.t45:=by kernel_rfl
def cY.size:Tryz.t45.size=1:=rfl
def cY.load{h:PH}{a:Addr}:cD PG h (loadAt cY (.pointer (some a)))=cX h a:=jF cY.und rfl
def cY.put:aEd cY:=λH a b c=>H.put1 cY.und rfl cY.info cY.size a b c
def jG.und:PG.underlying jG=some (TypeDesc.slice 58):=Tryz.underlying46
def jG.load{h:PH}{a:Addr}:cD PG h (loadAt jG (.pointer (some a)))=cX h a:=jF jG.und rfl
def dR.und:PG.underlying dR=some (TypeDesc.struct #[{name:="Kind",type:=3,offset:=0,embedded:=false,tag:="",pkgPath:="",byteOffset:=0},{name:="N",type:=3,offset:=1,embedded:=false,tag:="",pkgPath:="",byteOffset:=8},{name:="Chain",type:=3,offset:=2,embedded:=false,tag:="",pkgPath:="",byteOffset:=16},{name:="At",type:=24,offset:=3,embedded:=false,tag:="",pkgPath:="",byteOffset:=24},{name:="L",type:=45,offset:=5,embedded:=false,tag:="",pkgPath:="",byteOffset:=40},{name:="W",type:=46,offset:=6,embedded:=false,tag:="",pkgPath:="",byteOffset:=64}]):=Tryz.underlying48
def dR.info:PG.info? dR=some Tryz.t48:=by kernel_rfl
def dR.size:Tryz.t48.size=7:=rfl
def dR.f0:fAz dR 0:=by intro _ _;kernel_rfl
def dR.f1:lR dR 1 1:=by intro _ _;kernel_rfl
def dR.f2:lR dR 2 2:=by intro _ _;kernel_rfl
def dR.f3:lR dR 3 3:=by intro _ _;kernel_rfl
def dR.f4:lR dR 4 5:=by intro _ _;kernel_rfl
def dR.f5:lR dR 5 6:=by intro _ _;kernel_rfl
def bW.und:PG.underlying bW=some (TypeDesc.struct #[{name:="Kind",type:=3,offset:=0,embedded:=false,tag:="",pkgPath:="",byteOffset:=0},{name:="State",type:=40,offset:=1,embedded:=false,tag:="",pkgPath:="",byteOffset:=8},{name:="Chain",type:=3,offset:=6,embedded:=false,tag:="",pkgPath:="",byteOffset:=64},{name:="Place",type:=24,offset:=7,embedded:=false,tag:="",pkgPath:="",byteOffset:=72},{name:="Notes",type:=45,offset:=9,embedded:=false,tag:="",pkgPath:="",byteOffset:=88}]):=Tryz.underlying52
def bW.info:PG.info? bW=some Tryz.t52:=by kernel_rfl
def bW.size:Tryz.t52.size=10:=rfl
def bW.zbox{h:PH}{r:Nat}:Bx (h.set r (.cells (dF PG bW) bW)) r ((Value.agg #[Value.int IntKind.i64 0,Value.int IntKind.u64 0,Value.int IntKind.i64 0,Value.int IntKind.u64 0,Value.int IntKind.i64 0,Value.slice none 0 0,Value.int IntKind.i64 0,Value.int IntKind.u64 0,Value.int IntKind.i64 0,Value.slice none 0 0])).cells.toList:=Bx.zero (by kernel_rfl)
def bW.zc:dF PG bW=((Value.agg #[Value.int IntKind.i64 0,Value.int IntKind.u64 0,Value.int IntKind.i64 0,Value.int IntKind.u64 0,Value.int IntKind.i64 0,Value.slice none 0 0,Value.int IntKind.i64 0,Value.int IntKind.u64 0,Value.int IntKind.i64 0,Value.slice none 0 0])).cells:=by kernel_rfl
def bW.agg:aFE bW 10:=λH=>H.agg bW.und rfl bW.info bW.size
def bW.put:aGV bW 10:=aHn bW.info rfl (by decide)
def bW.fill:aCm bW 10:=aDo bW.info rfl (by decide) (by rw[bW.zc];rfl)
def bW.f0:fAz bW 0:=by intro _ _;kernel_rfl
def bW.f1:lR bW 1 1:=by intro _ _;kernel_rfl
def bW.f2:lR bW 2 6:=by intro _ _;kernel_rfl
def bW.f3:lR bW 3 7:=by intro _ _;kernel_rfl
def bW.f4:lR bW 4 9:=by intro _ _;kernel_rfl
def rP.und:PG.underlying rP=some (TypeDesc.struct #[{name:="Lasts",type:=4,offset:=0,embedded:=false,tag:="",pkgPath:="",byteOffset:=0},{name:="Torn",type:=3,offset:=1,embedded:=false,tag:="",pkgPath:="",byteOffset:=8}]):=Tryz.underlying58
def dI.und:PG.underlying dI=some (TypeDesc.slice 185):=Tryz.underlying64
def dI.info:PG.info? dI=some Tryz.t64:=by kernel_rfl
def dI.size:Tryz.t64.size=1:=rfl
def dI.load{h:PH}{a:Addr}:cD PG h (loadAt dI (.pointer (some a)))=cX h a:=jF dI.und rfl
def dI.put:aEd dI:=λH a b c=>H.put1 dI.und rfl dI.info dI.size a b c
def dC.f0:fAz dC 0:=by intro _ _;kernel_rfl
def dC.f1:lR dC 1 1:=by intro _ _;kernel_rfl
def dC.f2:lR dC 2 2:=by intro _ _;kernel_rfl
def dC.f3:lR dC 3 3:=by intro _ _;kernel_rfl
def dC.f4:lR dC 4 4:=by intro _ _;kernel_rfl
def cA.und:PG.underlying cA=some (TypeDesc.struct #[{name:="Gen",type:=22,offset:=0,embedded:=false,tag:="",pkgPath:="",byteOffset:=0},{name:="Segment",type:=3,offset:=1,embedded:=false,tag:="",pkgPath:="",byteOffset:=8}]):=Tryz.underlying71
def cA.info:PG.info? cA=some Tryz.t71:=by kernel_rfl
def cA.size:Tryz.t71.size=2:=rfl
def cA.zbox{h:PH}{r:Nat}:Bx (h.set r (.cells (dF PG cA) cA)) r ((Value.agg #[Value.int IntKind.u64 0,Value.int IntKind.i64 0])).cells.toList:=Bx.zero (by kernel_rfl)
def cA.zc:dF PG cA=((Value.agg #[Value.int IntKind.u64 0,Value.int IntKind.i64 0])).cells:=by kernel_rfl
def cA.agg:aFE cA 2:=λH=>H.agg cA.und rfl cA.info cA.size
def cA.put:aGV cA 2:=aHn cA.info rfl (by decide)
def cA.fill:aCm cA 2:=aDo cA.info rfl (by decide) (by rw[cA.zc];rfl)
def cA.f0:fAz cA 0:=by intro _ _;kernel_rfl
def cA.f1:lR cA 1 1:=by intro _ _;kernel_rfl
def dA.f0:fAz dA 0:=by intro _ _;kernel_rfl
def dA.f1:lR dA 1 1:=by intro _ _;kernel_rfl
def dA.f2:lR dA 2 3:=by intro _ _;kernel_rfl
def dA.f3:lR dA 3 4:=by intro _ _;kernel_rfl
def dA.f4:lR dA 4 5:=by intro _ _;kernel_rfl
def dA.f5:lR dA 5 6:=by intro _ _;kernel_rfl
def dA.f6:lR dA 6 7:=by intro _ _;kernel_rfl
def eH.und:PG.underlying eH=some (TypeDesc.pointer 127):=Tryz.underlying75
def eH.load{h:PH}{a:Addr}:cD PG h (loadAt eH (.pointer (some a)))=cX h a:=jF eH.und rfl
def fP.f0:fAz fP 0:=by intro _ _;kernel_rfl
def fP.f1:lR fP 1 1:=by intro _ _;kernel_rfl
def fP.f2:lR fP 2 2:=by intro _ _;kernel_rfl
def bX.und:PG.underlying bX=some (TypeDesc.struct #[{name:="From",type:=3,offset:=0,embedded:=false,tag:="",pkgPath:="",byteOffset:=0},{name:="Seq",type:=22,offset:=1,embedded:=false,tag:="",pkgPath:="",byteOffset:=8},{name:="Timeout",type:=22,offset:=2,embedded:=false,tag:="",pkgPath:="",byteOffset:=16},{name:="Data",type:=9,offset:=3,embedded:=false,tag:="",pkgPath:="",byteOffset:=24}]):=Tryz.underlying79
def bX.info:PG.info? bX=some Tryz.t79:=by kernel_rfl
def bX.size:Tryz.t79.size=4:=rfl
def bX.bytes:Tryz.t79.bytes=40:=rfl
def bX.zero:Tryz.t79.zero=some (Value.agg #[Value.int IntKind.i64 0,Value.int IntKind.u64 0,Value.int IntKind.u64 0,Value.string {data:=#[]}]):=rfl
def bX.zbox{h:PH}{r:Nat}:Bx (h.set r (.cells (dF PG bX) bX)) r ((Value.agg #[Value.int IntKind.i64 0,Value.int IntKind.u64 0,Value.int IntKind.u64 0,Value.string {data:=#[]}])).cells.toList:=Bx.zero (by kernel_rfl)
def bX.zc:dF PG bX=((Value.agg #[Value.int IntKind.i64 0,Value.int IntKind.u64 0,Value.int IntKind.u64 0,Value.string {data:=#[]}])).cells:=by kernel_rfl
def bX.loadAgg:aOM bX 4:=zL bX.und rfl bX.info bX.size
def bX.agg:aFE bX 4:=λH=>H.agg bX.und rfl bX.info bX.size
def bX.put:aGV bX 4:=aHn bX.info rfl (by decide)
def bX.fill:aCm bX 4:=aDo bX.info rfl (by decide) (by rw[bX.zc];rfl)
def bX.f0:fAz bX 0:=by intro _ _;kernel_rfl
def bX.f1:lR bX 1 1:=by intro _ _;kernel_rfl
def bX.f2:lR bX 2 2:=by intro _ _;kernel_rfl
def bX.f3:lR bX 3 3:=by intro _ _;kernel_rfl
def cK.und:PG.underlying cK=some (TypeDesc.struct #[{name:="Kind",type:=3,offset:=0,embedded:=false,tag:="",pkgPath:="",byteOffset:=0},{name:="Packet",type:=79,offset:=1,embedded:=false,tag:="",pkgPath:="",byteOffset:=8}]):=Tryz.underlying81
def cK.info:PG.info? cK=some Tryz.t81:=by kernel_rfl
def cK.size:Tryz.t81.size=5:=rfl
def cK.bytes:Tryz.t81.bytes=48:=rfl
def cK.zero:Tryz.t81.zero=some (Value.agg #[Value.int IntKind.i64 0,Value.int IntKind.i64 0,Value.int IntKind.u64 0,Value.int IntKind.u64 0,Value.string {data:=#[]}]):=rfl
def cK.zbox{h:PH}{r:Nat}:Bx (h.set r (.cells (dF PG cK) cK)) r ((Value.agg #[Value.int IntKind.i64 0,Value.int IntKind.i64 0,Value.int IntKind.u64 0,Value.int IntKind.u64 0,Value.string {data:=#[]}])).cells.toList:=Bx.zero (by kernel_rfl)
def cK.zc:dF PG cK=((Value.agg #[Value.int IntKind.i64 0,Value.int IntKind.i64 0,Value.int IntKind.u64 0,Value.int IntKind.u64 0,Value.string {data:=#[]}])).cells:=by kernel_rfl
def cK.loadAgg:aOM cK 5:=zL cK.und rfl cK.info cK.size
def cK.agg:aFE cK 5:=λH=>H.agg cK.und rfl cK.info cK.size
def cK.put:aGV cK 5:=aHn cK.info rfl (by decide)
def cK.fill:aCm cK 5:=aDo cK.info rfl (by decide) (by rw[cK.zc];rfl)
def cK.f0:fAz cK 0:=by intro _ _;kernel_rfl
def cK.f1:lR cK 1 1:=by intro _ _;kernel_rfl
def cE.und:PG.underlying cE=some (TypeDesc.struct #[{name:="Packet",type:=79,offset:=0,embedded:=false,tag:="",pkgPath:="",byteOffset:=0},{name:="Stage",type:=3,offset:=4,embedded:=false,tag:="",pkgPath:="",byteOffset:=40}]):=Tryz.underlying83
def cE.info:PG.info? cE=some Tryz.t83:=by kernel_rfl
def cE.size:Tryz.t83.size=5:=rfl
def cE.bytes:Tryz.t83.bytes=48:=rfl
def cE.zero:Tryz.t83.zero=some (Value.agg #[Value.int IntKind.i64 0,Value.int IntKind.u64 0,Value.int IntKind.u64 0,Value.string {data:=#[]},Value.int IntKind.i64 0]):=rfl
def cE.zbox{h:PH}{r:Nat}:Bx (h.set r (.cells (dF PG cE) cE)) r ((Value.agg #[Value.int IntKind.i64 0,Value.int IntKind.u64 0,Value.int IntKind.u64 0,Value.string {data:=#[]},Value.int IntKind.i64 0])).cells.toList:=Bx.zero (by kernel_rfl)
def cE.zc:dF PG cE=((Value.agg #[Value.int IntKind.i64 0,Value.int IntKind.u64 0,Value.int IntKind.u64 0,Value.string {data:=#[]},Value.int IntKind.i64 0])).cells:=by kernel_rfl
def cE.loadAgg:aOM cE 5:=zL cE.und rfl cE.info cE.size
def cE.agg:aFE cE 5:=λH=>H.agg cE.und rfl cE.info cE.size
def cE.put:aGV cE 5:=aHn cE.info rfl (by decide)
def cE.fill:aCm cE 5:=aDo cE.info rfl (by decide) (by rw[cE.zc];rfl)
def cE.f0:fAz cE 0:=by intro _ _;kernel_rfl
def cE.f1:lR cE 1 4:=by intro _ _;kernel_rfl
def cU.und:PG.underlying cU=some (TypeDesc.slice 9):=Tryz.underlying90
def cU.info:PG.info? cU=some Tryz.t90:=by kernel_rfl
def cU.size:Tryz.t90.size=1:=rfl
def cU.zbox{h:PH}{r:Nat}:Bx (h.set r (.cells (dF PG cU) cU)) r ((Value.slice none 0 0)).cells.toList:=Bx.zero (by kernel_rfl)
def cU.load{h:PH}{a:Addr}:cD PG h (loadAt cU (.pointer (some a)))=cX h a:=jF cU.und rfl
def cU.put:aEd cU:=λH a b c=>H.put1 cU.und rfl cU.info cU.size a b c
def dD.f0:fAz dD 0:=by intro _ _;kernel_rfl
def dD.f1:lR dD 1 1:=by intro _ _;kernel_rfl
def eZ.und:PG.underlying eZ=some (TypeDesc.slice 121):=Tryz.underlying115
def eZ.info:PG.info? eZ=some Tryz.t115:=by kernel_rfl
def eZ.size:Tryz.t115.size=1:=rfl
def eZ.load{h:PH}{a:Addr}:cD PG h (loadAt eZ (.pointer (some a)))=cX h a:=jF eZ.und rfl
def eZ.put:aEd eZ:=λH a b c=>H.put1 eZ.und rfl eZ.info eZ.size a b c
def eA.und:PG.underlying eA=some (TypeDesc.struct #[{name:="size",type:=3,offset:=0,embedded:=false,tag:="",pkgPath:="carrack/disk",byteOffset:=0},{name:="sectors",type:=3,offset:=1,embedded:=false,tag:="",pkgPath:="carrack/disk",byteOffset:=8}]):=Tryz.underlying117
def eA.info:PG.info? eA=some Tryz.t117:=by kernel_rfl
def eA.size:Tryz.t117.size=2:=rfl
def eA.agg:aFE eA 2:=λH=>H.agg eA.und rfl eA.info eA.size
def eA.f0:fAz eA 0:=by intro _ _;kernel_rfl
def eA.f1:lR eA 1 1:=by intro _ _;kernel_rfl
def eB.f0:fAz eB 0:=by intro _ _;kernel_rfl
def eB.f1:lR eB 1 2:=by intro _ _;kernel_rfl
def eB.f2:lR eB 2 3:=by intro _ _;kernel_rfl
def eB.f3:lR eB 3 4:=by intro _ _;kernel_rfl
def eR.und:PG.underlying eR=some (TypeDesc.struct #[{name:="sector",type:=3,offset:=0,embedded:=false,tag:="",pkgPath:="carrack/disk",byteOffset:=0},{name:="s",type:=9,offset:=1,embedded:=false,tag:="",pkgPath:="carrack/disk",byteOffset:=8}]):=Tryz.underlying121
def eR.info:PG.info? eR=some Tryz.t121:=by kernel_rfl
def eR.size:Tryz.t121.size=2:=rfl
def eR.bytes:Tryz.t121.bytes=24:=rfl
def eR.zero:Tryz.t121.zero=some (Value.agg #[Value.int IntKind.i64 0,Value.string {data:=#[]}]):=rfl
def eR.zc:dF PG eR=((Value.agg #[Value.int IntKind.i64 0,Value.string {data:=#[]}])).cells:=by kernel_rfl
def eR.fill:aCm eR 2:=aDo eR.info rfl (by decide) (by rw[eR.zc];rfl)
def eR.f0:fAz eR 0:=by intro _ _;kernel_rfl
def eR.f1:lR eR 1 1:=by intro _ _;kernel_rfl
def cL.und:PG.underlying cL=some (TypeDesc.struct #[{name:="Gen",type:=22,offset:=0,embedded:=false,tag:="",pkgPath:="",byteOffset:=0},{name:="Segment",type:=3,offset:=1,embedded:=false,tag:="",pkgPath:="",byteOffset:=8}]):=Tryz.underlying123
def cL.info:PG.info? cL=some Tryz.t123:=by kernel_rfl
def cL.size:Tryz.t123.size=2:=rfl
def cL.zbox{h:PH}{r:Nat}:Bx (h.set r (.cells (dF PG cL) cL)) r ((Value.agg #[Value.int IntKind.u64 0,Value.int IntKind.i64 0])).cells.toList:=Bx.zero (by kernel_rfl)
def cL.zc:dF PG cL=((Value.agg #[Value.int IntKind.u64 0,Value.int IntKind.i64 0])).cells:=by kernel_rfl
def cL.agg:aFE cL 2:=λH=>H.agg cL.und rfl cL.info cL.size
def cL.put:aGV cL 2:=aHn cL.info rfl (by decide)
def cL.fill:aCm cL 2:=aDo cL.info rfl (by decide) (by rw[cL.zc];rfl)
def cL.f0:fAz cL 0:=by intro _ _;kernel_rfl
def cL.f1:lR cL 1 1:=by intro _ _;kernel_rfl
def dW.und:PG.underlying dW=some (TypeDesc.struct #[{name:="Disk",type:=31,offset:=0,embedded:=true,tag:="",pkgPath:="",byteOffset:=0}]):=Tryz.underlying125
def dW.info:PG.info? dW=some Tryz.t125:=by kernel_rfl
def dW.size:Tryz.t125.size=1:=rfl
def dW.agg:aFE dW 1:=λH=>H.agg dW.und rfl dW.info dW.size
def dW.f0:fAz dW 0:=by intro _ _;kernel_rfl
def dO.f0:fAz dO 0:=by intro _ _;kernel_rfl
def dO.f1:lR dO 1 1:=by intro _ _;kernel_rfl
def dO.f2:lR dO 2 3:=by intro _ _;kernel_rfl
def dO.f3:lR dO 3 4:=by intro _ _;kernel_rfl
def dO.f4:lR dO 4 5:=by intro _ _;kernel_rfl
def dO.f5:lR dO 5 6:=by intro _ _;kernel_rfl
def dO.f6:lR dO 6 7:=by intro _ _;kernel_rfl
def cW.und:PG.underlying cW=some (TypeDesc.slice 5):=Tryz.underlying129
def cW.info:PG.info? cW=some Tryz.t129:=by kernel_rfl
def cW.size:Tryz.t129.size=1:=rfl
def cW.load{h:PH}{a:Addr}:cD PG h (loadAt cW (.pointer (some a)))=cX h a:=jF cW.und rfl
def cW.len{a:Option Addr}{n c:Nat}{t:TypeId}:cC PG (Builtin.len_ #[cW] t #[.slice a n c])=some (.int .i64 n):=aNL cW.und
def xD.und:PG.underlying xD=some (TypeDesc.slice 24):=Tryz.underlying138
def mQ.f0:fAz mQ 0:=by intro _ _;kernel_rfl
def dM.und:PG.underlying dM=some (TypeDesc.pointer 176):=Tryz.underlying174
def dM.info:PG.info? dM=some Tryz.t174:=by kernel_rfl
def dM.size:Tryz.t174.size=1:=rfl
def dM.load{h:PH}{a:Addr}:cD PG h (loadAt dM (.pointer (some a)))=cX h a:=jF dM.und rfl
def cV.info:PG.info? cV=some Tryz.t176:=by kernel_rfl
def cV.size:Tryz.t176.size=2:=rfl
def cV.zc:dF PG cV=((Value.agg #[Value.pointer none,Value.slice none 0 0])).cells:=by kernel_rfl
def cV.f0:fAz cV 0:=by intro _ _;kernel_rfl
def cV.f1:lR cV 1 1:=by intro _ _;kernel_rfl
def eO.zc:dF PG eO=((Value.agg #[Value.int IntKind.i64 0,Value.pointer none,Value.slice none 0 0])).cells:=by kernel_rfl
def eO.f0:fAz eO 0:=by intro _ _;kernel_rfl
def eO.f1:lR eO 1 1:=by intro _ _;kernel_rfl
def dV.info:PG.info? dV=some Tryz.t185:=by kernel_rfl
def dV.size:Tryz.t185.size=2:=rfl
def dV.bytes:Tryz.t185.bytes=24:=rfl
def dV.zero:Tryz.t185.zero=some (Value.agg #[Value.int IntKind.i64 0,Value.string {data:=#[]}]):=rfl
def dV.f0:fAz dV 0:=by intro _ _;kernel_rfl
def dV.f1:lR dV 1 1:=by intro _ _;kernel_rfl
def fJ.und:PG.underlying fJ=some (TypeDesc.struct #[{name:="from",type:=3,offset:=0,embedded:=false,tag:="",pkgPath:="carrack/table",byteOffset:=0},{name:="seq",type:=22,offset:=1,embedded:=false,tag:="",pkgPath:="carrack/table",byteOffset:=8}]):=Tryz.underlying210
def fJ.info:PG.info? fJ=some Tryz.t210:=by kernel_rfl
def fJ.size:Tryz.t210.size=2:=rfl
def fJ.zc:dF PG fJ=((Value.agg #[Value.int IntKind.i64 0,Value.int IntKind.u64 0])).cells:=by kernel_rfl
def fJ.loadAgg:aOM fJ 2:=zL fJ.und rfl fJ.info fJ.size
def dL.und:PG.underlying dL=some (TypeDesc.map 210 83):=Tryz.underlying212
def dL.load{h:PH}{a:Addr}:cD PG h (loadAt dL (.pointer (some a)))=cX h a:=jF dL.und rfl
def gG.f0:fAz gG 0:=by intro _ _;kernel_rfl
def gG.f1:lR gG 1 1:=by intro _ _;kernel_rfl
def eM.f0:fAz eM 0:=by intro _ _;kernel_rfl
def eM.f1:lR eM 1 1:=by intro _ _;kernel_rfl
def fE.und:PG.underlying fE=some (TypeDesc.int IntKind.u32):=Tryz.underlying251
def fE.info:PG.info? fE=some Tryz.t251:=by kernel_rfl
def fE.size:Tryz.t251.size=1:=rfl
def fE.load{h:PH}{a:Addr}:cD PG h (loadAt fE (.pointer (some a)))=cX h a:=jF fE.und rfl
def fE.put:aEd fE:=λH a b c=>H.put1 fE.und rfl fE.info fE.size a b c
def lT.und:PG.underlying lT=some (TypeDesc.slice 3):=Tryz.underlying262
def cP.und:PG.underlying cP=some (TypeDesc.struct #[{name:="Gen",type:=22,offset:=0,embedded:=false,tag:="",pkgPath:="",byteOffset:=0},{name:="Serial",type:=22,offset:=1,embedded:=false,tag:="",pkgPath:="",byteOffset:=8},{name:="Part",type:=3,offset:=2,embedded:=false,tag:="",pkgPath:="",byteOffset:=16},{name:="Parts",type:=3,offset:=3,embedded:=false,tag:="",pkgPath:="",byteOffset:=24},{name:="Bytes",type:=9,offset:=4,embedded:=false,tag:="",pkgPath:="",byteOffset:=32}]):=Tryz.underlying268
def cP.info:PG.info? cP=some Tryz.t268:=by kernel_rfl
def cP.size:Tryz.t268.size=5:=rfl
def cP.zbox{h:PH}{r:Nat}:Bx (h.set r (.cells (dF PG cP) cP)) r ((Value.agg #[Value.int IntKind.u64 0,Value.int IntKind.u64 0,Value.int IntKind.i64 0,Value.int IntKind.i64 0,Value.string {data:=#[]}])).cells.toList:=Bx.zero (by kernel_rfl)
def cP.zc:dF PG cP=((Value.agg #[Value.int IntKind.u64 0,Value.int IntKind.u64 0,Value.int IntKind.i64 0,Value.int IntKind.i64 0,Value.string {data:=#[]}])).cells:=by kernel_rfl
def cP.agg:aFE cP 5:=λH=>H.agg cP.und rfl cP.info cP.size
def cP.put:aGV cP 5:=aHn cP.info rfl (by decide)
def cP.fill:aCm cP 5:=aDo cP.info rfl (by decide) (by rw[cP.zc];rfl)
def cP.f0:fAz cP 0:=by intro _ _;kernel_rfl
def cP.f1:lR cP 1 1:=by intro _ _;kernel_rfl
def cP.f2:lR cP 2 2:=by intro _ _;kernel_rfl
def cP.f3:lR cP 3 3:=by intro _ _;kernel_rfl
def cP.f4:lR cP 4 4:=by intro _ _;kernel_rfl
def eV.und:PG.underlying eV=some (TypeDesc.func #[134,210,79] #[33] false):=Tryz.underlying278
def eV.info:PG.info? eV=some Tryz.t278:=by kernel_rfl
def eV.size:Tryz.t278.size=1:=rfl
def eV.load{h:PH}{a:Addr}:cD PG h (loadAt eV (.pointer (some a)))=cX h a:=jF eV.und rfl
def dN.und:PG.underlying dN=some (TypeDesc.array 5 278):=Tryz.underlying280
def dN.info:PG.info? dN=some Tryz.t280:=by kernel_rfl
def dN.zc:dF PG dN=((Value.agg #[Value.nilFunc,Value.nilFunc,Value.nilFunc,Value.nilFunc,Value.nilFunc])).cells:=by kernel_rfl
def gK.und:PG.underlying gK=some TypeDesc.unsafePointer:=Tryz.underlying284
def nE.und:PG.underlying nE=some (TypeDesc.array 4 5):=Tryz.underlying304
def nE.zbox{h:PH}{r:Nat}:Bx (h.set r (.cells (dF PG nE) nE)) r ((Value.agg #[Value.int IntKind.u8 0,Value.int IntKind.u8 0,Value.int IntKind.u8 0,Value.int IntKind.u8 0])).cells.toList:=Bx.zero (by kernel_rfl)
def cH.und:PG.underlying cH=some (TypeDesc.struct #[{name:="Gen",type:=22,offset:=0,embedded:=false,tag:="",pkgPath:="",byteOffset:=0},{name:="Serial",type:=22,offset:=1,embedded:=false,tag:="",pkgPath:="",byteOffset:=8},{name:="Part",type:=3,offset:=2,embedded:=false,tag:="",pkgPath:="",byteOffset:=16},{name:="Parts",type:=3,offset:=3,embedded:=false,tag:="",pkgPath:="",byteOffset:=24},{name:="Bytes",type:=9,offset:=4,embedded:=false,tag:="",pkgPath:="",byteOffset:=32}]):=Tryz.underlying310
def cH.info:PG.info? cH=some Tryz.t310:=by kernel_rfl
def cH.size:Tryz.t310.size=5:=rfl
def cH.zbox{h:PH}{r:Nat}:Bx (h.set r (.cells (dF PG cH) cH)) r ((Value.agg #[Value.int IntKind.u64 0,Value.int IntKind.u64 0,Value.int IntKind.i64 0,Value.int IntKind.i64 0,Value.string {data:=#[]}])).cells.toList:=Bx.zero (by kernel_rfl)
def cH.zc:dF PG cH=((Value.agg #[Value.int IntKind.u64 0,Value.int IntKind.u64 0,Value.int IntKind.i64 0,Value.int IntKind.i64 0,Value.string {data:=#[]}])).cells:=by kernel_rfl
def cH.agg:aFE cH 5:=λH=>H.agg cH.und rfl cH.info cH.size
def cH.put:aGV cH 5:=aHn cH.info rfl (by decide)
def cH.fill:aCm cH 5:=aDo cH.info rfl (by decide) (by rw[cH.zc];rfl)
def cH.f0:fAz cH 0:=by intro _ _;kernel_rfl
def cH.f1:lR cH 1 1:=by intro _ _;kernel_rfl
def cH.f2:lR cH 2 2:=by intro _ _;kernel_rfl
def cH.f3:lR cH 3 3:=by intro _ _;kernel_rfl
def cH.f4:lR cH 4 4:=by intro _ _;kernel_rfl
def gZ.und:PG.underlying gZ=some (TypeDesc.slice 79):=Tryz.underlying313
def fB.und:PG.underlying fB=some (TypeDesc.array 256 251):=Tryz.underlying321
def fB.info:PG.info? fB=some Tryz.t321:=by kernel_rfl
def fB.size:Tryz.t321.size=256:=rfl
def fB.zbox{h:PH}{r:Nat}:Bx (h.set r (.cells (dF PG fB) fB)) r ((Value.agg (List.replicate 256 (Value.int IntKind.u32 0)).toArray)).cells.toList:=Bx.zero (by kernel_rfl)
def fB.zc:dF PG fB=((Value.agg (List.replicate 256 (Value.int IntKind.u32 0)).toArray)).cells:=by kernel_rfl
def fB.agg:aFE fB 256:=λH=>H.agg fB.und rfl fB.info fB.size
def fB.put:aGV fB 256:=aHn fB.info rfl (by decide)
def fB.fill:aCm fB 256:=aDo fB.info rfl (by decide) (by rw[fB.zc];rfl)
end Go.Proofs.YtiohehjhlghikaaGreatDoor
