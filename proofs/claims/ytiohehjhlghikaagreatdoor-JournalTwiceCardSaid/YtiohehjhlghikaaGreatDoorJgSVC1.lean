/- The texts of this claim, put together. -/
import Derived.Test.YtiohehjhlghikaaGreatDoorJgSVC0
import Derived.Test.YtiohehjhlghikaaGreatDoorChecked
import Derived.KernelRfl
set_option linter.all false
set_option maxRecDepth 100000
open Go.Instr (loadAt fieldAt indexAt extract buildSlice build)
namespace Go.Proofs.YtiohehjhlghikaaGreatDoor
open Go
noncomputable abbrev PG:Program:=Tryz.prog
def mix:PG.follows .mixedOrders=true:=by kernel_rfl
abbrev uK:FuncId:=4
abbrev aBb:FuncId:=7
abbrev aCT:FuncId:=8
abbrev xW:FuncId:=9
abbrev jR:FuncId:=10
abbrev wT:FuncId:=11
abbrev xS:FuncId:=12
abbrev nD:FuncId:=13
abbrev xO:FuncId:=14
abbrev qI:FuncId:=15
abbrev oR:FuncId:=16
abbrev tO:FuncId:=17
abbrev vI:FuncId:=18
abbrev aEa:FuncId:=19
abbrev aIy:FuncId:=24
abbrev aCX:FuncId:=25
abbrev xN:FuncId:=26
abbrev wJ:FuncId:=27
abbrev aI1:FuncId:=28
abbrev aEX:FuncId:=29
abbrev wS:FuncId:=30
abbrev aB0:FuncId:=31
abbrev sG:FuncId:=32
abbrev mH:FuncId:=33
abbrev pD:FuncId:=34
abbrev pF:FuncId:=35
abbrev aAO:FuncId:=36
abbrev aBR:FuncId:=37
abbrev aDb:FuncId:=38
abbrev aAT:FuncId:=39
abbrev aCw:FuncId:=40
abbrev aDl:FuncId:=41
abbrev aDk:FuncId:=42
abbrev pU:FuncId:=43
abbrev yK:FuncId:=44
abbrev wZ:FuncId:=45
abbrev xI:FuncId:=47
abbrev aB9:FuncId:=48
abbrev oM:FuncId:=49
abbrev oS:FuncId:=50
abbrev vZ:FuncId:=51
abbrev aGU:FuncId:=52
abbrev mG:FuncId:=53
abbrev tA:FuncId:=54
abbrev pO:FuncId:=55
abbrev xV:FuncId:=56
abbrev sX:FuncId:=57
abbrev aAH:FuncId:=58
abbrev aGM:FuncId:=59
abbrev kP:FuncId:=60
abbrev xH:FuncId:=61
abbrev aDx:FuncId:=62
abbrev uI:FuncId:=63
abbrev aHG:FuncId:=64
abbrev xL:FuncId:=65
abbrev qD:FuncId:=66
abbrev aE3:FuncId:=67
abbrev vM:FuncId:=68
abbrev aCq:FuncId:=69
abbrev aDU:FuncId:=70
abbrev aAA:FuncId:=71
abbrev uC:FuncId:=72
abbrev aIK:FuncId:=73
abbrev aDc:FuncId:=74
abbrev nE:FuncId:=75
abbrev rV:FuncId:=76
abbrev rT:FuncId:=77
abbrev gF:FuncId:=78
abbrev sF:FuncId:=79
abbrev nT:FuncId:=80
abbrev oT:FuncId:=81
abbrev vC:FuncId:=82
abbrev aHH:FuncId:=83
abbrev aCm:FuncId:=84
abbrev iR:FuncId:=85
abbrev aCA:FuncId:=86
abbrev aEY:FuncId:=87
abbrev nZ:FuncId:=88
abbrev aER:FuncId:=89
abbrev aCV:FuncId:=90
abbrev yL:FuncId:=91
abbrev xB:FuncId:=92
abbrev sV:FuncId:=93
abbrev zT:FuncId:=94
abbrev jF:FuncId:=95
abbrev kX:FuncId:=96
abbrev aET:FuncId:=97
abbrev sN:FuncId:=98
abbrev qS:FuncId:=99
abbrev qW:FuncId:=100
abbrev oW:FuncId:=101
abbrev aAu:FuncId:=102
abbrev zK:FuncId:=103
abbrev qP:FuncId:=104
abbrev zV:FuncId:=105
abbrev aBW:FuncId:=106
abbrev rR:FuncId:=107
abbrev mC:FuncId:=108
abbrev aBu:FuncId:=109
abbrev wM:FuncId:=110
abbrev sW:FuncId:=111
abbrev aIL:FuncId:=112
abbrev vR:FuncId:=113
abbrev rY:FuncId:=114
abbrev xA:FuncId:=115
abbrev lE:FuncId:=116
abbrev oD:FuncId:=117
abbrev qU:FuncId:=118
abbrev aHI:FuncId:=119
abbrev aC8:FuncId:=120
abbrev aBU:FuncId:=121
abbrev aAS:FuncId:=122
abbrev aIz:FuncId:=123
abbrev aDm:FuncId:=124
abbrev aEF:FuncId:=125
abbrev nQ:FuncId:=126
abbrev kL:FuncId:=127
abbrev aGT:FuncId:=128
abbrev aDD:FuncId:=129
abbrev aBM:FuncId:=130
abbrev aE2:FuncId:=131
abbrev xG:FuncId:=132
abbrev jV:FuncId:=133
abbrev aEE:FuncId:=134
abbrev aHB:FuncId:=135
abbrev aHD:FuncId:=136
abbrev jG:FuncId:=137
abbrev aDA:FuncId:=138
abbrev aKI:FuncId:=139
abbrev tX:FuncId:=140
abbrev wR:FuncId:=141
abbrev vN:FuncId:=142
abbrev rX:FuncId:=143
abbrev aCD:FuncId:=144
abbrev vE:FuncId:=145
abbrev aFi:FuncId:=146
abbrev vB:FuncId:=147
abbrev aFT:FuncId:=148
abbrev iP:FuncId:=149
abbrev aFX:FuncId:=150
abbrev vG:FuncId:=151
abbrev lP:FuncId:=152
abbrev aDd:FuncId:=153
abbrev aKm:FuncId:=154
abbrev aGl:FuncId:=155
abbrev qV:FuncId:=157
abbrev aCa:FuncId:=158
abbrev nI:FuncId:=159
abbrev pX:FuncId:=160
abbrev xE:FuncId:=161
abbrev aBj:FuncId:=162
abbrev aBJ:FuncId:=163
abbrev aBn:FuncId:=164
abbrev uW:FuncId:=165
abbrev oA:FuncId:=166
abbrev gQ:FuncId:=167
abbrev aCC:FuncId:=170
abbrev zO:FuncId:=171
abbrev aFG:FuncId:=172
abbrev lH:FuncId:=173
abbrev uV:FuncId:=174
abbrev aFq:FuncId:=175
abbrev aHl:FuncId:=176
abbrev aHN:FuncId:=177
abbrev vL:FuncId:=178
abbrev aFV:FuncId:=179
abbrev mN:FuncId:=180
abbrev aFK:FuncId:=181
abbrev mI:FuncId:=182
abbrev zR:FuncId:=183
abbrev aCf:FuncId:=184
abbrev aHF:FuncId:=185
abbrev kU:FuncId:=186
abbrev jA:FuncId:=187
abbrev gV:FuncId:=188
abbrev pY:FuncId:=189
abbrev aD8:FuncId:=190
abbrev yP:FuncId:=191
abbrev sY:FuncId:=192
abbrev wB:FuncId:=193
abbrev kM:FuncId:=194
abbrev aBX:FuncId:=195
abbrev aCW:FuncId:=196
abbrev aAo:FuncId:=197
abbrev sM:FuncId:=198
abbrev yW:FuncId:=199
abbrev yX:FuncId:=200
abbrev aJA:FuncId:=211
abbrev sA:FuncId:=212
abbrev zJ:FuncId:=213
abbrev aE0:FuncId:=214
abbrev aD9:FuncId:=215
abbrev aAG:FuncId:=216
abbrev aD2:FuncId:=217
abbrev aBo:FuncId:=218
abbrev zM:FuncId:=219
abbrev aIG:FuncId:=225
abbrev zU:FuncId:=226
abbrev yT:FuncId:=227
abbrev aIT:FuncId:=228
abbrev aIN:FuncId:=229
abbrev aHd:FuncId:=230
abbrev aHL:FuncId:=231
abbrev aGy:FuncId:=232
abbrev aB8:FuncId:=233
abbrev aCZ:FuncId:=234
abbrev aCB:FuncId:=240
abbrev T_:TypeId:=0
abbrev aR:TypeId:=3
abbrev gR:TypeId:=4
abbrev dM:TypeId:=5
abbrev aT:TypeId:=9
abbrev cJ:TypeId:=22
abbrev cG:TypeId:=24
abbrev cU:TypeId:=25
abbrev gW:TypeId:=26
abbrev oZ:TypeId:=29
abbrev fY:TypeId:=31
abbrev eR:TypeId:=32
abbrev dK:TypeId:=33
abbrev eJ:TypeId:=34
abbrev fE:TypeId:=35
abbrev cW:TypeId:=37
abbrev bZ:TypeId:=38
abbrev bR:TypeId:=40
abbrev cZ:TypeId:=45
abbrev gG:TypeId:=46
abbrev dI:TypeId:=48
abbrev bW:TypeId:=52
abbrev eX:TypeId:=58
abbrev cT:TypeId:=64
abbrev cO:TypeId:=66
abbrev iT:TypeId:=67
abbrev fN:TypeId:=69
abbrev cA:TypeId:=71
abbrev cK:TypeId:=73
abbrev eO:TypeId:=75
abbrev fX:TypeId:=77
abbrev bX:TypeId:=79
abbrev cL:TypeId:=81
abbrev cF:TypeId:=83
abbrev dD:TypeId:=90
abbrev dE:TypeId:=108
abbrev eK:TypeId:=115
abbrev dZ:TypeId:=117
abbrev dW:TypeId:=119
abbrev dX:TypeId:=121
abbrev cM:TypeId:=123
abbrev dY:TypeId:=125
abbrev dT:TypeId:=127
abbrev cY:TypeId:=129
abbrev yH:TypeId:=138
abbrev mY:TypeId:=173
abbrev dP:TypeId:=174
abbrev dH:TypeId:=176
abbrev fB:TypeId:=178
abbrev dQ:TypeId:=185
abbrev aC9:TypeId:=191
abbrev fQ:TypeId:=210
abbrev dO:TypeId:=212
abbrev gK:TypeId:=214
abbrev eV:TypeId:=237
abbrev oO:TypeId:=250
abbrev fM:TypeId:=251
abbrev mD:TypeId:=262
abbrev cS:TypeId:=268
abbrev fC:TypeId:=278
abbrev dR:TypeId:=280
abbrev gP:TypeId:=284
abbrev nS:TypeId:=304
abbrev cH:TypeId:=310
abbrev iF:TypeId:=313
abbrev fH:TypeId:=321
abbrev aC3:TypeId:=325
def aR.und:PG.underlying aR=some (TypeDesc.int IntKind.i64):=Tryz.underlying3
def aR.info:PG.info? aR=some Tryz.t3:=by kernel_rfl
def aR.size:Tryz.t3.size=1:=rfl
def aR.bytes:Tryz.t3.bytes=8:=rfl
def aR.zero:Tryz.t3.zero=some (Value.int IntKind.i64 0):=rfl
def aR.zc:dJ PG aR=((Value.int IntKind.i64 0)).cells:=by kernel_rfl
def aR.load{h:PH}{a:Addr}:cD PG h (loadAt aR (.pointer (some a)))=cV h a:=jK aR.und rfl
abbrev aG8(t:TypeId)(n:Nat):Prop:=∀{h:PH} {r o:Nat} {cs vs:List Value} {k:cE} (H:Bx h r cs) (hl:vs.length=n) (ho:o+n≤cs.length) (hv:∀v∈vs,fL v=true) (hk:∀h',Bx h' r (cs.take o++vs++cs.drop (o+n))->cX [r] h h'->k undef h'),cN PG (cP t (pT r o) (.agg vs.toArray)) h k
def aH6{t:TypeId}{n:Nat}{i:TypeInfo}(hi:PG.info? t=some i)(hn:i.size=n)(h0:0<n):aG8 t n:=by
 intro h r o cs vs k H hl ho hv hk;exact H.putN hi (by rw[hl];exact hn) (by omega) (by omega) hv (by rw[hl];exact hk)
abbrev aCg(t:TypeId)(n:Nat):Prop:=∀{h:PH} {r:Nat} {vs:List Value} {k:cE} (hr:h r=none) (hl:vs.length=n) (hv:∀v∈vs,fL v=true) (hk:∀h',Bx h' r vs->dA h h'->k undef h'),cN PG (cP t (pT r 0) (.agg vs.toArray)) (h.set r (.cells (dJ PG t) t)) k
def aDV{t:TypeId}{n:Nat}{i:TypeInfo}(hi:PG.info? t=some i)(hn:i.size=n)(h0:0<n)(hz:(dJ PG t).size=n):aCg t n:=by
 intro h r vs k hr hl hv hk;exact Bx.fill hr hi (by rw[hl];exact hn) (by omega) (by rw[hz,hl]) hv hk
abbrev aFS(t:TypeId)(n:Nat):Prop:=∀{h:PH} {r o:Nat} {cs:List Value} (H:Bx h r cs) (hle:o+n≤cs.length),cD PG h (loadAt t (pT r o))=some (.agg ((cs.drop o).take n).toArray)
abbrev aPq(t:TypeId)(n:Nat):Prop:=∀{h:PH} {b o:Nat} {c:Array Value} {e:TypeId} {fr:Nat×Nat} (hb:h b=some (.cells c e fr)) (hle:o+n≤c.size),cD PG h (loadAt t (pT b o))=some (.agg (c.extract o (o+n)))
abbrev aFB(t:TypeId):Prop:=∀{h:PH} {r o:Nat} {cs:List Value} {v:Value} {k:cE} (H:Bx h r cs) (ho:o<cs.length) (hv:fL v=true) (hk:∀h',Bx h' r (cs.set o v)->cX [r] h h'->k undef h'),cN PG (cP t (pT r o) v) h k
def aR.put:aFB aR:=λH a b c=>H.put1 aR.und rfl aR.info aR.size a b c
def aR.fill{h:PH}{r:Nat}{v:Value}{k:cE}(hr:h r=none)(hv:fL v=true)(hk:∀h',Bx h' r [v]->dA h h'->k undef h'):cN PG (cP aR (pT r 0) v) (h.set r (.cells (dJ PG aR) aR)) k:=Bx.fill1 hr aR.und rfl aR.info aR.size (by rw[aR.zc];rfl) hv hk
def gR.und:PG.underlying gR=some TypeDesc.bool:=Tryz.underlying4
def gR.info:PG.info? gR=some Tryz.t4:=by kernel_rfl
def gR.size:Tryz.t4.size=1:=rfl
def gR.load{h:PH}{a:Addr}:cD PG h (loadAt gR (.pointer (some a)))=cV h a:=jK gR.und rfl
def gR.put:aFB gR:=λH a b c=>H.put1 gR.und rfl gR.info gR.size a b c
def dM.und:PG.underlying dM=some (TypeDesc.int IntKind.u8):=Tryz.underlying5
def dM.info:PG.info? dM=some Tryz.t5:=by kernel_rfl
def dM.size:Tryz.t5.size=1:=rfl
def dM.bytes:Tryz.t5.bytes=1:=rfl
def dM.zero:Tryz.t5.zero=some (Value.int IntKind.u8 0):=rfl
def dM.put:aFB dM:=λH a b c=>H.put1 dM.und rfl dM.info dM.size a b c
def aT.und:PG.underlying aT=some TypeDesc.string:=Tryz.underlying9
def aT.info:PG.info? aT=some Tryz.t9:=by kernel_rfl
def aT.size:Tryz.t9.size=1:=rfl
def aT.bytes:Tryz.t9.bytes=16:=rfl
def aT.zero:Tryz.t9.zero=some (Value.string {data:=#[]}):=rfl
def aT.load{h:PH}{a:Addr}:cD PG h (loadAt aT (.pointer (some a)))=cV h a:=jK aT.und rfl
def aT.put:aFB aT:=λH a b c=>H.put1 aT.und rfl aT.info aT.size a b c
def aT.len{s:ByteArray}{t:TypeId}:cB PG (Builtin.len_ #[aT] t #[.string s])=some (.int .i64 s.size):=uZ aT.und
def cJ.und:PG.underlying cJ=some (TypeDesc.int IntKind.u64):=Tryz.underlying22
def cJ.info:PG.info? cJ=some Tryz.t22:=by kernel_rfl
def cJ.size:Tryz.t22.size=1:=rfl
def cJ.load{h:PH}{a:Addr}:cD PG h (loadAt cJ (.pointer (some a)))=cV h a:=jK cJ.und rfl
def cJ.put:aFB cJ:=λH a b c=>H.put1 cJ.und rfl cJ.info cJ.size a b c
def cG.und:PG.underlying cG=some (TypeDesc.struct #[{name:="Height",type:=22,offset:=0,embedded:=false,tag:="",pkgPath:="",byteOffset:=0},{name:="Index",type:=3,offset:=1,embedded:=false,tag:="",pkgPath:="",byteOffset:=8}]):=Tryz.underlying24
def cG.info:PG.info? cG=some Tryz.t24:=by kernel_rfl
def cG.size:Tryz.t24.size=2:=rfl
def cG.zbox{h:PH}{r:Nat}:Bx (h.set r (.cells (dJ PG cG) cG)) r ((Value.agg #[Value.int IntKind.u64 0,Value.int IntKind.i64 0])).cells.toList:=Bx.zero (by kernel_rfl)
def cG.zc:dJ PG cG=((Value.agg #[Value.int IntKind.u64 0,Value.int IntKind.i64 0])).cells:=by kernel_rfl
def cG.loadAgg:aPq cG 2:=aAL cG.und rfl cG.info cG.size
def cG.agg:aFS cG 2:=λH=>H.agg cG.und rfl cG.info cG.size
def cG.put:aG8 cG 2:=aH6 cG.info rfl (by decide)
def cG.fill:aCg cG 2:=aDV cG.info rfl (by decide) (by rw[cG.zc];rfl)
abbrev fAz(t:TypeId)(i:Nat):Prop:=∀{b o:Nat},cB PG (fieldAt t (pT b o) i)=some (pT b o)
def cG.f0:fAz cG 0:=by intro _ _;kernel_rfl
abbrev lQ(t:TypeId)(i n:Nat):Prop:=∀{b o:Nat},cB PG (fieldAt t (pT b o) i)=some (pT b (o+n))
def cG.f1:lQ cG 1 1:=by intro _ _;kernel_rfl
def cU.und:PG.underlying cU=some (TypeDesc.array 2 24):=Tryz.underlying25
def cU.info:PG.info? cU=some Tryz.t25:=by kernel_rfl
def cU.size:Tryz.t25.size=4:=rfl
def cU.agg:aFS cU 4:=λH=>H.agg cU.und rfl cU.info cU.size
def gW.und:PG.underlying gW=some (TypeDesc.slice 48):=Tryz.underlying26
def oZ.und:PG.underlying oZ=some (TypeDesc.pointer 37):=Tryz.underlying29
def fY.und:PG.underlying fY=some (TypeDesc.pointer 119):=Tryz.underlying31
def fY.load{h:PH}{a:Addr}:cD PG h (loadAt fY (.pointer (some a)))=cV h a:=jK fY.und rfl
def eR.und:PG.underlying eR=some (TypeDesc.pointer 77):=Tryz.underlying32
def eR.info:PG.info? eR=some Tryz.t32:=by kernel_rfl
def eR.size:Tryz.t32.size=1:=rfl
def eR.load{h:PH}{a:Addr}:cD PG h (loadAt eR (.pointer (some a)))=cV h a:=jK eR.und rfl
def eR.put:aFB eR:=λH a b c=>H.put1 eR.und rfl eR.info eR.size a b c
def dK.und:PG.underlying dK=some (TypeDesc.int IntKind.i64):=Tryz.underlying33
def dK.info:PG.info? dK=some Tryz.t33:=by kernel_rfl
def dK.size:Tryz.t33.size=1:=rfl
def dK.zbox{h:PH}{r:Nat}:Bx (h.set r (.cells (dJ PG dK) dK)) r ((Value.int IntKind.i64 0)).cells.toList:=Bx.zero (by kernel_rfl)
def dK.load{h:PH}{a:Addr}:cD PG h (loadAt dK (.pointer (some a)))=cV h a:=jK dK.und rfl
def dK.put:aFB dK:=λH a b c=>H.put1 dK.und rfl dK.info dK.size a b c
def eJ.und:PG.underlying eJ=some (TypeDesc.pointer 66):=Tryz.underlying34
def eJ.load{h:PH}{a:Addr}:cD PG h (loadAt eJ (.pointer (some a)))=cV h a:=jK eJ.und rfl
def fE.und:PG.underlying fE=some (TypeDesc.pointer 69):=Tryz.underlying35
def fE.info:PG.info? fE=some Tryz.t35:=by kernel_rfl
def fE.size:Tryz.t35.size=1:=rfl
def fE.load{h:PH}{a:Addr}:cD PG h (loadAt fE (.pointer (some a)))=cV h a:=jK fE.und rfl
def fE.put:aFB fE:=λH a b c=>H.put1 fE.und rfl fE.info fE.size a b c
def cW.f0:fAz cW 0:=by intro _ _;kernel_rfl
def cW.f1:lQ cW 1 1:=by intro _ _;kernel_rfl
def cW.f2:lQ cW 2 2:=by intro _ _;kernel_rfl
def cW.f3:lQ cW 3 3:=by intro _ _;kernel_rfl
def cW.f4:lQ cW 4 4:=by intro _ _;kernel_rfl
def cW.f5:lQ cW 5 5:=by intro _ _;kernel_rfl
def cW.f6:lQ cW 6 6:=by intro _ _;kernel_rfl
def bZ.und:PG.underlying bZ=some (TypeDesc.slice 83):=Tryz.underlying38
def bZ.info:PG.info? bZ=some Tryz.t38:=by kernel_rfl
def bZ.size:Tryz.t38.size=1:=rfl
def bZ.load{h:PH}{a:Addr}:cD PG h (loadAt bZ (.pointer (some a)))=cV h a:=jK bZ.und rfl
def bZ.put:aFB bZ:=λH a b c=>H.put1 bZ.und rfl bZ.info bZ.size a b c
def bR.und:PG.underlying bR=some (TypeDesc.struct #[{name:="Places",type:=25,offset:=0,embedded:=false,tag:="",pkgPath:="",byteOffset:=0},{name:="Items",type:=38,offset:=4,embedded:=false,tag:="",pkgPath:="",byteOffset:=32}]):=Tryz.underlying40
def bR.info:PG.info? bR=some Tryz.t40:=by kernel_rfl
def bR.size:Tryz.t40.size=5:=rfl
def bR.zbox{h:PH}{r:Nat}:Bx (h.set r (.cells (dJ PG bR) bR)) r ((Value.agg #[Value.int IntKind.u64 0,Value.int IntKind.i64 0,Value.int IntKind.u64 0,Value.int IntKind.i64 0,Value.slice none 0 0])).cells.toList:=Bx.zero (by kernel_rfl)
def bR.zc:dJ PG bR=((Value.agg #[Value.int IntKind.u64 0,Value.int IntKind.i64 0,Value.int IntKind.u64 0,Value.int IntKind.i64 0,Value.slice none 0 0])).cells:=by kernel_rfl
def bR.agg:aFS bR 5:=λH=>H.agg bR.und rfl bR.info bR.size
def bR.put:aG8 bR 5:=aH6 bR.info rfl (by decide)
def bR.fill:aCg bR 5:=aDV bR.info rfl (by decide) (by rw[bR.zc];rfl)
def bR.f0:fAz bR 0:=by intro _ _;kernel_rfl
def bR.f1:lQ bR 1 4:=by intro _ _;kernel_rfl
def cZ.und:PG.underlying cZ=some (TypeDesc.slice 81):=Tryz.underlying45
def cZ.info:PG.info? cZ=some Tryz.t45:=by kernel_rfl
def cZ.size:Tryz.t45.size=1:=rfl
def cZ.load{h:PH}{a:Addr}:cD PG h (loadAt cZ (.pointer (some a)))=cV h a:=jK cZ.und rfl
def cZ.put:aFB cZ:=λH a b c=>H.put1 cZ.und rfl cZ.info cZ.size a b c
def gG.und:PG.underlying gG=some (TypeDesc.slice 58):=Tryz.underlying46
def gG.load{h:PH}{a:Addr}:cD PG h (loadAt gG (.pointer (some a)))=cV h a:=jK gG.und rfl
def dI.und:PG.underlying dI=some (TypeDesc.struct #[{name:="Kind",type:=3,offset:=0,embedded:=false,tag:="",pkgPath:="",byteOffset:=0},{name:="N",type:=3,offset:=1,embedded:=false,tag:="",pkgPath:="",byteOffset:=8},{name:="Chain",type:=3,offset:=2,embedded:=false,tag:="",pkgPath:="",byteOffset:=16},{name:="At",type:=24,offset:=3,embedded:=false,tag:="",pkgPath:="",byteOffset:=24},{name:="L",type:=45,offset:=5,embedded:=false,tag:="",pkgPath:="",byteOffset:=40},{name:="W",type:=46,offset:=6,embedded:=false,tag:="",pkgPath:="",byteOffset:=64}]):=Tryz.underlying48
def dI.info:PG.info? dI=some Tryz.t48:=by kernel_rfl
def dI.size:Tryz.t48.size=7:=rfl
def dI.f0:fAz dI 0:=by intro _ _;kernel_rfl
def dI.f1:lQ dI 1 1:=by intro _ _;kernel_rfl
def dI.f2:lQ dI 2 2:=by intro _ _;kernel_rfl
def dI.f3:lQ dI 3 3:=by intro _ _;kernel_rfl
def dI.f4:lQ dI 4 5:=by intro _ _;kernel_rfl
def dI.f5:lQ dI 5 6:=by intro _ _;kernel_rfl
def bW.und:PG.underlying bW=some (TypeDesc.struct #[{name:="Kind",type:=3,offset:=0,embedded:=false,tag:="",pkgPath:="",byteOffset:=0},{name:="State",type:=40,offset:=1,embedded:=false,tag:="",pkgPath:="",byteOffset:=8},{name:="Chain",type:=3,offset:=6,embedded:=false,tag:="",pkgPath:="",byteOffset:=64},{name:="Place",type:=24,offset:=7,embedded:=false,tag:="",pkgPath:="",byteOffset:=72},{name:="Notes",type:=45,offset:=9,embedded:=false,tag:="",pkgPath:="",byteOffset:=88}]):=Tryz.underlying52
def bW.info:PG.info? bW=some Tryz.t52:=by kernel_rfl
def bW.size:Tryz.t52.size=10:=rfl
def bW.zbox{h:PH}{r:Nat}:Bx (h.set r (.cells (dJ PG bW) bW)) r ((Value.agg #[Value.int IntKind.i64 0,Value.int IntKind.u64 0,Value.int IntKind.i64 0,Value.int IntKind.u64 0,Value.int IntKind.i64 0,Value.slice none 0 0,Value.int IntKind.i64 0,Value.int IntKind.u64 0,Value.int IntKind.i64 0,Value.slice none 0 0])).cells.toList:=Bx.zero (by kernel_rfl)
def bW.zc:dJ PG bW=((Value.agg #[Value.int IntKind.i64 0,Value.int IntKind.u64 0,Value.int IntKind.i64 0,Value.int IntKind.u64 0,Value.int IntKind.i64 0,Value.slice none 0 0,Value.int IntKind.i64 0,Value.int IntKind.u64 0,Value.int IntKind.i64 0,Value.slice none 0 0])).cells:=by kernel_rfl
def bW.agg:aFS bW 10:=λH=>H.agg bW.und rfl bW.info bW.size
def bW.put:aG8 bW 10:=aH6 bW.info rfl (by decide)
def bW.fill:aCg bW 10:=aDV bW.info rfl (by decide) (by rw[bW.zc];rfl)
def bW.f0:fAz bW 0:=by intro _ _;kernel_rfl
def bW.f1:lQ bW 1 1:=by intro _ _;kernel_rfl
def bW.f2:lQ bW 2 6:=by intro _ _;kernel_rfl
def bW.f3:lQ bW 3 7:=by intro _ _;kernel_rfl
def bW.f4:lQ bW 4 9:=by intro _ _;kernel_rfl
def eX.und:PG.underlying eX=some (TypeDesc.struct #[{name:="Lasts",type:=4,offset:=0,embedded:=false,tag:="",pkgPath:="",byteOffset:=0},{name:="Torn",type:=3,offset:=1,embedded:=false,tag:="",pkgPath:="",byteOffset:=8}]):=Tryz.underlying58
def eX.info:PG.info? eX=some Tryz.t58:=by kernel_rfl
def eX.size:Tryz.t58.size=2:=rfl
def eX.zc:dJ PG eX=((Value.agg #[Value.bool false,Value.int IntKind.i64 0])).cells:=by kernel_rfl
def eX.fill:aCg eX 2:=aDV eX.info rfl (by decide) (by rw[eX.zc];rfl)
def eX.f0:fAz eX 0:=by intro _ _;kernel_rfl
def eX.f1:lQ eX 1 1:=by intro _ _;kernel_rfl
def cT.und:PG.underlying cT=some (TypeDesc.slice 185):=Tryz.underlying64
def cT.info:PG.info? cT=some Tryz.t64:=by kernel_rfl
def cT.size:Tryz.t64.size=1:=rfl
def cT.load{h:PH}{a:Addr}:cD PG h (loadAt cT (.pointer (some a)))=cV h a:=jK cT.und rfl
def cT.put:aFB cT:=λH a b c=>H.put1 cT.und rfl cT.info cT.size a b c
def cO.f0:fAz cO 0:=by intro _ _;kernel_rfl
def cO.f1:lQ cO 1 1:=by intro _ _;kernel_rfl
def cO.f2:lQ cO 2 2:=by intro _ _;kernel_rfl
def cO.f3:lQ cO 3 3:=by intro _ _;kernel_rfl
def cO.f4:lQ cO 4 4:=by intro _ _;kernel_rfl
def iT.und:PG.underlying iT=some (TypeDesc.pointer 73):=Tryz.underlying67
def iT.load{h:PH}{a:Addr}:cD PG h (loadAt iT (.pointer (some a)))=cV h a:=jK iT.und rfl
def fN.f0:fAz fN 0:=by intro _ _;kernel_rfl
def fN.f1:lQ fN 1 1:=by intro _ _;kernel_rfl
def fN.f2:lQ fN 2 2:=by intro _ _;kernel_rfl
def cA.und:PG.underlying cA=some (TypeDesc.struct #[{name:="Gen",type:=22,offset:=0,embedded:=false,tag:="",pkgPath:="",byteOffset:=0},{name:="Segment",type:=3,offset:=1,embedded:=false,tag:="",pkgPath:="",byteOffset:=8}]):=Tryz.underlying71
def cA.info:PG.info? cA=some Tryz.t71:=by kernel_rfl
def cA.size:Tryz.t71.size=2:=rfl
def cA.zbox{h:PH}{r:Nat}:Bx (h.set r (.cells (dJ PG cA) cA)) r ((Value.agg #[Value.int IntKind.u64 0,Value.int IntKind.i64 0])).cells.toList:=Bx.zero (by kernel_rfl)
def cA.zc:dJ PG cA=((Value.agg #[Value.int IntKind.u64 0,Value.int IntKind.i64 0])).cells:=by kernel_rfl
def cA.agg:aFS cA 2:=λH=>H.agg cA.und rfl cA.info cA.size
def cA.put:aG8 cA 2:=aH6 cA.info rfl (by decide)
def cA.fill:aCg cA 2:=aDV cA.info rfl (by decide) (by rw[cA.zc];rfl)
def cA.f0:fAz cA 0:=by intro _ _;kernel_rfl
def cA.f1:lQ cA 1 1:=by intro _ _;kernel_rfl
def cK.f0:fAz cK 0:=by intro _ _;kernel_rfl
def cK.f1:lQ cK 1 1:=by intro _ _;kernel_rfl
def cK.f2:lQ cK 2 3:=by intro _ _;kernel_rfl
def cK.f3:lQ cK 3 4:=by intro _ _;kernel_rfl
def cK.f4:lQ cK 4 5:=by intro _ _;kernel_rfl
def cK.f5:lQ cK 5 6:=by intro _ _;kernel_rfl
def cK.f6:lQ cK 6 7:=by intro _ _;kernel_rfl
def eO.und:PG.underlying eO=some (TypeDesc.pointer 127):=Tryz.underlying75
def eO.load{h:PH}{a:Addr}:cD PG h (loadAt eO (.pointer (some a)))=cV h a:=jK eO.und rfl
def fX.f0:fAz fX 0:=by intro _ _;kernel_rfl
def fX.f1:lQ fX 1 1:=by intro _ _;kernel_rfl
def fX.f2:lQ fX 2 2:=by intro _ _;kernel_rfl
def bX.und:PG.underlying bX=some (TypeDesc.struct #[{name:="From",type:=3,offset:=0,embedded:=false,tag:="",pkgPath:="",byteOffset:=0},{name:="Seq",type:=22,offset:=1,embedded:=false,tag:="",pkgPath:="",byteOffset:=8},{name:="Timeout",type:=22,offset:=2,embedded:=false,tag:="",pkgPath:="",byteOffset:=16},{name:="Data",type:=9,offset:=3,embedded:=false,tag:="",pkgPath:="",byteOffset:=24}]):=Tryz.underlying79
def bX.info:PG.info? bX=some Tryz.t79:=by kernel_rfl
def bX.size:Tryz.t79.size=4:=rfl
def bX.bytes:Tryz.t79.bytes=40:=rfl
def bX.zero:Tryz.t79.zero=some (Value.agg #[Value.int IntKind.i64 0,Value.int IntKind.u64 0,Value.int IntKind.u64 0,Value.string {data:=#[]}]):=rfl
def bX.zbox{h:PH}{r:Nat}:Bx (h.set r (.cells (dJ PG bX) bX)) r ((Value.agg #[Value.int IntKind.i64 0,Value.int IntKind.u64 0,Value.int IntKind.u64 0,Value.string {data:=#[]}])).cells.toList:=Bx.zero (by kernel_rfl)
def bX.zc:dJ PG bX=((Value.agg #[Value.int IntKind.i64 0,Value.int IntKind.u64 0,Value.int IntKind.u64 0,Value.string {data:=#[]}])).cells:=by kernel_rfl
def bX.loadAgg:aPq bX 4:=aAL bX.und rfl bX.info bX.size
def bX.agg:aFS bX 4:=λH=>H.agg bX.und rfl bX.info bX.size
def bX.put:aG8 bX 4:=aH6 bX.info rfl (by decide)
def bX.fill:aCg bX 4:=aDV bX.info rfl (by decide) (by rw[bX.zc];rfl)
def bX.f0:fAz bX 0:=by intro _ _;kernel_rfl
def bX.f1:lQ bX 1 1:=by intro _ _;kernel_rfl
def bX.f2:lQ bX 2 2:=by intro _ _;kernel_rfl
def bX.f3:lQ bX 3 3:=by intro _ _;kernel_rfl
def cL.und:PG.underlying cL=some (TypeDesc.struct #[{name:="Kind",type:=3,offset:=0,embedded:=false,tag:="",pkgPath:="",byteOffset:=0},{name:="Packet",type:=79,offset:=1,embedded:=false,tag:="",pkgPath:="",byteOffset:=8}]):=Tryz.underlying81
def cL.info:PG.info? cL=some Tryz.t81:=by kernel_rfl
def cL.size:Tryz.t81.size=5:=rfl
def cL.bytes:Tryz.t81.bytes=48:=rfl
def cL.zero:Tryz.t81.zero=some (Value.agg #[Value.int IntKind.i64 0,Value.int IntKind.i64 0,Value.int IntKind.u64 0,Value.int IntKind.u64 0,Value.string {data:=#[]}]):=rfl
def cL.zbox{h:PH}{r:Nat}:Bx (h.set r (.cells (dJ PG cL) cL)) r ((Value.agg #[Value.int IntKind.i64 0,Value.int IntKind.i64 0,Value.int IntKind.u64 0,Value.int IntKind.u64 0,Value.string {data:=#[]}])).cells.toList:=Bx.zero (by kernel_rfl)
def cL.zc:dJ PG cL=((Value.agg #[Value.int IntKind.i64 0,Value.int IntKind.i64 0,Value.int IntKind.u64 0,Value.int IntKind.u64 0,Value.string {data:=#[]}])).cells:=by kernel_rfl
def cL.loadAgg:aPq cL 5:=aAL cL.und rfl cL.info cL.size
def cL.agg:aFS cL 5:=λH=>H.agg cL.und rfl cL.info cL.size
def cL.put:aG8 cL 5:=aH6 cL.info rfl (by decide)
def cL.fill:aCg cL 5:=aDV cL.info rfl (by decide) (by rw[cL.zc];rfl)
def cL.f0:fAz cL 0:=by intro _ _;kernel_rfl
def cL.f1:lQ cL 1 1:=by intro _ _;kernel_rfl
def cF.und:PG.underlying cF=some (TypeDesc.struct #[{name:="Packet",type:=79,offset:=0,embedded:=false,tag:="",pkgPath:="",byteOffset:=0},{name:="Stage",type:=3,offset:=4,embedded:=false,tag:="",pkgPath:="",byteOffset:=40}]):=Tryz.underlying83
def cF.info:PG.info? cF=some Tryz.t83:=by kernel_rfl
def cF.size:Tryz.t83.size=5:=rfl
def cF.bytes:Tryz.t83.bytes=48:=rfl
def cF.zero:Tryz.t83.zero=some (Value.agg #[Value.int IntKind.i64 0,Value.int IntKind.u64 0,Value.int IntKind.u64 0,Value.string {data:=#[]},Value.int IntKind.i64 0]):=rfl
def cF.zbox{h:PH}{r:Nat}:Bx (h.set r (.cells (dJ PG cF) cF)) r ((Value.agg #[Value.int IntKind.i64 0,Value.int IntKind.u64 0,Value.int IntKind.u64 0,Value.string {data:=#[]},Value.int IntKind.i64 0])).cells.toList:=Bx.zero (by kernel_rfl)
def cF.zc:dJ PG cF=((Value.agg #[Value.int IntKind.i64 0,Value.int IntKind.u64 0,Value.int IntKind.u64 0,Value.string {data:=#[]},Value.int IntKind.i64 0])).cells:=by kernel_rfl
def cF.loadAgg:aPq cF 5:=aAL cF.und rfl cF.info cF.size
def cF.agg:aFS cF 5:=λH=>H.agg cF.und rfl cF.info cF.size
def cF.put:aG8 cF 5:=aH6 cF.info rfl (by decide)
def cF.fill:aCg cF 5:=aDV cF.info rfl (by decide) (by rw[cF.zc];rfl)
def cF.f0:fAz cF 0:=by intro _ _;kernel_rfl
def cF.f1:lQ cF 1 4:=by intro _ _;kernel_rfl
def dD.und:PG.underlying dD=some (TypeDesc.slice 9):=Tryz.underlying90
def dD.info:PG.info? dD=some Tryz.t90:=by kernel_rfl
def dD.size:Tryz.t90.size=1:=rfl
def dD.zbox{h:PH}{r:Nat}:Bx (h.set r (.cells (dJ PG dD) dD)) r ((Value.slice none 0 0)).cells.toList:=Bx.zero (by kernel_rfl)
def dD.load{h:PH}{a:Addr}:cD PG h (loadAt dD (.pointer (some a)))=cV h a:=jK dD.und rfl
def dD.put:aFB dD:=λH a b c=>H.put1 dD.und rfl dD.info dD.size a b c
def dE.f0:fAz dE 0:=by intro _ _;kernel_rfl
def dE.f1:lQ dE 1 1:=by intro _ _;kernel_rfl
def eK.und:PG.underlying eK=some (TypeDesc.slice 121):=Tryz.underlying115
def eK.info:PG.info? eK=some Tryz.t115:=by kernel_rfl
def eK.size:Tryz.t115.size=1:=rfl
def eK.load{h:PH}{a:Addr}:cD PG h (loadAt eK (.pointer (some a)))=cV h a:=jK eK.und rfl
def eK.put:aFB eK:=λH a b c=>H.put1 eK.und rfl eK.info eK.size a b c
def dZ.und:PG.underlying dZ=some (TypeDesc.struct #[{name:="size",type:=3,offset:=0,embedded:=false,tag:="",pkgPath:="carrack/disk",byteOffset:=0},{name:="sectors",type:=3,offset:=1,embedded:=false,tag:="",pkgPath:="carrack/disk",byteOffset:=8}]):=Tryz.underlying117
def dZ.info:PG.info? dZ=some Tryz.t117:=by kernel_rfl
def dZ.size:Tryz.t117.size=2:=rfl
def dZ.agg:aFS dZ 2:=λH=>H.agg dZ.und rfl dZ.info dZ.size
def dZ.f0:fAz dZ 0:=by intro _ _;kernel_rfl
def dZ.f1:lQ dZ 1 1:=by intro _ _;kernel_rfl
def dW.f0:fAz dW 0:=by intro _ _;kernel_rfl
def dW.f1:lQ dW 1 2:=by intro _ _;kernel_rfl
def dW.f2:lQ dW 2 3:=by intro _ _;kernel_rfl
def dW.f3:lQ dW 3 4:=by intro _ _;kernel_rfl
def dX.und:PG.underlying dX=some (TypeDesc.struct #[{name:="sector",type:=3,offset:=0,embedded:=false,tag:="",pkgPath:="carrack/disk",byteOffset:=0},{name:="s",type:=9,offset:=1,embedded:=false,tag:="",pkgPath:="carrack/disk",byteOffset:=8}]):=Tryz.underlying121
def dX.info:PG.info? dX=some Tryz.t121:=by kernel_rfl
def dX.size:Tryz.t121.size=2:=rfl
def dX.bytes:Tryz.t121.bytes=24:=rfl
def dX.zero:Tryz.t121.zero=some (Value.agg #[Value.int IntKind.i64 0,Value.string {data:=#[]}]):=rfl
def dX.zc:dJ PG dX=((Value.agg #[Value.int IntKind.i64 0,Value.string {data:=#[]}])).cells:=by kernel_rfl
def dX.fill:aCg dX 2:=aDV dX.info rfl (by decide) (by rw[dX.zc];rfl)
def dX.f0:fAz dX 0:=by intro _ _;kernel_rfl
def dX.f1:lQ dX 1 1:=by intro _ _;kernel_rfl
def cM.und:PG.underlying cM=some (TypeDesc.struct #[{name:="Gen",type:=22,offset:=0,embedded:=false,tag:="",pkgPath:="",byteOffset:=0},{name:="Segment",type:=3,offset:=1,embedded:=false,tag:="",pkgPath:="",byteOffset:=8}]):=Tryz.underlying123
def cM.info:PG.info? cM=some Tryz.t123:=by kernel_rfl
def cM.size:Tryz.t123.size=2:=rfl
def cM.zbox{h:PH}{r:Nat}:Bx (h.set r (.cells (dJ PG cM) cM)) r ((Value.agg #[Value.int IntKind.u64 0,Value.int IntKind.i64 0])).cells.toList:=Bx.zero (by kernel_rfl)
def cM.zc:dJ PG cM=((Value.agg #[Value.int IntKind.u64 0,Value.int IntKind.i64 0])).cells:=by kernel_rfl
def cM.agg:aFS cM 2:=λH=>H.agg cM.und rfl cM.info cM.size
def cM.put:aG8 cM 2:=aH6 cM.info rfl (by decide)
def cM.fill:aCg cM 2:=aDV cM.info rfl (by decide) (by rw[cM.zc];rfl)
def cM.f0:fAz cM 0:=by intro _ _;kernel_rfl
def cM.f1:lQ cM 1 1:=by intro _ _;kernel_rfl
def dY.und:PG.underlying dY=some (TypeDesc.struct #[{name:="Disk",type:=31,offset:=0,embedded:=true,tag:="",pkgPath:="",byteOffset:=0}]):=Tryz.underlying125
def dY.info:PG.info? dY=some Tryz.t125:=by kernel_rfl
def dY.size:Tryz.t125.size=1:=rfl
def dY.agg:aFS dY 1:=λH=>H.agg dY.und rfl dY.info dY.size
def dY.f0:fAz dY 0:=by intro _ _;kernel_rfl
def dT.f0:fAz dT 0:=by intro _ _;kernel_rfl
def dT.f1:lQ dT 1 1:=by intro _ _;kernel_rfl
def dT.f2:lQ dT 2 3:=by intro _ _;kernel_rfl
def dT.f3:lQ dT 3 4:=by intro _ _;kernel_rfl
def dT.f4:lQ dT 4 5:=by intro _ _;kernel_rfl
def dT.f5:lQ dT 5 6:=by intro _ _;kernel_rfl
def dT.f6:lQ dT 6 7:=by intro _ _;kernel_rfl
def cY.und:PG.underlying cY=some (TypeDesc.slice 5):=Tryz.underlying129
def cY.info:PG.info? cY=some Tryz.t129:=by kernel_rfl
def cY.size:Tryz.t129.size=1:=rfl
def cY.load{h:PH}{a:Addr}:cD PG h (loadAt cY (.pointer (some a)))=cV h a:=jK cY.und rfl
def cY.len{a:Option Addr}{n c:Nat}{t:TypeId}:cB PG (Builtin.len_ #[cY] t #[.slice a n c])=some (.int .i64 n):=aOQ cY.und
def yH.und:PG.underlying yH=some (TypeDesc.slice 24):=Tryz.underlying138
def mY.f0:fAz mY 0:=by intro _ _;kernel_rfl
def dP.und:PG.underlying dP=some (TypeDesc.pointer 176):=Tryz.underlying174
def dP.info:PG.info? dP=some Tryz.t174:=by kernel_rfl
def dP.size:Tryz.t174.size=1:=rfl
def dP.load{h:PH}{a:Addr}:cD PG h (loadAt dP (.pointer (some a)))=cV h a:=jK dP.und rfl
def dH.info:PG.info? dH=some Tryz.t176:=by kernel_rfl
def dH.size:Tryz.t176.size=2:=rfl
def dH.zc:dJ PG dH=((Value.agg #[Value.pointer none,Value.slice none 0 0])).cells:=by kernel_rfl
def dH.f0:fAz dH 0:=by intro _ _;kernel_rfl
def dH.f1:lQ dH 1 1:=by intro _ _;kernel_rfl
def fB.zc:dJ PG fB=((Value.agg #[Value.int IntKind.i64 0,Value.pointer none,Value.slice none 0 0])).cells:=by kernel_rfl
def fB.f0:fAz fB 0:=by intro _ _;kernel_rfl
def fB.f1:lQ fB 1 1:=by intro _ _;kernel_rfl
def dQ.info:PG.info? dQ=some Tryz.t185:=by kernel_rfl
def dQ.size:Tryz.t185.size=2:=rfl
def dQ.bytes:Tryz.t185.bytes=24:=rfl
def dQ.zero:Tryz.t185.zero=some (Value.agg #[Value.int IntKind.i64 0,Value.string {data:=#[]}]):=rfl
def dQ.f0:fAz dQ 0:=by intro _ _;kernel_rfl
def dQ.f1:lQ dQ 1 1:=by intro _ _;kernel_rfl
def fQ.und:PG.underlying fQ=some (TypeDesc.struct #[{name:="from",type:=3,offset:=0,embedded:=false,tag:="",pkgPath:="carrack/table",byteOffset:=0},{name:="seq",type:=22,offset:=1,embedded:=false,tag:="",pkgPath:="carrack/table",byteOffset:=8}]):=Tryz.underlying210
def fQ.info:PG.info? fQ=some Tryz.t210:=by kernel_rfl
def fQ.size:Tryz.t210.size=2:=rfl
def fQ.zc:dJ PG fQ=((Value.agg #[Value.int IntKind.i64 0,Value.int IntKind.u64 0])).cells:=by kernel_rfl
def fQ.loadAgg:aPq fQ 2:=aAL fQ.und rfl fQ.info fQ.size
def dO.und:PG.underlying dO=some (TypeDesc.map 210 83):=Tryz.underlying212
def dO.load{h:PH}{a:Addr}:cD PG h (loadAt dO (.pointer (some a)))=cV h a:=jK dO.und rfl
def gK.f0:fAz gK 0:=by intro _ _;kernel_rfl
def gK.f1:lQ gK 1 1:=by intro _ _;kernel_rfl
def eV.f0:fAz eV 0:=by intro _ _;kernel_rfl
def eV.f1:lQ eV 1 1:=by intro _ _;kernel_rfl
def fM.und:PG.underlying fM=some (TypeDesc.int IntKind.u32):=Tryz.underlying251
def fM.info:PG.info? fM=some Tryz.t251:=by kernel_rfl
def fM.size:Tryz.t251.size=1:=rfl
def fM.load{h:PH}{a:Addr}:cD PG h (loadAt fM (.pointer (some a)))=cV h a:=jK fM.und rfl
def fM.put:aFB fM:=λH a b c=>H.put1 fM.und rfl fM.info fM.size a b c
def mD.und:PG.underlying mD=some (TypeDesc.slice 3):=Tryz.underlying262
def cS.und:PG.underlying cS=some (TypeDesc.struct #[{name:="Gen",type:=22,offset:=0,embedded:=false,tag:="",pkgPath:="",byteOffset:=0},{name:="Serial",type:=22,offset:=1,embedded:=false,tag:="",pkgPath:="",byteOffset:=8},{name:="Part",type:=3,offset:=2,embedded:=false,tag:="",pkgPath:="",byteOffset:=16},{name:="Parts",type:=3,offset:=3,embedded:=false,tag:="",pkgPath:="",byteOffset:=24},{name:="Bytes",type:=9,offset:=4,embedded:=false,tag:="",pkgPath:="",byteOffset:=32}]):=Tryz.underlying268
def cS.info:PG.info? cS=some Tryz.t268:=by kernel_rfl
def cS.size:Tryz.t268.size=5:=rfl
def cS.zbox{h:PH}{r:Nat}:Bx (h.set r (.cells (dJ PG cS) cS)) r ((Value.agg #[Value.int IntKind.u64 0,Value.int IntKind.u64 0,Value.int IntKind.i64 0,Value.int IntKind.i64 0,Value.string {data:=#[]}])).cells.toList:=Bx.zero (by kernel_rfl)
def cS.zc:dJ PG cS=((Value.agg #[Value.int IntKind.u64 0,Value.int IntKind.u64 0,Value.int IntKind.i64 0,Value.int IntKind.i64 0,Value.string {data:=#[]}])).cells:=by kernel_rfl
def cS.agg:aFS cS 5:=λH=>H.agg cS.und rfl cS.info cS.size
def cS.put:aG8 cS 5:=aH6 cS.info rfl (by decide)
def cS.fill:aCg cS 5:=aDV cS.info rfl (by decide) (by rw[cS.zc];rfl)
def cS.f0:fAz cS 0:=by intro _ _;kernel_rfl
def cS.f1:lQ cS 1 1:=by intro _ _;kernel_rfl
def cS.f2:lQ cS 2 2:=by intro _ _;kernel_rfl
def cS.f3:lQ cS 3 3:=by intro _ _;kernel_rfl
def cS.f4:lQ cS 4 4:=by intro _ _;kernel_rfl
def fC.und:PG.underlying fC=some (TypeDesc.func #[134,210,79] #[33] false):=Tryz.underlying278
def fC.info:PG.info? fC=some Tryz.t278:=by kernel_rfl
def fC.size:Tryz.t278.size=1:=rfl
def fC.load{h:PH}{a:Addr}:cD PG h (loadAt fC (.pointer (some a)))=cV h a:=jK fC.und rfl
def dR.und:PG.underlying dR=some (TypeDesc.array 5 278):=Tryz.underlying280
def dR.info:PG.info? dR=some Tryz.t280:=by kernel_rfl
def dR.zc:dJ PG dR=((Value.agg #[Value.nilFunc,Value.nilFunc,Value.nilFunc,Value.nilFunc,Value.nilFunc])).cells:=by kernel_rfl
def gP.und:PG.underlying gP=some TypeDesc.unsafePointer:=Tryz.underlying284
def nS.und:PG.underlying nS=some (TypeDesc.array 4 5):=Tryz.underlying304
def nS.zbox{h:PH}{r:Nat}:Bx (h.set r (.cells (dJ PG nS) nS)) r ((Value.agg #[Value.int IntKind.u8 0,Value.int IntKind.u8 0,Value.int IntKind.u8 0,Value.int IntKind.u8 0])).cells.toList:=Bx.zero (by kernel_rfl)
def cH.und:PG.underlying cH=some (TypeDesc.struct #[{name:="Gen",type:=22,offset:=0,embedded:=false,tag:="",pkgPath:="",byteOffset:=0},{name:="Serial",type:=22,offset:=1,embedded:=false,tag:="",pkgPath:="",byteOffset:=8},{name:="Part",type:=3,offset:=2,embedded:=false,tag:="",pkgPath:="",byteOffset:=16},{name:="Parts",type:=3,offset:=3,embedded:=false,tag:="",pkgPath:="",byteOffset:=24},{name:="Bytes",type:=9,offset:=4,embedded:=false,tag:="",pkgPath:="",byteOffset:=32}]):=Tryz.underlying310
def cH.info:PG.info? cH=some Tryz.t310:=by kernel_rfl
def cH.size:Tryz.t310.size=5:=rfl
def cH.zbox{h:PH}{r:Nat}:Bx (h.set r (.cells (dJ PG cH) cH)) r ((Value.agg #[Value.int IntKind.u64 0,Value.int IntKind.u64 0,Value.int IntKind.i64 0,Value.int IntKind.i64 0,Value.string {data:=#[]}])).cells.toList:=Bx.zero (by kernel_rfl)
def cH.zc:dJ PG cH=((Value.agg #[Value.int IntKind.u64 0,Value.int IntKind.u64 0,Value.int IntKind.i64 0,Value.int IntKind.i64 0,Value.string {data:=#[]}])).cells:=by kernel_rfl
def cH.agg:aFS cH 5:=λH=>H.agg cH.und rfl cH.info cH.size
def cH.put:aG8 cH 5:=aH6 cH.info rfl (by decide)
def cH.fill:aCg cH 5:=aDV cH.info rfl (by decide) (by rw[cH.zc];rfl)
def cH.f0:fAz cH 0:=by intro _ _;kernel_rfl
def cH.f1:lQ cH 1 1:=by intro _ _;kernel_rfl
def cH.f2:lQ cH 2 2:=by intro _ _;kernel_rfl
def cH.f3:lQ cH 3 3:=by intro _ _;kernel_rfl
def cH.f4:lQ cH 4 4:=by intro _ _;kernel_rfl
def iF.und:PG.underlying iF=some (TypeDesc.slice 79):=Tryz.underlying313
def fH.und:PG.underlying fH=some (TypeDesc.array 256 251):=Tryz.underlying321
def fH.info:PG.info? fH=some Tryz.t321:=by kernel_rfl
def fH.size:Tryz.t321.size=256:=rfl
def fH.zbox{h:PH}{r:Nat}:Bx (h.set r (.cells (dJ PG fH) fH)) r ((Value.agg (List.replicate 256 (Value.int IntKind.u32 0)).toArray)).cells.toList:=Bx.zero (by kernel_rfl)
def fH.zc:dJ PG fH=((Value.agg (List.replicate 256 (Value.int IntKind.u32 0)).toArray)).cells:=by kernel_rfl
def fH.agg:aFS fH 256:=λH=>H.agg fH.und rfl fH.info fH.size
def fH.put:aG8 fH 256:=aH6 fH.info rfl (by decide)
def fH.fill:aCg fH 256:=aDV fH.info rfl (by decide) (by rw[fH.zc];rfl)
end Go.Proofs.YtiohehjhlghikaaGreatDoor
