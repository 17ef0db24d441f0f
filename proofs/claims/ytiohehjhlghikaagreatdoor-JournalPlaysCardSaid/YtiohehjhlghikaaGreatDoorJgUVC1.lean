/- The texts of this claim, put together. -/
import Derived.Test.YtiohehjhlghikaaGreatDoorJgUVC0
import Derived.Test.YtiohehjhlghikaaGreatDoorChecked
import Derived.KernelRfl
set_option linter.all false
set_option maxRecDepth 100000
open Go.Instr (loadAt fieldAt indexAt extract buildSlice build)
namespace Go.Proofs.YtiohehjhlghikaaGreatDoor
open Go
noncomputable abbrev PG:Program:=Tryz.prog
def mix:PG.follows .mixedOrders=true:=by kernel_rfl
abbrev aBz:FuncId:=7
abbrev aCu:FuncId:=8
abbrev yL:FuncId:=9
abbrev kR:FuncId:=10
abbrev aDN:FuncId:=11
abbrev yK:FuncId:=12
abbrev qO:FuncId:=13
abbrev yP:FuncId:=14
abbrev rO:FuncId:=15
abbrev nT:FuncId:=16
abbrev uO:FuncId:=17
abbrev aDV:FuncId:=18
abbrev aEz:FuncId:=19
abbrev aCs:FuncId:=20
abbrev aBp:FuncId:=21
abbrev aGe:FuncId:=22
abbrev aFo:FuncId:=23
abbrev aJa:FuncId:=24
abbrev aC2:FuncId:=25
abbrev yH:FuncId:=26
abbrev xG:FuncId:=27
abbrev aJh:FuncId:=28
abbrev aE3:FuncId:=29
abbrev wN:FuncId:=30
abbrev aCD:FuncId:=31
abbrev tE:FuncId:=32
abbrev nE:FuncId:=33
abbrev qF:FuncId:=34
abbrev qI:FuncId:=35
abbrev aAm:FuncId:=36
abbrev aBq:FuncId:=37
abbrev aDj:FuncId:=38
abbrev aA8:FuncId:=39
abbrev aC5:FuncId:=40
abbrev aEF:FuncId:=41
abbrev aEC:FuncId:=42
abbrev qS:FuncId:=43
abbrev zI:FuncId:=44
abbrev xR:FuncId:=45
abbrev aFc:FuncId:=46
abbrev yB:FuncId:=47
abbrev aCU:FuncId:=48
abbrev pL:FuncId:=49
abbrev pX:FuncId:=50
abbrev wK:FuncId:=51
abbrev aGm:FuncId:=52
abbrev nJ:FuncId:=53
abbrev uF:FuncId:=54
abbrev qN:FuncId:=55
abbrev yJ:FuncId:=56
abbrev tS:FuncId:=57
abbrev aAh:FuncId:=58
abbrev aGj:FuncId:=59
abbrev lK:FuncId:=60
abbrev yD:FuncId:=61
abbrev aEL:FuncId:=62
abbrev uZ:FuncId:=63
abbrev aHV:FuncId:=64
abbrev yC:FuncId:=65
abbrev qZ:FuncId:=66
abbrev aF1:FuncId:=67
abbrev vX:FuncId:=68
abbrev aC4:FuncId:=69
abbrev aDo:FuncId:=70
abbrev aAV:FuncId:=71
abbrev vA:FuncId:=72
abbrev aIi:FuncId:=73
abbrev aDn:FuncId:=74
abbrev oF:FuncId:=75
abbrev sJ:FuncId:=76
abbrev sL:FuncId:=77
abbrev hM:FuncId:=78
abbrev tF:FuncId:=79
abbrev oR:FuncId:=80
abbrev pZ:FuncId:=81
abbrev wG:FuncId:=82
abbrev aHh:FuncId:=83
abbrev aDM:FuncId:=84
abbrev jT:FuncId:=85
abbrev aCT:FuncId:=86
abbrev aEu:FuncId:=87
abbrev pB:FuncId:=88
abbrev aE0:FuncId:=89
abbrev aCx:FuncId:=90
abbrev zR:FuncId:=91
abbrev xW:FuncId:=92
abbrev tL:FuncId:=93
abbrev uS:FuncId:=94
abbrev jB:FuncId:=95
abbrev kS:FuncId:=96
abbrev aEo:FuncId:=97
abbrev tT:FuncId:=98
abbrev sA:FuncId:=99
abbrev sD:FuncId:=100
abbrev pW:FuncId:=101
abbrev aBC:FuncId:=102
abbrev aAA:FuncId:=103
abbrev rW:FuncId:=104
abbrev aAU:FuncId:=105
abbrev aBt:FuncId:=106
abbrev tC:FuncId:=107
abbrev mZ:FuncId:=108
abbrev aCV:FuncId:=109
abbrev xK:FuncId:=110
abbrev tQ:FuncId:=111
abbrev aIN:FuncId:=112
abbrev wS:FuncId:=113
abbrev sN:FuncId:=114
abbrev xT:FuncId:=115
abbrev lZ:FuncId:=116
abbrev pG:FuncId:=117
abbrev sC:FuncId:=118
abbrev aHf:FuncId:=119
abbrev aDT:FuncId:=120
abbrev aBo:FuncId:=121
abbrev aAs:FuncId:=122
abbrev aJc:FuncId:=123
abbrev aEB:FuncId:=124
abbrev aEg:FuncId:=125
abbrev oP:FuncId:=126
abbrev lN:FuncId:=127
abbrev aGn:FuncId:=128
abbrev aDf:FuncId:=129
abbrev aBj:FuncId:=130
abbrev aFb:FuncId:=131
abbrev yF:FuncId:=132
abbrev kY:FuncId:=133
abbrev aEc:FuncId:=134
abbrev aHX:FuncId:=135
abbrev aHe:FuncId:=136
abbrev kG:FuncId:=137
abbrev aDe:FuncId:=138
abbrev aKh:FuncId:=139
abbrev uW:FuncId:=140
abbrev xC:FuncId:=141
abbrev wU:FuncId:=142
abbrev sP:FuncId:=143
abbrev aCL:FuncId:=144
abbrev vW:FuncId:=145
abbrev aFp:FuncId:=146
abbrev vV:FuncId:=147
abbrev aF4:FuncId:=148
abbrev jR:FuncId:=149
abbrev aF3:FuncId:=150
abbrev wH:FuncId:=151
abbrev mM:FuncId:=152
abbrev aD8:FuncId:=153
abbrev aLI:FuncId:=154
abbrev aG9:FuncId:=155
abbrev sF:FuncId:=157
abbrev aC0:FuncId:=158
abbrev oC:FuncId:=159
abbrev rI:FuncId:=160
abbrev xU:FuncId:=161
abbrev aCM:FuncId:=162
abbrev aBi:FuncId:=163
abbrev aCQ:FuncId:=164
abbrev vO:FuncId:=165
abbrev oX:FuncId:=166
abbrev iO:FuncId:=167
abbrev aCR:FuncId:=170
abbrev zY:FuncId:=171
abbrev aFg:FuncId:=172
abbrev mE:FuncId:=173
abbrev vU:FuncId:=174
abbrev aFN:FuncId:=175
abbrev aH9:FuncId:=176
abbrev aHd:FuncId:=177
abbrev wB:FuncId:=178
abbrev aGE:FuncId:=179
abbrev nL:FuncId:=180
abbrev aF8:FuncId:=181
abbrev nN:FuncId:=182
abbrev aAL:FuncId:=183
abbrev aDJ:FuncId:=184
abbrev aHa:FuncId:=185
abbrev lS:FuncId:=186
abbrev kA:FuncId:=187
abbrev iS:FuncId:=188
abbrev qW:FuncId:=189
abbrev aEk:FuncId:=190
abbrev zN:FuncId:=191
abbrev tU:FuncId:=192
abbrev wY:FuncId:=193
abbrev lO:FuncId:=194
abbrev aBk:FuncId:=195
abbrev aCt:FuncId:=196
abbrev aBG:FuncId:=197
abbrev tK:FuncId:=198
abbrev zX:FuncId:=199
abbrev zP:FuncId:=200
abbrev aJf:FuncId:=211
abbrev sT:FuncId:=212
abbrev aAP:FuncId:=213
abbrev aFx:FuncId:=214
abbrev aEa:FuncId:=215
abbrev aAu:FuncId:=216
abbrev aEO:FuncId:=217
abbrev aCY:FuncId:=218
abbrev aAO:FuncId:=219
abbrev aIh:FuncId:=225
abbrev aAT:FuncId:=226
abbrev zU:FuncId:=227
abbrev aIw:FuncId:=228
abbrev aId:FuncId:=229
abbrev aH8:FuncId:=230
abbrev aHj:FuncId:=231
abbrev aHN:FuncId:=232
abbrev aCW:FuncId:=233
abbrev aC1:FuncId:=234
abbrev aCI:FuncId:=240
abbrev T_:TypeId:=0
abbrev aR:TypeId:=3
abbrev iI:TypeId:=4
abbrev eZ:TypeId:=5
abbrev aT:TypeId:=9
abbrev dN:TypeId:=22
abbrev dK:TypeId:=24
abbrev eD:TypeId:=25
abbrev iT:TypeId:=26
abbrev qG:TypeId:=29
abbrev hZ:TypeId:=31
abbrev fO:TypeId:=32
abbrev eY:TypeId:=33
abbrev fN:TypeId:=34
abbrev fJ:TypeId:=35
abbrev dU:TypeId:=37
abbrev dC:TypeId:=38
abbrev cR:TypeId:=40
abbrev eK:TypeId:=45
abbrev iG:TypeId:=46
abbrev eV:TypeId:=48
abbrev bT:TypeId:=52
abbrev gK:TypeId:=58
abbrev dV:TypeId:=64
abbrev dQ:TypeId:=66
abbrev iA:TypeId:=67
abbrev gC:TypeId:=69
abbrev dD:TypeId:=71
abbrev dO:TypeId:=73
abbrev fU:TypeId:=75
abbrev gS:TypeId:=77
abbrev cT:TypeId:=79
abbrev dP:TypeId:=81
abbrev dJ:TypeId:=83
abbrev eB:TypeId:=90
abbrev eR:TypeId:=108
abbrev fS:TypeId:=115
abbrev fR:TypeId:=117
abbrev fM:TypeId:=119
abbrev fP:TypeId:=121
abbrev dR:TypeId:=123
abbrev fQ:TypeId:=125
abbrev fH:TypeId:=127
abbrev eJ:TypeId:=129
abbrev zF:TypeId:=138
abbrev oA:TypeId:=173
abbrev fC:TypeId:=174
abbrev eI:TypeId:=176
abbrev gH:TypeId:=178
abbrev fE:TypeId:=185
abbrev aDR:TypeId:=191
abbrev gR:TypeId:=210
abbrev fB:TypeId:=212
abbrev iH:TypeId:=214
abbrev gF:TypeId:=237
abbrev pV:TypeId:=250
abbrev gP:TypeId:=251
abbrev nA:TypeId:=262
abbrev dZ:TypeId:=268
abbrev gI:TypeId:=278
abbrev fI:TypeId:=280
abbrev iM:TypeId:=284
abbrev oO:TypeId:=304
abbrev dL:TypeId:=310
abbrev jD:TypeId:=313
abbrev gL:TypeId:=321
abbrev aDh:TypeId:=325
def aR.und:PG.underlying aR=some (TypeDesc.int IntKind.i64):=Tryz.underlying3
def aR.info:PG.info? aR=some Tryz.t3:=by kernel_rfl
def aR.size:Tryz.t3.size=1:=rfl
def aR.bytes:Tryz.t3.bytes=8:=rfl
def aR.zero:Tryz.t3.zero=some (Value.int IntKind.i64 0):=rfl
def aR.zc:eX PG aR=((Value.int IntKind.i64 0)).cells:=by kernel_rfl
def aR.load{h:PH}{a:Addr}:dH PG h (loadAt aR (.pointer (some a)))=eA h a:=kJ aR.und rfl
abbrev aHS(t:TypeId)(n:Nat):Prop:=∀{h:PH} {r o:Nat} {cs vs:List Value} {k:dI} (H:Bx h r cs) (hl:vs.length=n) (ho:o+n≤cs.length) (hv:∀v∈vs,gN v=true) (hk:∀h',Bx h' r (cs.take o++vs++cs.drop (o+n))->eH [r] h h'->k undef h'),dT PG (dX t (pT r o) (.agg vs.toArray)) h k
def aIg{t:TypeId}{n:Nat}{i:TypeInfo}(hi:PG.info? t=some i)(hn:i.size=n)(h0:0<n):aHS t n:=by
 intro h r o cs vs k H hl ho hv hk;exact H.putN hi (by rw[hl];exact hn) (by omega) (by omega) hv (by rw[hl];exact hk)
abbrev aDB(t:TypeId)(n:Nat):Prop:=∀{h:PH} {r:Nat} {vs:List Value} {k:dI} (hr:h r=none) (hl:vs.length=n) (hv:∀v∈vs,gN v=true) (hk:∀h',Bx h' r vs->eM h h'->k undef h'),dT PG (dX t (pT r 0) (.agg vs.toArray)) (h.set r (.cells (eX PG t) t)) k
def aDr{t:TypeId}{n:Nat}{i:TypeInfo}(hi:PG.info? t=some i)(hn:i.size=n)(h0:0<n)(hz:(eX PG t).size=n):aDB t n:=by
 intro h r vs k hr hl hv hk;exact Bx.fill hr hi (by rw[hl];exact hn) (by omega) (by rw[hz,hl]) hv hk
abbrev aFV(t:TypeId)(n:Nat):Prop:=∀{h:PH} {r o:Nat} {cs:List Value} (H:Bx h r cs) (hle:o+n≤cs.length),dH PG h (loadAt t (pT r o))=some (.agg ((cs.drop o).take n).toArray)
abbrev aQP(t:TypeId)(n:Nat):Prop:=∀{h:PH} {b o:Nat} {c:Array Value} {e:TypeId} {fr:Nat×Nat} (hb:h b=some (.cells c e fr)) (hle:o+n≤c.size),dH PG h (loadAt t (pT b o))=some (.agg (c.extract o (o+n)))
abbrev aFn(t:TypeId):Prop:=∀{h:PH} {r o:Nat} {cs:List Value} {v:Value} {k:dI} (H:Bx h r cs) (ho:o<cs.length) (hv:gN v=true) (hk:∀h',Bx h' r (cs.set o v)->eH [r] h h'->k undef h'),dT PG (dX t (pT r o) v) h k
def aR.put:aFn aR:=λH a b c=>H.put1 aR.und rfl aR.info aR.size a b c
def aR.fill{h:PH}{r:Nat}{v:Value}{k:dI}(hr:h r=none)(hv:gN v=true)(hk:∀h',Bx h' r [v]->eM h h'->k undef h'):dT PG (dX aR (pT r 0) v) (h.set r (.cells (eX PG aR) aR)) k:=Bx.fill1 hr aR.und rfl aR.info aR.size (by rw[aR.zc];rfl) hv hk
def iI.und:PG.underlying iI=some TypeDesc.bool:=Tryz.underlying4
def iI.info:PG.info? iI=some Tryz.t4:=by kernel_rfl
def iI.size:Tryz.t4.size=1:=rfl
def iI.load{h:PH}{a:Addr}:dH PG h (loadAt iI (.pointer (some a)))=eA h a:=kJ iI.und rfl
def iI.put:aFn iI:=λH a b c=>H.put1 iI.und rfl iI.info iI.size a b c
def eZ.und:PG.underlying eZ=some (TypeDesc.int IntKind.u8):=Tryz.underlying5
def eZ.info:PG.info? eZ=some Tryz.t5:=by kernel_rfl
def eZ.size:Tryz.t5.size=1:=rfl
def eZ.bytes:Tryz.t5.bytes=1:=rfl
def eZ.zero:Tryz.t5.zero=some (Value.int IntKind.u8 0):=rfl
def eZ.put:aFn eZ:=λH a b c=>H.put1 eZ.und rfl eZ.info eZ.size a b c
def aT.und:PG.underlying aT=some TypeDesc.string:=Tryz.underlying9
def aT.info:PG.info? aT=some Tryz.t9:=by kernel_rfl
def aT.size:Tryz.t9.size=1:=rfl
def aT.bytes:Tryz.t9.bytes=16:=rfl
def aT.zero:Tryz.t9.zero=some (Value.string {data:=#[]}):=rfl
def aT.load{h:PH}{a:Addr}:dH PG h (loadAt aT (.pointer (some a)))=eA h a:=kJ aT.und rfl
def aT.put:aFn aT:=λH a b c=>H.put1 aT.und rfl aT.info aT.size a b c
def aT.len{s:ByteArray}{t:TypeId}:dE PG (Builtin.len_ #[aT] t #[.string s])=some (.int .i64 s.size):=vP aT.und
def dN.und:PG.underlying dN=some (TypeDesc.int IntKind.u64):=Tryz.underlying22
def dN.info:PG.info? dN=some Tryz.t22:=by kernel_rfl
def dN.size:Tryz.t22.size=1:=rfl
def dN.load{h:PH}{a:Addr}:dH PG h (loadAt dN (.pointer (some a)))=eA h a:=kJ dN.und rfl
def dN.put:aFn dN:=λH a b c=>H.put1 dN.und rfl dN.info dN.size a b c
def dK.und:PG.underlying dK=some (TypeDesc.struct #[{name:="Height",type:=22,offset:=0,embedded:=false,tag:="",pkgPath:="",byteOffset:=0},{name:="Index",type:=3,offset:=1,embedded:=false,tag:="",pkgPath:="",byteOffset:=8}]):=Tryz.underlying24
def dK.info:PG.info? dK=some Tryz.t24:=by kernel_rfl
def dK.size:Tryz.t24.size=2:=rfl
def dK.zbox{h:PH}{r:Nat}:Bx (h.set r (.cells (eX PG dK) dK)) r ((Value.agg #[Value.int IntKind.u64 0,Value.int IntKind.i64 0])).cells.toList:=Bx.zero (by kernel_rfl)
def dK.zc:eX PG dK=((Value.agg #[Value.int IntKind.u64 0,Value.int IntKind.i64 0])).cells:=by kernel_rfl
def dK.loadAgg:aQP dK 2:=aAv dK.und rfl dK.info dK.size
def dK.agg:aFV dK 2:=λH=>H.agg dK.und rfl dK.info dK.size
def dK.put:aHS dK 2:=aIg dK.info rfl (by decide)
def dK.fill:aDB dK 2:=aDr dK.info rfl (by decide) (by rw[dK.zc];rfl)
abbrev fAz(t:TypeId)(i:Nat):Prop:=∀{b o:Nat},dE PG (fieldAt t (pT b o) i)=some (pT b o)
def dK.f0:fAz dK 0:=by intro _ _;kernel_rfl
abbrev mN(t:TypeId)(i n:Nat):Prop:=∀{b o:Nat},dE PG (fieldAt t (pT b o) i)=some (pT b (o+n))
def dK.f1:mN dK 1 1:=by intro _ _;kernel_rfl
def eD.und:PG.underlying eD=some (TypeDesc.array 2 24):=Tryz.underlying25
def eD.info:PG.info? eD=some Tryz.t25:=by kernel_rfl
def eD.size:Tryz.t25.size=4:=rfl
def eD.agg:aFV eD 4:=λH=>H.agg eD.und rfl eD.info eD.size
def iT.und:PG.underlying iT=some (TypeDesc.slice 48):=Tryz.underlying26
def qG.und:PG.underlying qG=some (TypeDesc.pointer 37):=Tryz.underlying29
def hZ.und:PG.underlying hZ=some (TypeDesc.pointer 119):=Tryz.underlying31
def hZ.load{h:PH}{a:Addr}:dH PG h (loadAt hZ (.pointer (some a)))=eA h a:=kJ hZ.und rfl
def fO.und:PG.underlying fO=some (TypeDesc.pointer 77):=Tryz.underlying32
def fO.info:PG.info? fO=some Tryz.t32:=by kernel_rfl
def fO.size:Tryz.t32.size=1:=rfl
def fO.load{h:PH}{a:Addr}:dH PG h (loadAt fO (.pointer (some a)))=eA h a:=kJ fO.und rfl
def fO.put:aFn fO:=λH a b c=>H.put1 fO.und rfl fO.info fO.size a b c
def eY.und:PG.underlying eY=some (TypeDesc.int IntKind.i64):=Tryz.underlying33
def eY.info:PG.info? eY=some Tryz.t33:=by kernel_rfl
def eY.size:Tryz.t33.size=1:=rfl
def eY.zbox{h:PH}{r:Nat}:Bx (h.set r (.cells (eX PG eY) eY)) r ((Value.int IntKind.i64 0)).cells.toList:=Bx.zero (by kernel_rfl)
def eY.load{h:PH}{a:Addr}:dH PG h (loadAt eY (.pointer (some a)))=eA h a:=kJ eY.und rfl
def eY.put:aFn eY:=λH a b c=>H.put1 eY.und rfl eY.info eY.size a b c
def fN.und:PG.underlying fN=some (TypeDesc.pointer 66):=Tryz.underlying34
def fN.load{h:PH}{a:Addr}:dH PG h (loadAt fN (.pointer (some a)))=eA h a:=kJ fN.und rfl
def fJ.und:PG.underlying fJ=some (TypeDesc.pointer 69):=Tryz.underlying35
def fJ.info:PG.info? fJ=some Tryz.t35:=by kernel_rfl
def fJ.size:Tryz.t35.size=1:=rfl
def fJ.load{h:PH}{a:Addr}:dH PG h (loadAt fJ (.pointer (some a)))=eA h a:=kJ fJ.und rfl
def fJ.put:aFn fJ:=λH a b c=>H.put1 fJ.und rfl fJ.info fJ.size a b c
def dU.f0:fAz dU 0:=by intro _ _;kernel_rfl
def dU.f1:mN dU 1 1:=by intro _ _;kernel_rfl
def dU.f2:mN dU 2 2:=by intro _ _;kernel_rfl
def dU.f3:mN dU 3 3:=by intro _ _;kernel_rfl
def dU.f4:mN dU 4 4:=by intro _ _;kernel_rfl
def dU.f5:mN dU 5 5:=by intro _ _;kernel_rfl
def dU.f6:mN dU 6 6:=by intro _ _;kernel_rfl
def dC.und:PG.underlying dC=some (TypeDesc.slice 83):=Tryz.underlying38
def dC.info:PG.info? dC=some Tryz.t38:=by kernel_rfl
def dC.size:Tryz.t38.size=1:=rfl
def dC.load{h:PH}{a:Addr}:dH PG h (loadAt dC (.pointer (some a)))=eA h a:=kJ dC.und rfl
def dC.put:aFn dC:=λH a b c=>H.put1 dC.und rfl dC.info dC.size a b c
def cR.und:PG.underlying cR=some (TypeDesc.struct #[{name:="Places",type:=25,offset:=0,embedded:=false,tag:="",pkgPath:="",byteOffset:=0},{name:="Items",type:=38,offset:=4,embedded:=false,tag:="",pkgPath:="",byteOffset:=32}]):=Tryz.underlying40
def cR.info:PG.info? cR=some Tryz.t40:=by kernel_rfl
def cR.size:Tryz.t40.size=5:=rfl
def cR.zbox{h:PH}{r:Nat}:Bx (h.set r (.cells (eX PG cR) cR)) r ((Value.agg #[Value.int IntKind.u64 0,Value.int IntKind.i64 0,Value.int IntKind.u64 0,Value.int IntKind.i64 0,Value.slice none 0 0])).cells.toList:=Bx.zero (by kernel_rfl)
def cR.zc:eX PG cR=((Value.agg #[Value.int IntKind.u64 0,Value.int IntKind.i64 0,Value.int IntKind.u64 0,Value.int IntKind.i64 0,Value.slice none 0 0])).cells:=by kernel_rfl
def cR.agg:aFV cR 5:=λH=>H.agg cR.und rfl cR.info cR.size
def cR.put:aHS cR 5:=aIg cR.info rfl (by decide)
def cR.fill:aDB cR 5:=aDr cR.info rfl (by decide) (by rw[cR.zc];rfl)
def cR.f0:fAz cR 0:=by intro _ _;kernel_rfl
def cR.f1:mN cR 1 4:=by intro _ _;kernel_rfl
def eK.und:PG.underlying eK=some (TypeDesc.slice 81):=Tryz.underlying45
def eK.info:PG.info? eK=some Tryz.t45:=by kernel_rfl
def eK.size:Tryz.t45.size=1:=rfl
def eK.load{h:PH}{a:Addr}:dH PG h (loadAt eK (.pointer (some a)))=eA h a:=kJ eK.und rfl
def eK.put:aFn eK:=λH a b c=>H.put1 eK.und rfl eK.info eK.size a b c
def iG.und:PG.underlying iG=some (TypeDesc.slice 58):=Tryz.underlying46
def iG.load{h:PH}{a:Addr}:dH PG h (loadAt iG (.pointer (some a)))=eA h a:=kJ iG.und rfl
def eV.und:PG.underlying eV=some (TypeDesc.struct #[{name:="Kind",type:=3,offset:=0,embedded:=false,tag:="",pkgPath:="",byteOffset:=0},{name:="N",type:=3,offset:=1,embedded:=false,tag:="",pkgPath:="",byteOffset:=8},{name:="Chain",type:=3,offset:=2,embedded:=false,tag:="",pkgPath:="",byteOffset:=16},{name:="At",type:=24,offset:=3,embedded:=false,tag:="",pkgPath:="",byteOffset:=24},{name:="L",type:=45,offset:=5,embedded:=false,tag:="",pkgPath:="",byteOffset:=40},{name:="W",type:=46,offset:=6,embedded:=false,tag:="",pkgPath:="",byteOffset:=64}]):=Tryz.underlying48
def eV.info:PG.info? eV=some Tryz.t48:=by kernel_rfl
def eV.size:Tryz.t48.size=7:=rfl
def eV.f0:fAz eV 0:=by intro _ _;kernel_rfl
def eV.f1:mN eV 1 1:=by intro _ _;kernel_rfl
def eV.f2:mN eV 2 2:=by intro _ _;kernel_rfl
def eV.f3:mN eV 3 3:=by intro _ _;kernel_rfl
def eV.f4:mN eV 4 5:=by intro _ _;kernel_rfl
def eV.f5:mN eV 5 6:=by intro _ _;kernel_rfl
def bT.und:PG.underlying bT=some (TypeDesc.struct #[{name:="Kind",type:=3,offset:=0,embedded:=false,tag:="",pkgPath:="",byteOffset:=0},{name:="State",type:=40,offset:=1,embedded:=false,tag:="",pkgPath:="",byteOffset:=8},{name:="Chain",type:=3,offset:=6,embedded:=false,tag:="",pkgPath:="",byteOffset:=64},{name:="Place",type:=24,offset:=7,embedded:=false,tag:="",pkgPath:="",byteOffset:=72},{name:="Notes",type:=45,offset:=9,embedded:=false,tag:="",pkgPath:="",byteOffset:=88}]):=Tryz.underlying52
def bT.info:PG.info? bT=some Tryz.t52:=by kernel_rfl
def bT.size:Tryz.t52.size=10:=rfl
def bT.zbox{h:PH}{r:Nat}:Bx (h.set r (.cells (eX PG bT) bT)) r ((Value.agg #[Value.int IntKind.i64 0,Value.int IntKind.u64 0,Value.int IntKind.i64 0,Value.int IntKind.u64 0,Value.int IntKind.i64 0,Value.slice none 0 0,Value.int IntKind.i64 0,Value.int IntKind.u64 0,Value.int IntKind.i64 0,Value.slice none 0 0])).cells.toList:=Bx.zero (by kernel_rfl)
def bT.zc:eX PG bT=((Value.agg #[Value.int IntKind.i64 0,Value.int IntKind.u64 0,Value.int IntKind.i64 0,Value.int IntKind.u64 0,Value.int IntKind.i64 0,Value.slice none 0 0,Value.int IntKind.i64 0,Value.int IntKind.u64 0,Value.int IntKind.i64 0,Value.slice none 0 0])).cells:=by kernel_rfl
def bT.agg:aFV bT 10:=λH=>H.agg bT.und rfl bT.info bT.size
def bT.put:aHS bT 10:=aIg bT.info rfl (by decide)
def bT.fill:aDB bT 10:=aDr bT.info rfl (by decide) (by rw[bT.zc];rfl)
def bT.f0:fAz bT 0:=by intro _ _;kernel_rfl
def bT.f1:mN bT 1 1:=by intro _ _;kernel_rfl
def bT.f2:mN bT 2 6:=by intro _ _;kernel_rfl
def bT.f3:mN bT 3 7:=by intro _ _;kernel_rfl
def bT.f4:mN bT 4 9:=by intro _ _;kernel_rfl
def gK.und:PG.underlying gK=some (TypeDesc.struct #[{name:="Lasts",type:=4,offset:=0,embedded:=false,tag:="",pkgPath:="",byteOffset:=0},{name:="Torn",type:=3,offset:=1,embedded:=false,tag:="",pkgPath:="",byteOffset:=8}]):=Tryz.underlying58
def gK.info:PG.info? gK=some Tryz.t58:=by kernel_rfl
def gK.size:Tryz.t58.size=2:=rfl
def gK.zc:eX PG gK=((Value.agg #[Value.bool false,Value.int IntKind.i64 0])).cells:=by kernel_rfl
def gK.fill:aDB gK 2:=aDr gK.info rfl (by decide) (by rw[gK.zc];rfl)
def gK.f0:fAz gK 0:=by intro _ _;kernel_rfl
def gK.f1:mN gK 1 1:=by intro _ _;kernel_rfl
def dV.und:PG.underlying dV=some (TypeDesc.slice 185):=Tryz.underlying64
def dV.info:PG.info? dV=some Tryz.t64:=by kernel_rfl
def dV.size:Tryz.t64.size=1:=rfl
def dV.load{h:PH}{a:Addr}:dH PG h (loadAt dV (.pointer (some a)))=eA h a:=kJ dV.und rfl
def dV.put:aFn dV:=λH a b c=>H.put1 dV.und rfl dV.info dV.size a b c
def dQ.f0:fAz dQ 0:=by intro _ _;kernel_rfl
def dQ.f1:mN dQ 1 1:=by intro _ _;kernel_rfl
def dQ.f2:mN dQ 2 2:=by intro _ _;kernel_rfl
def dQ.f3:mN dQ 3 3:=by intro _ _;kernel_rfl
def dQ.f4:mN dQ 4 4:=by intro _ _;kernel_rfl
def iA.und:PG.underlying iA=some (TypeDesc.pointer 73):=Tryz.underlying67
def iA.load{h:PH}{a:Addr}:dH PG h (loadAt iA (.pointer (some a)))=eA h a:=kJ iA.und rfl
def gC.f0:fAz gC 0:=by intro _ _;kernel_rfl
def gC.f1:mN gC 1 1:=by intro _ _;kernel_rfl
def gC.f2:mN gC 2 2:=by intro _ _;kernel_rfl
def dD.und:PG.underlying dD=some (TypeDesc.struct #[{name:="Gen",type:=22,offset:=0,embedded:=false,tag:="",pkgPath:="",byteOffset:=0},{name:="Segment",type:=3,offset:=1,embedded:=false,tag:="",pkgPath:="",byteOffset:=8}]):=Tryz.underlying71
def dD.info:PG.info? dD=some Tryz.t71:=by kernel_rfl
def dD.size:Tryz.t71.size=2:=rfl
def dD.zbox{h:PH}{r:Nat}:Bx (h.set r (.cells (eX PG dD) dD)) r ((Value.agg #[Value.int IntKind.u64 0,Value.int IntKind.i64 0])).cells.toList:=Bx.zero (by kernel_rfl)
def dD.zc:eX PG dD=((Value.agg #[Value.int IntKind.u64 0,Value.int IntKind.i64 0])).cells:=by kernel_rfl
def dD.agg:aFV dD 2:=λH=>H.agg dD.und rfl dD.info dD.size
def dD.put:aHS dD 2:=aIg dD.info rfl (by decide)
def dD.fill:aDB dD 2:=aDr dD.info rfl (by decide) (by rw[dD.zc];rfl)
def dD.f0:fAz dD 0:=by intro _ _;kernel_rfl
def dD.f1:mN dD 1 1:=by intro _ _;kernel_rfl
def dO.f0:fAz dO 0:=by intro _ _;kernel_rfl
def dO.f1:mN dO 1 1:=by intro _ _;kernel_rfl
def dO.f2:mN dO 2 3:=by intro _ _;kernel_rfl
def dO.f3:mN dO 3 4:=by intro _ _;kernel_rfl
def dO.f4:mN dO 4 5:=by intro _ _;kernel_rfl
def dO.f5:mN dO 5 6:=by intro _ _;kernel_rfl
def dO.f6:mN dO 6 7:=by intro _ _;kernel_rfl
def fU.und:PG.underlying fU=some (TypeDesc.pointer 127):=Tryz.underlying75
def fU.load{h:PH}{a:Addr}:dH PG h (loadAt fU (.pointer (some a)))=eA h a:=kJ fU.und rfl
def gS.f0:fAz gS 0:=by intro _ _;kernel_rfl
def gS.f1:mN gS 1 1:=by intro _ _;kernel_rfl
def gS.f2:mN gS 2 2:=by intro _ _;kernel_rfl
def cT.und:PG.underlying cT=some (TypeDesc.struct #[{name:="From",type:=3,offset:=0,embedded:=false,tag:="",pkgPath:="",byteOffset:=0},{name:="Seq",type:=22,offset:=1,embedded:=false,tag:="",pkgPath:="",byteOffset:=8},{name:="Timeout",type:=22,offset:=2,embedded:=false,tag:="",pkgPath:="",byteOffset:=16},{name:="Data",type:=9,offset:=3,embedded:=false,tag:="",pkgPath:="",byteOffset:=24}]):=Tryz.underlying79
def cT.info:PG.info? cT=some Tryz.t79:=by kernel_rfl
def cT.size:Tryz.t79.size=4:=rfl
def cT.bytes:Tryz.t79.bytes=40:=rfl
def cT.zero:Tryz.t79.zero=some (Value.agg #[Value.int IntKind.i64 0,Value.int IntKind.u64 0,Value.int IntKind.u64 0,Value.string {data:=#[]}]):=rfl
def cT.zbox{h:PH}{r:Nat}:Bx (h.set r (.cells (eX PG cT) cT)) r ((Value.agg #[Value.int IntKind.i64 0,Value.int IntKind.u64 0,Value.int IntKind.u64 0,Value.string {data:=#[]}])).cells.toList:=Bx.zero (by kernel_rfl)
def cT.zc:eX PG cT=((Value.agg #[Value.int IntKind.i64 0,Value.int IntKind.u64 0,Value.int IntKind.u64 0,Value.string {data:=#[]}])).cells:=by kernel_rfl
def cT.loadAgg:aQP cT 4:=aAv cT.und rfl cT.info cT.size
def cT.agg:aFV cT 4:=λH=>H.agg cT.und rfl cT.info cT.size
def cT.put:aHS cT 4:=aIg cT.info rfl (by decide)
def cT.fill:aDB cT 4:=aDr cT.info rfl (by decide) (by rw[cT.zc];rfl)
def cT.f0:fAz cT 0:=by intro _ _;kernel_rfl
def cT.f1:mN cT 1 1:=by intro _ _;kernel_rfl
def cT.f2:mN cT 2 2:=by intro _ _;kernel_rfl
def cT.f3:mN cT 3 3:=by intro _ _;kernel_rfl
def dP.und:PG.underlying dP=some (TypeDesc.struct #[{name:="Kind",type:=3,offset:=0,embedded:=false,tag:="",pkgPath:="",byteOffset:=0},{name:="Packet",type:=79,offset:=1,embedded:=false,tag:="",pkgPath:="",byteOffset:=8}]):=Tryz.underlying81
def dP.info:PG.info? dP=some Tryz.t81:=by kernel_rfl
def dP.size:Tryz.t81.size=5:=rfl
def dP.bytes:Tryz.t81.bytes=48:=rfl
def dP.zero:Tryz.t81.zero=some (Value.agg #[Value.int IntKind.i64 0,Value.int IntKind.i64 0,Value.int IntKind.u64 0,Value.int IntKind.u64 0,Value.string {data:=#[]}]):=rfl
def dP.zbox{h:PH}{r:Nat}:Bx (h.set r (.cells (eX PG dP) dP)) r ((Value.agg #[Value.int IntKind.i64 0,Value.int IntKind.i64 0,Value.int IntKind.u64 0,Value.int IntKind.u64 0,Value.string {data:=#[]}])).cells.toList:=Bx.zero (by kernel_rfl)
def dP.zc:eX PG dP=((Value.agg #[Value.int IntKind.i64 0,Value.int IntKind.i64 0,Value.int IntKind.u64 0,Value.int IntKind.u64 0,Value.string {data:=#[]}])).cells:=by kernel_rfl
def dP.loadAgg:aQP dP 5:=aAv dP.und rfl dP.info dP.size
def dP.agg:aFV dP 5:=λH=>H.agg dP.und rfl dP.info dP.size
def dP.put:aHS dP 5:=aIg dP.info rfl (by decide)
def dP.fill:aDB dP 5:=aDr dP.info rfl (by decide) (by rw[dP.zc];rfl)
def dP.f0:fAz dP 0:=by intro _ _;kernel_rfl
def dP.f1:mN dP 1 1:=by intro _ _;kernel_rfl
def dJ.und:PG.underlying dJ=some (TypeDesc.struct #[{name:="Packet",type:=79,offset:=0,embedded:=false,tag:="",pkgPath:="",byteOffset:=0},{name:="Stage",type:=3,offset:=4,embedded:=false,tag:="",pkgPath:="",byteOffset:=40}]):=Tryz.underlying83
def dJ.info:PG.info? dJ=some Tryz.t83:=by kernel_rfl
def dJ.size:Tryz.t83.size=5:=rfl
def dJ.bytes:Tryz.t83.bytes=48:=rfl
def dJ.zero:Tryz.t83.zero=some (Value.agg #[Value.int IntKind.i64 0,Value.int IntKind.u64 0,Value.int IntKind.u64 0,Value.string {data:=#[]},Value.int IntKind.i64 0]):=rfl
def dJ.zbox{h:PH}{r:Nat}:Bx (h.set r (.cells (eX PG dJ) dJ)) r ((Value.agg #[Value.int IntKind.i64 0,Value.int IntKind.u64 0,Value.int IntKind.u64 0,Value.string {data:=#[]},Value.int IntKind.i64 0])).cells.toList:=Bx.zero (by kernel_rfl)
def dJ.zc:eX PG dJ=((Value.agg #[Value.int IntKind.i64 0,Value.int IntKind.u64 0,Value.int IntKind.u64 0,Value.string {data:=#[]},Value.int IntKind.i64 0])).cells:=by kernel_rfl
def dJ.loadAgg:aQP dJ 5:=aAv dJ.und rfl dJ.info dJ.size
def dJ.agg:aFV dJ 5:=λH=>H.agg dJ.und rfl dJ.info dJ.size
def dJ.put:aHS dJ 5:=aIg dJ.info rfl (by decide)
def dJ.fill:aDB dJ 5:=aDr dJ.info rfl (by decide) (by rw[dJ.zc];rfl)
def dJ.f0:fAz dJ 0:=by intro _ _;kernel_rfl
def dJ.f1:mN dJ 1 4:=by intro _ _;kernel_rfl
def eB.und:PG.underlying eB=some (TypeDesc.slice 9):=Tryz.underlying90
def eB.info:PG.info? eB=some Tryz.t90:=by kernel_rfl
def eB.size:Tryz.t90.size=1:=rfl
def eB.zbox{h:PH}{r:Nat}:Bx (h.set r (.cells (eX PG eB) eB)) r ((Value.slice none 0 0)).cells.toList:=Bx.zero (by kernel_rfl)
def eB.load{h:PH}{a:Addr}:dH PG h (loadAt eB (.pointer (some a)))=eA h a:=kJ eB.und rfl
def eB.put:aFn eB:=λH a b c=>H.put1 eB.und rfl eB.info eB.size a b c
def eR.f0:fAz eR 0:=by intro _ _;kernel_rfl
def eR.f1:mN eR 1 1:=by intro _ _;kernel_rfl
def fS.und:PG.underlying fS=some (TypeDesc.slice 121):=Tryz.underlying115
def fS.info:PG.info? fS=some Tryz.t115:=by kernel_rfl
def fS.size:Tryz.t115.size=1:=rfl
def fS.load{h:PH}{a:Addr}:dH PG h (loadAt fS (.pointer (some a)))=eA h a:=kJ fS.und rfl
def fS.put:aFn fS:=λH a b c=>H.put1 fS.und rfl fS.info fS.size a b c
def fR.und:PG.underlying fR=some (TypeDesc.struct #[{name:="size",type:=3,offset:=0,embedded:=false,tag:="",pkgPath:="carrack/disk",byteOffset:=0},{name:="sectors",type:=3,offset:=1,embedded:=false,tag:="",pkgPath:="carrack/disk",byteOffset:=8}]):=Tryz.underlying117
def fR.info:PG.info? fR=some Tryz.t117:=by kernel_rfl
def fR.size:Tryz.t117.size=2:=rfl
def fR.agg:aFV fR 2:=λH=>H.agg fR.und rfl fR.info fR.size
def fR.f0:fAz fR 0:=by intro _ _;kernel_rfl
def fR.f1:mN fR 1 1:=by intro _ _;kernel_rfl
def fM.f0:fAz fM 0:=by intro _ _;kernel_rfl
def fM.f1:mN fM 1 2:=by intro _ _;kernel_rfl
def fM.f2:mN fM 2 3:=by intro _ _;kernel_rfl
def fM.f3:mN fM 3 4:=by intro _ _;kernel_rfl
def fP.und:PG.underlying fP=some (TypeDesc.struct #[{name:="sector",type:=3,offset:=0,embedded:=false,tag:="",pkgPath:="carrack/disk",byteOffset:=0},{name:="s",type:=9,offset:=1,embedded:=false,tag:="",pkgPath:="carrack/disk",byteOffset:=8}]):=Tryz.underlying121
def fP.info:PG.info? fP=some Tryz.t121:=by kernel_rfl
def fP.size:Tryz.t121.size=2:=rfl
def fP.bytes:Tryz.t121.bytes=24:=rfl
def fP.zero:Tryz.t121.zero=some (Value.agg #[Value.int IntKind.i64 0,Value.string {data:=#[]}]):=rfl
def fP.zc:eX PG fP=((Value.agg #[Value.int IntKind.i64 0,Value.string {data:=#[]}])).cells:=by kernel_rfl
def fP.fill:aDB fP 2:=aDr fP.info rfl (by decide) (by rw[fP.zc];rfl)
def fP.f0:fAz fP 0:=by intro _ _;kernel_rfl
def fP.f1:mN fP 1 1:=by intro _ _;kernel_rfl
def dR.und:PG.underlying dR=some (TypeDesc.struct #[{name:="Gen",type:=22,offset:=0,embedded:=false,tag:="",pkgPath:="",byteOffset:=0},{name:="Segment",type:=3,offset:=1,embedded:=false,tag:="",pkgPath:="",byteOffset:=8}]):=Tryz.underlying123
def dR.info:PG.info? dR=some Tryz.t123:=by kernel_rfl
def dR.size:Tryz.t123.size=2:=rfl
def dR.zbox{h:PH}{r:Nat}:Bx (h.set r (.cells (eX PG dR) dR)) r ((Value.agg #[Value.int IntKind.u64 0,Value.int IntKind.i64 0])).cells.toList:=Bx.zero (by kernel_rfl)
def dR.zc:eX PG dR=((Value.agg #[Value.int IntKind.u64 0,Value.int IntKind.i64 0])).cells:=by kernel_rfl
def dR.agg:aFV dR 2:=λH=>H.agg dR.und rfl dR.info dR.size
def dR.put:aHS dR 2:=aIg dR.info rfl (by decide)
def dR.fill:aDB dR 2:=aDr dR.info rfl (by decide) (by rw[dR.zc];rfl)
def dR.f0:fAz dR 0:=by intro _ _;kernel_rfl
def dR.f1:mN dR 1 1:=by intro _ _;kernel_rfl
def fQ.und:PG.underlying fQ=some (TypeDesc.struct #[{name:="Disk",type:=31,offset:=0,embedded:=true,tag:="",pkgPath:="",byteOffset:=0}]):=Tryz.underlying125
def fQ.info:PG.info? fQ=some Tryz.t125:=by kernel_rfl
def fQ.size:Tryz.t125.size=1:=rfl
def fQ.agg:aFV fQ 1:=λH=>H.agg fQ.und rfl fQ.info fQ.size
def fQ.f0:fAz fQ 0:=by intro _ _;kernel_rfl
def fH.f0:fAz fH 0:=by intro _ _;kernel_rfl
def fH.f1:mN fH 1 1:=by intro _ _;kernel_rfl
def fH.f2:mN fH 2 3:=by intro _ _;kernel_rfl
def fH.f3:mN fH 3 4:=by intro _ _;kernel_rfl
def fH.f4:mN fH 4 5:=by intro _ _;kernel_rfl
def fH.f5:mN fH 5 6:=by intro _ _;kernel_rfl
def fH.f6:mN fH 6 7:=by intro _ _;kernel_rfl
def eJ.und:PG.underlying eJ=some (TypeDesc.slice 5):=Tryz.underlying129
def eJ.info:PG.info? eJ=some Tryz.t129:=by kernel_rfl
def eJ.size:Tryz.t129.size=1:=rfl
def eJ.load{h:PH}{a:Addr}:dH PG h (loadAt eJ (.pointer (some a)))=eA h a:=kJ eJ.und rfl
def eJ.len{a:Option Addr}{n c:Nat}{t:TypeId}:dE PG (Builtin.len_ #[eJ] t #[.slice a n c])=some (.int .i64 n):=aOL eJ.und
def zF.und:PG.underlying zF=some (TypeDesc.slice 24):=Tryz.underlying138
def oA.f0:fAz oA 0:=by intro _ _;kernel_rfl
def fC.und:PG.underlying fC=some (TypeDesc.pointer 176):=Tryz.underlying174
def fC.info:PG.info? fC=some Tryz.t174:=by kernel_rfl
def fC.size:Tryz.t174.size=1:=rfl
def fC.load{h:PH}{a:Addr}:dH PG h (loadAt fC (.pointer (some a)))=eA h a:=kJ fC.und rfl
def eI.info:PG.info? eI=some Tryz.t176:=by kernel_rfl
def eI.size:Tryz.t176.size=2:=rfl
def eI.zc:eX PG eI=((Value.agg #[Value.pointer none,Value.slice none 0 0])).cells:=by kernel_rfl
def eI.f0:fAz eI 0:=by intro _ _;kernel_rfl
def eI.f1:mN eI 1 1:=by intro _ _;kernel_rfl
def gH.zc:eX PG gH=((Value.agg #[Value.int IntKind.i64 0,Value.pointer none,Value.slice none 0 0])).cells:=by kernel_rfl
def gH.f0:fAz gH 0:=by intro _ _;kernel_rfl
def gH.f1:mN gH 1 1:=by intro _ _;kernel_rfl
def fE.info:PG.info? fE=some Tryz.t185:=by kernel_rfl
def fE.size:Tryz.t185.size=2:=rfl
def fE.bytes:Tryz.t185.bytes=24:=rfl
def fE.zero:Tryz.t185.zero=some (Value.agg #[Value.int IntKind.i64 0,Value.string {data:=#[]}]):=rfl
def fE.f0:fAz fE 0:=by intro _ _;kernel_rfl
def fE.f1:mN fE 1 1:=by intro _ _;kernel_rfl
def gR.und:PG.underlying gR=some (TypeDesc.struct #[{name:="from",type:=3,offset:=0,embedded:=false,tag:="",pkgPath:="carrack/table",byteOffset:=0},{name:="seq",type:=22,offset:=1,embedded:=false,tag:="",pkgPath:="carrack/table",byteOffset:=8}]):=Tryz.underlying210
def gR.info:PG.info? gR=some Tryz.t210:=by kernel_rfl
def gR.size:Tryz.t210.size=2:=rfl
def gR.zc:eX PG gR=((Value.agg #[Value.int IntKind.i64 0,Value.int IntKind.u64 0])).cells:=by kernel_rfl
def gR.loadAgg:aQP gR 2:=aAv gR.und rfl gR.info gR.size
def fB.und:PG.underlying fB=some (TypeDesc.map 210 83):=Tryz.underlying212
def fB.load{h:PH}{a:Addr}:dH PG h (loadAt fB (.pointer (some a)))=eA h a:=kJ fB.und rfl
def iH.f0:fAz iH 0:=by intro _ _;kernel_rfl
def iH.f1:mN iH 1 1:=by intro _ _;kernel_rfl
def gF.f0:fAz gF 0:=by intro _ _;kernel_rfl
def gF.f1:mN gF 1 1:=by intro _ _;kernel_rfl
def gP.und:PG.underlying gP=some (TypeDesc.int IntKind.u32):=Tryz.underlying251
def gP.info:PG.info? gP=some Tryz.t251:=by kernel_rfl
def gP.size:Tryz.t251.size=1:=rfl
def gP.load{h:PH}{a:Addr}:dH PG h (loadAt gP (.pointer (some a)))=eA h a:=kJ gP.und rfl
def gP.put:aFn gP:=λH a b c=>H.put1 gP.und rfl gP.info gP.size a b c
def nA.und:PG.underlying nA=some (TypeDesc.slice 3):=Tryz.underlying262
def dZ.und:PG.underlying dZ=some (TypeDesc.struct #[{name:="Gen",type:=22,offset:=0,embedded:=false,tag:="",pkgPath:="",byteOffset:=0},{name:="Serial",type:=22,offset:=1,embedded:=false,tag:="",pkgPath:="",byteOffset:=8},{name:="Part",type:=3,offset:=2,embedded:=false,tag:="",pkgPath:="",byteOffset:=16},{name:="Parts",type:=3,offset:=3,embedded:=false,tag:="",pkgPath:="",byteOffset:=24},{name:="Bytes",type:=9,offset:=4,embedded:=false,tag:="",pkgPath:="",byteOffset:=32}]):=Tryz.underlying268
def dZ.info:PG.info? dZ=some Tryz.t268:=by kernel_rfl
def dZ.size:Tryz.t268.size=5:=rfl
def dZ.zbox{h:PH}{r:Nat}:Bx (h.set r (.cells (eX PG dZ) dZ)) r ((Value.agg #[Value.int IntKind.u64 0,Value.int IntKind.u64 0,Value.int IntKind.i64 0,Value.int IntKind.i64 0,Value.string {data:=#[]}])).cells.toList:=Bx.zero (by kernel_rfl)
def dZ.zc:eX PG dZ=((Value.agg #[Value.int IntKind.u64 0,Value.int IntKind.u64 0,Value.int IntKind.i64 0,Value.int IntKind.i64 0,Value.string {data:=#[]}])).cells:=by kernel_rfl
def dZ.agg:aFV dZ 5:=λH=>H.agg dZ.und rfl dZ.info dZ.size
def dZ.put:aHS dZ 5:=aIg dZ.info rfl (by decide)
def dZ.fill:aDB dZ 5:=aDr dZ.info rfl (by decide) (by rw[dZ.zc];rfl)
def dZ.f0:fAz dZ 0:=by intro _ _;kernel_rfl
def dZ.f1:mN dZ 1 1:=by intro _ _;kernel_rfl
def dZ.f2:mN dZ 2 2:=by intro _ _;kernel_rfl
def dZ.f3:mN dZ 3 3:=by intro _ _;kernel_rfl
def dZ.f4:mN dZ 4 4:=by intro _ _;kernel_rfl
def gI.und:PG.underlying gI=some (TypeDesc.func #[134,210,79] #[33] false):=Tryz.underlying278
def gI.info:PG.info? gI=some Tryz.t278:=by kernel_rfl
def gI.size:Tryz.t278.size=1:=rfl
def gI.load{h:PH}{a:Addr}:dH PG h (loadAt gI (.pointer (some a)))=eA h a:=kJ gI.und rfl
def fI.und:PG.underlying fI=some (TypeDesc.array 5 278):=Tryz.underlying280
def fI.info:PG.info? fI=some Tryz.t280:=by kernel_rfl
def fI.zc:eX PG fI=((Value.agg #[Value.nilFunc,Value.nilFunc,Value.nilFunc,Value.nilFunc,Value.nilFunc])).cells:=by kernel_rfl
def iM.und:PG.underlying iM=some TypeDesc.unsafePointer:=Tryz.underlying284
def oO.und:PG.underlying oO=some (TypeDesc.array 4 5):=Tryz.underlying304
def oO.zbox{h:PH}{r:Nat}:Bx (h.set r (.cells (eX PG oO) oO)) r ((Value.agg #[Value.int IntKind.u8 0,Value.int IntKind.u8 0,Value.int IntKind.u8 0,Value.int IntKind.u8 0])).cells.toList:=Bx.zero (by kernel_rfl)
def dL.und:PG.underlying dL=some (TypeDesc.struct #[{name:="Gen",type:=22,offset:=0,embedded:=false,tag:="",pkgPath:="",byteOffset:=0},{name:="Serial",type:=22,offset:=1,embedded:=false,tag:="",pkgPath:="",byteOffset:=8},{name:="Part",type:=3,offset:=2,embedded:=false,tag:="",pkgPath:="",byteOffset:=16},{name:="Parts",type:=3,offset:=3,embedded:=false,tag:="",pkgPath:="",byteOffset:=24},{name:="Bytes",type:=9,offset:=4,embedded:=false,tag:="",pkgPath:="",byteOffset:=32}]):=Tryz.underlying310
def dL.info:PG.info? dL=some Tryz.t310:=by kernel_rfl
def dL.size:Tryz.t310.size=5:=rfl
def dL.zbox{h:PH}{r:Nat}:Bx (h.set r (.cells (eX PG dL) dL)) r ((Value.agg #[Value.int IntKind.u64 0,Value.int IntKind.u64 0,Value.int IntKind.i64 0,Value.int IntKind.i64 0,Value.string {data:=#[]}])).cells.toList:=Bx.zero (by kernel_rfl)
def dL.zc:eX PG dL=((Value.agg #[Value.int IntKind.u64 0,Value.int IntKind.u64 0,Value.int IntKind.i64 0,Value.int IntKind.i64 0,Value.string {data:=#[]}])).cells:=by kernel_rfl
def dL.agg:aFV dL 5:=λH=>H.agg dL.und rfl dL.info dL.size
def dL.put:aHS dL 5:=aIg dL.info rfl (by decide)
def dL.fill:aDB dL 5:=aDr dL.info rfl (by decide) (by rw[dL.zc];rfl)
def dL.f0:fAz dL 0:=by intro _ _;kernel_rfl
def dL.f1:mN dL 1 1:=by intro _ _;kernel_rfl
def dL.f2:mN dL 2 2:=by intro _ _;kernel_rfl
def dL.f3:mN dL 3 3:=by intro _ _;kernel_rfl
def dL.f4:mN dL 4 4:=by intro _ _;kernel_rfl
def jD.und:PG.underlying jD=some (TypeDesc.slice 79):=Tryz.underlying313
def gL.und:PG.underlying gL=some (TypeDesc.array 256 251):=Tryz.underlying321
def gL.info:PG.info? gL=some Tryz.t321:=by kernel_rfl
def gL.size:Tryz.t321.size=256:=rfl
def gL.zbox{h:PH}{r:Nat}:Bx (h.set r (.cells (eX PG gL) gL)) r ((Value.agg (List.replicate 256 (Value.int IntKind.u32 0)).toArray)).cells.toList:=Bx.zero (by kernel_rfl)
def gL.zc:eX PG gL=((Value.agg (List.replicate 256 (Value.int IntKind.u32 0)).toArray)).cells:=by kernel_rfl
def gL.agg:aFV gL 256:=λH=>H.agg gL.und rfl gL.info gL.size
def gL.put:aHS gL 256:=aIg gL.info rfl (by decide)
def gL.fill:aDB gL 256:=aDr gL.info rfl (by decide) (by rw[gL.zc];rfl)
end Go.Proofs.YtiohehjhlghikaaGreatDoor
