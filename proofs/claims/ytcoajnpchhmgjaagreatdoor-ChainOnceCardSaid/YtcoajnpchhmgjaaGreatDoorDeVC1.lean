/- The texts of this claim, put together. -/
import Derived.Test.YtcoajnpchhmgjaaGreatDoorDeVC0
import Derived.Test.YtcoajnpchhmgjaaGreatDoorChecked
import Derived.KernelRfl
set_option linter.unusedSimpArgs false
set_option linter.unusedVariables false
set_option linter.unusedSectionVars false
set_option maxRecDepth 100000
open Go.Instr (loadAt fieldAt indexAt extract buildSlice build)
namespace Go.Proofs.YtcoajnpchhmgjaaGreatDoor
open Go
noncomputable abbrev PG:Program:=Tryz.prog
theorem mix:PG.follows .mixedOrders=true:=by kernel_rfl
abbrev zL:FuncId:=5
abbrev aCR:FuncId:=9
abbrev aDZ:FuncId:=10
abbrev uI:FuncId:=11
abbrev lX:FuncId:=12
abbrev wW:FuncId:=13
abbrev pR:FuncId:=14
abbrev aA8:FuncId:=15
abbrev tF:FuncId:=16
abbrev aDc:FuncId:=17
abbrev aCg:FuncId:=18
abbrev aGT:FuncId:=19
abbrev aGs:FuncId:=20
abbrev aDa:FuncId:=21
abbrev aCN:FuncId:=22
abbrev aBK:FuncId:=24
abbrev aIX:FuncId:=25
abbrev qK:FuncId:=29
abbrev aAi:FuncId:=31
abbrev aC3:FuncId:=32
abbrev aDd:FuncId:=33
abbrev vL:FuncId:=34
abbrev aCQ:FuncId:=35
abbrev aDb:FuncId:=36
abbrev aEB:FuncId:=37
abbrev aBl:FuncId:=38
abbrev xR:FuncId:=39
abbrev yT:FuncId:=40
abbrev yO:FuncId:=41
abbrev rT:FuncId:=42
abbrev yR:FuncId:=43
abbrev zN:FuncId:=44
abbrev vB:FuncId:=45
abbrev wM:FuncId:=46
abbrev aCM:FuncId:=47
abbrev aBs:FuncId:=48
abbrev aEs:FuncId:=49
abbrev aFh:FuncId:=50
abbrev aGV:FuncId:=51
abbrev aGz:FuncId:=52
abbrev aER:FuncId:=53
abbrev aEY:FuncId:=54
abbrev aCE:FuncId:=55
abbrev aIR:FuncId:=56
abbrev aHp:FuncId:=57
abbrev oV:FuncId:=58
abbrev yH:FuncId:=60
abbrev xI:FuncId:=62
abbrev sM:FuncId:=63
abbrev tL:FuncId:=64
abbrev tJ:FuncId:=65
abbrev aAu:FuncId:=66
abbrev sR:FuncId:=67
abbrev zF:FuncId:=68
abbrev vU:FuncId:=69
abbrev aAA:FuncId:=70
abbrev tZ:FuncId:=71
abbrev vS:FuncId:=72
abbrev aAg:FuncId:=73
abbrev zA:FuncId:=74
abbrev jI:FuncId:=75
abbrev aDD:FuncId:=76
abbrev tD:FuncId:=77
abbrev aCS:FuncId:=78
abbrev aFJ:FuncId:=79
abbrev tM:FuncId:=80
abbrev sK:FuncId:=81
abbrev xK:FuncId:=82
abbrev tG:FuncId:=83
abbrev aBY:FuncId:=84
abbrev aDB:FuncId:=85
abbrev aC8:FuncId:=86
abbrev yL:FuncId:=87
abbrev aAD:FuncId:=88
abbrev mC:FuncId:=89
abbrev uN:FuncId:=90
abbrev aAp:FuncId:=91
abbrev aBb:FuncId:=92
abbrev tC:FuncId:=93
abbrev jT:FuncId:=94
abbrev nO:FuncId:=95
abbrev vD:FuncId:=96
abbrev rW:FuncId:=97
abbrev mY:FuncId:=98
abbrev oN:FuncId:=99
abbrev mQ:FuncId:=100
abbrev uH:FuncId:=101
abbrev mI:FuncId:=102
abbrev tQ:FuncId:=103
abbrev aAj:FuncId:=104
abbrev wV:FuncId:=105
abbrev rR:FuncId:=106
abbrev nP:FuncId:=107
abbrev aCO:FuncId:=108
abbrev wG:FuncId:=109
abbrev qS:FuncId:=110
abbrev aB5:FuncId:=111
abbrev aFN:FuncId:=112
abbrev uP:FuncId:=113
abbrev lO:FuncId:=114
abbrev aFV:FuncId:=115
abbrev aA3:FuncId:=116
abbrev nK:FuncId:=117
abbrev mF:FuncId:=118
abbrev rK:FuncId:=119
abbrev tK:FuncId:=120
abbrev tW:FuncId:=121
abbrev aEq:FuncId:=122
abbrev vY:FuncId:=123
abbrev aHo:FuncId:=124
abbrev aD7:FuncId:=125
abbrev aFX:FuncId:=126
abbrev aGE:FuncId:=127
abbrev aDJ:FuncId:=128
abbrev qA:FuncId:=129
abbrev aFW:FuncId:=131
abbrev aDe:FuncId:=132
abbrev aEG:FuncId:=134
abbrev aD4:FuncId:=135
abbrev aDF:FuncId:=136
abbrev aCr:FuncId:=137
abbrev aDV:FuncId:=138
abbrev aBg:FuncId:=139
abbrev zO:FuncId:=140
abbrev iZ:FuncId:=141
abbrev aBh:FuncId:=142
abbrev aB9:FuncId:=143
abbrev qU:FuncId:=144
abbrev qT:FuncId:=145
abbrev aBG:FuncId:=146
abbrev aDi:FuncId:=147
abbrev aCu:FuncId:=148
abbrev yM:FuncId:=149
abbrev qP:FuncId:=150
abbrev zG:FuncId:=151
abbrev oR:FuncId:=152
abbrev kA:FuncId:=153
abbrev yB:FuncId:=154
abbrev rG:FuncId:=155
abbrev lW:FuncId:=156
abbrev yI:FuncId:=157
abbrev wZ:FuncId:=158
abbrev pY:FuncId:=159
abbrev oA:FuncId:=160
abbrev xW:FuncId:=161
abbrev aGw:FuncId:=162
abbrev uO:FuncId:=163
abbrev oS:FuncId:=164
abbrev aEn:FuncId:=165
abbrev lD:FuncId:=166
abbrev xF:FuncId:=167
abbrev kV:FuncId:=168
abbrev oC:FuncId:=169
abbrev kI:FuncId:=170
abbrev xN:FuncId:=171
abbrev aEX:FuncId:=172
abbrev aAa:FuncId:=173
abbrev xO:FuncId:=174
abbrev aDW:FuncId:=175
abbrev aBw:FuncId:=176
abbrev aET:FuncId:=177
abbrev aCC:FuncId:=178
abbrev aCH:FuncId:=179
abbrev aDE:FuncId:=180
abbrev aEM:FuncId:=181
abbrev aLY:FuncId:=190
abbrev aHS:FuncId:=191
abbrev aGC:FuncId:=192
abbrev aB7:FuncId:=193
abbrev aGv:FuncId:=194
abbrev aAC:FuncId:=195
abbrev sL:FuncId:=196
abbrev aCB:FuncId:=197
abbrev tV:FuncId:=198
abbrev xQ:FuncId:=199
abbrev uG:FuncId:=200
abbrev qM:FuncId:=201
abbrev rO:FuncId:=202
abbrev wX:FuncId:=203
abbrev wY:FuncId:=204
abbrev lT:FuncId:=205
abbrev aCT:FuncId:=206
abbrev aDA:FuncId:=207
abbrev xS:FuncId:=208
abbrev mA:FuncId:=209
abbrev lY:FuncId:=210
abbrev aCA:FuncId:=211
abbrev aKW:FuncId:=212
abbrev aBr:FuncId:=213
abbrev aFz:FuncId:=214
abbrev aHj:FuncId:=220
abbrev aAP:FuncId:=221
abbrev aCP:FuncId:=222
abbrev aDY:FuncId:=223
abbrev aCJ:FuncId:=224
abbrev lN:FuncId:=225
abbrev tE:FuncId:=226
abbrev pN:FuncId:=227
abbrev xJ:FuncId:=228
abbrev aAT:FuncId:=229
abbrev aKs:FuncId:=230
abbrev aFY:FuncId:=231
abbrev aFb:FuncId:=232
abbrev aEo:FuncId:=233
abbrev aDh:FuncId:=234
abbrev aBe:FuncId:=236
abbrev vV:FuncId:=237
abbrev yG:FuncId:=238
abbrev jV:FuncId:=239
abbrev aBm:FuncId:=240
abbrev aIb:FuncId:=241
abbrev qG:FuncId:=242
abbrev aFc:FuncId:=243
abbrev tX:FuncId:=244
abbrev aAv:FuncId:=245
abbrev rL:FuncId:=246
abbrev aD2:FuncId:=247
abbrev aLL:FuncId:=248
abbrev aHT:FuncId:=249
abbrev aEl:FuncId:=251
abbrev uE:FuncId:=252
abbrev T_:TypeId:=0
abbrev bT:TypeId:=3
abbrev gF:TypeId:=4
abbrev dN:TypeId:=5
abbrev bR:TypeId:=9
abbrev cA:TypeId:=22
abbrev eJ:TypeId:=23
abbrev iN:TypeId:=24
abbrev zQ:TypeId:=25
abbrev mU:TypeId:=27
abbrev mG:TypeId:=29
abbrev aR:TypeId:=32
abbrev cH:TypeId:=36
abbrev dG:TypeId:=37
abbrev jP:TypeId:=38
abbrev kD:TypeId:=39
abbrev fZ:TypeId:=41
abbrev iW:TypeId:=43
abbrev eH:TypeId:=44
abbrev dB:TypeId:=45
abbrev dU:TypeId:=46
abbrev eK:TypeId:=48
abbrev iX:TypeId:=49
abbrev eD:TypeId:=51
abbrev eW:TypeId:=52
abbrev fS:TypeId:=54
abbrev fU:TypeId:=55
abbrev fH:TypeId:=56
abbrev jM:TypeId:=57
abbrev cQ:TypeId:=59
abbrev gV:TypeId:=60
abbrev kC:TypeId:=61
abbrev kH:TypeId:=63
abbrev fX:TypeId:=67
abbrev dO:TypeId:=76
abbrev dW:TypeId:=77
abbrev dX:TypeId:=79
abbrev eQ:TypeId:=84
abbrev cJ:TypeId:=90
abbrev dY:TypeId:=92
abbrev fR:TypeId:=114
abbrev eN:TypeId:=116
abbrev iT:TypeId:=118
abbrev dS:TypeId:=120
abbrev cN:TypeId:=125
abbrev cC:TypeId:=127
abbrev cM:TypeId:=133
abbrev cP:TypeId:=134
abbrev cB:TypeId:=136
abbrev cK:TypeId:=147
abbrev kY:TypeId:=159
abbrev dQ:TypeId:=171
abbrev gA:TypeId:=173
abbrev eI:TypeId:=175
abbrev nL:TypeId:=186
abbrev dV:TypeId:=187
abbrev dA:TypeId:=188
abbrev dF:TypeId:=190
abbrev fN:TypeId:=192
abbrev iA:TypeId:=204
abbrev iB:TypeId:=206
abbrev nH:TypeId:=209
abbrev jD:TypeId:=211
abbrev cL:TypeId:=216
abbrev fI:TypeId:=221
abbrev dK:TypeId:=223
abbrev uQ:TypeId:=234
abbrev gK:TypeId:=246
abbrev fV:TypeId:=250
abbrev eY:TypeId:=270
abbrev gJ:TypeId:=276
abbrev fP:TypeId:=278
abbrev nZ:TypeId:=282
abbrev iG:TypeId:=298
abbrev eO:TypeId:=300
abbrev hQ:TypeId:=302
abbrev fE:TypeId:=305
abbrev fC:TypeId:=314
theorem bT.und:PG.underlying bT=some (TypeDesc.int IntKind.i64):=Tryz.underlying3
theorem bT.info:PG.info? bT=some Tryz.t3:=by kernel_rfl
theorem bT.size:Tryz.t3.size=1:=rfl
theorem bT.zero:Tryz.t3.zero=some (Value.int IntKind.i64 0):=rfl
theorem bT.load{h:PH}{a:Addr}:cG PG h (loadAt bT (.pointer (some a)))=dD h a:=iJ bT.und rfl
theorem bT.put{h:PH}{r o:Nat}{cs:List Value}{v:Value}{k:cD}(H:Bx h r cs)(ho:o<cs.length)(hv:fK v=true)(hk:∀h',Bx h' r (cs.set o v)->cU [r] h h'->k undef h'):cW PG (dJ bT (pT r o) v) h k:=H.put1 bT.und rfl bT.info bT.size ho hv hk
theorem gF.und:PG.underlying gF=some TypeDesc.bool:=Tryz.underlying4
theorem gF.info:PG.info? gF=some Tryz.t4:=by kernel_rfl
theorem gF.size:Tryz.t4.size=1:=rfl
theorem gF.zbox{h:PH}{r:Nat}:Bx (h.set r (.cells (dP PG gF) gF)) r ((Value.bool false)).cells.toList:=Bx.zero (by kernel_rfl)
theorem gF.load{h:PH}{a:Addr}:cG PG h (loadAt gF (.pointer (some a)))=dD h a:=iJ gF.und rfl
theorem gF.put{h:PH}{r o:Nat}{cs:List Value}{v:Value}{k:cD}(H:Bx h r cs)(ho:o<cs.length)(hv:fK v=true)(hk:∀h',Bx h' r (cs.set o v)->cU [r] h h'->k undef h'):cW PG (dJ gF (pT r o) v) h k:=H.put1 gF.und rfl gF.info gF.size ho hv hk
theorem dN.und:PG.underlying dN=some (TypeDesc.int IntKind.u8):=Tryz.underlying5
theorem dN.info:PG.info? dN=some Tryz.t5:=by kernel_rfl
theorem dN.size:Tryz.t5.size=1:=rfl
theorem dN.bytes:Tryz.t5.bytes=1:=rfl
theorem dN.zero:Tryz.t5.zero=some (Value.int IntKind.u8 0):=rfl
theorem bR.und:PG.underlying bR=some TypeDesc.string:=Tryz.underlying9
theorem bR.info:PG.info? bR=some Tryz.t9:=by kernel_rfl
theorem bR.size:Tryz.t9.size=1:=rfl
theorem bR.bytes:Tryz.t9.bytes=16:=rfl
theorem bR.zero:Tryz.t9.zero=some (Value.string {data:=#[]}):=rfl
theorem bR.zbox{h:PH}{r:Nat}:Bx (h.set r (.cells (dP PG bR) bR)) r ((Value.string {data:=#[]})).cells.toList:=Bx.zero (by kernel_rfl)
theorem bR.load{h:PH}{a:Addr}:cG PG h (loadAt bR (.pointer (some a)))=dD h a:=iJ bR.und rfl
theorem bR.put{h:PH}{r o:Nat}{cs:List Value}{v:Value}{k:cD}(H:Bx h r cs)(ho:o<cs.length)(hv:fK v=true)(hk:∀h',Bx h' r (cs.set o v)->cU [r] h h'->k undef h'):cW PG (dJ bR (pT r o) v) h k:=H.put1 bR.und rfl bR.info bR.size ho hv hk
theorem bR.len{s:ByteArray}{t:TypeId}:cV PG (Builtin.len_ #[bR] t #[.string s])=some (.int .i64 s.size):=lV bR.und
theorem cA.und:PG.underlying cA=some (TypeDesc.int IntKind.u64):=Tryz.underlying22
theorem cA.info:PG.info? cA=some Tryz.t22:=by kernel_rfl
theorem cA.size:Tryz.t22.size=1:=rfl
theorem cA.bytes:Tryz.t22.bytes=8:=rfl
theorem cA.zero:Tryz.t22.zero=some (Value.int IntKind.u64 0):=rfl
theorem cA.load{h:PH}{a:Addr}:cG PG h (loadAt cA (.pointer (some a)))=dD h a:=iJ cA.und rfl
theorem cA.put{h:PH}{r o:Nat}{cs:List Value}{v:Value}{k:cD}(H:Bx h r cs)(ho:o<cs.length)(hv:fK v=true)(hk:∀h',Bx h' r (cs.set o v)->cU [r] h h'->k undef h'):cW PG (dJ cA (pT r o) v) h k:=H.put1 cA.und rfl cA.info cA.size ho hv hk
theorem eJ.und:PG.underlying eJ=some (TypeDesc.array 2 22):=Tryz.underlying23
theorem eJ.info:PG.info? eJ=some Tryz.t23:=by kernel_rfl
theorem eJ.size:Tryz.t23.size=2:=rfl
theorem eJ.agg{h:PH}{r o:Nat}{cs:List Value}(H:Bx h r cs)(hle:o+2≤cs.length):cG PG h (loadAt eJ (pT r o))=some (.agg ((cs.drop o).take 2).toArray):=H.agg eJ.und rfl eJ.info eJ.size hle
theorem iN.und:PG.underlying iN=some (TypeDesc.slice 36):=Tryz.underlying24
theorem zQ.und:PG.underlying zQ=some (TypeDesc.func #[] #[4] false):=Tryz.underlying25
theorem zQ.load{h:PH}{a:Addr}:cG PG h (loadAt zQ (.pointer (some a)))=dD h a:=iJ zQ.und rfl
theorem mU.und:PG.underlying mU=some (TypeDesc.pointer 41):=Tryz.underlying27
theorem mG.und:PG.underlying mG=some (TypeDesc.map 32 4):=Tryz.underlying29
theorem mG.load{h:PH}{a:Addr}:cG PG h (loadAt mG (.pointer (some a)))=dD h a:=iJ mG.und rfl
theorem aR.und:PG.underlying aR=some (TypeDesc.struct #[{name:="From",type:=3,offset:=0,embedded:=false,tag:="",pkgPath:="",byteOffset:=0},{name:="Seq",type:=22,offset:=1,embedded:=false,tag:="",pkgPath:="",byteOffset:=8},{name:="Timeout",type:=22,offset:=2,embedded:=false,tag:="",pkgPath:="",byteOffset:=16},{name:="Data",type:=9,offset:=3,embedded:=false,tag:="",pkgPath:="",byteOffset:=24}]):=Tryz.underlying32
theorem aR.info:PG.info? aR=some Tryz.t32:=by kernel_rfl
theorem aR.size:Tryz.t32.size=4:=rfl
theorem aR.zbox{h:PH}{r:Nat}:Bx (h.set r (.cells (dP PG aR) aR)) r ((Value.agg #[Value.int IntKind.i64 0,Value.int IntKind.u64 0,Value.int IntKind.u64 0,Value.string {data:=#[]}])).cells.toList:=Bx.zero (by kernel_rfl)
theorem aR.zc:dP PG aR=((Value.agg #[Value.int IntKind.i64 0,Value.int IntKind.u64 0,Value.int IntKind.u64 0,Value.string {data:=#[]}])).cells:=by kernel_rfl
theorem aR.loadAgg{h:PH}{b o:Nat}{c:Array Value}{e:TypeId}{fr:Nat×Nat}(hb:h b=some (.cells c e fr))(hle:o+4≤c.size):cG PG h (loadAt aR (pT b o))=some (.agg (c.extract o (o+4))):=qO aR.und rfl aR.info aR.size hb hle
theorem aR.agg{h:PH}{r o:Nat}{cs:List Value}(H:Bx h r cs)(hle:o+4≤cs.length):cG PG h (loadAt aR (pT r o))=some (.agg ((cs.drop o).take 4).toArray):=H.agg aR.und rfl aR.info aR.size hle
theorem aR.put{h:PH}{r o:Nat}{cs vs:List Value}{k:cD}(H:Bx h r cs)(hl:vs.length=4)(ho:o+4≤cs.length)(hv:∀v∈vs,fK v=true)(hk:∀h',Bx h' r (cs.take o++vs++cs.drop (o+4))->cU [r] h h'->k undef h'):cW PG (dJ aR (pT r o) (.agg vs.toArray)) h k:=H.putN aR.info (by rw[hl];rfl) (by omega) (by omega) hv (by rw[hl];exact hk)
theorem aR.fill{h:PH}{r:Nat}{vs:List Value}{k:cD}(hr:h r=none)(hl:vs.length=4)(hv:∀v∈vs,fK v=true)(hk:∀h',Bx h' r vs->dC h h'->k undef h'):cW PG (dJ aR (pT r 0) (.agg vs.toArray)) (h.set r (.cells (dP PG aR) aR)) k:=Bx.fill hr aR.info (by rw[hl];rfl) (by omega) (by rw[aR.zc,hl];rfl) hv hk
theorem aR.f0{b o:Nat}:cV PG (fieldAt aR (pT b o) 0)=some (pT b o):=by kernel_rfl
theorem aR.f1{b o:Nat}:cV PG (fieldAt aR (pT b o) 1)=some (pT b (o+1)):=by kernel_rfl
theorem aR.f2{b o:Nat}:cV PG (fieldAt aR (pT b o) 2)=some (pT b (o+2)):=by kernel_rfl
theorem aR.f3{b o:Nat}:cV PG (fieldAt aR (pT b o) 3)=some (pT b (o+3)):=by kernel_rfl
theorem cH.und:PG.underlying cH=some (TypeDesc.struct #[{name:="Kind",type:=3,offset:=0,embedded:=false,tag:="",pkgPath:="",byteOffset:=0},{name:="Id",type:=3,offset:=1,embedded:=false,tag:="",pkgPath:="",byteOffset:=8},{name:="Height",type:=22,offset:=2,embedded:=false,tag:="",pkgPath:="",byteOffset:=16},{name:="Data",type:=9,offset:=3,embedded:=false,tag:="",pkgPath:="",byteOffset:=24},{name:="P",type:=32,offset:=4,embedded:=false,tag:="",pkgPath:="",byteOffset:=40},{name:="Spoilt",type:=4,offset:=8,embedded:=false,tag:="",pkgPath:="",byteOffset:=80}]):=Tryz.underlying36
theorem cH.info:PG.info? cH=some Tryz.t36:=by kernel_rfl
theorem cH.size:Tryz.t36.size=9:=rfl
theorem cH.loadAgg{h:PH}{b o:Nat}{c:Array Value}{e:TypeId}{fr:Nat×Nat}(hb:h b=some (.cells c e fr))(hle:o+9≤c.size):cG PG h (loadAt cH (pT b o))=some (.agg (c.extract o (o+9))):=qO cH.und rfl cH.info cH.size hb hle
theorem cH.agg{h:PH}{r o:Nat}{cs:List Value}(H:Bx h r cs)(hle:o+9≤cs.length):cG PG h (loadAt cH (pT r o))=some (.agg ((cs.drop o).take 9).toArray):=H.agg cH.und rfl cH.info cH.size hle
theorem cH.f0{b o:Nat}:cV PG (fieldAt cH (pT b o) 0)=some (pT b o):=by kernel_rfl
theorem cH.f1{b o:Nat}:cV PG (fieldAt cH (pT b o) 1)=some (pT b (o+1)):=by kernel_rfl
theorem cH.f2{b o:Nat}:cV PG (fieldAt cH (pT b o) 2)=some (pT b (o+2)):=by kernel_rfl
theorem cH.f3{b o:Nat}:cV PG (fieldAt cH (pT b o) 3)=some (pT b (o+3)):=by kernel_rfl
theorem cH.f4{b o:Nat}:cV PG (fieldAt cH (pT b o) 4)=some (pT b (o+4)):=by kernel_rfl
theorem cH.f5{b o:Nat}:cV PG (fieldAt cH (pT b o) 5)=some (pT b (o+8)):=by kernel_rfl
theorem dG.und:PG.underlying dG=some (TypeDesc.pointer 51):=Tryz.underlying37
theorem dG.info:PG.info? dG=some Tryz.t37:=by kernel_rfl
theorem dG.size:Tryz.t37.size=1:=rfl
theorem dG.load{h:PH}{a:Addr}:cG PG h (loadAt dG (.pointer (some a)))=dD h a:=iJ dG.und rfl
theorem dG.put{h:PH}{r o:Nat}{cs:List Value}{v:Value}{k:cD}(H:Bx h r cs)(ho:o<cs.length)(hv:fK v=true)(hk:∀h',Bx h' r (cs.set o v)->cU [r] h h'->k undef h'):cW PG (dJ dG (pT r o) v) h k:=H.put1 dG.und rfl dG.info dG.size ho hv hk
theorem jP.und:PG.underlying jP=some (TypeDesc.array 2 37):=Tryz.underlying38
theorem kD.und:PG.underlying kD=some (TypeDesc.pointer 63):=Tryz.underlying39
theorem kD.load{h:PH}{a:Addr}:cG PG h (loadAt kD (.pointer (some a)))=dD h a:=iJ kD.und rfl
theorem fZ.f0{b o:Nat}:cV PG (fieldAt fZ (pT b o) 0)=some (pT b o):=by kernel_rfl
theorem fZ.f1{b o:Nat}:cV PG (fieldAt fZ (pT b o) 1)=some (pT b (o+2)):=by kernel_rfl
theorem iW.und:PG.underlying iW=some (TypeDesc.pointer 116):=Tryz.underlying43
theorem iW.load{h:PH}{a:Addr}:cG PG h (loadAt iW (.pointer (some a)))=dD h a:=iJ iW.und rfl
theorem eH.und:PG.underlying eH=some (TypeDesc.slice 45):=Tryz.underlying44
theorem eH.info:PG.info? eH=some Tryz.t44:=by kernel_rfl
theorem eH.size:Tryz.t44.size=1:=rfl
theorem eH.load{h:PH}{a:Addr}:cG PG h (loadAt eH (.pointer (some a)))=dD h a:=iJ eH.und rfl
theorem eH.put{h:PH}{r o:Nat}{cs:List Value}{v:Value}{k:cD}(H:Bx h r cs)(ho:o<cs.length)(hv:fK v=true)(hk:∀h',Bx h' r (cs.set o v)->cU [r] h h'->k undef h'):cW PG (dJ eH (pT r o) v) h k:=H.put1 eH.und rfl eH.info eH.size ho hv hk
theorem dB.und:PG.underlying dB=some (TypeDesc.slice 84):=Tryz.underlying45
theorem dB.info:PG.info? dB=some Tryz.t45:=by kernel_rfl
theorem dB.size:Tryz.t45.size=1:=rfl
theorem dB.bytes:Tryz.t45.bytes=24:=rfl
theorem dB.zero:Tryz.t45.zero=some (Value.slice none 0 0):=rfl
theorem dB.load{h:PH}{a:Addr}:cG PG h (loadAt dB (.pointer (some a)))=dD h a:=iJ dB.und rfl
theorem dB.put{h:PH}{r o:Nat}{cs:List Value}{v:Value}{k:cD}(H:Bx h r cs)(ho:o<cs.length)(hv:fK v=true)(hk:∀h',Bx h' r (cs.set o v)->cU [r] h h'->k undef h'):cW PG (dJ dB (pT r o) v) h k:=H.put1 dB.und rfl dB.info dB.size ho hv hk
theorem dU.und:PG.underlying dU=some (TypeDesc.map 9 9):=Tryz.underlying46
theorem dU.load{h:PH}{a:Addr}:cG PG h (loadAt dU (.pointer (some a)))=dD h a:=iJ dU.und rfl
theorem eK.f0{b o:Nat}:cV PG (fieldAt eK (pT b o) 0)=some (pT b o):=by kernel_rfl
theorem eK.f1{b o:Nat}:cV PG (fieldAt eK (pT b o) 1)=some (pT b (o+1)):=by kernel_rfl
theorem eK.f2{b o:Nat}:cV PG (fieldAt eK (pT b o) 2)=some (pT b (o+2)):=by kernel_rfl
theorem eK.f3{b o:Nat}:cV PG (fieldAt eK (pT b o) 3)=some (pT b (o+3)):=by kernel_rfl
theorem eK.f4{b o:Nat}:cV PG (fieldAt eK (pT b o) 4)=some (pT b (o+4)):=by kernel_rfl
theorem iX.und:PG.underlying iX=some (TypeDesc.pointer 206):=Tryz.underlying49
theorem iX.load{h:PH}{a:Addr}:cG PG h (loadAt iX (.pointer (some a)))=dD h a:=iJ iX.und rfl
theorem eD.f0{b o:Nat}:cV PG (fieldAt eD (pT b o) 0)=some (pT b o):=by kernel_rfl
theorem eD.f1{b o:Nat}:cV PG (fieldAt eD (pT b o) 1)=some (pT b (o+5)):=by kernel_rfl
theorem eD.f2{b o:Nat}:cV PG (fieldAt eD (pT b o) 2)=some (pT b (o+6)):=by kernel_rfl
theorem eD.f3{b o:Nat}:cV PG (fieldAt eD (pT b o) 3)=some (pT b (o+7)):=by kernel_rfl
theorem eW.und:PG.underlying eW=some (TypeDesc.slice 216):=Tryz.underlying52
theorem eW.load{h:PH}{a:Addr}:cG PG h (loadAt eW (.pointer (some a)))=dD h a:=iJ eW.und rfl
theorem fS.f0{b o:Nat}:cV PG (fieldAt fS (pT b o) 0)=some (pT b o):=by kernel_rfl
theorem fS.f1{b o:Nat}:cV PG (fieldAt fS (pT b o) 1)=some (pT b (o+1)):=by kernel_rfl
theorem fS.f2{b o:Nat}:cV PG (fieldAt fS (pT b o) 2)=some (pT b (o+2)):=by kernel_rfl
theorem fS.f3{b o:Nat}:cV PG (fieldAt fS (pT b o) 3)=some (pT b (o+3)):=by kernel_rfl
theorem fU.und:PG.underlying fU=some (TypeDesc.pointer 54):=Tryz.underlying55
theorem fU.load{h:PH}{a:Addr}:cG PG h (loadAt fU (.pointer (some a)))=dD h a:=iJ fU.und rfl
theorem fH.und:PG.underlying fH=some (TypeDesc.pointer 223):=Tryz.underlying56
theorem fH.load{h:PH}{a:Addr}:cG PG h (loadAt fH (.pointer (some a)))=dD h a:=iJ fH.und rfl
theorem jM.und:PG.underlying jM=some (TypeDesc.pointer 173):=Tryz.underlying57
theorem jM.load{h:PH}{a:Addr}:cG PG h (loadAt jM (.pointer (some a)))=dD h a:=iJ jM.und rfl
theorem cQ.f0{b o:Nat}:cV PG (fieldAt cQ (pT b o) 0)=some (pT b o):=by kernel_rfl
theorem cQ.f1{b o:Nat}:cV PG (fieldAt cQ (pT b o) 1)=some (pT b (o+1)):=by kernel_rfl
theorem cQ.f2{b o:Nat}:cV PG (fieldAt cQ (pT b o) 2)=some (pT b (o+2)):=by kernel_rfl
theorem cQ.f3{b o:Nat}:cV PG (fieldAt cQ (pT b o) 3)=some (pT b (o+3)):=by kernel_rfl
theorem cQ.f4{b o:Nat}:cV PG (fieldAt cQ (pT b o) 4)=some (pT b (o+4)):=by kernel_rfl
theorem cQ.f5{b o:Nat}:cV PG (fieldAt cQ (pT b o) 5)=some (pT b (o+5)):=by kernel_rfl
theorem cQ.f6{b o:Nat}:cV PG (fieldAt cQ (pT b o) 6)=some (pT b (o+6)):=by kernel_rfl
theorem gV.und:PG.underlying gV=some (TypeDesc.pointer 59):=Tryz.underlying60
theorem gV.info:PG.info? gV=some Tryz.t60:=by kernel_rfl
theorem gV.size:Tryz.t60.size=1:=rfl
theorem gV.load{h:PH}{a:Addr}:cG PG h (loadAt gV (.pointer (some a)))=dD h a:=iJ gV.und rfl
theorem kC.und:PG.underlying kC=some (TypeDesc.array 2 60):=Tryz.underlying61
theorem kH.f0{b o:Nat}:cV PG (fieldAt kH (pT b o) 0)=some (pT b o):=by kernel_rfl
theorem fX.und:PG.underlying fX=some (TypeDesc.int IntKind.i64):=Tryz.underlying67
theorem fX.info:PG.info? fX=some Tryz.t67:=by kernel_rfl
theorem fX.size:Tryz.t67.size=1:=rfl
theorem fX.load{h:PH}{a:Addr}:cG PG h (loadAt fX (.pointer (some a)))=dD h a:=iJ fX.und rfl
theorem dO.und:PG.underlying dO=some (TypeDesc.map 32 3):=Tryz.underlying76
theorem dO.info:PG.info? dO=some Tryz.t76:=by kernel_rfl
theorem dO.size:Tryz.t76.size=1:=rfl
theorem dO.load{h:PH}{a:Addr}:cG PG h (loadAt dO (.pointer (some a)))=dD h a:=iJ dO.und rfl
theorem dO.put{h:PH}{r o:Nat}{cs:List Value}{v:Value}{k:cD}(H:Bx h r cs)(ho:o<cs.length)(hv:fK v=true)(hk:∀h',Bx h' r (cs.set o v)->cU [r] h h'->k undef h'):cW PG (dJ dO (pT r o) v) h k:=H.put1 dO.und rfl dO.info dO.size ho hv hk
theorem dW.und:PG.underlying dW=some (TypeDesc.array 2 76):=Tryz.underlying77
theorem dW.zbox{h:PH}{r:Nat}:Bx (h.set r (.cells (dP PG dW) dW)) r ((Value.agg #[Value.map none,Value.map none])).cells.toList:=Bx.zero (by kernel_rfl)
theorem dX.und:PG.underlying dX=some (TypeDesc.struct #[{name:="Height",type:=22,offset:=0,embedded:=false,tag:="",pkgPath:="",byteOffset:=0},{name:="Index",type:=3,offset:=1,embedded:=false,tag:="",pkgPath:="",byteOffset:=8}]):=Tryz.underlying79
theorem dX.info:PG.info? dX=some Tryz.t79:=by kernel_rfl
theorem dX.size:Tryz.t79.size=2:=rfl
theorem dX.zbox{h:PH}{r:Nat}:Bx (h.set r (.cells (dP PG dX) dX)) r ((Value.agg #[Value.int IntKind.u64 0,Value.int IntKind.i64 0])).cells.toList:=Bx.zero (by kernel_rfl)
theorem dX.zc:dP PG dX=((Value.agg #[Value.int IntKind.u64 0,Value.int IntKind.i64 0])).cells:=by kernel_rfl
theorem dX.agg{h:PH}{r o:Nat}{cs:List Value}(H:Bx h r cs)(hle:o+2≤cs.length):cG PG h (loadAt dX (pT r o))=some (.agg ((cs.drop o).take 2).toArray):=H.agg dX.und rfl dX.info dX.size hle
theorem dX.put{h:PH}{r o:Nat}{cs vs:List Value}{k:cD}(H:Bx h r cs)(hl:vs.length=2)(ho:o+2≤cs.length)(hv:∀v∈vs,fK v=true)(hk:∀h',Bx h' r (cs.take o++vs++cs.drop (o+2))->cU [r] h h'->k undef h'):cW PG (dJ dX (pT r o) (.agg vs.toArray)) h k:=H.putN dX.info (by rw[hl];rfl) (by omega) (by omega) hv (by rw[hl];exact hk)
theorem dX.fill{h:PH}{r:Nat}{vs:List Value}{k:cD}(hr:h r=none)(hl:vs.length=2)(hv:∀v∈vs,fK v=true)(hk:∀h',Bx h' r vs->dC h h'->k undef h'):cW PG (dJ dX (pT r 0) (.agg vs.toArray)) (h.set r (.cells (dP PG dX) dX)) k:=Bx.fill hr dX.info (by rw[hl];rfl) (by omega) (by rw[dX.zc,hl];rfl) hv hk
theorem dX.f0{b o:Nat}:cV PG (fieldAt dX (pT b o) 0)=some (pT b o):=by kernel_rfl
theorem dX.f1{b o:Nat}:cV PG (fieldAt dX (pT b o) 1)=some (pT b (o+1)):=by kernel_rfl
theorem eQ.info:PG.info? eQ=some Tryz.t84:=by kernel_rfl
theorem eQ.size:Tryz.t84.size=5:=rfl
theorem eQ.bytes:Tryz.t84.bytes=48:=rfl
theorem eQ.zero:Tryz.t84.zero=some (Value.agg #[Value.int IntKind.i64 0,Value.int IntKind.i64 0,Value.int IntKind.u64 0,Value.int IntKind.u64 0,Value.string {data:=#[]}]):=rfl
theorem eQ.f0{b o:Nat}:cV PG (fieldAt eQ (pT b o) 0)=some (pT b o):=by kernel_rfl
theorem eQ.f1{b o:Nat}:cV PG (fieldAt eQ (pT b o) 1)=some (pT b (o+1)):=by kernel_rfl
theorem cJ.und:PG.underlying cJ=some (TypeDesc.slice 133):=Tryz.underlying90
theorem cJ.info:PG.info? cJ=some Tryz.t90:=by kernel_rfl
theorem cJ.size:Tryz.t90.size=1:=rfl
theorem cJ.bytes:Tryz.t90.bytes=24:=rfl
theorem cJ.zero:Tryz.t90.zero=some (Value.slice none 0 0):=rfl
theorem cJ.load{h:PH}{a:Addr}:cG PG h (loadAt cJ (.pointer (some a)))=dD h a:=iJ cJ.und rfl
theorem dY.und:PG.underlying dY=some (TypeDesc.slice 22):=Tryz.underlying92
theorem dY.info:PG.info? dY=some Tryz.t92:=by kernel_rfl
theorem dY.size:Tryz.t92.size=1:=rfl
theorem dY.load{h:PH}{a:Addr}:cG PG h (loadAt dY (.pointer (some a)))=dD h a:=iJ dY.und rfl
theorem fR.und:PG.underlying fR=some (TypeDesc.slice 120):=Tryz.underlying114
theorem fR.info:PG.info? fR=some Tryz.t114:=by kernel_rfl
theorem fR.size:Tryz.t114.size=1:=rfl
theorem fR.load{h:PH}{a:Addr}:cG PG h (loadAt fR (.pointer (some a)))=dD h a:=iJ fR.und rfl
theorem eN.f0{b o:Nat}:cV PG (fieldAt eN (pT b o) 0)=some (pT b o):=by kernel_rfl
theorem eN.f1{b o:Nat}:cV PG (fieldAt eN (pT b o) 1)=some (pT b (o+1)):=by kernel_rfl
theorem eN.f2{b o:Nat}:cV PG (fieldAt eN (pT b o) 2)=some (pT b (o+2)):=by kernel_rfl
theorem iT.und:PG.underlying iT=some (TypeDesc.struct #[{name:="l",type:=90,offset:=0,embedded:=false,tag:="",pkgPath:="carrack/store",byteOffset:=0}]):=Tryz.underlying118
theorem iT.info:PG.info? iT=some Tryz.t118:=by kernel_rfl
theorem iT.size:Tryz.t118.size=1:=rfl
theorem iT.loadAgg{h:PH}{b o:Nat}{c:Array Value}{e:TypeId}{fr:Nat×Nat}(hb:h b=some (.cells c e fr))(hle:o+1≤c.size):cG PG h (loadAt iT (pT b o))=some (.agg (c.extract o (o+1))):=qO iT.und rfl iT.info iT.size hb hle
theorem iT.f0{b o:Nat}:cV PG (fieldAt iT (pT b o) 0)=some (pT b o):=by kernel_rfl
theorem dS.und:PG.underlying dS=some (TypeDesc.struct #[{name:="sorted",type:=118,offset:=0,embedded:=true,tag:="",pkgPath:="carrack/store",byteOffset:=0},{name:="root",type:=9,offset:=1,embedded:=false,tag:="",pkgPath:="carrack/store",byteOffset:=24}]):=Tryz.underlying120
theorem dS.info:PG.info? dS=some Tryz.t120:=by kernel_rfl
theorem dS.size:Tryz.t120.size=2:=rfl
theorem dS.bytes:Tryz.t120.bytes=40:=rfl
theorem dS.zero:Tryz.t120.zero=some (Value.agg #[Value.slice none 0 0,Value.string {data:=#[]}]):=rfl
theorem dS.zc:dP PG dS=((Value.agg #[Value.slice none 0 0,Value.string {data:=#[]}])).cells:=by kernel_rfl
theorem dS.loadAgg{h:PH}{b o:Nat}{c:Array Value}{e:TypeId}{fr:Nat×Nat}(hb:h b=some (.cells c e fr))(hle:o+2≤c.size):cG PG h (loadAt dS (pT b o))=some (.agg (c.extract o (o+2))):=qO dS.und rfl dS.info dS.size hb hle
theorem dS.f0{b o:Nat}:cV PG (fieldAt dS (pT b o) 0)=some (pT b o):=by kernel_rfl
theorem dS.f1{b o:Nat}:cV PG (fieldAt dS (pT b o) 1)=some (pT b (o+1)):=by kernel_rfl
theorem cN.und:PG.underlying cN=some (TypeDesc.slice 136):=Tryz.underlying125
theorem cN.info:PG.info? cN=some Tryz.t125:=by kernel_rfl
theorem cN.size:Tryz.t125.size=1:=rfl
theorem cN.load{h:PH}{a:Addr}:cG PG h (loadAt cN (.pointer (some a)))=dD h a:=iJ cN.und rfl
theorem cN.put{h:PH}{r o:Nat}{cs:List Value}{v:Value}{k:cD}(H:Bx h r cs)(ho:o<cs.length)(hv:fK v=true)(hk:∀h',Bx h' r (cs.set o v)->cU [r] h h'->k undef h'):cW PG (dJ cN (pT r o) v) h k:=H.put1 cN.und rfl cN.info cN.size ho hv hk
theorem cC.und:PG.underlying cC=some (TypeDesc.struct #[{name:="Absent",type:=4,offset:=0,embedded:=false,tag:="",pkgPath:="",byteOffset:=0},{name:="Leaves",type:=125,offset:=1,embedded:=false,tag:="",pkgPath:="",byteOffset:=8}]):=Tryz.underlying127
theorem cC.info:PG.info? cC=some Tryz.t127:=by kernel_rfl
theorem cC.size:Tryz.t127.size=2:=rfl
theorem cC.zbox{h:PH}{r:Nat}:Bx (h.set r (.cells (dP PG cC) cC)) r ((Value.agg #[Value.bool false,Value.slice none 0 0])).cells.toList:=Bx.zero (by kernel_rfl)
theorem cC.zc:dP PG cC=((Value.agg #[Value.bool false,Value.slice none 0 0])).cells:=by kernel_rfl
theorem cC.agg{h:PH}{r o:Nat}{cs:List Value}(H:Bx h r cs)(hle:o+2≤cs.length):cG PG h (loadAt cC (pT r o))=some (.agg ((cs.drop o).take 2).toArray):=H.agg cC.und rfl cC.info cC.size hle
theorem cC.put{h:PH}{r o:Nat}{cs vs:List Value}{k:cD}(H:Bx h r cs)(hl:vs.length=2)(ho:o+2≤cs.length)(hv:∀v∈vs,fK v=true)(hk:∀h',Bx h' r (cs.take o++vs++cs.drop (o+2))->cU [r] h h'->k undef h'):cW PG (dJ cC (pT r o) (.agg vs.toArray)) h k:=H.putN cC.info (by rw[hl];rfl) (by omega) (by omega) hv (by rw[hl];exact hk)
theorem cC.fill{h:PH}{r:Nat}{vs:List Value}{k:cD}(hr:h r=none)(hl:vs.length=2)(hv:∀v∈vs,fK v=true)(hk:∀h',Bx h' r vs->dC h h'->k undef h'):cW PG (dJ cC (pT r 0) (.agg vs.toArray)) (h.set r (.cells (dP PG cC) cC)) k:=Bx.fill hr cC.info (by rw[hl];rfl) (by omega) (by rw[cC.zc,hl];rfl) hv hk
theorem cC.f0{b o:Nat}:cV PG (fieldAt cC (pT b o) 0)=some (pT b o):=by kernel_rfl
theorem cC.f1{b o:Nat}:cV PG (fieldAt cC (pT b o) 1)=some (pT b (o+1)):=by kernel_rfl
theorem cM.und:PG.underlying cM=some (TypeDesc.struct #[{name:="Key",type:=9,offset:=0,embedded:=false,tag:="",pkgPath:="",byteOffset:=0},{name:="Value",type:=9,offset:=1,embedded:=false,tag:="",pkgPath:="",byteOffset:=16}]):=Tryz.underlying133
theorem cM.info:PG.info? cM=some Tryz.t133:=by kernel_rfl
theorem cM.size:Tryz.t133.size=2:=rfl
theorem cM.bytes:Tryz.t133.bytes=32:=rfl
theorem cM.zero:Tryz.t133.zero=some (Value.agg #[Value.string {data:=#[]},Value.string {data:=#[]}]):=rfl
theorem cM.loadAgg{h:PH}{b o:Nat}{c:Array Value}{e:TypeId}{fr:Nat×Nat}(hb:h b=some (.cells c e fr))(hle:o+2≤c.size):cG PG h (loadAt cM (pT b o))=some (.agg (c.extract o (o+2))):=qO cM.und rfl cM.info cM.size hb hle
theorem cM.agg{h:PH}{r o:Nat}{cs:List Value}(H:Bx h r cs)(hle:o+2≤cs.length):cG PG h (loadAt cM (pT r o))=some (.agg ((cs.drop o).take 2).toArray):=H.agg cM.und rfl cM.info cM.size hle
theorem cM.f0{b o:Nat}:cV PG (fieldAt cM (pT b o) 0)=some (pT b o):=by kernel_rfl
theorem cM.f1{b o:Nat}:cV PG (fieldAt cM (pT b o) 1)=some (pT b (o+1)):=by kernel_rfl
theorem cP.und:PG.underlying cP=some (TypeDesc.slice 9):=Tryz.underlying134
theorem cP.info:PG.info? cP=some Tryz.t134:=by kernel_rfl
theorem cP.size:Tryz.t134.size=1:=rfl
theorem cP.zbox{h:PH}{r:Nat}:Bx (h.set r (.cells (dP PG cP) cP)) r ((Value.slice none 0 0)).cells.toList:=Bx.zero (by kernel_rfl)
theorem cP.load{h:PH}{a:Addr}:cG PG h (loadAt cP (.pointer (some a)))=dD h a:=iJ cP.und rfl
theorem cP.put{h:PH}{r o:Nat}{cs:List Value}{v:Value}{k:cD}(H:Bx h r cs)(ho:o<cs.length)(hv:fK v=true)(hk:∀h',Bx h' r (cs.set o v)->cU [r] h h'->k undef h'):cW PG (dJ cP (pT r o) v) h k:=H.put1 cP.und rfl cP.info cP.size ho hv hk
theorem cB.und:PG.underlying cB=some (TypeDesc.struct #[{name:="Index",type:=3,offset:=0,embedded:=false,tag:="",pkgPath:="",byteOffset:=0},{name:="Count",type:=3,offset:=1,embedded:=false,tag:="",pkgPath:="",byteOffset:=8},{name:="Pair",type:=133,offset:=2,embedded:=false,tag:="",pkgPath:="",byteOffset:=16},{name:="Path",type:=134,offset:=4,embedded:=false,tag:="",pkgPath:="",byteOffset:=48}]):=Tryz.underlying136
theorem cB.info:PG.info? cB=some Tryz.t136:=by kernel_rfl
theorem cB.size:Tryz.t136.size=5:=rfl
theorem cB.bytes:Tryz.t136.bytes=72:=rfl
theorem cB.zero:Tryz.t136.zero=some (Value.agg #[Value.int IntKind.i64 0,Value.int IntKind.i64 0,Value.string {data:=#[]},Value.string {data:=#[]},Value.slice none 0 0]):=rfl
theorem cB.zbox{h:PH}{r:Nat}:Bx (h.set r (.cells (dP PG cB) cB)) r ((Value.agg #[Value.int IntKind.i64 0,Value.int IntKind.i64 0,Value.string {data:=#[]},Value.string {data:=#[]},Value.slice none 0 0])).cells.toList:=Bx.zero (by kernel_rfl)
theorem cB.zc:dP PG cB=((Value.agg #[Value.int IntKind.i64 0,Value.int IntKind.i64 0,Value.string {data:=#[]},Value.string {data:=#[]},Value.slice none 0 0])).cells:=by kernel_rfl
theorem cB.agg{h:PH}{r o:Nat}{cs:List Value}(H:Bx h r cs)(hle:o+5≤cs.length):cG PG h (loadAt cB (pT r o))=some (.agg ((cs.drop o).take 5).toArray):=H.agg cB.und rfl cB.info cB.size hle
theorem cB.put{h:PH}{r o:Nat}{cs vs:List Value}{k:cD}(H:Bx h r cs)(hl:vs.length=5)(ho:o+5≤cs.length)(hv:∀v∈vs,fK v=true)(hk:∀h',Bx h' r (cs.take o++vs++cs.drop (o+5))->cU [r] h h'->k undef h'):cW PG (dJ cB (pT r o) (.agg vs.toArray)) h k:=H.putN cB.info (by rw[hl];rfl) (by omega) (by omega) hv (by rw[hl];exact hk)
theorem cB.fill{h:PH}{r:Nat}{vs:List Value}{k:cD}(hr:h r=none)(hl:vs.length=5)(hv:∀v∈vs,fK v=true)(hk:∀h',Bx h' r vs->dC h h'->k undef h'):cW PG (dJ cB (pT r 0) (.agg vs.toArray)) (h.set r (.cells (dP PG cB) cB)) k:=Bx.fill hr cB.info (by rw[hl];rfl) (by omega) (by rw[cB.zc,hl];rfl) hv hk
theorem cB.f0{b o:Nat}:cV PG (fieldAt cB (pT b o) 0)=some (pT b o):=by kernel_rfl
theorem cB.f1{b o:Nat}:cV PG (fieldAt cB (pT b o) 1)=some (pT b (o+1)):=by kernel_rfl
theorem cB.f2{b o:Nat}:cV PG (fieldAt cB (pT b o) 2)=some (pT b (o+2)):=by kernel_rfl
theorem cB.f3{b o:Nat}:cV PG (fieldAt cB (pT b o) 3)=some (pT b (o+4)):=by kernel_rfl
theorem cK.und:PG.underlying cK=some (TypeDesc.struct #[{name:="is",type:=25,offset:=0,embedded:=false,tag:="",pkgPath:="carrack/chain",byteOffset:=0},{name:="e",type:=67,offset:=1,embedded:=false,tag:="",pkgPath:="carrack/chain",byteOffset:=8}]):=Tryz.underlying147
theorem cK.info:PG.info? cK=some Tryz.t147:=by kernel_rfl
theorem cK.size:Tryz.t147.size=2:=rfl
theorem cK.bytes:Tryz.t147.bytes=16:=rfl
theorem cK.zero:Tryz.t147.zero=some (Value.agg #[Value.nilFunc,Value.int IntKind.i64 0]):=rfl
theorem cK.zbox{h:PH}{r:Nat}:Bx (h.set r (.cells (dP PG cK) cK)) r ((Value.agg #[Value.nilFunc,Value.int IntKind.i64 0])).cells.toList:=Bx.zero (by kernel_rfl)
theorem cK.zc:dP PG cK=((Value.agg #[Value.nilFunc,Value.int IntKind.i64 0])).cells:=by kernel_rfl
theorem cK.agg{h:PH}{r o:Nat}{cs:List Value}(H:Bx h r cs)(hle:o+2≤cs.length):cG PG h (loadAt cK (pT r o))=some (.agg ((cs.drop o).take 2).toArray):=H.agg cK.und rfl cK.info cK.size hle
theorem cK.put{h:PH}{r o:Nat}{cs vs:List Value}{k:cD}(H:Bx h r cs)(hl:vs.length=2)(ho:o+2≤cs.length)(hv:∀v∈vs,fK v=true)(hk:∀h',Bx h' r (cs.take o++vs++cs.drop (o+2))->cU [r] h h'->k undef h'):cW PG (dJ cK (pT r o) (.agg vs.toArray)) h k:=H.putN cK.info (by rw[hl];rfl) (by omega) (by omega) hv (by rw[hl];exact hk)
theorem cK.fill{h:PH}{r:Nat}{vs:List Value}{k:cD}(hr:h r=none)(hl:vs.length=2)(hv:∀v∈vs,fK v=true)(hk:∀h',Bx h' r vs->dC h h'->k undef h'):cW PG (dJ cK (pT r 0) (.agg vs.toArray)) (h.set r (.cells (dP PG cK) cK)) k:=Bx.fill hr cK.info (by rw[hl];rfl) (by omega) (by rw[cK.zc,hl];rfl) hv hk
theorem cK.f0{b o:Nat}:cV PG (fieldAt cK (pT b o) 0)=some (pT b o):=by kernel_rfl
theorem cK.f1{b o:Nat}:cV PG (fieldAt cK (pT b o) 1)=some (pT b (o+1)):=by kernel_rfl
theorem kY.und:PG.underlying kY=some (TypeDesc.func #[9] #[4] false):=Tryz.underlying159
theorem kY.load{h:PH}{a:Addr}:cG PG h (loadAt kY (.pointer (some a)))=dD h a:=iJ kY.und rfl
theorem dQ.und:PG.underlying dQ=some (TypeDesc.slice 175):=Tryz.underlying171
theorem dQ.info:PG.info? dQ=some Tryz.t171:=by kernel_rfl
theorem dQ.size:Tryz.t171.size=1:=rfl
theorem dQ.load{h:PH}{a:Addr}:cG PG h (loadAt dQ (.pointer (some a)))=dD h a:=iJ dQ.und rfl
theorem gA.f0{b o:Nat}:cV PG (fieldAt gA (pT b o) 0)=some (pT b o):=by kernel_rfl
theorem gA.build0:cV PG (build gA #[])=some (Value.agg #[Value.slice none 0 0]):=by kernel_rfl
theorem eI.und:PG.underlying eI=some (TypeDesc.struct #[{name:="Height",type:=22,offset:=0,embedded:=false,tag:="",pkgPath:="",byteOffset:=0},{name:="Root",type:=9,offset:=1,embedded:=false,tag:="",pkgPath:="",byteOffset:=8}]):=Tryz.underlying175
theorem eI.info:PG.info? eI=some Tryz.t175:=by kernel_rfl
theorem eI.size:Tryz.t175.size=2:=rfl
theorem eI.bytes:Tryz.t175.bytes=24:=rfl
theorem eI.zero:Tryz.t175.zero=some (Value.agg #[Value.int IntKind.u64 0,Value.string {data:=#[]}]):=rfl
theorem eI.f0{b o:Nat}:cV PG (fieldAt eI (pT b o) 0)=some (pT b o):=by kernel_rfl
theorem eI.f1{b o:Nat}:cV PG (fieldAt eI (pT b o) 1)=some (pT b (o+1)):=by kernel_rfl
theorem nL.f0{b o:Nat}:cV PG (fieldAt nL (pT b o) 0)=some (pT b o):=by kernel_rfl
theorem dV.und:PG.underlying dV=some (TypeDesc.pointer 190):=Tryz.underlying187
theorem dV.info:PG.info? dV=some Tryz.t187:=by kernel_rfl
theorem dV.size:Tryz.t187.size=1:=rfl
theorem dV.load{h:PH}{a:Addr}:cG PG h (loadAt dV (.pointer (some a)))=dD h a:=iJ dV.und rfl
theorem dA.und:PG.underlying dA=some (TypeDesc.slice 5):=Tryz.underlying188
theorem dA.info:PG.info? dA=some Tryz.t188:=by kernel_rfl
theorem dA.size:Tryz.t188.size=1:=rfl
theorem dA.load{h:PH}{a:Addr}:cG PG h (loadAt dA (.pointer (some a)))=dD h a:=iJ dA.und rfl
theorem dA.len{a:Option Addr}{n c:Nat}{t:TypeId}:cV PG (Builtin.len_ #[dA] t #[.slice a n c])=some (.int .i64 n):=aOt dA.und
theorem dF.info:PG.info? dF=some Tryz.t190:=by kernel_rfl
theorem dF.size:Tryz.t190.size=2:=rfl
theorem dF.zc:dP PG dF=((Value.agg #[Value.pointer none,Value.slice none 0 0])).cells:=by kernel_rfl
theorem dF.f0{b o:Nat}:cV PG (fieldAt dF (pT b o) 0)=some (pT b o):=by kernel_rfl
theorem dF.f1{b o:Nat}:cV PG (fieldAt dF (pT b o) 1)=some (pT b (o+1)):=by kernel_rfl
theorem fN.zc:dP PG fN=((Value.agg #[Value.int IntKind.i64 0,Value.pointer none,Value.slice none 0 0])).cells:=by kernel_rfl
theorem fN.f0{b o:Nat}:cV PG (fieldAt fN (pT b o) 0)=some (pT b o):=by kernel_rfl
theorem fN.f1{b o:Nat}:cV PG (fieldAt fN (pT b o) 1)=some (pT b (o+1)):=by kernel_rfl
theorem iA.und:PG.underlying iA=some (TypeDesc.map 22 9):=Tryz.underlying204
theorem iA.load{h:PH}{a:Addr}:cG PG h (loadAt iA (.pointer (some a)))=dD h a:=iJ iA.und rfl
theorem iB.f0{b o:Nat}:cV PG (fieldAt iB (pT b o) 0)=some (pT b o):=by kernel_rfl
theorem iB.f1{b o:Nat}:cV PG (fieldAt iB (pT b o) 1)=some (pT b (o+1)):=by kernel_rfl
theorem jD.und:PG.underlying jD=some (TypeDesc.slice 147):=Tryz.underlying211
theorem cL.und:PG.underlying cL=some (TypeDesc.int IntKind.u32):=Tryz.underlying216
theorem cL.info:PG.info? cL=some Tryz.t216:=by kernel_rfl
theorem cL.size:Tryz.t216.size=1:=rfl
theorem cL.bytes:Tryz.t216.bytes=4:=rfl
theorem cL.zero:Tryz.t216.zero=some (Value.int IntKind.u32 0):=rfl
theorem cL.load{h:PH}{a:Addr}:cG PG h (loadAt cL (.pointer (some a)))=dD h a:=iJ cL.und rfl
theorem fI.und:PG.underlying fI=some (TypeDesc.slice 90):=Tryz.underlying221
theorem fI.info:PG.info? fI=some Tryz.t221:=by kernel_rfl
theorem fI.size:Tryz.t221.size=1:=rfl
theorem fI.load{h:PH}{a:Addr}:cG PG h (loadAt fI (.pointer (some a)))=dD h a:=iJ fI.und rfl
theorem dK.f0{b o:Nat}:cV PG (fieldAt dK (pT b o) 0)=some (pT b o):=by kernel_rfl
theorem dK.f1{b o:Nat}:cV PG (fieldAt dK (pT b o) 1)=some (pT b (o+1)):=by kernel_rfl
theorem dK.f2{b o:Nat}:cV PG (fieldAt dK (pT b o) 2)=some (pT b (o+2)):=by kernel_rfl
theorem uQ.und:PG.underlying uQ=some (TypeDesc.slice 3):=Tryz.underlying234
theorem gK.f0{b o:Nat}:cV PG (fieldAt gK (pT b o) 0)=some (pT b o):=by kernel_rfl
theorem gK.f1{b o:Nat}:cV PG (fieldAt gK (pT b o) 1)=some (pT b (o+1)):=by kernel_rfl
theorem fV.und:PG.underlying fV=some (TypeDesc.func #[3,3] #[9] false):=Tryz.underlying250
theorem fV.info:PG.info? fV=some Tryz.t250:=by kernel_rfl
theorem fV.size:Tryz.t250.size=1:=rfl
theorem fV.zc:dP PG fV=(Value.nilFunc).cells:=by kernel_rfl
theorem fV.load{h:PH}{a:Addr}:cG PG h (loadAt fV (.pointer (some a)))=dD h a:=iJ fV.und rfl
theorem fV.fill{h:PH}{r:Nat}{v:Value}{k:cD}(hr:h r=none)(hv:fK v=true)(hk:∀h',Bx h' r [v]->dC h h'->k undef h'):cW PG (dJ fV (pT r 0) v) (h.set r (.cells (dP PG fV) fV)) k:=Bx.fill1 hr fV.und rfl fV.info fV.size (by rw[fV.zc];rfl) hv hk
theorem eY.f0{b o:Nat}:cV PG (fieldAt eY (pT b o) 0)=some (pT b o):=by kernel_rfl
theorem eY.f1{b o:Nat}:cV PG (fieldAt eY (pT b o) 1)=some (pT b (o+1)):=by kernel_rfl
theorem eY.f2{b o:Nat}:cV PG (fieldAt eY (pT b o) 2)=some (pT b (o+2)):=by kernel_rfl
theorem gJ.f0{b o:Nat}:cV PG (fieldAt gJ (pT b o) 0)=some (pT b o):=by kernel_rfl
theorem gJ.f1{b o:Nat}:cV PG (fieldAt gJ (pT b o) 1)=some (pT b (o+1)):=by kernel_rfl
theorem fP.und:PG.underlying fP=some (TypeDesc.func #[90,3] #[] false):=Tryz.underlying278
theorem fP.info:PG.info? fP=some Tryz.t278:=by kernel_rfl
theorem fP.size:Tryz.t278.size=1:=rfl
theorem fP.zc:dP PG fP=(Value.nilFunc).cells:=by kernel_rfl
theorem fP.load{h:PH}{a:Addr}:cG PG h (loadAt fP (.pointer (some a)))=dD h a:=iJ fP.und rfl
theorem fP.fill{h:PH}{r:Nat}{v:Value}{k:cD}(hr:h r=none)(hv:fK v=true)(hk:∀h',Bx h' r [v]->dC h h'->k undef h'):cW PG (dJ fP (pT r 0) v) (h.set r (.cells (dP PG fP) fP)) k:=Bx.fill1 hr fP.und rfl fP.info fP.size (by rw[fP.zc];rfl) hv hk
theorem iG.und:PG.underlying iG=some TypeDesc.unsafePointer:=Tryz.underlying298
theorem eO.und:PG.underlying eO=some (TypeDesc.array 8 216):=Tryz.underlying300
theorem eO.info:PG.info? eO=some Tryz.t300:=by kernel_rfl
theorem eO.size:Tryz.t300.size=8:=rfl
theorem eO.zc:dP PG eO=((Value.agg #[Value.int IntKind.u32 0,Value.int IntKind.u32 0,Value.int IntKind.u32 0,Value.int IntKind.u32 0,Value.int IntKind.u32 0,Value.int IntKind.u32 0,Value.int IntKind.u32 0,Value.int IntKind.u32 0])).cells:=by kernel_rfl
theorem eO.loadAgg{h:PH}{b o:Nat}{c:Array Value}{e:TypeId}{fr:Nat×Nat}(hb:h b=some (.cells c e fr))(hle:o+8≤c.size):cG PG h (loadAt eO (pT b o))=some (.agg (c.extract o (o+8))):=qO eO.und rfl eO.info eO.size hb hle
theorem hQ.und:PG.underlying hQ=some (TypeDesc.struct #[{name:="h",type:=300,offset:=0,embedded:=false,tag:="",pkgPath:="carrack/sha",byteOffset:=0}]):=Tryz.underlying302
theorem hQ.info:PG.info? hQ=some Tryz.t302:=by kernel_rfl
theorem hQ.size:Tryz.t302.size=8:=rfl
theorem hQ.zc:dP PG hQ=((Value.agg #[Value.int IntKind.u32 0,Value.int IntKind.u32 0,Value.int IntKind.u32 0,Value.int IntKind.u32 0,Value.int IntKind.u32 0,Value.int IntKind.u32 0,Value.int IntKind.u32 0,Value.int IntKind.u32 0])).cells:=by kernel_rfl
theorem hQ.loadAgg{h:PH}{b o:Nat}{c:Array Value}{e:TypeId}{fr:Nat×Nat}(hb:h b=some (.cells c e fr))(hle:o+8≤c.size):cG PG h (loadAt hQ (pT b o))=some (.agg (c.extract o (o+8))):=qO hQ.und rfl hQ.info hQ.size hb hle
theorem hQ.f0{b o:Nat}:cV PG (fieldAt hQ (pT b o) 0)=some (pT b o):=by kernel_rfl
theorem fE.und:PG.underlying fE=some (TypeDesc.struct #[{name:="state",type:=302,offset:=0,embedded:=true,tag:="",pkgPath:="carrack/sha",byteOffset:=0},{name:="rest",type:=9,offset:=8,embedded:=false,tag:="",pkgPath:="carrack/sha",byteOffset:=32},{name:="n",type:=3,offset:=9,embedded:=false,tag:="",pkgPath:="carrack/sha",byteOffset:=48}]):=Tryz.underlying305
theorem fE.info:PG.info? fE=some Tryz.t305:=by kernel_rfl
theorem fE.size:Tryz.t305.size=10:=rfl
theorem fE.zc:dP PG fE=((Value.agg #[Value.int IntKind.u32 0,Value.int IntKind.u32 0,Value.int IntKind.u32 0,Value.int IntKind.u32 0,Value.int IntKind.u32 0,Value.int IntKind.u32 0,Value.int IntKind.u32 0,Value.int IntKind.u32 0,Value.string {data:=#[]},Value.int IntKind.i64 0])).cells:=by kernel_rfl
theorem fE.loadAgg{h:PH}{b o:Nat}{c:Array Value}{e:TypeId}{fr:Nat×Nat}(hb:h b=some (.cells c e fr))(hle:o+10≤c.size):cG PG h (loadAt fE (pT b o))=some (.agg (c.extract o (o+10))):=qO fE.und rfl fE.info fE.size hb hle
theorem fE.f0{b o:Nat}:cV PG (fieldAt fE (pT b o) 0)=some (pT b o):=by kernel_rfl
theorem fE.f1{b o:Nat}:cV PG (fieldAt fE (pT b o) 1)=some (pT b (o+8)):=by kernel_rfl
theorem fE.f2{b o:Nat}:cV PG (fieldAt fE (pT b o) 2)=some (pT b (o+9)):=by kernel_rfl
theorem fC.und:PG.underlying fC=some (TypeDesc.array 64 216):=Tryz.underlying314
theorem fC.info:PG.info? fC=some Tryz.t314:=by kernel_rfl
theorem fC.size:Tryz.t314.size=64:=rfl
theorem fC.zc:dP PG fC=((Value.agg #[Value.int IntKind.u32 0,Value.int IntKind.u32 0,Value.int IntKind.u32 0,Value.int IntKind.u32 0,Value.int IntKind.u32 0,Value.int IntKind.u32 0,Value.int IntKind.u32 0,Value.int IntKind.u32 0,Value.int IntKind.u32 0,Value.int IntKind.u32 0,Value.int IntKind.u32 0,Value.int IntKind.u32 0,Value.int IntKind.u32 0,Value.int IntKind.u32 0,Value.int IntKind.u32 0,Value.int IntKind.u32 0,Value.int IntKind.u32 0,Value.int IntKind.u32 0,Value.int IntKind.u32 0,Value.int IntKind.u32 0,Value.int IntKind.u32 0,Value.int IntKind.u32 0,Value.int IntKind.u32 0,Value.int IntKind.u32 0,Value.int IntKind.u32 0,Value.int IntKind.u32 0,Value.int IntKind.u32 0,Value.int IntKind.u32 0,Value.int IntKind.u32 0,Value.int IntKind.u32 0,Value.int IntKind.u32 0,Value.int IntKind.u32 0,Value.int IntKind.u32 0,Value.int IntKind.u32 0,Value.int IntKind.u32 0,Value.int IntKind.u32 0,Value.int IntKind.u32 0,Value.int IntKind.u32 0,Value.int IntKind.u32 0,Value.int IntKind.u32 0,Value.int IntKind.u32 0,Value.int IntKind.u32 0,Value.int IntKind.u32 0,Value.int IntKind.u32 0,Value.int IntKind.u32 0,Value.int IntKind.u32 0,Value.int IntKind.u32 0,Value.int IntKind.u32 0,Value.int IntKind.u32 0,Value.int IntKind.u32 0,Value.int IntKind.u32 0,Value.int IntKind.u32 0,Value.int IntKind.u32 0,Value.int IntKind.u32 0,Value.int IntKind.u32 0,Value.int IntKind.u32 0,Value.int IntKind.u32 0,Value.int IntKind.u32 0,Value.int IntKind.u32 0,Value.int IntKind.u32 0,Value.int IntKind.u32 0,Value.int IntKind.u32 0,Value.int IntKind.u32 0,Value.int IntKind.u32 0])).cells:=by kernel_rfl
theorem fC.loadAgg{h:PH}{b o:Nat}{c:Array Value}{e:TypeId}{fr:Nat×Nat}(hb:h b=some (.cells c e fr))(hle:o+64≤c.size):cG PG h (loadAt fC (pT b o))=some (.agg (c.extract o (o+64))):=qO fC.und rfl fC.info fC.size hb hle
end Go.Proofs.YtcoajnpchhmgjaaGreatDoor
