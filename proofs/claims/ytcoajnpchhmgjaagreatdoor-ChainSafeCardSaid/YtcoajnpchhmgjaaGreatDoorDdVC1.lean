/- The texts of this claim, put together. -/
import Derived.Test.YtcoajnpchhmgjaaGreatDoorDdVC0
import Derived.Test.YtcoajnpchhmgjaaGreatDoorChecked
import Derived.KernelRfl
set_option linter.unusedSimpArgs false
set_option linter.unusedVariables false
set_option linter.unusedSectionVars false
set_option maxRecDepth 100000
open Go.Instr (loadAt fieldAt indexAt extract buildSlice build)
namespace Go.Proofs.YtcoajnpchhmgjaaGreatDoor
open Go
noncomputable abbrev PG:Program:=Tryz.prog
theorem mix:PG.follows .mixedOrders=true:=by kernel_rfl
abbrev zT:FuncId:=3
abbrev aCC:FuncId:=9
abbrev aDd:FuncId:=10
abbrev uI:FuncId:=11
abbrev mZ:FuncId:=12
abbrev xJ:FuncId:=13
abbrev tK:FuncId:=14
abbrev aBF:FuncId:=15
abbrev yJ:FuncId:=16
abbrev aDa:FuncId:=17
abbrev aCq:FuncId:=18
abbrev aF4:FuncId:=19
abbrev aGo:FuncId:=20
abbrev aBA:FuncId:=24
abbrev aH7:FuncId:=25
abbrev rA:FuncId:=29
abbrev aAq:FuncId:=31
abbrev aCk:FuncId:=32
abbrev aDZ:FuncId:=33
abbrev vU:FuncId:=34
abbrev aCG:FuncId:=35
abbrev aDb:FuncId:=36
abbrev aD7:FuncId:=37
abbrev aBm:FuncId:=38
abbrev xK:FuncId:=39
abbrev yZ:FuncId:=40
abbrev zA:FuncId:=41
abbrev sE:FuncId:=42
abbrev yY:FuncId:=43
abbrev zK:FuncId:=44
abbrev vJ:FuncId:=45
abbrev wQ:FuncId:=46
abbrev aCL:FuncId:=47
abbrev aB4:FuncId:=48
abbrev aEq:FuncId:=49
abbrev aFa:FuncId:=50
abbrev aFt:FuncId:=51
abbrev aGr:FuncId:=52
abbrev aEZ:FuncId:=53
abbrev aES:FuncId:=54
abbrev aCD:FuncId:=55
abbrev aIO:FuncId:=56
abbrev aHa:FuncId:=57
abbrev pO:FuncId:=58
abbrev yH:FuncId:=60
abbrev xN:FuncId:=62
abbrev tG:FuncId:=63
abbrev tI:FuncId:=64
abbrev tT:FuncId:=65
abbrev aAz:FuncId:=66
abbrev sR:FuncId:=67
abbrev zU:FuncId:=68
abbrev wD:FuncId:=69
abbrev aAH:FuncId:=70
abbrev uH:FuncId:=71
abbrev vY:FuncId:=72
abbrev aAj:FuncId:=73
abbrev zP:FuncId:=74
abbrev kM:FuncId:=75
abbrev aCt:FuncId:=76
abbrev sU:FuncId:=77
abbrev aCb:FuncId:=78
abbrev aFL:FuncId:=79
abbrev tB:FuncId:=80
abbrev sT:FuncId:=81
abbrev xL:FuncId:=82
abbrev tR:FuncId:=83
abbrev aBU:FuncId:=84
abbrev aDA:FuncId:=85
abbrev aCw:FuncId:=86
abbrev yE:FuncId:=87
abbrev aAY:FuncId:=88
abbrev nI:FuncId:=89
abbrev uR:FuncId:=90
abbrev aA4:FuncId:=91
abbrev aBh:FuncId:=92
abbrev tU:FuncId:=93
abbrev kW:FuncId:=94
abbrev oT:FuncId:=95
abbrev vI:FuncId:=96
abbrev sC:FuncId:=97
abbrev oG:FuncId:=98
abbrev pL:FuncId:=99
abbrev nU:FuncId:=100
abbrev uA:FuncId:=101
abbrev nP:FuncId:=102
abbrev tV:FuncId:=103
abbrev aAm:FuncId:=104
abbrev xI:FuncId:=105
abbrev sB:FuncId:=106
abbrev oR:FuncId:=107
abbrev aCX:FuncId:=108
abbrev wI:FuncId:=109
abbrev rE:FuncId:=110
abbrev aCa:FuncId:=111
abbrev aFP:FuncId:=112
abbrev uW:FuncId:=113
abbrev mP:FuncId:=114
abbrev aFS:FuncId:=115
abbrev aBd:FuncId:=116
abbrev oO:FuncId:=117
abbrev nL:FuncId:=118
abbrev rU:FuncId:=119
abbrev tS:FuncId:=120
abbrev uT:FuncId:=121
abbrev aEr:FuncId:=122
abbrev wC:FuncId:=123
abbrev aHf:FuncId:=124
abbrev aEB:FuncId:=125
abbrev aFT:FuncId:=126
abbrev aGK:FuncId:=127
abbrev aDK:FuncId:=128
abbrev qM:FuncId:=129
abbrev aFU:FuncId:=131
abbrev aDf:FuncId:=132
abbrev aED:FuncId:=134
abbrev aEN:FuncId:=135
abbrev aDP:FuncId:=136
abbrev aC3:FuncId:=137
abbrev aDk:FuncId:=138
abbrev aBo:FuncId:=139
abbrev zM:FuncId:=140
abbrev kC:FuncId:=141
abbrev aBj:FuncId:=142
abbrev aCc:FuncId:=143
abbrev rI:FuncId:=144
abbrev rF:FuncId:=145
abbrev aBa:FuncId:=146
abbrev aDc:FuncId:=147
abbrev aC4:FuncId:=148
abbrev yC:FuncId:=149
abbrev qX:FuncId:=150
abbrev zI:FuncId:=151
abbrev pK:FuncId:=152
abbrev lD:FuncId:=153
abbrev yF:FuncId:=154
abbrev rS:FuncId:=155
abbrev nA:FuncId:=156
abbrev yW:FuncId:=157
abbrev wW:FuncId:=158
abbrev qN:FuncId:=159
abbrev pA:FuncId:=160
abbrev yQ:FuncId:=161
abbrev aGn:FuncId:=162
abbrev uC:FuncId:=163
abbrev pN:FuncId:=164
abbrev aEo:FuncId:=165
abbrev mI:FuncId:=166
abbrev xS:FuncId:=167
abbrev mA:FuncId:=168
abbrev oY:FuncId:=169
abbrev lQ:FuncId:=170
abbrev xP:FuncId:=171
abbrev aER:FuncId:=172
abbrev aAk:FuncId:=173
abbrev xO:FuncId:=174
abbrev aDg:FuncId:=175
abbrev aB3:FuncId:=176
abbrev aEY:FuncId:=177
abbrev aCJ:FuncId:=178
abbrev aCM:FuncId:=179
abbrev aDQ:FuncId:=180
abbrev aEj:FuncId:=181
abbrev aK0:FuncId:=190
abbrev aHF:FuncId:=191
abbrev aGU:FuncId:=192
abbrev aCE:FuncId:=193
abbrev aGp:FuncId:=194
abbrev aAX:FuncId:=195
abbrev sX:FuncId:=196
abbrev aCQ:FuncId:=197
abbrev uL:FuncId:=198
abbrev xR:FuncId:=199
abbrev uD:FuncId:=200
abbrev rD:FuncId:=201
abbrev rV:FuncId:=202
abbrev wZ:FuncId:=203
abbrev wV:FuncId:=204
abbrev mY:FuncId:=205
abbrev aCH:FuncId:=206
abbrev aDI:FuncId:=207
abbrev xV:FuncId:=208
abbrev nD:FuncId:=209
abbrev nC:FuncId:=210
abbrev aCW:FuncId:=211
abbrev aJz:FuncId:=212
abbrev aB5:FuncId:=213
abbrev aGH:FuncId:=214
abbrev aHg:FuncId:=220
abbrev aAZ:FuncId:=221
abbrev aCK:FuncId:=222
abbrev aDl:FuncId:=223
abbrev aCS:FuncId:=224
abbrev mN:FuncId:=225
abbrev tM:FuncId:=226
abbrev qG:FuncId:=227
abbrev xZ:FuncId:=228
abbrev aAV:FuncId:=229
abbrev aKq:FuncId:=230
abbrev aFX:FuncId:=231
abbrev aFe:FuncId:=232
abbrev aEs:FuncId:=233
abbrev aDe:FuncId:=234
abbrev aBi:FuncId:=236
abbrev wB:FuncId:=237
abbrev yK:FuncId:=238
abbrev kX:FuncId:=239
abbrev aBr:FuncId:=240
abbrev aIH:FuncId:=241
abbrev qT:FuncId:=242
abbrev aFV:FuncId:=243
abbrev uS:FuncId:=244
abbrev aA3:FuncId:=245
abbrev rW:FuncId:=246
abbrev aDo:FuncId:=247
abbrev aKx:FuncId:=248
abbrev aHX:FuncId:=249
abbrev aEk:FuncId:=251
abbrev uF:FuncId:=252
abbrev T_:TypeId:=0
abbrev dR:TypeId:=3
abbrev iV:TypeId:=4
abbrev fR:TypeId:=5
abbrev cT:TypeId:=9
abbrev dT:TypeId:=22
abbrev gK:TypeId:=23
abbrev jD:TypeId:=24
abbrev aAD:TypeId:=25
abbrev oB:TypeId:=27
abbrev gG:TypeId:=29
abbrev fX:TypeId:=30
abbrev bR:TypeId:=32
abbrev eI:TypeId:=36
abbrev fO:TypeId:=37
abbrev lM:TypeId:=38
abbrev lI:TypeId:=39
abbrev iW:TypeId:=41
abbrev kH:TypeId:=43
abbrev gV:TypeId:=44
abbrev fS:TypeId:=45
abbrev gB:TypeId:=46
abbrev iC:TypeId:=48
abbrev kB:TypeId:=49
abbrev gH:TypeId:=51
abbrev gP:TypeId:=52
abbrev iJ:TypeId:=54
abbrev iL:TypeId:=55
abbrev iA:TypeId:=56
abbrev kO:TypeId:=57
abbrev eV:TypeId:=59
abbrev jB:TypeId:=60
abbrev lG:TypeId:=61
abbrev lN:TypeId:=63
abbrev iN:TypeId:=67
abbrev iO:TypeId:=84
abbrev eM:TypeId:=90
abbrev gE:TypeId:=92
abbrev iH:TypeId:=114
abbrev gL:TypeId:=116
abbrev jW:TypeId:=118
abbrev fW:TypeId:=120
abbrev eR:TypeId:=125
abbrev eH:TypeId:=127
abbrev eQ:TypeId:=133
abbrev eS:TypeId:=134
abbrev eD:TypeId:=136
abbrev eO:TypeId:=147
abbrev mE:TypeId:=159
abbrev fU:TypeId:=171
abbrev iS:TypeId:=173
abbrev gJ:TypeId:=175
abbrev oP:TypeId:=186
abbrev gA:TypeId:=187
abbrev fC:TypeId:=188
abbrev fJ:TypeId:=190
abbrev iD:TypeId:=192
abbrev jJ:TypeId:=204
abbrev jK:TypeId:=206
abbrev oL:TypeId:=209
abbrev kG:TypeId:=211
abbrev eP:TypeId:=216
abbrev hZ:TypeId:=221
abbrev fN:TypeId:=223
abbrev uO:TypeId:=234
abbrev iY:TypeId:=246
abbrev iM:TypeId:=250
abbrev gY:TypeId:=270
abbrev iX:TypeId:=276
abbrev iE:TypeId:=278
abbrev pB:TypeId:=282
abbrev jR:TypeId:=298
abbrev gO:TypeId:=300
abbrev jH:TypeId:=302
abbrev hE:TypeId:=305
abbrev gZ:TypeId:=314
theorem dR.und:PG.underlying dR=some (TypeDesc.int IntKind.i64):=Tryz.underlying3
theorem dR.info:PG.info? dR=some Tryz.t3:=by kernel_rfl
theorem dR.size:Tryz.t3.size=1:=rfl
theorem dR.load{h:PH}{a:Addr}:bT PG h (loadAt dR (.pointer (some a)))=fH h a:=jS dR.und rfl
theorem iV.und:PG.underlying iV=some TypeDesc.bool:=Tryz.underlying4
theorem iV.info:PG.info? iV=some Tryz.t4:=by kernel_rfl
theorem iV.size:Tryz.t4.size=1:=rfl
theorem iV.zero:Tryz.t4.zero=some (Value.bool false):=rfl
theorem iV.zbox{h:PH}{r:Nat}:Bx (h.set r (.cells (fY PG iV) iV)) r ((Value.bool false)).cells.toList:=Bx.zero (by kernel_rfl)
theorem iV.load{h:PH}{a:Addr}:bT PG h (loadAt iV (.pointer (some a)))=fH h a:=jS iV.und rfl
theorem iV.put{h:PH}{r o:Nat}{cs:List Value}{v:Value}{k:eJ}(H:Bx h r cs)(ho:o<cs.length)(hv:iF v=true)(hk:∀h',Bx h' r (cs.set o v)->eW [r] h h'->k undef h'):eZ PG (fQ iV (pT r o) v) h k:=H.put1 iV.und rfl iV.info iV.size ho hv hk
theorem fR.und:PG.underlying fR=some (TypeDesc.int IntKind.u8):=Tryz.underlying5
theorem fR.info:PG.info? fR=some Tryz.t5:=by kernel_rfl
theorem fR.size:Tryz.t5.size=1:=rfl
theorem fR.bytes:Tryz.t5.bytes=1:=rfl
theorem fR.zero:Tryz.t5.zero=some (Value.int IntKind.u8 0):=rfl
theorem cT.und:PG.underlying cT=some TypeDesc.string:=Tryz.underlying9
theorem cT.info:PG.info? cT=some Tryz.t9:=by kernel_rfl
theorem cT.size:Tryz.t9.size=1:=rfl
theorem cT.bytes:Tryz.t9.bytes=16:=rfl
theorem cT.zero:Tryz.t9.zero=some (Value.string {data:=#[]}):=rfl
theorem cT.zbox{h:PH}{r:Nat}:Bx (h.set r (.cells (fY PG cT) cT)) r ((Value.string {data:=#[]})).cells.toList:=Bx.zero (by kernel_rfl)
theorem cT.load{h:PH}{a:Addr}:bT PG h (loadAt cT (.pointer (some a)))=fH h a:=jS cT.und rfl
theorem cT.put{h:PH}{r o:Nat}{cs:List Value}{v:Value}{k:eJ}(H:Bx h r cs)(ho:o<cs.length)(hv:iF v=true)(hk:∀h',Bx h' r (cs.set o v)->eW [r] h h'->k undef h'):eZ PG (fQ cT (pT r o) v) h k:=H.put1 cT.und rfl cT.info cT.size ho hv hk
theorem cT.len{s:ByteArray}{t:TypeId}:aT PG (Builtin.len_ #[cT] t #[.string s])=some (.int .i64 s.size):=mW cT.und
theorem dT.und:PG.underlying dT=some (TypeDesc.int IntKind.u64):=Tryz.underlying22
theorem dT.info:PG.info? dT=some Tryz.t22:=by kernel_rfl
theorem dT.size:Tryz.t22.size=1:=rfl
theorem dT.bytes:Tryz.t22.bytes=8:=rfl
theorem dT.zero:Tryz.t22.zero=some (Value.int IntKind.u64 0):=rfl
theorem dT.load{h:PH}{a:Addr}:bT PG h (loadAt dT (.pointer (some a)))=fH h a:=jS dT.und rfl
theorem dT.put{h:PH}{r o:Nat}{cs:List Value}{v:Value}{k:eJ}(H:Bx h r cs)(ho:o<cs.length)(hv:iF v=true)(hk:∀h',Bx h' r (cs.set o v)->eW [r] h h'->k undef h'):eZ PG (fQ dT (pT r o) v) h k:=H.put1 dT.und rfl dT.info dT.size ho hv hk
theorem gK.und:PG.underlying gK=some (TypeDesc.array 2 22):=Tryz.underlying23
theorem gK.info:PG.info? gK=some Tryz.t23:=by kernel_rfl
theorem gK.size:Tryz.t23.size=2:=rfl
theorem gK.agg{h:PH}{r o:Nat}{cs:List Value}(H:Bx h r cs)(hle:o+2≤cs.length):bT PG h (loadAt gK (pT r o))=some (.agg ((cs.drop o).take 2).toArray):=H.agg gK.und rfl gK.info gK.size hle
theorem jD.und:PG.underlying jD=some (TypeDesc.slice 36):=Tryz.underlying24
theorem aAD.und:PG.underlying aAD=some (TypeDesc.func #[] #[4] false):=Tryz.underlying25
theorem aAD.load{h:PH}{a:Addr}:bT PG h (loadAt aAD (.pointer (some a)))=fH h a:=jS aAD.und rfl
theorem oB.und:PG.underlying oB=some (TypeDesc.pointer 41):=Tryz.underlying27
theorem gG.und:PG.underlying gG=some (TypeDesc.map 32 4):=Tryz.underlying29
theorem gG.info:PG.info? gG=some Tryz.t29:=by kernel_rfl
theorem gG.size:Tryz.t29.size=1:=rfl
theorem gG.load{h:PH}{a:Addr}:bT PG h (loadAt gG (.pointer (some a)))=fH h a:=jS gG.und rfl
theorem gG.put{h:PH}{r o:Nat}{cs:List Value}{v:Value}{k:eJ}(H:Bx h r cs)(ho:o<cs.length)(hv:iF v=true)(hk:∀h',Bx h' r (cs.set o v)->eW [r] h h'->k undef h'):eZ PG (fQ gG (pT r o) v) h k:=H.put1 gG.und rfl gG.info gG.size ho hv hk
theorem fX.und:PG.underlying fX=some (TypeDesc.array 2 29):=Tryz.underlying30
theorem fX.zbox{h:PH}{r:Nat}:Bx (h.set r (.cells (fY PG fX) fX)) r ((Value.agg #[Value.map none,Value.map none])).cells.toList:=Bx.zero (by kernel_rfl)
theorem bR.und:PG.underlying bR=some (TypeDesc.struct #[{name:="From",type:=3,offset:=0,embedded:=false,tag:="",pkgPath:="",byteOffset:=0},{name:="Seq",type:=22,offset:=1,embedded:=false,tag:="",pkgPath:="",byteOffset:=8},{name:="Timeout",type:=22,offset:=2,embedded:=false,tag:="",pkgPath:="",byteOffset:=16},{name:="Data",type:=9,offset:=3,embedded:=false,tag:="",pkgPath:="",byteOffset:=24}]):=Tryz.underlying32
theorem bR.info:PG.info? bR=some Tryz.t32:=by kernel_rfl
theorem bR.size:Tryz.t32.size=4:=rfl
theorem bR.zbox{h:PH}{r:Nat}:Bx (h.set r (.cells (fY PG bR) bR)) r ((Value.agg #[Value.int IntKind.i64 0,Value.int IntKind.u64 0,Value.int IntKind.u64 0,Value.string {data:=#[]}])).cells.toList:=Bx.zero (by kernel_rfl)
theorem bR.zc:fY PG bR=((Value.agg #[Value.int IntKind.i64 0,Value.int IntKind.u64 0,Value.int IntKind.u64 0,Value.string {data:=#[]}])).cells:=by kernel_rfl
theorem bR.loadAgg{h:PH}{b o:Nat}{c:Array Value}{e:TypeId}{fr:Nat×Nat}(hb:h b=some (.cells c e fr))(hle:o+4≤c.size):bT PG h (loadAt bR (pT b o))=some (.agg (c.extract o (o+4))):=sG bR.und rfl bR.info bR.size hb hle
theorem bR.agg{h:PH}{r o:Nat}{cs:List Value}(H:Bx h r cs)(hle:o+4≤cs.length):bT PG h (loadAt bR (pT r o))=some (.agg ((cs.drop o).take 4).toArray):=H.agg bR.und rfl bR.info bR.size hle
theorem bR.put{h:PH}{r o:Nat}{cs vs:List Value}{k:eJ}(H:Bx h r cs)(hl:vs.length=4)(ho:o+4≤cs.length)(hv:∀v∈vs,iF v=true)(hk:∀h',Bx h' r (cs.take o++vs++cs.drop (o+4))->eW [r] h h'->k undef h'):eZ PG (fQ bR (pT r o) (.agg vs.toArray)) h k:=H.putN bR.info (by rw[hl];rfl) (by omega) (by omega) hv (by rw[hl];exact hk)
theorem bR.fill{h:PH}{r:Nat}{vs:List Value}{k:eJ}(hr:h r=none)(hl:vs.length=4)(hv:∀v∈vs,iF v=true)(hk:∀h',Bx h' r vs->fE h h'->k undef h'):eZ PG (fQ bR (pT r 0) (.agg vs.toArray)) (h.set r (.cells (fY PG bR) bR)) k:=Bx.fill hr bR.info (by rw[hl];rfl) (by omega) (by rw[bR.zc,hl];rfl) hv hk
theorem bR.f0{b o:Nat}:aT PG (fieldAt bR (pT b o) 0)=some (pT b o):=by kernel_rfl
theorem bR.f1{b o:Nat}:aT PG (fieldAt bR (pT b o) 1)=some (pT b (o+1)):=by kernel_rfl
theorem bR.f2{b o:Nat}:aT PG (fieldAt bR (pT b o) 2)=some (pT b (o+2)):=by kernel_rfl
theorem bR.f3{b o:Nat}:aT PG (fieldAt bR (pT b o) 3)=some (pT b (o+3)):=by kernel_rfl
theorem eI.und:PG.underlying eI=some (TypeDesc.struct #[{name:="Kind",type:=3,offset:=0,embedded:=false,tag:="",pkgPath:="",byteOffset:=0},{name:="Id",type:=3,offset:=1,embedded:=false,tag:="",pkgPath:="",byteOffset:=8},{name:="Height",type:=22,offset:=2,embedded:=false,tag:="",pkgPath:="",byteOffset:=16},{name:="Data",type:=9,offset:=3,embedded:=false,tag:="",pkgPath:="",byteOffset:=24},{name:="P",type:=32,offset:=4,embedded:=false,tag:="",pkgPath:="",byteOffset:=40},{name:="Spoilt",type:=4,offset:=8,embedded:=false,tag:="",pkgPath:="",byteOffset:=80}]):=Tryz.underlying36
theorem eI.info:PG.info? eI=some Tryz.t36:=by kernel_rfl
theorem eI.size:Tryz.t36.size=9:=rfl
theorem eI.loadAgg{h:PH}{b o:Nat}{c:Array Value}{e:TypeId}{fr:Nat×Nat}(hb:h b=some (.cells c e fr))(hle:o+9≤c.size):bT PG h (loadAt eI (pT b o))=some (.agg (c.extract o (o+9))):=sG eI.und rfl eI.info eI.size hb hle
theorem eI.agg{h:PH}{r o:Nat}{cs:List Value}(H:Bx h r cs)(hle:o+9≤cs.length):bT PG h (loadAt eI (pT r o))=some (.agg ((cs.drop o).take 9).toArray):=H.agg eI.und rfl eI.info eI.size hle
theorem eI.f0{b o:Nat}:aT PG (fieldAt eI (pT b o) 0)=some (pT b o):=by kernel_rfl
theorem eI.f1{b o:Nat}:aT PG (fieldAt eI (pT b o) 1)=some (pT b (o+1)):=by kernel_rfl
theorem eI.f2{b o:Nat}:aT PG (fieldAt eI (pT b o) 2)=some (pT b (o+2)):=by kernel_rfl
theorem eI.f3{b o:Nat}:aT PG (fieldAt eI (pT b o) 3)=some (pT b (o+3)):=by kernel_rfl
theorem eI.f4{b o:Nat}:aT PG (fieldAt eI (pT b o) 4)=some (pT b (o+4)):=by kernel_rfl
theorem eI.f5{b o:Nat}:aT PG (fieldAt eI (pT b o) 5)=some (pT b (o+8)):=by kernel_rfl
theorem fO.und:PG.underlying fO=some (TypeDesc.pointer 51):=Tryz.underlying37
theorem fO.info:PG.info? fO=some Tryz.t37:=by kernel_rfl
theorem fO.size:Tryz.t37.size=1:=rfl
theorem fO.load{h:PH}{a:Addr}:bT PG h (loadAt fO (.pointer (some a)))=fH h a:=jS fO.und rfl
theorem fO.put{h:PH}{r o:Nat}{cs:List Value}{v:Value}{k:eJ}(H:Bx h r cs)(ho:o<cs.length)(hv:iF v=true)(hk:∀h',Bx h' r (cs.set o v)->eW [r] h h'->k undef h'):eZ PG (fQ fO (pT r o) v) h k:=H.put1 fO.und rfl fO.info fO.size ho hv hk
theorem lM.und:PG.underlying lM=some (TypeDesc.array 2 37):=Tryz.underlying38
theorem lI.und:PG.underlying lI=some (TypeDesc.pointer 63):=Tryz.underlying39
theorem lI.load{h:PH}{a:Addr}:bT PG h (loadAt lI (.pointer (some a)))=fH h a:=jS lI.und rfl
theorem iW.f0{b o:Nat}:aT PG (fieldAt iW (pT b o) 0)=some (pT b o):=by kernel_rfl
theorem iW.f1{b o:Nat}:aT PG (fieldAt iW (pT b o) 1)=some (pT b (o+2)):=by kernel_rfl
theorem kH.und:PG.underlying kH=some (TypeDesc.pointer 116):=Tryz.underlying43
theorem kH.load{h:PH}{a:Addr}:bT PG h (loadAt kH (.pointer (some a)))=fH h a:=jS kH.und rfl
theorem gV.und:PG.underlying gV=some (TypeDesc.slice 45):=Tryz.underlying44
theorem gV.info:PG.info? gV=some Tryz.t44:=by kernel_rfl
theorem gV.size:Tryz.t44.size=1:=rfl
theorem gV.load{h:PH}{a:Addr}:bT PG h (loadAt gV (.pointer (some a)))=fH h a:=jS gV.und rfl
theorem gV.put{h:PH}{r o:Nat}{cs:List Value}{v:Value}{k:eJ}(H:Bx h r cs)(ho:o<cs.length)(hv:iF v=true)(hk:∀h',Bx h' r (cs.set o v)->eW [r] h h'->k undef h'):eZ PG (fQ gV (pT r o) v) h k:=H.put1 gV.und rfl gV.info gV.size ho hv hk
theorem fS.und:PG.underlying fS=some (TypeDesc.slice 84):=Tryz.underlying45
theorem fS.info:PG.info? fS=some Tryz.t45:=by kernel_rfl
theorem fS.size:Tryz.t45.size=1:=rfl
theorem fS.bytes:Tryz.t45.bytes=24:=rfl
theorem fS.zero:Tryz.t45.zero=some (Value.slice none 0 0):=rfl
theorem fS.load{h:PH}{a:Addr}:bT PG h (loadAt fS (.pointer (some a)))=fH h a:=jS fS.und rfl
theorem fS.put{h:PH}{r o:Nat}{cs:List Value}{v:Value}{k:eJ}(H:Bx h r cs)(ho:o<cs.length)(hv:iF v=true)(hk:∀h',Bx h' r (cs.set o v)->eW [r] h h'->k undef h'):eZ PG (fQ fS (pT r o) v) h k:=H.put1 fS.und rfl fS.info fS.size ho hv hk
theorem gB.und:PG.underlying gB=some (TypeDesc.map 9 9):=Tryz.underlying46
theorem gB.load{h:PH}{a:Addr}:bT PG h (loadAt gB (.pointer (some a)))=fH h a:=jS gB.und rfl
theorem iC.f0{b o:Nat}:aT PG (fieldAt iC (pT b o) 0)=some (pT b o):=by kernel_rfl
theorem iC.f2{b o:Nat}:aT PG (fieldAt iC (pT b o) 2)=some (pT b (o+2)):=by kernel_rfl
theorem iC.f3{b o:Nat}:aT PG (fieldAt iC (pT b o) 3)=some (pT b (o+3)):=by kernel_rfl
theorem iC.f4{b o:Nat}:aT PG (fieldAt iC (pT b o) 4)=some (pT b (o+4)):=by kernel_rfl
theorem kB.und:PG.underlying kB=some (TypeDesc.pointer 206):=Tryz.underlying49
theorem kB.load{h:PH}{a:Addr}:bT PG h (loadAt kB (.pointer (some a)))=fH h a:=jS kB.und rfl
theorem gH.f0{b o:Nat}:aT PG (fieldAt gH (pT b o) 0)=some (pT b o):=by kernel_rfl
theorem gH.f1{b o:Nat}:aT PG (fieldAt gH (pT b o) 1)=some (pT b (o+5)):=by kernel_rfl
theorem gH.f2{b o:Nat}:aT PG (fieldAt gH (pT b o) 2)=some (pT b (o+6)):=by kernel_rfl
theorem gH.f3{b o:Nat}:aT PG (fieldAt gH (pT b o) 3)=some (pT b (o+7)):=by kernel_rfl
theorem gP.und:PG.underlying gP=some (TypeDesc.slice 216):=Tryz.underlying52
theorem gP.load{h:PH}{a:Addr}:bT PG h (loadAt gP (.pointer (some a)))=fH h a:=jS gP.und rfl
theorem iJ.f0{b o:Nat}:aT PG (fieldAt iJ (pT b o) 0)=some (pT b o):=by kernel_rfl
theorem iJ.f1{b o:Nat}:aT PG (fieldAt iJ (pT b o) 1)=some (pT b (o+1)):=by kernel_rfl
theorem iJ.f2{b o:Nat}:aT PG (fieldAt iJ (pT b o) 2)=some (pT b (o+2)):=by kernel_rfl
theorem iJ.f3{b o:Nat}:aT PG (fieldAt iJ (pT b o) 3)=some (pT b (o+3)):=by kernel_rfl
theorem iL.und:PG.underlying iL=some (TypeDesc.pointer 54):=Tryz.underlying55
theorem iL.load{h:PH}{a:Addr}:bT PG h (loadAt iL (.pointer (some a)))=fH h a:=jS iL.und rfl
theorem iA.und:PG.underlying iA=some (TypeDesc.pointer 223):=Tryz.underlying56
theorem iA.load{h:PH}{a:Addr}:bT PG h (loadAt iA (.pointer (some a)))=fH h a:=jS iA.und rfl
theorem kO.und:PG.underlying kO=some (TypeDesc.pointer 173):=Tryz.underlying57
theorem kO.load{h:PH}{a:Addr}:bT PG h (loadAt kO (.pointer (some a)))=fH h a:=jS kO.und rfl
theorem eV.f0{b o:Nat}:aT PG (fieldAt eV (pT b o) 0)=some (pT b o):=by kernel_rfl
theorem eV.f1{b o:Nat}:aT PG (fieldAt eV (pT b o) 1)=some (pT b (o+1)):=by kernel_rfl
theorem eV.f2{b o:Nat}:aT PG (fieldAt eV (pT b o) 2)=some (pT b (o+2)):=by kernel_rfl
theorem eV.f3{b o:Nat}:aT PG (fieldAt eV (pT b o) 3)=some (pT b (o+3)):=by kernel_rfl
theorem eV.f4{b o:Nat}:aT PG (fieldAt eV (pT b o) 4)=some (pT b (o+4)):=by kernel_rfl
theorem eV.f5{b o:Nat}:aT PG (fieldAt eV (pT b o) 5)=some (pT b (o+5)):=by kernel_rfl
theorem eV.f6{b o:Nat}:aT PG (fieldAt eV (pT b o) 6)=some (pT b (o+6)):=by kernel_rfl
theorem jB.und:PG.underlying jB=some (TypeDesc.pointer 59):=Tryz.underlying60
theorem jB.info:PG.info? jB=some Tryz.t60:=by kernel_rfl
theorem jB.size:Tryz.t60.size=1:=rfl
theorem jB.load{h:PH}{a:Addr}:bT PG h (loadAt jB (.pointer (some a)))=fH h a:=jS jB.und rfl
theorem lG.und:PG.underlying lG=some (TypeDesc.array 2 60):=Tryz.underlying61
theorem lN.f0{b o:Nat}:aT PG (fieldAt lN (pT b o) 0)=some (pT b o):=by kernel_rfl
theorem iN.und:PG.underlying iN=some (TypeDesc.int IntKind.i64):=Tryz.underlying67
theorem iN.info:PG.info? iN=some Tryz.t67:=by kernel_rfl
theorem iN.size:Tryz.t67.size=1:=rfl
theorem iN.load{h:PH}{a:Addr}:bT PG h (loadAt iN (.pointer (some a)))=fH h a:=jS iN.und rfl
theorem iO.info:PG.info? iO=some Tryz.t84:=by kernel_rfl
theorem iO.size:Tryz.t84.size=5:=rfl
theorem iO.bytes:Tryz.t84.bytes=48:=rfl
theorem iO.zero:Tryz.t84.zero=some (Value.agg #[Value.int IntKind.i64 0,Value.int IntKind.i64 0,Value.int IntKind.u64 0,Value.int IntKind.u64 0,Value.string {data:=#[]}]):=rfl
theorem eM.und:PG.underlying eM=some (TypeDesc.slice 133):=Tryz.underlying90
theorem eM.info:PG.info? eM=some Tryz.t90:=by kernel_rfl
theorem eM.size:Tryz.t90.size=1:=rfl
theorem eM.bytes:Tryz.t90.bytes=24:=rfl
theorem eM.zero:Tryz.t90.zero=some (Value.slice none 0 0):=rfl
theorem eM.load{h:PH}{a:Addr}:bT PG h (loadAt eM (.pointer (some a)))=fH h a:=jS eM.und rfl
theorem gE.und:PG.underlying gE=some (TypeDesc.slice 22):=Tryz.underlying92
theorem gE.info:PG.info? gE=some Tryz.t92:=by kernel_rfl
theorem gE.size:Tryz.t92.size=1:=rfl
theorem gE.load{h:PH}{a:Addr}:bT PG h (loadAt gE (.pointer (some a)))=fH h a:=jS gE.und rfl
theorem iH.und:PG.underlying iH=some (TypeDesc.slice 120):=Tryz.underlying114
theorem iH.info:PG.info? iH=some Tryz.t114:=by kernel_rfl
theorem iH.size:Tryz.t114.size=1:=rfl
theorem iH.load{h:PH}{a:Addr}:bT PG h (loadAt iH (.pointer (some a)))=fH h a:=jS iH.und rfl
theorem gL.f0{b o:Nat}:aT PG (fieldAt gL (pT b o) 0)=some (pT b o):=by kernel_rfl
theorem gL.f1{b o:Nat}:aT PG (fieldAt gL (pT b o) 1)=some (pT b (o+1)):=by kernel_rfl
theorem gL.f2{b o:Nat}:aT PG (fieldAt gL (pT b o) 2)=some (pT b (o+2)):=by kernel_rfl
theorem jW.und:PG.underlying jW=some (TypeDesc.struct #[{name:="l",type:=90,offset:=0,embedded:=false,tag:="",pkgPath:="carrack/store",byteOffset:=0}]):=Tryz.underlying118
theorem jW.info:PG.info? jW=some Tryz.t118:=by kernel_rfl
theorem jW.size:Tryz.t118.size=1:=rfl
theorem jW.loadAgg{h:PH}{b o:Nat}{c:Array Value}{e:TypeId}{fr:Nat×Nat}(hb:h b=some (.cells c e fr))(hle:o+1≤c.size):bT PG h (loadAt jW (pT b o))=some (.agg (c.extract o (o+1))):=sG jW.und rfl jW.info jW.size hb hle
theorem jW.f0{b o:Nat}:aT PG (fieldAt jW (pT b o) 0)=some (pT b o):=by kernel_rfl
theorem fW.und:PG.underlying fW=some (TypeDesc.struct #[{name:="sorted",type:=118,offset:=0,embedded:=true,tag:="",pkgPath:="carrack/store",byteOffset:=0},{name:="root",type:=9,offset:=1,embedded:=false,tag:="",pkgPath:="carrack/store",byteOffset:=24}]):=Tryz.underlying120
theorem fW.info:PG.info? fW=some Tryz.t120:=by kernel_rfl
theorem fW.size:Tryz.t120.size=2:=rfl
theorem fW.bytes:Tryz.t120.bytes=40:=rfl
theorem fW.zero:Tryz.t120.zero=some (Value.agg #[Value.slice none 0 0,Value.string {data:=#[]}]):=rfl
theorem fW.zc:fY PG fW=((Value.agg #[Value.slice none 0 0,Value.string {data:=#[]}])).cells:=by kernel_rfl
theorem fW.loadAgg{h:PH}{b o:Nat}{c:Array Value}{e:TypeId}{fr:Nat×Nat}(hb:h b=some (.cells c e fr))(hle:o+2≤c.size):bT PG h (loadAt fW (pT b o))=some (.agg (c.extract o (o+2))):=sG fW.und rfl fW.info fW.size hb hle
theorem fW.f0{b o:Nat}:aT PG (fieldAt fW (pT b o) 0)=some (pT b o):=by kernel_rfl
theorem fW.f1{b o:Nat}:aT PG (fieldAt fW (pT b o) 1)=some (pT b (o+1)):=by kernel_rfl
theorem eR.und:PG.underlying eR=some (TypeDesc.slice 136):=Tryz.underlying125
theorem eR.info:PG.info? eR=some Tryz.t125:=by kernel_rfl
theorem eR.size:Tryz.t125.size=1:=rfl
theorem eR.load{h:PH}{a:Addr}:bT PG h (loadAt eR (.pointer (some a)))=fH h a:=jS eR.und rfl
theorem eR.put{h:PH}{r o:Nat}{cs:List Value}{v:Value}{k:eJ}(H:Bx h r cs)(ho:o<cs.length)(hv:iF v=true)(hk:∀h',Bx h' r (cs.set o v)->eW [r] h h'->k undef h'):eZ PG (fQ eR (pT r o) v) h k:=H.put1 eR.und rfl eR.info eR.size ho hv hk
theorem eH.und:PG.underlying eH=some (TypeDesc.struct #[{name:="Absent",type:=4,offset:=0,embedded:=false,tag:="",pkgPath:="",byteOffset:=0},{name:="Leaves",type:=125,offset:=1,embedded:=false,tag:="",pkgPath:="",byteOffset:=8}]):=Tryz.underlying127
theorem eH.info:PG.info? eH=some Tryz.t127:=by kernel_rfl
theorem eH.size:Tryz.t127.size=2:=rfl
theorem eH.zbox{h:PH}{r:Nat}:Bx (h.set r (.cells (fY PG eH) eH)) r ((Value.agg #[Value.bool false,Value.slice none 0 0])).cells.toList:=Bx.zero (by kernel_rfl)
theorem eH.zc:fY PG eH=((Value.agg #[Value.bool false,Value.slice none 0 0])).cells:=by kernel_rfl
theorem eH.agg{h:PH}{r o:Nat}{cs:List Value}(H:Bx h r cs)(hle:o+2≤cs.length):bT PG h (loadAt eH (pT r o))=some (.agg ((cs.drop o).take 2).toArray):=H.agg eH.und rfl eH.info eH.size hle
theorem eH.put{h:PH}{r o:Nat}{cs vs:List Value}{k:eJ}(H:Bx h r cs)(hl:vs.length=2)(ho:o+2≤cs.length)(hv:∀v∈vs,iF v=true)(hk:∀h',Bx h' r (cs.take o++vs++cs.drop (o+2))->eW [r] h h'->k undef h'):eZ PG (fQ eH (pT r o) (.agg vs.toArray)) h k:=H.putN eH.info (by rw[hl];rfl) (by omega) (by omega) hv (by rw[hl];exact hk)
theorem eH.fill{h:PH}{r:Nat}{vs:List Value}{k:eJ}(hr:h r=none)(hl:vs.length=2)(hv:∀v∈vs,iF v=true)(hk:∀h',Bx h' r vs->fE h h'->k undef h'):eZ PG (fQ eH (pT r 0) (.agg vs.toArray)) (h.set r (.cells (fY PG eH) eH)) k:=Bx.fill hr eH.info (by rw[hl];rfl) (by omega) (by rw[eH.zc,hl];rfl) hv hk
theorem eH.f0{b o:Nat}:aT PG (fieldAt eH (pT b o) 0)=some (pT b o):=by kernel_rfl
theorem eH.f1{b o:Nat}:aT PG (fieldAt eH (pT b o) 1)=some (pT b (o+1)):=by kernel_rfl
theorem eQ.und:PG.underlying eQ=some (TypeDesc.struct #[{name:="Key",type:=9,offset:=0,embedded:=false,tag:="",pkgPath:="",byteOffset:=0},{name:="Value",type:=9,offset:=1,embedded:=false,tag:="",pkgPath:="",byteOffset:=16}]):=Tryz.underlying133
theorem eQ.info:PG.info? eQ=some Tryz.t133:=by kernel_rfl
theorem eQ.size:Tryz.t133.size=2:=rfl
theorem eQ.bytes:Tryz.t133.bytes=32:=rfl
theorem eQ.zero:Tryz.t133.zero=some (Value.agg #[Value.string {data:=#[]},Value.string {data:=#[]}]):=rfl
theorem eQ.loadAgg{h:PH}{b o:Nat}{c:Array Value}{e:TypeId}{fr:Nat×Nat}(hb:h b=some (.cells c e fr))(hle:o+2≤c.size):bT PG h (loadAt eQ (pT b o))=some (.agg (c.extract o (o+2))):=sG eQ.und rfl eQ.info eQ.size hb hle
theorem eQ.agg{h:PH}{r o:Nat}{cs:List Value}(H:Bx h r cs)(hle:o+2≤cs.length):bT PG h (loadAt eQ (pT r o))=some (.agg ((cs.drop o).take 2).toArray):=H.agg eQ.und rfl eQ.info eQ.size hle
theorem eQ.f0{b o:Nat}:aT PG (fieldAt eQ (pT b o) 0)=some (pT b o):=by kernel_rfl
theorem eQ.f1{b o:Nat}:aT PG (fieldAt eQ (pT b o) 1)=some (pT b (o+1)):=by kernel_rfl
theorem eS.und:PG.underlying eS=some (TypeDesc.slice 9):=Tryz.underlying134
theorem eS.info:PG.info? eS=some Tryz.t134:=by kernel_rfl
theorem eS.size:Tryz.t134.size=1:=rfl
theorem eS.zbox{h:PH}{r:Nat}:Bx (h.set r (.cells (fY PG eS) eS)) r ((Value.slice none 0 0)).cells.toList:=Bx.zero (by kernel_rfl)
theorem eS.load{h:PH}{a:Addr}:bT PG h (loadAt eS (.pointer (some a)))=fH h a:=jS eS.und rfl
theorem eS.put{h:PH}{r o:Nat}{cs:List Value}{v:Value}{k:eJ}(H:Bx h r cs)(ho:o<cs.length)(hv:iF v=true)(hk:∀h',Bx h' r (cs.set o v)->eW [r] h h'->k undef h'):eZ PG (fQ eS (pT r o) v) h k:=H.put1 eS.und rfl eS.info eS.size ho hv hk
theorem eD.und:PG.underlying eD=some (TypeDesc.struct #[{name:="Index",type:=3,offset:=0,embedded:=false,tag:="",pkgPath:="",byteOffset:=0},{name:="Count",type:=3,offset:=1,embedded:=false,tag:="",pkgPath:="",byteOffset:=8},{name:="Pair",type:=133,offset:=2,embedded:=false,tag:="",pkgPath:="",byteOffset:=16},{name:="Path",type:=134,offset:=4,embedded:=false,tag:="",pkgPath:="",byteOffset:=48}]):=Tryz.underlying136
theorem eD.info:PG.info? eD=some Tryz.t136:=by kernel_rfl
theorem eD.size:Tryz.t136.size=5:=rfl
theorem eD.bytes:Tryz.t136.bytes=72:=rfl
theorem eD.zero:Tryz.t136.zero=some (Value.agg #[Value.int IntKind.i64 0,Value.int IntKind.i64 0,Value.string {data:=#[]},Value.string {data:=#[]},Value.slice none 0 0]):=rfl
theorem eD.zbox{h:PH}{r:Nat}:Bx (h.set r (.cells (fY PG eD) eD)) r ((Value.agg #[Value.int IntKind.i64 0,Value.int IntKind.i64 0,Value.string {data:=#[]},Value.string {data:=#[]},Value.slice none 0 0])).cells.toList:=Bx.zero (by kernel_rfl)
theorem eD.zc:fY PG eD=((Value.agg #[Value.int IntKind.i64 0,Value.int IntKind.i64 0,Value.string {data:=#[]},Value.string {data:=#[]},Value.slice none 0 0])).cells:=by kernel_rfl
theorem eD.agg{h:PH}{r o:Nat}{cs:List Value}(H:Bx h r cs)(hle:o+5≤cs.length):bT PG h (loadAt eD (pT r o))=some (.agg ((cs.drop o).take 5).toArray):=H.agg eD.und rfl eD.info eD.size hle
theorem eD.put{h:PH}{r o:Nat}{cs vs:List Value}{k:eJ}(H:Bx h r cs)(hl:vs.length=5)(ho:o+5≤cs.length)(hv:∀v∈vs,iF v=true)(hk:∀h',Bx h' r (cs.take o++vs++cs.drop (o+5))->eW [r] h h'->k undef h'):eZ PG (fQ eD (pT r o) (.agg vs.toArray)) h k:=H.putN eD.info (by rw[hl];rfl) (by omega) (by omega) hv (by rw[hl];exact hk)
theorem eD.fill{h:PH}{r:Nat}{vs:List Value}{k:eJ}(hr:h r=none)(hl:vs.length=5)(hv:∀v∈vs,iF v=true)(hk:∀h',Bx h' r vs->fE h h'->k undef h'):eZ PG (fQ eD (pT r 0) (.agg vs.toArray)) (h.set r (.cells (fY PG eD) eD)) k:=Bx.fill hr eD.info (by rw[hl];rfl) (by omega) (by rw[eD.zc,hl];rfl) hv hk
theorem eD.f0{b o:Nat}:aT PG (fieldAt eD (pT b o) 0)=some (pT b o):=by kernel_rfl
theorem eD.f1{b o:Nat}:aT PG (fieldAt eD (pT b o) 1)=some (pT b (o+1)):=by kernel_rfl
theorem eD.f2{b o:Nat}:aT PG (fieldAt eD (pT b o) 2)=some (pT b (o+2)):=by kernel_rfl
theorem eD.f3{b o:Nat}:aT PG (fieldAt eD (pT b o) 3)=some (pT b (o+4)):=by kernel_rfl
theorem eO.und:PG.underlying eO=some (TypeDesc.struct #[{name:="is",type:=25,offset:=0,embedded:=false,tag:="",pkgPath:="carrack/chain",byteOffset:=0},{name:="e",type:=67,offset:=1,embedded:=false,tag:="",pkgPath:="carrack/chain",byteOffset:=8}]):=Tryz.underlying147
theorem eO.info:PG.info? eO=some Tryz.t147:=by kernel_rfl
theorem eO.size:Tryz.t147.size=2:=rfl
theorem eO.bytes:Tryz.t147.bytes=16:=rfl
theorem eO.zero:Tryz.t147.zero=some (Value.agg #[Value.nilFunc,Value.int IntKind.i64 0]):=rfl
theorem eO.zbox{h:PH}{r:Nat}:Bx (h.set r (.cells (fY PG eO) eO)) r ((Value.agg #[Value.nilFunc,Value.int IntKind.i64 0])).cells.toList:=Bx.zero (by kernel_rfl)
theorem eO.zc:fY PG eO=((Value.agg #[Value.nilFunc,Value.int IntKind.i64 0])).cells:=by kernel_rfl
theorem eO.agg{h:PH}{r o:Nat}{cs:List Value}(H:Bx h r cs)(hle:o+2≤cs.length):bT PG h (loadAt eO (pT r o))=some (.agg ((cs.drop o).take 2).toArray):=H.agg eO.und rfl eO.info eO.size hle
theorem eO.put{h:PH}{r o:Nat}{cs vs:List Value}{k:eJ}(H:Bx h r cs)(hl:vs.length=2)(ho:o+2≤cs.length)(hv:∀v∈vs,iF v=true)(hk:∀h',Bx h' r (cs.take o++vs++cs.drop (o+2))->eW [r] h h'->k undef h'):eZ PG (fQ eO (pT r o) (.agg vs.toArray)) h k:=H.putN eO.info (by rw[hl];rfl) (by omega) (by omega) hv (by rw[hl];exact hk)
theorem eO.fill{h:PH}{r:Nat}{vs:List Value}{k:eJ}(hr:h r=none)(hl:vs.length=2)(hv:∀v∈vs,iF v=true)(hk:∀h',Bx h' r vs->fE h h'->k undef h'):eZ PG (fQ eO (pT r 0) (.agg vs.toArray)) (h.set r (.cells (fY PG eO) eO)) k:=Bx.fill hr eO.info (by rw[hl];rfl) (by omega) (by rw[eO.zc,hl];rfl) hv hk
theorem eO.f0{b o:Nat}:aT PG (fieldAt eO (pT b o) 0)=some (pT b o):=by kernel_rfl
theorem eO.f1{b o:Nat}:aT PG (fieldAt eO (pT b o) 1)=some (pT b (o+1)):=by kernel_rfl
theorem mE.und:PG.underlying mE=some (TypeDesc.func #[9] #[4] false):=Tryz.underlying159
theorem mE.load{h:PH}{a:Addr}:bT PG h (loadAt mE (.pointer (some a)))=fH h a:=jS mE.und rfl
theorem fU.und:PG.underlying fU=some (TypeDesc.slice 175):=Tryz.underlying171
theorem fU.info:PG.info? fU=some Tryz.t171:=by kernel_rfl
theorem fU.size:Tryz.t171.size=1:=rfl
theorem fU.load{h:PH}{a:Addr}:bT PG h (loadAt fU (.pointer (some a)))=fH h a:=jS fU.und rfl
theorem iS.f0{b o:Nat}:aT PG (fieldAt iS (pT b o) 0)=some (pT b o):=by kernel_rfl
theorem iS.build0:aT PG (build iS #[])=some (Value.agg #[Value.slice none 0 0]):=by kernel_rfl
theorem gJ.und:PG.underlying gJ=some (TypeDesc.struct #[{name:="Height",type:=22,offset:=0,embedded:=false,tag:="",pkgPath:="",byteOffset:=0},{name:="Root",type:=9,offset:=1,embedded:=false,tag:="",pkgPath:="",byteOffset:=8}]):=Tryz.underlying175
theorem gJ.info:PG.info? gJ=some Tryz.t175:=by kernel_rfl
theorem gJ.size:Tryz.t175.size=2:=rfl
theorem gJ.bytes:Tryz.t175.bytes=24:=rfl
theorem gJ.zero:Tryz.t175.zero=some (Value.agg #[Value.int IntKind.u64 0,Value.string {data:=#[]}]):=rfl
theorem gJ.f0{b o:Nat}:aT PG (fieldAt gJ (pT b o) 0)=some (pT b o):=by kernel_rfl
theorem gJ.f1{b o:Nat}:aT PG (fieldAt gJ (pT b o) 1)=some (pT b (o+1)):=by kernel_rfl
theorem oP.f0{b o:Nat}:aT PG (fieldAt oP (pT b o) 0)=some (pT b o):=by kernel_rfl
theorem gA.und:PG.underlying gA=some (TypeDesc.pointer 190):=Tryz.underlying187
theorem gA.info:PG.info? gA=some Tryz.t187:=by kernel_rfl
theorem gA.size:Tryz.t187.size=1:=rfl
theorem gA.load{h:PH}{a:Addr}:bT PG h (loadAt gA (.pointer (some a)))=fH h a:=jS gA.und rfl
theorem fC.und:PG.underlying fC=some (TypeDesc.slice 5):=Tryz.underlying188
theorem fC.info:PG.info? fC=some Tryz.t188:=by kernel_rfl
theorem fC.size:Tryz.t188.size=1:=rfl
theorem fC.load{h:PH}{a:Addr}:bT PG h (loadAt fC (.pointer (some a)))=fH h a:=jS fC.und rfl
theorem fC.len{a:Option Addr}{n c:Nat}{t:TypeId}:aT PG (Builtin.len_ #[fC] t #[.slice a n c])=some (.int .i64 n):=aOE fC.und
theorem fJ.info:PG.info? fJ=some Tryz.t190:=by kernel_rfl
theorem fJ.size:Tryz.t190.size=2:=rfl
theorem fJ.zc:fY PG fJ=((Value.agg #[Value.pointer none,Value.slice none 0 0])).cells:=by kernel_rfl
theorem fJ.f0{b o:Nat}:aT PG (fieldAt fJ (pT b o) 0)=some (pT b o):=by kernel_rfl
theorem fJ.f1{b o:Nat}:aT PG (fieldAt fJ (pT b o) 1)=some (pT b (o+1)):=by kernel_rfl
theorem iD.zc:fY PG iD=((Value.agg #[Value.int IntKind.i64 0,Value.pointer none,Value.slice none 0 0])).cells:=by kernel_rfl
theorem iD.f0{b o:Nat}:aT PG (fieldAt iD (pT b o) 0)=some (pT b o):=by kernel_rfl
theorem iD.f1{b o:Nat}:aT PG (fieldAt iD (pT b o) 1)=some (pT b (o+1)):=by kernel_rfl
theorem jJ.und:PG.underlying jJ=some (TypeDesc.map 22 9):=Tryz.underlying204
theorem jJ.load{h:PH}{a:Addr}:bT PG h (loadAt jJ (.pointer (some a)))=fH h a:=jS jJ.und rfl
theorem jK.f0{b o:Nat}:aT PG (fieldAt jK (pT b o) 0)=some (pT b o):=by kernel_rfl
theorem jK.f1{b o:Nat}:aT PG (fieldAt jK (pT b o) 1)=some (pT b (o+1)):=by kernel_rfl
theorem kG.und:PG.underlying kG=some (TypeDesc.slice 147):=Tryz.underlying211
theorem eP.und:PG.underlying eP=some (TypeDesc.int IntKind.u32):=Tryz.underlying216
theorem eP.info:PG.info? eP=some Tryz.t216:=by kernel_rfl
theorem eP.size:Tryz.t216.size=1:=rfl
theorem eP.bytes:Tryz.t216.bytes=4:=rfl
theorem eP.zero:Tryz.t216.zero=some (Value.int IntKind.u32 0):=rfl
theorem eP.load{h:PH}{a:Addr}:bT PG h (loadAt eP (.pointer (some a)))=fH h a:=jS eP.und rfl
theorem hZ.und:PG.underlying hZ=some (TypeDesc.slice 90):=Tryz.underlying221
theorem hZ.info:PG.info? hZ=some Tryz.t221:=by kernel_rfl
theorem hZ.size:Tryz.t221.size=1:=rfl
theorem hZ.load{h:PH}{a:Addr}:bT PG h (loadAt hZ (.pointer (some a)))=fH h a:=jS hZ.und rfl
theorem fN.f0{b o:Nat}:aT PG (fieldAt fN (pT b o) 0)=some (pT b o):=by kernel_rfl
theorem fN.f1{b o:Nat}:aT PG (fieldAt fN (pT b o) 1)=some (pT b (o+1)):=by kernel_rfl
theorem fN.f2{b o:Nat}:aT PG (fieldAt fN (pT b o) 2)=some (pT b (o+2)):=by kernel_rfl
theorem uO.und:PG.underlying uO=some (TypeDesc.slice 3):=Tryz.underlying234
theorem iY.f0{b o:Nat}:aT PG (fieldAt iY (pT b o) 0)=some (pT b o):=by kernel_rfl
theorem iY.f1{b o:Nat}:aT PG (fieldAt iY (pT b o) 1)=some (pT b (o+1)):=by kernel_rfl
theorem iM.und:PG.underlying iM=some (TypeDesc.func #[3,3] #[9] false):=Tryz.underlying250
theorem iM.info:PG.info? iM=some Tryz.t250:=by kernel_rfl
theorem iM.size:Tryz.t250.size=1:=rfl
theorem iM.zc:fY PG iM=(Value.nilFunc).cells:=by kernel_rfl
theorem iM.load{h:PH}{a:Addr}:bT PG h (loadAt iM (.pointer (some a)))=fH h a:=jS iM.und rfl
theorem iM.fill{h:PH}{r:Nat}{v:Value}{k:eJ}(hr:h r=none)(hv:iF v=true)(hk:∀h',Bx h' r [v]->fE h h'->k undef h'):eZ PG (fQ iM (pT r 0) v) (h.set r (.cells (fY PG iM) iM)) k:=Bx.fill1 hr iM.und rfl iM.info iM.size (by rw[iM.zc];rfl) hv hk
theorem gY.f0{b o:Nat}:aT PG (fieldAt gY (pT b o) 0)=some (pT b o):=by kernel_rfl
theorem gY.f1{b o:Nat}:aT PG (fieldAt gY (pT b o) 1)=some (pT b (o+1)):=by kernel_rfl
theorem gY.f2{b o:Nat}:aT PG (fieldAt gY (pT b o) 2)=some (pT b (o+2)):=by kernel_rfl
theorem iX.f0{b o:Nat}:aT PG (fieldAt iX (pT b o) 0)=some (pT b o):=by kernel_rfl
theorem iX.f1{b o:Nat}:aT PG (fieldAt iX (pT b o) 1)=some (pT b (o+1)):=by kernel_rfl
theorem iE.und:PG.underlying iE=some (TypeDesc.func #[90,3] #[] false):=Tryz.underlying278
theorem iE.info:PG.info? iE=some Tryz.t278:=by kernel_rfl
theorem iE.size:Tryz.t278.size=1:=rfl
theorem iE.zc:fY PG iE=(Value.nilFunc).cells:=by kernel_rfl
theorem iE.load{h:PH}{a:Addr}:bT PG h (loadAt iE (.pointer (some a)))=fH h a:=jS iE.und rfl
theorem iE.fill{h:PH}{r:Nat}{v:Value}{k:eJ}(hr:h r=none)(hv:iF v=true)(hk:∀h',Bx h' r [v]->fE h h'->k undef h'):eZ PG (fQ iE (pT r 0) v) (h.set r (.cells (fY PG iE) iE)) k:=Bx.fill1 hr iE.und rfl iE.info iE.size (by rw[iE.zc];rfl) hv hk
theorem jR.und:PG.underlying jR=some TypeDesc.unsafePointer:=Tryz.underlying298
theorem gO.und:PG.underlying gO=some (TypeDesc.array 8 216):=Tryz.underlying300
theorem gO.info:PG.info? gO=some Tryz.t300:=by kernel_rfl
theorem gO.size:Tryz.t300.size=8:=rfl
theorem gO.zc:fY PG gO=((Value.agg #[Value.int IntKind.u32 0,Value.int IntKind.u32 0,Value.int IntKind.u32 0,Value.int IntKind.u32 0,Value.int IntKind.u32 0,Value.int IntKind.u32 0,Value.int IntKind.u32 0,Value.int IntKind.u32 0])).cells:=by kernel_rfl
theorem gO.loadAgg{h:PH}{b o:Nat}{c:Array Value}{e:TypeId}{fr:Nat×Nat}(hb:h b=some (.cells c e fr))(hle:o+8≤c.size):bT PG h (loadAt gO (pT b o))=some (.agg (c.extract o (o+8))):=sG gO.und rfl gO.info gO.size hb hle
theorem jH.und:PG.underlying jH=some (TypeDesc.struct #[{name:="h",type:=300,offset:=0,embedded:=false,tag:="",pkgPath:="carrack/sha",byteOffset:=0}]):=Tryz.underlying302
theorem jH.info:PG.info? jH=some Tryz.t302:=by kernel_rfl
theorem jH.size:Tryz.t302.size=8:=rfl
theorem jH.zc:fY PG jH=((Value.agg #[Value.int IntKind.u32 0,Value.int IntKind.u32 0,Value.int IntKind.u32 0,Value.int IntKind.u32 0,Value.int IntKind.u32 0,Value.int IntKind.u32 0,Value.int IntKind.u32 0,Value.int IntKind.u32 0])).cells:=by kernel_rfl
theorem jH.loadAgg{h:PH}{b o:Nat}{c:Array Value}{e:TypeId}{fr:Nat×Nat}(hb:h b=some (.cells c e fr))(hle:o+8≤c.size):bT PG h (loadAt jH (pT b o))=some (.agg (c.extract o (o+8))):=sG jH.und rfl jH.info jH.size hb hle
theorem jH.f0{b o:Nat}:aT PG (fieldAt jH (pT b o) 0)=some (pT b o):=by kernel_rfl
theorem hE.und:PG.underlying hE=some (TypeDesc.struct #[{name:="state",type:=302,offset:=0,embedded:=true,tag:="",pkgPath:="carrack/sha",byteOffset:=0},{name:="rest",type:=9,offset:=8,embedded:=false,tag:="",pkgPath:="carrack/sha",byteOffset:=32},{name:="n",type:=3,offset:=9,embedded:=false,tag:="",pkgPath:="carrack/sha",byteOffset:=48}]):=Tryz.underlying305
theorem hE.info:PG.info? hE=some Tryz.t305:=by kernel_rfl
theorem hE.size:Tryz.t305.size=10:=rfl
theorem hE.zc:fY PG hE=((Value.agg #[Value.int IntKind.u32 0,Value.int IntKind.u32 0,Value.int IntKind.u32 0,Value.int IntKind.u32 0,Value.int IntKind.u32 0,Value.int IntKind.u32 0,Value.int IntKind.u32 0,Value.int IntKind.u32 0,Value.string {data:=#[]},Value.int IntKind.i64 0])).cells:=by kernel_rfl
theorem hE.loadAgg{h:PH}{b o:Nat}{c:Array Value}{e:TypeId}{fr:Nat×Nat}(hb:h b=some (.cells c e fr))(hle:o+10≤c.size):bT PG h (loadAt hE (pT b o))=some (.agg (c.extract o (o+10))):=sG hE.und rfl hE.info hE.size hb hle
theorem hE.f0{b o:Nat}:aT PG (fieldAt hE (pT b o) 0)=some (pT b o):=by kernel_rfl
theorem hE.f1{b o:Nat}:aT PG (fieldAt hE (pT b o) 1)=some (pT b (o+8)):=by kernel_rfl
theorem hE.f2{b o:Nat}:aT PG (fieldAt hE (pT b o) 2)=some (pT b (o+9)):=by kernel_rfl
theorem gZ.und:PG.underlying gZ=some (TypeDesc.array 64 216):=Tryz.underlying314
theorem gZ.info:PG.info? gZ=some Tryz.t314:=by kernel_rfl
theorem gZ.size:Tryz.t314.size=64:=rfl
theorem gZ.zc:fY PG gZ=((Value.agg #[Value.int IntKind.u32 0,Value.int IntKind.u32 0,Value.int IntKind.u32 0,Value.int IntKind.u32 0,Value.int IntKind.u32 0,Value.int IntKind.u32 0,Value.int IntKind.u32 0,Value.int IntKind.u32 0,Value.int IntKind.u32 0,Value.int IntKind.u32 0,Value.int IntKind.u32 0,Value.int IntKind.u32 0,Value.int IntKind.u32 0,Value.int IntKind.u32 0,Value.int IntKind.u32 0,Value.int IntKind.u32 0,Value.int IntKind.u32 0,Value.int IntKind.u32 0,Value.int IntKind.u32 0,Value.int IntKind.u32 0,Value.int IntKind.u32 0,Value.int IntKind.u32 0,Value.int IntKind.u32 0,Value.int IntKind.u32 0,Value.int IntKind.u32 0,Value.int IntKind.u32 0,Value.int IntKind.u32 0,Value.int IntKind.u32 0,Value.int IntKind.u32 0,Value.int IntKind.u32 0,Value.int IntKind.u32 0,Value.int IntKind.u32 0,Value.int IntKind.u32 0,Value.int IntKind.u32 0,Value.int IntKind.u32 0,Value.int IntKind.u32 0,Value.int IntKind.u32 0,Value.int IntKind.u32 0,Value.int IntKind.u32 0,Value.int IntKind.u32 0,Value.int IntKind.u32 0,Value.int IntKind.u32 0,Value.int IntKind.u32 0,Value.int IntKind.u32 0,Value.int IntKind.u32 0,Value.int IntKind.u32 0,Value.int IntKind.u32 0,Value.int IntKind.u32 0,Value.int IntKind.u32 0,Value.int IntKind.u32 0,Value.int IntKind.u32 0,Value.int IntKind.u32 0,Value.int IntKind.u32 0,Value.int IntKind.u32 0,Value.int IntKind.u32 0,Value.int IntKind.u32 0,Value.int IntKind.u32 0,Value.int IntKind.u32 0,Value.int IntKind.u32 0,Value.int IntKind.u32 0,Value.int IntKind.u32 0,Value.int IntKind.u32 0,Value.int IntKind.u32 0,Value.int IntKind.u32 0])).cells:=by kernel_rfl
theorem gZ.loadAgg{h:PH}{b o:Nat}{c:Array Value}{e:TypeId}{fr:Nat×Nat}(hb:h b=some (.cells c e fr))(hle:o+64≤c.size):bT PG h (loadAt gZ (pT b o))=some (.agg (c.extract o (o+64))):=sG gZ.und rfl gZ.info gZ.size hb hle
end Go.Proofs.YtcoajnpchhmgjaaGreatDoor
