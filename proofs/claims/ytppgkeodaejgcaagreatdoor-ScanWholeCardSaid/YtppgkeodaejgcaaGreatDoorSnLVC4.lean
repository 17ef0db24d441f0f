/- The texts of this claim, put together. -/
import Derived.Test.YtppgkeodaejgcaaGreatDoorSnLVC3
set_option linter.all false
set_option maxRecDepth 100000
open Go.Instr (loadAt fieldAt indexAt extract buildSlice build)
namespace Go.Proofs.YtppgkeodaejgcaaGreatDoor
open Go
def aHQ(R:cD)(u:gJ)(d i a h j:Value)(c:PH):Prop:=fL d λv=>dO eX v 2 λw=>cY c eS w λx=>dO dJ a 0 λy=>cY c cA y λz=>fL d λA=>dO eX A 1 λB=>cY c cA B λC=>dM .sub cA z C λD=>iK eS x D λE=>cY c cU E λe=>dO dJ a 1 λF=>cY c bR F λG=>iR cU bR e λH=>pP (Builtin.min_ #[bR,bR] bR #[G,H]) λI=>pP (Builtin.max_ #[bR,bR] bR #[.int .i64 0,I]) λJ=>dO dJ a 1 λK=>dC PG (dT bR K J) c λav f=>iR cU bR e λL=>dO dJ a 1 λM=>cY f bR M λN=>dM .sub bR L N λO=>iR cU bR j λP=>dM .sub bR i P λQ=>pP (Builtin.min_ #[bR,bR] bR #[O,Q]) λS=>pP (Builtin.max_ #[bR,bR] bR #[.int .i64 0,S]) λk=>dO dJ a 1 λU=>cY f bR U λV=>dO dJ a 1 λW=>cY f bR W λX=>dM .add bR X k λY=>pP (Instr.sliceAt cU e (some V) (some Y) none) λZ=>dC PG (Builtin.append_ #[cU,cU] cU #[j,Z]) f λl m=>dO dJ a 1 λa0=>cY m bR a0 λa1=>dM .add bR a1 k λa2=>dO dJ a 1 λa3=>dC PG (dT bR a3 a2) m λaw n=>dO dJ a 1 λa4=>cY n bR a4 λa5=>iR cU bR e λa6=>dM .lss bR a5 a6 λb=>eQ b false (fieldAt dJ a 0) n λo a7=>gI b false (loadAt cA o) a7 λp a8=>iE b false d a8 λa9 aa=>eQ b false (wC a9) aa λab ac=>eQ b false (fieldAt eX ab 0) ac λad ae=>gI b false (loadAt jE ad) ae λaf q=>mZ (yV b) false (λag=>aT PG qK #[af] q λah ai=>ag ah ai) q λaj r=>((yV b==some false)=true->cG PG r (loadAt cA o)=some p)∧(gI b false (jT .eql cA (.tmp 82) (.tmp 87) p aj) r λak g=>dY (fK b (.bool true) ak) λal=>dK al (cY g dJ a λam=>dC PG (dT dJ h am) g λax s=>(cY s dJ h λan=>R (.tuple #[l,an]) s)) (dO dJ a 0 λao=>cY g cA ao λap=>dM .add cA ap (.int .u64 1) λaq=>pP (build dJ #[(0,aq)]) λar=>dC PG (dT dJ a ar) g λay au=>u [d,i,a,h,l] au))
def xM(d o p:Value)(g:PH)(R:cD):Prop:=∀b,g b=none->eN (PH.set g b (.cells o.cells dJ)) λi=>∀c,i c=none->eN (PH.set i c (.cells (dV PG dJ) dJ)) λe=>dO dJ (pT b 0) 0 λq=>cY e cA q λr=>fL d λs=>dO eX s 1 λu=>cY e cA u λv=>dM .lss cA r v λa=>eQ a false (fieldAt dJ (pT b 0) 0) e λj w=>gI a false (loadAt cA j) w λk x=>iE a false d x λy z=>eQ a false (wC y) z λA B=>eQ a false (fieldAt eX A 0) B λC D=>gI a false (loadAt jE C) D λE l=>mZ (yV a) false (λF=>aT PG qK #[E] l λG H=>F G H) l λI m=>((yV a==some false)=true->cG PG m (loadAt cA j)=some k)∧(eQ a false (binOp .gtr cA k I) m λJ f=>dY (fK a (.bool true) J) λK=>dK K (cY f dJ (pT b 0) λL=>dC PG (dT dJ (pT c 0) L) f λO n=>(cY n dJ (pT c 0) λM=>R (.tuple #[(.slice none 0 0),M]) n)) (iL [0,2,4,7,8] (λN ρ h=>aHQ R N (ρ 0) (ρ 2) (ρ 4) (ρ 7) (ρ 8) h) [d,p,pT b 0,pT c 0,(.slice none 0 0)] f))
def xM.ann:jZ:={b:=λi=>match i with|2=>#[0,1,0,4,12,28,63,127,255,511,255,1279,3327,7423,15615,32767,65535]|3=>#[0,0,3]|4=>#[0,1,3,7,0,16,0,64,192,448,1008,2047,4095,8191]|9=>#[0,1,0,4,15,31,63,127,63,319,831,1855,3903,8191,16383]|10=>#[0,0,1,7]|_=>#[],ord:=λi=>match i with|2=>[0,1,2,3,4,5,6,7,8,9,10,11,12,13,14,15,16]|3=>[0,1,2]|4=>[0,1,2,3,4,5,6,7,8,9,10,11,12,13]|9=>[0,1,2,3,4,5,6,7,8,9,10,11,12,13,14]|10=>[0,1,2,3]|_=>[],keep:=λi=>match i with|4=>[0,2,4,7,8]|_=>[],n:=96}
def xM.call{t0 t1 t2 h0 R}(H:xM t0 t1 t2 h0 R):aT PG wY #[t0,t1,t2] h0 R:=dG xM.ann Tryz.func24 H
def aMO(R:cD)(k:gJ)(e f g h a:Value)(b:PH):Prop:=dM .lss bR a h λl=>dK l (iK cU g a λm=>cY b dA m λn=>∀c,b c=none->eN (PH.set b c (.cells (dV PG dA) dA)) λo=>dC PG (dT dA (pT c 0) n) o λu i=>cY i dA (pT c 0) λp=>aT PG vN #[e,p] i λj d=>iQ d .neq fY (.tmp 19) (.const (.int .i64 0)) j (.int .i64 0) λq=>dK q (R (.tuple #[a,j]) d) (dM .add bR a (.int .i64 1) λr=>k [e,f,g,h,r] d)) (iR cU bR f λs=>R (.tuple #[s,.int .i64 0]) b)
def aJD(b a:Value)(c:PH)(R:cD):Prop:=iR cU bR a λd=>iL [0,1,9,10,11] (λe ρ h=>aMO R e (ρ 0) (ρ 1) (ρ 9) (ρ 10) (ρ 11) h) [b,a,a,d,.int .i64 0] c
def aJD.call{t0 t1 h0 R}(H:aJD t0 t1 h0 R):aT PG aIp #[t0,t1] h0 R:=dG (zM 2 [0,1,9,10,11] 26) Tryz.func27 H
def aGw(R:cD)(e:gJ)(c d b:Value)(a:PH):Prop:=iR cU bR c λf=>dM .lss bR b f λg=>dK g (iK cU c b λh=>cY a dA h λi=>iK cU d b λj=>cY a dA j λk=>iQ a .neq dA (.tmp 20) (.tmp 24) i k λl=>dK l (R (.bool false) a) (dM .add bR b (.int .i64 1) λm=>e [c,d,m] a)) (R (.bool true) a)
def tM(b c:Value)(a:PH)(R:cD):Prop:=iR cU bR b λd=>iR cU bR c λe=>iQ a .neq bR (.tmp 7) (.tmp 9) d e λf=>dK f (R (.bool false) a) (iL [0,1,5] (λg ρ h=>aGw R g (ρ 0) (ρ 1) (ρ 5) h) [b,c,.int .i64 0] a)
def tM.ann:jZ:={b:=λi=>match i with|6=>#[0,0,3,7,0,0,48,112,255]|_=>#[],ord:=λi=>match i with|6=>[0,1,2,3,4,5,6,7,8]|_=>[],keep:=λi=>match i with|4=>[0,1,5]|_=>[],n:=26}
def tM.call{t0 t1 h0 R}(H:tM t0 t1 h0 R):aT PG aC5 #[t0,t1] h0 R:=dG tM.ann Tryz.func28 H
def aEk(R:cD)(e:gJ)(c d b:Value)(a:PH):Prop:=iR cV bR c λf=>dM .lss bR b f λg=>dK g (iK cV c b λh=>cY a dE h λi=>iK cV d b λj=>cY a dE j λk=>iQ a .neq dE (.tmp 20) (.tmp 24) i k λl=>dK l (R (.bool false) a) (dM .add bR b (.int .i64 1) λm=>e [c,d,m] a)) (R (.bool true) a)
def pW(b c:Value)(a:PH)(R:cD):Prop:=iR cV bR b λd=>iR cV bR c λe=>iQ a .neq bR (.tmp 7) (.tmp 9) d e λf=>dK f (R (.bool false) a) (iL [0,1,5] (λg ρ h=>aEk R g (ρ 0) (ρ 1) (ρ 5) h) [b,c,.int .i64 0] a)
def pW.ann:jZ:={b:=λi=>match i with|6=>#[0,0,3,7,0,0,48,112,255]|_=>#[],ord:=λi=>match i with|6=>[0,1,2,3,4,5,6,7,8]|_=>[],keep:=λi=>match i with|4=>[0,1,5]|_=>[],n:=26}
def pW.call{t0 t1 h0 R}(H:pW t0 t1 h0 R):aT PG aAI #[t0,t1] h0 R:=dG pW.ann Tryz.func29 H
def aCX(e:Value)(b:PH)(R:cD):Prop:=fL e λf=>dO gP f 0 λg=>cY b dS g λh=>aT PG lX #[h] b λi j=>aT PG zY #[i] j λa k=>aT PG pN #[a,(.func (Fn.func sN) #[] #[])] k λo l=>iR cV bR a λc=>lG l (Instr.makeSlice cV c c) λd m=>dC PG (Builtin.copy_ #[cV,cV] bR #[d,a]) m λp n=>R d n
def aCX.call{t0 h0 R}(H:aCX t0 h0 R):aT PG aDT #[t0] h0 R:=dG (iN 20) Tryz.func30 H
def wM(a:Value)(b:PH)(R:cD):Prop:=aT PG pI #[(.slice none 0 0),a] b λc d=>R c d
def wM.call{t0 h0 R}(H:wM t0 h0 R):aT PG zY #[t0] h0 R:=dG (iN 5) Tryz.func71 H
noncomputable def iX:Code:=((aDJ (aGB Tryz.f137)).getD 0 (.skip,.skip)).1
noncomputable def iU:Code:=((aDJ (aGB Tryz.f137)).getD 0 (.skip,.skip)).2
def jL(kv:cD)(l:Nat)(c e:Value)(d:PH):Prop:=∀a,d a=none->eN (PH.set d a (.cells (dV PG dE) dE)) λf=>dC PG (dT dE (pT a 0) e) f λp g=>dC PG (Instr.beginRound l) g λ_ b=>cY b cV c λh=>cY b dE (pT a 0) λi=>lG b (buildSlice cV 1 #[(0,i)]) λj k=>dC PG (Builtin.append_ #[cV,cV] cV #[h,j]) k λm n=>dC PG (dT cV c m) n λq o=>dC PG (Instr.endRound l none) o kv
def nE(d e:Value)(b:PH)(R:cD):Prop:=∀a,b a=none->eN (PH.set b a (.cells d.cells cV)) λf=>aIl PG 13 e #[7] iX iU (λc=>cY c cV (pT a 0) λg=>R g c) (λh=>R (.slice none 0 0) h) [] [(2,(pT a 0))] f
def nE.call{t0 t1 h0 R}(H:nE t0 t1 h0 R):aT PG pI #[t0,t1] h0 R:=dG (zM 3 [2] 13) Tryz.func137 H
def jL.eq(kv:cD)(l:Nat)(ρ:lO)(h0:PH):aQs PG (zM 3 [2] 13) 200 l iX iU kv ρ h0=jL kv l (ρ 2) (ρ 7) h0:=by kernel_rfl
def jL.next{kv:cD}{l:Nat}{f:FuncId}{tmps:Array Value}{h0:PH}(hs:tmps.size=13)(H:jL kv l (tmps.getD 2 undef) (tmps.getD 7 undef) h0):uR PG (.round l f tmps iX iU) h0 kv:=
 aUj (zM 3 [2] 13) 200 mix hs (by kernel_rfl) (by kernel_rfl) (jL.eq kv l (λt=>tmps.getD t undef) h0) H
def kO(c:Value)(b:PH)(R:cD):Prop:=∀a,b a=none->eN (PH.set b a (.cells c.cells dS)) λd=>pP (Instr.makeFunc (Fn.func iS) #[] #[pT a 0]) λe=>R e d
def kO.call{t0 h0 R}(H:kO t0 h0 R):aT PG lX #[t0] h0 R:=dG (iN 4) Tryz.func72 H
def oK(R:cD)(h:gJ)(c b:Value)(i:PH):Prop:=dC PG (Instr.next b false T_) i λj d=>gH j 0 λk=>dK k (dC PG (Instr.entry b) d λl e=>gH l 1 λm=>∀a,e a=none->eN (PH.set e a (.cells (dV PG dE) dE)) λn=>dC PG (dT dE (pT a 0) m) n λr f=>cY f dE (pT a 0) λo=>rV PG c #[o] f λp g=>pP (Op.unary .not p) λq=>dK q (R (.tuple #[]) g) (h [c,b] g)) (R (.tuple #[]) d)
def kJ(b c:Value)(a:PH)(R:cD):Prop:=cY a dS c λd=>dC PG (Instr.range dS d) a λe f=>iL [0,6] (λg ρ h=>oK R g (ρ 0) (ρ 6) h) [b,e] f
def kJ.call{t0 t1 h0 R}(H:kJ t0 t1 h0 R):aT PG iS #[t0,t1] h0 R:=dG (zM 1 [0,6] 15) Tryz.func138 H
def sF(k l:Value)(e:PH)(R:cD):Prop:=∀b,e b=none->eN (PH.set e b (.cells k.cells dE)) λf=>∀c,f c=none->eN (PH.set f c (.cells l.cells dE)) λa=>dO dE (pT b 0) 0 λm=>dO aR m 0 λn=>cY a bR n λo=>dO dE (pT c 0) 0 λp=>dO aR p 0 λq=>cY a bR q λr=>dO dE (pT b 0) 0 λs=>dO aR s 1 λg=>cY a cA g λh=>dO dE (pT c 0) 0 λu=>dO aR u 1 λi=>cY a cA i λj=>aT PG aEx #[o,r] a λv d=>cG PG d (loadAt cA i)=some j∧cG PG d (loadAt cA g)=some h∧(aT PG aCg #[h,j] d λw x=>(lG x (buildSlice nQ 2 #[(0,v),(1,w)]) λy z=>aT PG aIr #[y] z λA B=>(R A B)))
def sF.ann:jZ:={b:=λi=>match i with|1=>#[0,1,3,0,8,24,63,0,128,384,0,1024,3072,8191,16383,32767,65535]|_=>#[],ord:=λi=>match i with|1=>[0,1,2,3,4,5,7,8,9,10,11,12,6,13,14,15,16]|_=>[],keep:=λ_=>[],n:=21}
def sF.call{t0 t1 h0 R}(H:sF t0 t1 h0 R):aT PG sN #[t0,t1] h0 R:=dG sF.ann Tryz.func74 H
def aME(R:cD)(g:gJ)(b d e c:Value)(a:PH):Prop:=dM .lss bR c e λh=>dK h (iK nQ d c λi=>cY a bR i λf=>iQ a .neq bR (.tmp 12) (.tmp 13) f b λj=>dK j (R f a) (dM .add bR c (.int .i64 1) λk=>g [b,d,e,k] a)) (R b a)
def aJO(a:Value)(b:PH)(R:cD):Prop:=iR nQ bR a λc=>iL [3,6,7,8] (λd ρ h=>aME R d (ρ 3) (ρ 6) (ρ 7) (ρ 8) h) [(.int .i64 0),a,c,.int .i64 0] b
def aJO.call{t0 h0 R}(H:aJO t0 h0 R):aT PG aIr #[t0] h0 R:=dG (zM 3 [3,6,7,8] 18) Tryz.func75 H
def aEZ(b c:Value)(e:PH)(R:cD):Prop:=aT PG aDb #[b] e λf g=>aT PG aDb #[c] g λd a=>dK f (dK d (R (.int .i64 0) a) (R (.int .i64 (-1)) a)) (dK d (R (.int .i64 1) a) (dM .lss bR b c λh=>dK h (R (.int .i64 (-1)) a) (dM .gtr bR b c λi=>dK i (R (.int .i64 1) a) (R (.int .i64 0) a))))
def aEZ.call{t0 t1 h0 R}(H:aEZ t0 t1 h0 R):aT PG aEx #[t0,t1] h0 R:=dG (iN 20) Tryz.func76 H
def aGR(a:Value)(b:PH)(R:cD):Prop:=iQ b .neq bR (.tmp 3) (.tmp 4) a a λc=>R c b
def aGR.call{t0 h0 R}(H:aGR t0 h0 R):aT PG aDb #[t0] h0 R:=dG (iN 6) Tryz.func140 H
def aBm(b c:Value)(e:PH)(R:cD):Prop:=aT PG aA0 #[b] e λf g=>aT PG aA0 #[c] g λd a=>dK f (dK d (R (.int .i64 0) a) (R (.int .i64 (-1)) a)) (dK d (R (.int .i64 1) a) (dM .lss cA b c λh=>dK h (R (.int .i64 (-1)) a) (dM .gtr cA b c λi=>dK i (R (.int .i64 1) a) (R (.int .i64 0) a))))
def aBm.call{t0 t1 h0 R}(H:aBm t0 t1 h0 R):aT PG aCg #[t0,t1] h0 R:=dG (iN 20) Tryz.func77 H
def aDK(a:Value)(b:PH)(R:cD):Prop:=iQ b .neq cA (.tmp 3) (.tmp 4) a a λc=>R c b
def aDK.call{t0 h0 R}(H:aDK t0 h0 R):aT PG aA0 #[t0] h0 R:=dG (iN 6) Tryz.func141 H
def aHi(R:cD)(e:gJ)(b c d:Value)(a:PH):Prop:=iR cU bR b λf=>dM .lss bR d f λg=>dK g (iK cU b d λh=>cY a dA h λi=>aT PG rT #[c,i] a λo j=>dM .add bR d (.int .i64 1) λk=>e [b,c,k] j) (fL c λl=>dO dQ l 0 λm=>cY a cV m λn=>R n a)
def aCN(b:Value)(c:PH)(R:cD):Prop:=iR cU bR b λd=>dM .add bR d (.int .i64 1) λe=>pP (build dQ #[(1,e)]) λf=>∀a,c a=none->eN (PH.set c a (.cells f.cells dQ)) λg=>iL [0,3,4] (λi ρ h=>aHi R i (ρ 0) (ρ 3) (ρ 4) h) [b,pT a 0,.int .i64 0] g
def aCN.call{t0 h0 R}(H:aCN t0 h0 R):aT PG aDe #[t0] h0 R:=dG (zM 3 [0,3,4] 26) Tryz.func31 H
end Go.Proofs.YtppgkeodaejgcaaGreatDoor
