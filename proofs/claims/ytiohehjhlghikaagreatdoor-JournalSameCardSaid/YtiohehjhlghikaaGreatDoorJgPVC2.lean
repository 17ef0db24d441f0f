/- The texts of this claim, put together. -/
import Derived.Test.YtiohehjhlghikaaGreatDoorJgPVC1
set_option linter.all false
set_option maxRecDepth 100000
open Go.Instr (loadAt fieldAt indexAt extract buildSlice build)
namespace Go.Proofs.YtiohehjhlghikaaGreatDoor
open Go
def pP(x:Sem Value)(k:Value->Prop):Prop:=bZ (cC PG x) k
def pE(h:PH)(x:Sem Value)(k:Value->Prop):Prop:=bZ (cB PG h x) k
def dP(t:TypeId)(v:Value)(n:Nat)(k:Value->Prop):Prop:=bZ (cC PG (fieldAt t v n)) k
def dU(o:BinOp)(t:TypeId)(x y:Value)(k:Value->Prop):Prop:=bZ (cC PG (binOp o t x y)) k
def dI(h:PH)(t:TypeId)(x:Value)(k:Value->Prop):Prop:=bZ (cB PG h (loadAt t x)) k
def mI(t:TypeId)(x y:Value)(k:Value->Prop):Prop:=bZ (cC PG (indexAt t x y)) k
def fT(x:Value)(n:Nat)(k:Value->Prop):Prop:=bZ (cC PG (extract x n)) k
def fX(x:Value)(k:Value->Prop):Prop:=bZ (cC PG (gH x)) k
def iJ(t u:TypeId)(x:Value)(k:Value->Prop):Prop:=bZ (cC PG (Builtin.len_ #[t] u #[x])) k
def gG(h:PH)(o:BinOp)(t:TypeId)(x y:Operand)(a b:Value)(k:Value->Prop):Prop:=bZ (cB PG h (fJ o t x y a b)) k
def gY(c:Value)(w:Bool)(v:Value)(h:PH)(k:cF):Prop:=fA (yV c) w (λj=>j v h) h k
def eZ(c:Value)(w:Bool)(x:Sem Value)(h:PH)(k:cF):Prop:=fA (yV c) w (λj=>bZ (cC PG x) λv=>j v h) h k
def gB(c:Value)(w:Bool)(x:Sem Value)(h:PH)(k:cF):Prop:=fA (yV c) w (λj=>bZ (cB PG h x) λv=>j v h) h k
def yD(h:PH)(x:Sem Value)(k:cF):Prop:=bZ (jT PG x) λy=>∀r,h r=none->bZ (cC PG (y.2 r)) λv=>dT (PH.set h r y.1) λh'=>k v h'
def zPP:(∀(x:Sem Value) (k:Value->Prop),pP x k=bZ (cC PG x) k)∧(∀(h:PH) (x:Sem Value) (k:Value->Prop),pE h x k=bZ (cB PG h x) k)∧(∀(t:TypeId) (v:Value) (n:Nat) (k:Value->Prop),dP t v n k=bZ (cC PG (fieldAt t v n)) k)∧(∀(o:BinOp) (t:TypeId) (x y:Value) (k:Value->Prop),dU o t x y k=bZ (cC PG (binOp o t x y)) k)∧(∀(h:PH) (t:TypeId) (x:Value) (k:Value->Prop),dI h t x k=bZ (cB PG h (loadAt t x)) k)∧(∀(t:TypeId) (x y:Value) (k:Value->Prop),mI t x y k=bZ (cC PG (indexAt t x y)) k)∧(∀(x:Value) (n:Nat) (k:Value->Prop),fT x n k=bZ (cC PG (extract x n)) k)∧(∀(x:Value) (k:Value->Prop),fX x k=bZ (cC PG (gH x)) k)∧(∀(t u:TypeId) (x:Value) (k:Value->Prop),iJ t u x k=bZ (cC PG (Builtin.len_ #[t] u #[x])) k)∧(∀(h:PH) (o:BinOp) (t:TypeId) (x y:Operand) (a b:Value) (k:Value->Prop),gG h o t x y a b k=bZ (cB PG h (fJ o t x y a b)) k)∧(∀(c:Value) (w:Bool) (v:Value) (h:PH) (k:cF),gY c w v h k=fA (yV c) w (λj=>j v h) h k)∧(∀(c:Value) (w:Bool) (x:Sem Value) (h:PH) (k:cF),eZ c w x h k=fA (yV c) w (λj=>bZ (cC PG x) λv=>j v h) h k)∧(∀(c:Value) (w:Bool) (x:Sem Value) (h:PH) (k:cF),gB c w x h k=fA (yV c) w (λj=>bZ (cB PG h x) λv=>j v h) h k)∧(∀(h:PH) (x:Sem Value) (k:cF),yD h x k=bZ (jT PG x) λy=>∀r,h r=none->bZ (cC PG (y.2 r)) λv=>dT (PH.set h r y.1) λh'=>k v h'):=⟨λ_ _=>(rfl),λ_ _ _=>(rfl),λ_ _ _ _=>(rfl),λ_ _ _ _ _=>(rfl),λ_ _ _ _=>(rfl),λ_ _ _ _=>(rfl),λ_ _ _=>(rfl),λ_ _=>(rfl),λ_ _ _ _=>(rfl),λ_ _ _ _ _ _ _ _=>(rfl),λ_ _ _ _ _=>(rfl),λ_ _ _ _ _=>(rfl),λ_ _ _ _ _=>(rfl),λ_ _ _=>(rfl)⟩
def dC{f:FuncId}{fn:Func}(ann:kD)(hf:PG.funcs[f]? =some fn){args:Array Value}{h:PH}{R:cF}{X:Prop}(H:X)(ha:decide (args.size≤fn.ntmps)=true:=by kernel_rfl)(h1:aCb PG f=true:=by kernel_rfl)(h2:fn.body.isSome=true:=by kernel_rfl)(h3:decide (uC (aBi fn)<200)=true:=by kernel_rfl)(h4:wM PG ann fn.ntmps (aBi fn)=true:=by kernel_rfl)(he:aDV PG ann 200 (aBi fn) (aV9 PG fn R) (λt=>args.getD t undef) h=X:=by kernel_rfl):bW PG f args h R:=aSW ann 200 mix hf h1 h2 h3 h4 (of_decide_eq_true ha) he H
def iK(n:Nat):kD:={b:=λi=>#[],ord:=λi=>[],keep:=λi=>[],n:=n}
def sL(k:Nat)(l:List Nat)(n:Nat):kD:={b:=λi=>#[],ord:=λi=>[],keep:=λi=>if i=k then l else [],n:=n}
def aWF:Array UInt8:=((((List.replicate 64 32:List UInt8).append) (List.replicate 64 32:List UInt8)).toArray)
def aVr:Array UInt8:=((((List.replicate 64 45:List UInt8).append) (List.replicate 64 45:List UInt8)).toArray)
def aV8:Array UInt8:=((((List.replicate 64 61:List UInt8).append) (List.replicate 64 61:List UInt8)).toArray)
def tC(R:cF)(a:fY)(b c d e f g h i:Value)(j:PH):Prop:=dU .add aR i (.int .i64 1) λk=>a [b,c,d,e,f,g,h,k] j
def oZ(R:cF)(a:fY)(b c d e f g h i:Value)(j:PH):Prop:=tC R a b c d e f g h i j
def oQ(R:cF)(g:fY)(h i j k l b a m:Value)(c:PH):Prop:=dI c aT a λd=>bW PG mN #[b] c λn e=>cB PG e (loadAt aT a)=some d∧(bW PG rJ #[n,d] e λo f=>(pP (Op.unary .not o) λp=>cN p (R (.bool false) f) (oZ R g h i j k l b a m f)))
def oV(R:cF)(m:fY)(h a n o p e f b:Value)(c:PH):Prop:=mI fU a b λB=>dP dR B 0 λC=>dI c aR C λD=>gG c .neq aR (.tmp 93) (.const (.int .i64 0)) D (.int .i64 0) λE=>cN E (oZ R m h a n o p e f b c) (dI c aT f λF=>mI fU a b λG=>dP dR G 2 λH=>dI c aR H λI=>mI fU a b λJ=>dP dR J 3 λK=>dI c cG K λL=>mI fU a b λM=>dP dR M 4 λN=>dI c cT N λO=>pP (build bT #[(0,(.int .i64 2)),(2,I),(3,L),(4,O)]) λP=>bW PG wG #[F,h,P] c λv w=>(fT v 0 λQ=>fT v 1 λq=>∀i,w i=none->dT (PH.set w i (.cells (dD PG aT) aT)) λS=>cM PG (cP aT (pT i 0) Q) S λaE j=>(mI fU a b λU=>dP dR U 2 λV=>dI j aR V λW=>mI fU a b λX=>dP dR X 3 λY=>dI j cG Y λZ=>mI fU a b λa0=>dP dR a0 4 λa1=>dI j cT a1 λa2=>bW PG pM #[e,W,Z,a2] j λk x=>(gG x .neq aR (.tmp 134) (.const (.int .i64 0)) q (.int .i64 0) λl=>gY l true k x λa3 a4=>gY l true q a4 λa5 a6=>gB l true (fJ .neq aR (.tmp 137) (.tmp 138) a3 a5) a6 λa7 a8=>bZ (eH l a7 (.bool false)) λd=>gY d false q a8 λa9 aa=>gB d false (fJ .eql aR (.tmp 142) (.const (.int .i64 0)) a9 (.int .i64 0)) aa λab ac=>gY d false ab ac λr ad=>gY r true k ad λae af=>gB r true (fJ .neq dF (.tmp 145) (.const (.int .i64 0)) ae (.int .i64 0)) af λag y=>fA (yV d) false (λah=>bZ (eH r ag (.bool false)) λai=>ah ai y) y λaj ak=>gY d false aj ak λs al=>gY s true k al λam an=>gB s true (fJ .neq dF (.tmp 149) (.const (.int .i64 2)) am (.int .i64 2)) an λao z=>fA (yV d) false (λap=>bZ (eH s ao (.bool false)) λaq=>ap aq z) z λar au=>bZ (eH d (.bool true) ar) λu=>gY u false e au λav A=>fA (yV u) false (λaw=>bW PG oH #[av] A λax ay=>aw ax ay) A λaz g=>bZ (eH u (.bool true) az) λaA=>cN aA (R (.bool false) g) (gG g .eql dF (.tmp 157) (.const (.int .i64 0)) k (.int .i64 0) λaB=>cN aB (dI g aT (pT i 0) λaC=>cM PG (cP aT f aC) g λaF aD=>oQ R m h a n o p e f b aD) (oQ R m h a n o p e f b g))))))
def aAs(R:cF)(n:fY)(f g h i j u c d:Value)(b:PH):Prop:=iJ fU aR g λv=>dU .lss aR d v λw=>cN w (gG b .eql aR (.tmp 60) (.tmp 61) d h λx=>cN x (fX j λy=>dP dK y 0 λz=>dI b gC z λA=>dI b cR i λB=>bW PG yQ #[A,f,B] b λo e=>(fT o 0 λk=>fT o 1 λp=>gG e .eql dF (.tmp 73) (.const (.int .i64 2)) p (.int .i64 2) λC=>cN C (R (.bool true) e) (gG e .neq dF (.tmp 75) (.const (.int .i64 0)) p (.int .i64 0) λl=>gY l false k e λD E=>gB l false (fJ .eql eJ (.tmp 78) (.const (.pointer none)) D (.pointer none)) E λF G=>bZ (eH l (.bool true) F) λa=>gY a false k G λH I=>gB a false (loadAt aT c) I λq r=>fA (yV a) false (λJ=>bW PG mN #[H] r λK L=>J K L) r λM m=>((yV a==some false)=true->cB PG m (loadAt aT c)=some q)∧(fA (yV a) false (λN=>bW PG rJ #[M,q] m λO P=>N O P) m λQ S=>(eZ a false (Op.unary .not Q) S λU s=>bZ (eH a (.bool true) U) λV=>cN V (R (.bool false) s) (oV R n f g h i j k c d s)))))) (oV R n f g h i j u c d b)) (R (.bool true) b)
def mO(g i j n k o:Value)(l:PH)(R:cF):Prop:=∀c,l c=none->dT (PH.set l c (.cells n.cells cR)) λp=>bW PG aAv #[] p λq m=>pP (Op.unary .not q) λr=>cN r (R (.bool false) m) (bW PG aBu #[g,i,k] m λs e=>pP (Op.unary .not s) λu=>cN u (R (.bool true) e) (dI e cR (pT c 0) λv=>bW PG wC #[g,i,j,v] e λb f=>gG f .eql oI (.tmp 34) (.const (.pointer none)) b (.pointer none) λw=>cN w (R (.bool false) f) (bW PG mG #[b] f λN a=>fX b λx=>dP dK x 1 λy=>dI a eJ y λz=>gG a .eql eJ (.tmp 41) (.const (.pointer none)) z (.pointer none) λA=>cN A (fX b λB=>dP dK B 2 λC=>dI a dF C λD=>gG a .neq dF (.tmp 46) (.const (.int .i64 0)) D (.int .i64 0) λE=>R E a) (fX b λF=>dP dK F 1 λG=>dI a eJ G λH=>dI a cR (pT c 0) λI=>pP (build aT #[(0,I)]) λJ=>∀d,a d=none->dT (PH.set a d (.cells (dD PG aT) aT)) λK=>cM PG (cP aT (pT d 0) J) K λO L=>gU [2,4,5,9,13,14,15,16] (λM ρ h=>aAs R M (ρ 2) (ρ 4) (ρ 5) (ρ 9) (ρ 13) (ρ 14) (ρ 15) (ρ 16) h) [j,k,o,pT c 0,b,H,pT d 0,.int .i64 0] L))))
def mO.ann:kD:={b:=λi=>match i with|17=>#[0,1,3,7,0,0,63,127,255,255,511,2047]|20=>#[0,1,3,7,15,31,63,127,255,127,1023,2047,4095]|24=>#[0,0,0,0,12,28,60,0,0,384,896,1920,0,0,12288,28672,61440,131068,262143,524287,1048575,1048575,0,6291455,16777215]|25=>#[0,0,0,6,14,30,0,0,192,448,960,0,0,6144,14336,30720,65535,131071]|30=>#[0,1,0,7,15]|_=>#[],ord:=λi=>match i with|17=>[0,1,2,3,4,5,6,7,8,9,10,11]|20=>[0,1,2,3,4,5,6,7,9,8,10,11,12]|24=>[0,1,2,3,4,5,6,7,8,9,10,11,12,13,14,15,16,17,18,19,20,21,22,23,24]|25=>[0,1,2,3,4,5,6,7,8,9,10,11,12,13,14,15,16,17]|30=>[0,2,1,3,4]|_=>[],keep:=λi=>match i with|14=>[2,4,5,9,13,14,15,16]|_=>[],n:=165}
def mO.call{t0 t1 t2 t3 t4 t5 h0 R}(H:mO t0 t1 t2 t3 t4 t5 h0 R):bW PG tW #[t0,t1,t2,t3,t4,t5] h0 R:=dC mO.ann Tryz.func3 H
def qZ(q:PH)(R:cF):Prop:=pP (build cG #[(0,(.int .u64 5))]) λr=>pP (build cG #[(0,(.int .u64 5))]) λs=>pP (build cR #[(0,r),(1,s)]) λu=>bW PG wC #[.int .i64 64,.int .i64 20,.int .i64 2,u] q λb m=>gG m .eql oI (.tmp 9) (.const (.pointer none)) b (.pointer none) λi=>gY i false b m λv n=>fA (yV i) false (λw=>bW PG mG #[v] n λx y=>w x y) n λz A=>eZ i false (Op.unary .not z) A λB C=>bZ (eH i (.bool true) B) λc=>gY c false b C λD E=>eZ c false (gH D) E λF G=>eZ c false (fieldAt dK F 1) G λH I=>gB c false (loadAt eJ H) I λJ K=>gB c false (fJ .eql eJ (.tmp 20) (.const (.pointer none)) J (.pointer none)) K λL j=>bZ (eH c (.bool true) L) λM=>cN M (R (.bool false) j) (pP (build bX #[(1,(.int .u64 1)),(2,(.int .u64 9))]) λN=>∀g,j g=none->dT (PH.set j g (.cells (dD PG bX) bX)) λO=>cM PG (cP bX (pT g 0) N) O λaS k=>fX b λP=>dP dK P 1 λQ=>dI k eJ Q λS=>pP (build cG #[(0,(.int .u64 6)),(1,(.int .i64 1))]) λU=>dI k bX (pT g 0) λV=>pP (build cK #[(0,(.int .i64 1)),(1,V)]) λW=>yD k (buildSlice cT 1 #[(0,W)]) λX Y=>bW PG pM #[S,.int .i64 0,U,X] Y λZ a0=>(bW PG mG #[b] a0 λa1 a2=>pP (Op.unary .not a1) λd=>gY d false b a2 λa3 a4=>eZ d false (gH a3) a4 λa5 a6=>eZ d false (fieldAt dK a5 1) a6 λa7 a8=>gB d false (loadAt eJ a7) a8 λa9 aa=>gB d false (fJ .eql eJ (.tmp 40) (.const (.pointer none)) a9 (.pointer none)) aa λab l=>bZ (eH d (.bool true) ab) λac=>cN ac (R (.bool false) l) (fX b λad=>dP dK ad 1 λae=>dI l eJ ae λaf=>bW PG mN #[af] l λag o=>∀e,o e=none->dT (PH.set o e (.cells (dD PG aT) aT)) λah=>cM PG (cP aT (pT e 0) ag) ah λaU p=>gG p .eql dF (.tmp 48) (.const (.int .i64 0)) Z (.int .i64 0) λh=>eZ h true (fieldAt aT (pT e 0) 1) p λai aj=>gB h true (loadAt bY ai) aj λak al=>eZ h true (Builtin.len_ #[bY] aR #[ak]) al λam an=>gB h true (fJ .eql aR (.tmp 53) (.const (.int .i64 1)) am (.int .i64 1)) an λao ap=>bZ (eH h ao (.bool false)) λa=>eZ a true (fieldAt aT (pT e 0) 1) ap λaq ar=>gB a true (loadAt bY aq) ar λau av=>eZ a true (indexAt bY au (.int .i64 0)) av λaw ax=>eZ a true (fieldAt cE aw 0) ax λay az=>gB a true (loadAt bX ay) az λaA aB=>gB a true (loadAt bX (pT g 0)) aB λaC aD=>gB a true (fJ .eql bX (.tmp 61) (.tmp 62) aA aC) aD λaE aF=>bZ (eH a aE (.bool false)) λf=>eZ f true (fieldAt aT (pT e 0) 0) aF λaG aH=>eZ f true (indexAt cR aG (.int .i64 0)) aH λaI aJ=>gB f true (loadAt cG aI) aJ λaK aL=>eZ f true (build cG #[(0,(.int .u64 6)),(1,(.int .i64 1))]) aL λaM aN=>gB f true (fJ .eql cG (.tmp 68) (.tmp 69) aK aM) aN λaO aP=>bZ (eH f aO (.bool false)) λaQ=>R aQ aP)))
def qZ.ann:kD:={b:=λi=>match i with|5=>#[0,1,3,7,0,0,32,96,255,511]|9=>#[0,1,3,7,15,31,63,127,255,511,1023,2047,4095,8191,511,32767,65535,131071,262143,524287,1048575,262143,4194303,8388607,16777215]|_=>#[],ord:=λi=>match i with|5=>[0,1,2,3,4,5,6,7,8,9]|9=>[0,1,2,3,4,5,6,7,8,9,10,11,12,13,14,15,16,17,18,19,20,21,22,23,24]|_=>[],keep:=λ_=>[],n:=72}
def qZ.call{h0 R}(H:qZ h0 R):bW PG aAv #[] h0 R:=dC qZ.ann Tryz.func7 H
def sD(f g m n:Value)(h:PH)(R:cF):Prop:=∀a,h a=none->dT (PH.set h a (.cells n.cells cR)) λo=>bW PG aII #[f,g] o λi j=>fT i 0 λk=>fT i 1 λp=>gG j .neq dF (.tmp 17) (.const (.int .i64 0)) p (.int .i64 0) λb=>gY b false k j λq r=>gB b false (fJ .eql gC (.tmp 20) (.const (.pointer none)) q (.pointer none)) r λs c=>bZ (eH b (.bool true) s) λu=>cN u (R (.pointer none) c) (dI c cR (pT a 0) λl=>bW PG aBx #[f,g] c λv d=>cB PG d (loadAt cR (pT a 0))=some l∧(pP (build dK #[(0,k),(3,v),(5,m),(6,l)]) λw=>∀e,d e=none->dT (PH.set d e (.cells w.cells dK)) λx=>R (pT e 0) x))
def sD.ann:kD:={b:=λi=>match i with|4=>#[0,0,0,6,0,0,63,127,255]|_=>#[],ord:=λi=>match i with|4=>[0,1,2,4,5,3,6,7,8]|_=>[],keep:=λ_=>[],n:=31}
def sD.call{t0 t1 t2 t3 h0 R}(H:sD t0 t1 t2 t3 h0 R):bW PG wC #[t0,t1,t2,t3] h0 R:=dC sD.ann Tryz.func9 H
def aJt(R:cF)(n38:fY)(t0:Value)(t6:Value)(t33:Value)(t34:Value)(h0:PH):Prop:=
 bZ (cC PG (binOp BinOp.lss aR t34 t33)) λv40=>
 cN v40
 (bZ (cC PG (gH t6)) λv41=>
 bZ (cC PG (fieldAt eM v41 1)) λv42=>
 bZ (cB PG h0 (loadAt dE v42)) λv43=>
 bW PG vY #[(Value.string {data:=#[0]}),t0] h0 λv44 h45=>
 cB PG h45 (loadAt dE v42)=some v43∧(bZ (cC PG (indexAt dE v43 t34)) λv46=>
 cM PG (cP bR v46 v44) h45 λv47 h48=>
 (bZ (cC PG (binOp BinOp.add aR t34 (Value.int IntKind.i64 1))) λv49=>
 n38 [t0,t6,t33,v49] h48)))
 (R (Value.tuple #[t6,(Value.int IntKind.i64 0)]) h0)
def aFK(t0:Value)(t1:Value)(h0:PH)(R:cF):Prop:=
 bZ (cC PG (binOp BinOp.lss aR t0 (Value.int IntKind.i64 64))) λv1=>
 fA (yV v1) false (λk4=>k4 t0 h0) h0 λv2 h3=>
 fA (yV v1) false (λk7=>bZ (cC PG (binOp BinOp.gtr aR v2 (Value.int IntKind.i64 512))) λv8=>k7 v8 h3) h3 λv5 h6=>
 bZ (eH v1 (Value.bool true) v5) λv9=>
 fA (yV v9) false (λk12=>k12 t1 h6) h6 λv10 h11=>
 fA (yV v9) false (λk15=>bZ (cC PG (binOp BinOp.lss aR v10 (Value.int IntKind.i64 1))) λv16=>k15 v16 h11) h11 λv13 h14=>
 bZ (eH v9 (Value.bool true) v13) λv17=>
 fA (yV v17) false (λk20=>k20 t1 h14) h14 λv18 h19=>
 fA (yV v17) false (λk23=>bZ (cC PG (binOp BinOp.gtr aR v18 (Value.int IntKind.i64 4096))) λv24=>k23 v24 h19) h19 λv21 h22=>
 bZ (eH v17 (Value.bool true) v21) λv25=>
 cN v25
 (R (Value.tuple #[(Value.pointer none),(Value.int IntKind.i64 1)]) h22)
 (bZ (cC PG (build dZ #[(0,t0),(1,t1)])) λv26=>
 bZ (jT PG (Instr.makeSlice dE t1 t1)) λx28=>∀r27,h22 r27=none->bZ (cC PG (x28.2 r27)) λv29=>dT (PH.set h22 r27 x28.1) λh30=>
 bZ (cC PG (build eM #[(0,v26),(1,v29)])) λv31=>
 ∀r32,h30 r32=none->dT (PH.set h30 r32 (.cells (Value.cells v31) eM)) λh33=>
 bZ (cC PG (gH (pT r32 0))) λv34=>
 bZ (cC PG (fieldAt eM v34 1)) λv35=>
 bZ (cB PG h33 (loadAt dE v35)) λv36=>
 bZ (cC PG (Builtin.len_ #[dE] aR #[v36])) λv37=>
 gU [0,6,33,34] (λn38 ρ h=>aJt R n38 (ρ 0) (ρ 6) (ρ 33) (ρ 34) h) [t0,(pT r32 0),v37,(Value.int IntKind.i64 0)] h33)
def aFK.ann:kD:={b:=λi=>match i with|7=>#[0,1,3,7,0,0,32,127,255]|_=>#[],ord:=λi=>match i with|7=>[0,1,2,3,4,5,6,7,8]|_=>[],keep:=λi=>match i with|5=>[0,6,33,34]|_=>[],n:=47}
def aFK.call{t0 t1 h0 R}(H:aFK t0 t1 h0 R):bW PG aII #[t0,t1] h0 R:=dC aFK.ann Tryz.func24 H
def aE9(R:cF)(e:fY)(b c a:Value)(f:PH):Prop:=bW PG qA #[a] f λg d=>dU .lss aR g b λh=>cN h (bW PG qA #[a] d λi j=>dU .sub aR b i λk=>bW PG qA #[a] j λl m=>pP (Builtin.min_ #[aR,aR,aR] aR #[k,l,c]) λn=>bW PG kF #[a] m λo p=>pP (Instr.sliceAt bR o none (some n) none) λq=>bW PG iS #[a,q] p λv r=>e [b,c,a] r) (bW PG kF #[a] d λs u=>R s u)
def yU(R:cF)(d b e:Value)(c:PH):Prop:=∀a,c a=none->dT (PH.set c a (.cells (dD PG dA) dA)) λf=>bW PG yJ #[pT a 0,b] f λk g=>bW PG iS #[pT a 0,d] g λl i=>gU [7,8,9] (λj ρ h=>aE9 R j (ρ 7) (ρ 8) (ρ 9) h) [b,e,pT a 0] i
def aF6(R:cF)(a b:Value)(c:PH):Prop:=dU .gtr aR b (.int .i64 8192) λe=>cN e (iJ bR aR a λf=>dU .quo aR (.int .i64 8192) f λg=>iJ bR aR a λh=>dU .mul aR g h λd=>gG c .eql aR (.tmp 103) (.const (.int .i64 0)) d (.int .i64 0) λi=>cN i (iJ bR aR a λj=>yU R a b j c) (yU R a b d c)) (yU R a b b c)
def aCV(R:cF)(a b:Value)(c:PH):Prop:=aF6 R a b c
def qW(R:cF)(b a s:Value)(h:PH):Prop:=cN s (dU .leq aR a (.int .i64 128) λc=>gY c true b h λu i=>fA (yV c) true (λv=>bW PG rP #[.string {data:=aWF},u] i λw x=>v w x) i λy j=>bZ (eH c y (.bool false)) λz=>cN z (pP (Instr.sliceAt bR (.string {data:=aWF}) none (some a) none) λA=>R A j) (dU .leq aR a (.int .i64 128) λd=>gY d true b j λB k=>fA (yV d) true (λC=>bW PG rP #[.string {data:=aVr},B] k λD E=>C D E) k λF l=>bZ (eH d F (.bool false)) λG=>cN G (pP (Instr.sliceAt bR (.string {data:=aVr}) none (some a) none) λH=>R H l) (dU .leq aR a (.int .i64 64) λe=>gY e true b l λI m=>fA (yV e) true (λJ=>bW PG rP #[.string ⟨(Array.replicate 64 48)⟩,I] m λK L=>J K L) m λM n=>bZ (eH e M (.bool false)) λN=>cN N (pP (Instr.sliceAt bR (.string ⟨(Array.replicate 64 48)⟩) none (some a) none) λO=>R O n) (dU .leq aR a (.int .i64 128) λf=>gY f true b n λP o=>fA (yV f) true (λQ=>bW PG rP #[.string {data:=aV8},P] o λS U=>Q S U) o λV p=>bZ (eH f V (.bool false)) λW=>cN W (pP (Instr.sliceAt bR (.string {data:=aV8}) none (some a) none) λX=>R X p) (dU .leq aR a (.int .i64 64) λg=>gY g true b p λY q=>fA (yV g) true (λZ=>bW PG rP #[.string ⟨(Array.replicate 64 9)⟩,Y] q λa0 a1=>Z a0 a1) q λa2 r=>bZ (eH g a2 (.bool false)) λa3=>cN a3 (pP (Instr.sliceAt bR (.string ⟨(Array.replicate 64 9)⟩) none (some a) none) λa4=>R a4 r) (aCV R b a r)))))) (aCV R b a h)
def aFo(R:cF)(b i:Value)(a:PH):Prop:=pP (convert aCN aR i) λc=>iJ bR aR b λj=>gG a .eql aR (.tmp 39) (.const (.int .i64 0)) j (.int .i64 0) λk=>cN k (R (.string ⟨#[]⟩) a) (pP (Instr.index bR b (.int .i64 0)) λd=>gG a .eql dJ (.tmp 42) (.const (.int .u8 32)) d (.int .u8 32) λe=>cN e (qW R b c e a) (gG a .eql dJ (.tmp 42) (.const (.int .u8 45)) d (.int .u8 45) λf=>cN f (qW R b c f a) (gG a .eql dJ (.tmp 42) (.const (.int .u8 48)) d (.int .u8 48) λg=>cN g (qW R b c g a) (gG a .eql dJ (.tmp 42) (.const (.int .u8 61)) d (.int .u8 61) λh=>cN h (qW R b c h a) (gG a .eql dJ (.tmp 42) (.const (.int .u8 9)) d (.int .u8 9) λl=>qW R b c l a)))))
def aGd(R:cF)(b e:Value)(f:PH):Prop:=iJ bR aR b λg=>pP (convert aR aCN g) λh=>pP (convert aR aCN e) λi=>bW PG aDq #[h,i] f λc j=>fT c 0 λk=>fT c 1 λd=>dU .gtr aCN k (.int .u64 0) λa=>gY a false d j λl m=>eZ a false (binOp .gtr aCN l (.int .u64 9223372036854775807)) m λn o=>bZ (eH a (.bool true) n) λp=>cN p (pP (Instr.makeInterface bR (.string ⟨#[115,116,114,105,110,103,115,58,32,82,101,112,101,97,116,32,111,117,116,112,117,116,32,108,101,110,103,116,104,32,111,118,101,114,102,108,111,119]⟩)) λq=>False) (aFo R b d o)
def aCe(c b:Value)(a:PH)(R:cF):Prop:=gG a .eql aR (.tmp 11) (.const (.int .i64 0)) b (.int .i64 0) λd=>cN d (R (.string ⟨#[]⟩) a) (gG a .eql aR (.tmp 11) (.const (.int .i64 1)) b (.int .i64 1) λe=>cN e (R c a) (dU .lss aR b (.int .i64 0) λf=>cN f (pP (Instr.makeInterface bR (.string ⟨#[115,116,114,105,110,103,115,58,32,110,101,103,97,116,105,118,101,32,82,101,112,101,97,116,32,99,111,117,110,116]⟩)) λg=>False) (aGd R c b a)))
def aCe.call{t0 t1 h0 R}(H:aCe t0 t1 h0 R):bW PG vY #[t0,t1] h0 R:=dC (sL 38 [7,8,9] 125) Tryz.func47 H
def aC5(R:cF)(b c:Value)(a:PH):Prop:=fX b λd=>dP dA d 1 λe=>dI a cS e λf=>pP (Builtin.cap_ #[cS] aR #[f]) λg=>fX b λh=>dP dA h 1 λi=>dI a cS i λj=>iJ cS aR j λk=>dU .sub aR g k λl=>dU .lss aR l c λm=>cN m (bW PG aC3 #[b,c] a λo n=>R (.tuple #[]) n) (R (.tuple #[]) a)
def pK(a b:Value)(c:PH)(R:cF):Prop:=bW PG lE #[a] c λf d=>dU .lss aR b (.int .i64 0) λe=>cN e (pP (Instr.makeInterface bR (.string ⟨#[115,116,114,105,110,103,115,46,66,117,105,108,100,101,114,46,71,114,111,119,58,32,110,101,103,97,116,105,118,101,32,99,111,117,110,116]⟩)) λg=>False) (aC5 R a b d)
def pK.ann:kD:={b:=λi=>match i with|3=>#[0,1,3,7,15,0,32,96,224,480,1023,0,4095]|_=>#[],ord:=λi=>match i with|3=>[0,1,2,3,4,5,6,7,8,9,10,11,12]|_=>[],keep:=λ_=>[],n:=25}
def pK.call{t0 t1 h0 R}(H:pK t0 t1 h0 R):bW PG yJ #[t0,t1] h0 R:=dC pK.ann Tryz.func94 H
def mE(b:Value)(a:PH)(R:cF):Prop:=fX b λc=>dP dA c 0 λd=>dI a dM d λe=>gG a .eql dM (.tmp 5) (.const (.pointer none)) e (.pointer none) λf=>cN f (cM PG (convert dM gJ b) a λg h=>bW PG xC #[g] h λi j=>cM PG (convert gJ dM i) j λk l=>fX b λm=>dP dA m 0 λn=>cM PG (cP dM n k) l λu o=>R (.tuple #[]) o) (fX b λp=>dP dA p 0 λq=>dI a dM q λr=>gG a .neq dM (.tmp 17) (.tmp 18) r b λs=>cN s (False) (R (.tuple #[]) a))
def mE.call{t0 h0 R}(H:mE t0 h0 R):bW PG lE #[t0] h0 R:=dC (iK 20) Tryz.func152 H
def pI(a g:Value)(b:PH)(R:cF):Prop:=fX a λh=>dP dA h 1 λi=>dI b cS i λj=>pP (Builtin.cap_ #[cS] aR #[j]) λk=>dU .mul aR (.int .i64 2) k λl=>dU .add aR l g λm=>fX a λn=>dP dA n 1 λd=>dI b cS d λe=>iJ cS aR e λo=>bW PG rS #[m] b λp c=>cB PG c (loadAt cS d)=some e∧(pP (Instr.sliceAt cS p none (some o) none) λf=>fX a λq=>dP dA q 1 λr=>dI c cS r λs=>cM PG (Builtin.copy_ #[cS,cS] aR #[f,s]) c λy u=>fX a λv=>dP dA v 1 λw=>cM PG (cP cS w f) u λz x=>R (.tuple #[]) x)
def pI.ann:kD:={b:=λi=>match i with|0=>#[0,1,3,7,15,31,0,127,255,0,512,1536,3584,7680,16383,32767]|_=>#[],ord:=λi=>match i with|0=>[0,1,2,3,4,5,6,7,9,10,11,12,13,8,14,15]|_=>[],keep:=λ_=>[],n:=30}
def pI.call{t0 t1 h0 R}(H:pI t0 t1 h0 R):bW PG aC3 #[t0,t1] h0 R:=dC pI.ann Tryz.func153 H
def jO(a b:Value)(d:PH)(R:cF):Prop:=bW PG lE #[a] d λn c=>fX a λe=>dP dA e 1 λf=>dI c cS f λg=>cM PG (Builtin.append_ #[cS,bR] cS #[g,b]) c λh i=>fX a λj=>dP dA j 1 λk=>cM PG (cP cS k h) i λo l=>iJ bR aR b λm=>R (.tuple #[m,Value.nilIface]) l
def jO.call{t0 t1 h0 R}(H:jO t0 t1 h0 R):bW PG iS #[t0,t1] h0 R:=dC (iK 19) Tryz.func95 H
def jP(b:Value)(a:PH)(R:cF):Prop:=fX b λf=>dP dA f 1 λg=>dI a cS g λh=>fX b λi=>dP dA i 1 λc=>dI a cS c λd=>iJ cS aR d λj=>cM PG (Builtin.unsafeSliceData_ #[cS] oB #[h]) a λk e=>cB PG e (loadAt cS c)=some d∧(cM PG (Builtin.unsafeString_ #[oB,aR] bR #[k,j]) e λl m=>(R l m))
def jP.ann:kD:={b:=λi=>match i with|1=>#[0,1,3,7,15,0,32,96,224,480,1023,2047]|_=>#[],ord:=λi=>match i with|1=>[0,1,2,3,5,6,7,8,9,4,10,11]|_=>[],keep:=λ_=>[],n:=14}
def jP.call{t0 h0 R}(H:jP t0 h0 R):bW PG kF #[t0] h0 R:=dC jP.ann Tryz.func96 H
def aDg(a b:Value)(c:PH)(R:cF):Prop:=cN (.bool false) (pP (convert aCN fD a) λf=>pP (convert aCN fD b) λg=>bW PG aJd #[f,g] c λd h=>fT d 0 λi=>fT d 1 λj=>pP (convert fD aCN i) λk=>pP (convert fD aCN j) λl=>R (.tuple #[k,l]) h) (bW PG aFv #[a,b] c λe m=>fT e 0 λn=>fT e 1 λo=>R (.tuple #[n,o]) m)
def aDg.call{t0 t1 h0 R}(H:aDg t0 t1 h0 R):bW PG aDq #[t0,t1] h0 R:=dC (iK 30) Tryz.func97 H
def aB9(a b:Value)(h:PH)(R:cF):Prop:=dU .and cI a (.int .u64 4294967295) λc=>dU .shr cI a (.int .u64 32) λd=>dU .and cI b (.int .u64 4294967295) λe=>dU .shr cI b (.int .u64 32) λf=>dU .mul cI c e λi=>dU .mul cI d e λj=>dU .shr cI i (.int .u64 32) λk=>dU .add cI j k λg=>dU .and cI g (.int .u64 4294967295) λl=>dU .shr cI g (.int .u64 32) λm=>dU .mul cI c f λn=>dU .add cI l n λo=>dU .mul cI d f λp=>dU .add cI p m λq=>dU .shr cI o (.int .u64 32) λr=>dU .add cI q r λs=>dU .mul cI a b λu=>R (.tuple #[s,u]) h
def aB9.call{t0 t1 h0 R}(H:aB9 t0 t1 h0 R):bW PG aFv #[t0,t1] h0 R:=dC (iK 51) Tryz.func155 H
def xU(b:Value)(a:PH)(R:cF):Prop:=fX b λc=>dP dA c 1 λd=>dI a cS d λe=>iJ cS aR e λf=>R f a
def xU.call{t0 h0 R}(H:xU t0 h0 R):bW PG qA #[t0] h0 R:=dC (iK 8) Tryz.func99 H
def aBD(c d:Value)(f:PH)(R:cF):Prop:=dU .mul aR c d λe=>yD f (Instr.makeSlice cS e e) λg a=>pE a (convert cS bR g) λh=>pP (build cY #[(0,c),(1,d),(2,h)]) λi=>∀b,a b=none->dT (PH.set a b (.cells i.cells cY)) λj=>R (pT b 0) j
def aBD.call{t0 t1 h0 R}(H:aBD t0 t1 h0 R):bW PG aBx #[t0,t1] h0 R:=dC (iK 14) Tryz.func25 H
def nZ(a:Value)(c:PH)(R:cF):Prop:=fX a λh=>dP dK h 0 λi=>dI c gC i λj=>fX a λk=>dP dK k 5 λl=>dI c aR l λm=>fX a λn=>dP dK n 6 λo=>dI c cR o λp=>bW PG yQ #[j,m,p] c λf q=>(fT f 0 λr=>fT f 1 λs=>fX a λu=>dP dK u 1 λv=>cM PG (cP eJ v r) q λaf w=>(fX a λx=>dP dK x 2 λy=>cM PG (cP dF y s) w λag d=>(fX a λz=>dP dK z 3 λA=>dI d fV A λB=>fX a λC=>dP dK C 5 λD=>dI d aR D λE=>fX a λF=>dP dK F 6 λG=>dI d cR G λH=>bW PG wJ #[B,E,H] d λg I=>(fT g 0 λJ=>fT g 1 λK=>fX a λL=>dP dK L 4 λM=>cM PG (cP fK M J) I λah e=>(fX a λN=>dP dK N 2 λO=>dI e dF O λP=>gG e .eql aR (.tmp 48) (.tmp 49) P K λb=>gY b true a e λQ S=>eZ b true (gH Q) S λU V=>eZ b true (fieldAt dK U 1) V λW X=>gB b true (loadAt eJ W) X λY Z=>gB b true (fJ .eql eJ (.tmp 55) (.const (.pointer none)) Y (.pointer none)) Z λa0 a1=>gY b true a a1 λa2 a3=>eZ b true (gH a2) a3 λa4 a5=>eZ b true (fieldAt dK a4 4) a5 λa6 a7=>gB b true (loadAt fK a6) a7 λa8 a9=>gB b true (fJ .eql fK (.tmp 60) (.const (.pointer none)) a8 (.pointer none)) a9 λaa ab=>gB b true (fJ .eql iY (.tmp 56) (.tmp 61) a0 aa) ab λac ad=>bZ (eH b ac (.bool false)) λae=>R ae ad)))))
def nZ.ann:kD:={b:=λi=>match i with|2=>#[0,0,0,4,12,28,0,64,192,448,0,1024,3072,7168,16380,32764,65532,65532,131069,393213,917501,2097151,4194303,8388607]|3=>#[0,0,2,6,14,0,32,96,224,0,512,1536,3584,8190,16382,32766,32766,65535,196607,458751,1048575]|4=>#[0,1,3,7,0,31,63,127,255,511,1023,2047,127,4223,12415,28799,61567,131071,262143,524287]|_=>#[],ord:=λi=>match i with|2=>[0,1,2,3,4,5,6,7,8,9,10,11,12,13,14,15,16,17,18,19,20,21,22,23]|3=>[0,1,2,3,4,5,6,7,8,9,10,11,12,13,14,15,16,17,18,19,20]|4=>[0,1,2,3,4,5,6,7,8,9,10,11,12,13,14,15,16,17,18,19]|_=>[],keep:=λ_=>[],n:=64}
def nZ.call{t0 h0 R}(H:nZ t0 h0 R):bW PG mG #[t0] h0 R:=dC nZ.ann Tryz.func10 H
def aBf(R:cF)(g c d:Value)(e:PH):Prop:=dI e aT c λh=>bW PG aBO #[h] e λi j=>bW PG vG #[d,i] j λf a=>gG a .neq dF (.tmp 47) (.const (.int .i64 0)) f (.int .i64 0) λk=>cN k (R (.tuple #[.pointer none,f]) a) (dI a aT c λl=>pP (build fM #[(0,d),(1,g),(2,l)]) λm=>∀b,a b=none->dT (PH.set a b (.cells m.cells fM)) λn=>R (.tuple #[pT b 0,.int .i64 0]) n)
def aEa(q b r:Value)(i:PH)(R:cF):Prop:=∀d,i d=none->dT (PH.set i d (.cells r.cells cR)) λe=>dI e cR (pT d 0) λs=>pP (build aT #[(0,s)]) λu=>∀a,e a=none->dT (PH.set e a (.cells (dD PG aT) aT)) λv=>cM PG (cP aT (pT a 0) u) v λE j=>dI j aT (pT a 0) λw=>bW PG uT #[w,b] j λk f=>gG f .neq dF (.tmp 19) (.const (.int .i64 0)) k (.int .i64 0) λx=>cN x (R (.tuple #[.pointer none,k]) f) (bW PG aIN #[q] f λg c=>fT g 0 λl=>fT g 1 λm=>fT g 2 λn=>gG c .neq dF (.tmp 28) (.const (.int .i64 0)) n (.int .i64 0) λy=>cN y (R (.tuple #[.pointer none,n]) c) (iJ dE aR m λz=>dU .gtr aR z (.int .i64 0) λA=>cN A (bW PG aDn #[b,m] c λo B=>fT o 0 λC=>fT o 1 λp=>cM PG (cP aT (pT a 0) C) B λF h=>gG h .neq dF (.tmp 40) (.const (.int .i64 0)) p (.int .i64 0) λD=>cN D (R (.tuple #[.pointer none,p]) h) (aBf R b (pT a 0) l h)) (aBf R b (pT a 0) l c)))
def aEa.call{t0 t1 t2 h0 R}(H:aEa t0 t1 t2 h0 R):bW PG yQ #[t0,t1,t2] h0 R:=dC (iK 55) Tryz.func11 H
def aAp(m n:Value)(d:PH)(R:cF):Prop:=∀a,d a=none->dT (PH.set d a (.cells m.cells aT)) λe=>dP aT (pT a 0) 1 λo=>dI e bY o λp=>bW PG aFY #[n,p] e λf q=>fT f 0 λr=>fT f 1 λc=>dP aT (pT a 0) 0 λs=>pP (Instr.sliceAt cR s none none none) λu=>bW PG lW #[u,(.func (Fn.func sH) #[] #[])] q λv g=>gG g .eql dF (.tmp 19) (.const (.int .i64 1)) c (.int .i64 1) λh=>gY h false v g λw b=>bZ (eH h (.bool true) w) λx=>cN x (R (.int .i64 1) b) (gG b .neq dF (.tmp 25) (.const (.int .i64 0)) c (.int .i64 0) λy=>cN y (R c b) (dP aT (pT a 0) 1 λi=>dI b bY i λj=>bW PG wI #[r] b λz k=>cB PG k (loadAt bY i)=some j∧(bW PG oS #[z,j] k λA l=>(pP (Op.unary .not A) λB=>cN B (R (.int .i64 15) l) (R (.int .i64 0) l)))))
def aAp.ann:kD:={b:=λi=>match i with|7=>#[0,1,0,4,15,31,63]|_=>#[],ord:=λi=>match i with|7=>[0,2,3,1,4,5,6]|_=>[],keep:=λ_=>[],n:=35}
def aAp.call{t0 t1 h0 R}(H:aAp t0 t1 h0 R):bW PG uT #[t0,t1] h0 R:=dC aAp.ann Tryz.func27 H
def aKb(R:cF)(u:fY)(n o g j p q k:Value)(b:PH):Prop:=dU .lss aR k q λv=>cN v (mI bY p k λw=>dI b cE w λx=>∀a,b a=none->dT (PH.set b a (.cells (dD PG cE) cE)) λy=>cM PG (cP cE (pT a 0) x) y λak l=>dP cE (pT a 0) 1 λz=>dI l aR z λA=>gG l .neq aR (.tmp 29) (.const (.int .i64 1)) A (.int .i64 1) λh=>eZ h true (fieldAt cE (pT a 0) 1) l λB C=>gB h true (loadAt aR B) C λD E=>gB h true (fJ .neq aR (.tmp 33) (.const (.int .i64 2)) D (.int .i64 2)) E λF G=>bZ (eH h F (.bool false)) λc=>eZ c false (fieldAt cE (pT a 0) 0) G λH I=>gB c false (loadAt bX H) I λJ r=>fA (yV c) false (λK=>bW PG uR #[J] r λL M=>K L M) r λN O=>gB c false (fJ .neq dF (.tmp 39) (.const (.int .i64 0)) N (.int .i64 0)) O λP d=>bZ (eH c (.bool true) P) λQ=>cN Q (R (.tuple #[.pointer none,.int .i64 1]) d) (dP cE (pT a 0) 0 λS=>dP bX S 0 λU=>dI d aR U λV=>dP cE (pT a 0) 0 λW=>dP bX W 1 λX=>dI d cI X λY=>pP (build fI #[(0,V),(1,Y)]) λZ=>∀e,d e=none->dT (PH.set d e (.cells (dD PG fI) fI)) λa0=>cM PG (cP fI (pT e 0) Z) a0 λal f=>fX g λa1=>dP gA a1 0 λa2=>dI f dL a2 λa3=>dI f fI (pT e 0) λa4=>pE f (Instr.lookup dL a3 a4 true) λs=>fT s 0 λa5=>fT s 1 λa6=>∀m,f m=none->dT (PH.set f m (.cells (dD PG cE) cE)) λa7=>cM PG (cP cE (pT m 0) a5) a7 λam a8=>(gY j false a6 a8 λa9 i=>bZ (eH j (.bool true) a9) λaa=>fX g λab=>dP gA ab 0 λac=>dI i dL ac λad=>dI i fI (pT e 0) λae=>dI i cE (pT a 0) λaf=>cM PG (aIW dL ad ae af) i λan ag=>(dU .add aR k (.int .i64 1) λah=>u [n,o,g,aa,p,q,ah] ag)))) (cN j (R (.tuple #[.pointer none,.int .i64 4]) b) (iJ bY aR o λai=>dU .gtr aR ai n λaj=>cN aj (R (.tuple #[.pointer none,.int .i64 2]) b) (R (.tuple #[g,.int .i64 0]) b)))
def aFL(c a:Value)(f:PH)(R:cF):Prop:=bW PG aHC #[c] f λd b=>fT d 0 λg=>fT d 1 λe=>gG b .neq dF (.tmp 19) (.const (.int .i64 0)) e (.int .i64 0) λi=>cN i (R (.tuple #[.pointer none,e]) b) (iJ bY aR a λj=>gU [0,1,6,8,22,23,24] (λk ρ h=>aKb R k (ρ 0) (ρ 1) (ρ 6) (ρ 8) (ρ 22) (ρ 23) (ρ 24) h) [c,a,g,.bool false,a,j,.int .i64 0] b)
def aFL.ann:kD:={b:=λi=>match i with|11=>#[0,1,3,7,0,31,63,127,127,0,767,2047]|13=>#[0,1,3,7,0,0,63]|_=>#[],ord:=λi=>match i with|11=>[0,1,2,3,4,5,6,7,8,9,10,11]|13=>[0,1,2,3,4,5,6]|_=>[],keep:=λi=>match i with|6=>[0,1,6,8,22,23,24]|_=>[],n:=77}
def aFL.call{t0 t1 h0 R}(H:aFL t0 t1 h0 R):bW PG aFY #[t0,t1] h0 R:=dC aFL.ann Tryz.func52 H
def aHu(a:Value)(f:PH)(R:cF):Prop:=dU .lss aR a (.int .i64 1) λb=>gY b false a f λg h=>eZ b false (binOp .gtr aR g (.int .i64 40)) h λi d=>bZ (eH b (.bool true) i) λj=>cN j (R (.tuple #[.pointer none,.int .i64 1]) d) (yD d (Instr.makeMap dL none) λk e=>pP (build gA #[(0,k),(1,a)]) λl=>∀c,e c=none->dT (PH.set e c (.cells l.cells gA)) λm=>R (.tuple #[pT c 0,.int .i64 0]) m)
def aHu.call{t0 h0 R}(H:aHu t0 h0 R):bW PG aHC #[t0] h0 R:=dC (iK 14) Tryz.func112 H
def aES(i:Value)(f:PH)(R:cF):Prop:=∀a,f a=none->dT (PH.set f a (.cells i.cells bX)) λg=>dP bX (pT a 0) 0 λj=>dI g aR j λk=>dU .lss aR k (.int .i64 0) λc=>eZ c false (fieldAt bX (pT a 0) 0) g λl m=>gB c false (loadAt aR l) m λn o=>eZ c false (binOp .gtr aR n (.int .i64 1)) o λp q=>bZ (eH c (.bool true) p) λd=>eZ d false (fieldAt bX (pT a 0) 1) q λr s=>gB d false (loadAt cI r) s λu v=>gB d false (fJ .eql cI (.tmp 13) (.const (.int .u64 0)) u (.int .u64 0)) v λw x=>bZ (eH d (.bool true) w) λe=>eZ e false (fieldAt bX (pT a 0) 2) x λy z=>gB e false (loadAt cI y) z λA B=>gB e false (fJ .eql cI (.tmp 18) (.const (.int .u64 0)) A (.int .u64 0)) B λC D=>bZ (eH e (.bool true) C) λb=>eZ b false (fieldAt bX (pT a 0) 3) D λE F=>gB b false (loadAt bR E) F λG H=>eZ b false (Builtin.len_ #[bR] aR #[G]) H λI J=>eZ b false (binOp .gtr aR I (.int .i64 64)) J λK h=>bZ (eH b (.bool true) K) λL=>cN L (R (.int .i64 1) h) (R (.int .i64 0) h)
def aES.call{t0 h0 R}(H:aES t0 h0 R):bW PG uR #[t0] h0 R:=dC (iK 27) Tryz.func113 H
def kT(a b:Value)(c:PH)(R:cF):Prop:=bW PG qK #[a,b] c λd e=>dU .geq aR d (.int .i64 0) λf=>R f e
def kT.call{t0 t1 h0 R}(H:kT t0 t1 h0 R):bW PG lW #[t0,t1] h0 R:=dC (iK 9) Tryz.func53 H
def qP(R:cF)(g:fY)(c d e a:Value)(b:PH):Prop:=dU .lss aR a e λh=>cN h (mI wX c a λi=>dI b cG i λj=>xP PG d #[j] b λk f=>cN k (R a f) (dU .add aR a (.int .i64 1) λl=>g [c,d,e,l] f)) (R (.int .i64 (-1)) b)
def lF(a b:Value)(c:PH)(R:cF):Prop:=iJ wX aR a λd=>gU [0,1,7,8] (λe ρ h=>qP R e (ρ 0) (ρ 1) (ρ 7) (ρ 8) h) [a,b,d,.int .i64 0] c
def lF.call{t0 t1 h0 R}(H:lF t0 t1 h0 R):bW PG qK #[t0,t1] h0 R:=dC (sL 2 [0,1,7,8] 19) Tryz.func114 H
def aCy(e:Value)(c:PH)(R:cF):Prop:=∀a,c a=none->dT (PH.set c a (.cells e.cells cG)) λd=>dP cG (pT a 0) 1 λf=>dI d aR f λg=>dU .lss aR g (.int .i64 0) λb=>eZ b false (fieldAt cG (pT a 0) 1) d λh i=>gB b false (loadAt aR h) i λj k=>eZ b false (binOp .gtr aR j (.int .i64 65535)) k λl m=>bZ (eH b (.bool true) l) λn=>R n m
def aCy.call{t0 h0 R}(H:aCy t0 h0 R):bW PG sH #[t0] h0 R:=dC (iK 11) Tryz.func54 H
def uK(R:cF)(f:fY)(c d e b:Value)(a:PH):Prop:=dU .lss aR b e λg=>cN g (mI bY c b λh=>dI a cE h λi=>mI bY d b λj=>dI a cE j λk=>gG a .neq cE (.tmp 19) (.tmp 23) i k λl=>cN l (R (.bool false) a) (dU .add aR b (.int .i64 1) λm=>f [c,d,e,m] a)) (R (.bool true) a)
def jY(a c:Value)(b:PH)(R:cF):Prop:=iJ bY aR a λd=>iJ bY aR c λe=>gG b .neq aR (.tmp 7) (.tmp 9) d e λf=>cN f (R (.bool false) b) (iJ bY aR a λg=>gU [0,1,12,13] (λi ρ h=>uK R i (ρ 0) (ρ 1) (ρ 12) (ρ 13) h) [a,c,g,.int .i64 0] b)
def jY.ann:kD:={b:=λi=>match i with|6=>#[0,0,3,7,0,0,48,112,255]|_=>#[],ord:=λi=>match i with|6=>[0,1,2,3,4,5,6,7,8]|_=>[],keep:=λi=>match i with|4=>[0,1,12,13]|_=>[],n:=26}
def jY.call{t0 t1 h0 R}(H:jY t0 t1 h0 R):bW PG oS #[t0,t1] h0 R:=dC jY.ann Tryz.func55 H
def aAS(e:Value)(b:PH)(R:cF):Prop:=fX e λf=>dP gA f 0 λg=>dI b dL g λh=>bW PG kO #[h] b λi j=>bW PG vR #[i] j λa k=>bW PG nO #[a,(.func (Fn.func pZ) #[] #[])] k λo l=>iJ bY aR a λc=>yD l (Instr.makeSlice bY c c) λd m=>cM PG (Builtin.copy_ #[bY,bY] aR #[d,a]) m λp n=>R d n
def aAS.call{t0 h0 R}(H:aAS t0 h0 R):bW PG wI #[t0] h0 R:=dC (iK 20) Tryz.func56 H
def sR(a:Value)(b:PH)(R:cF):Prop:=bW PG nK #[(.slice none 0 0),a] b λc d=>R c d
def sR.call{t0 h0 R}(H:sR t0 h0 R):bW PG vR #[t0] h0 R:=dC (iK 5) Tryz.func115 H
noncomputable def gP:Code:=((xD (aBi Tryz.f166)).getD 0 (.skip,.skip)).1
noncomputable def gM:Code:=((xD (aBi Tryz.f166)).getD 0 (.skip,.skip)).2
def hY(kv:cF)(l:Nat)(c e:Value)(d:PH):Prop:=∀a,d a=none->dT (PH.set d a (.cells (dD PG cE) cE)) λf=>cM PG (cP cE (pT a 0) e) f λp g=>cM PG (Instr.beginRound l) g λ_ b=>dI b bY c λh=>dI b cE (pT a 0) λi=>yD b (buildSlice bY 1 #[(0,i)]) λj k=>cM PG (Builtin.append_ #[bY,bY] bY #[h,j]) k λm n=>cM PG (cP bY c m) n λq o=>cM PG (Instr.endRound l none) o kv
def lN(d e:Value)(b:PH)(R:cF):Prop:=∀a,b a=none->dT (PH.set b a (.cells d.cells bY)) λf=>aDI PG 13 e #[7] gP gM (λc=>dI c bY (pT a 0) λg=>R g c) (λh=>R (.slice none 0 0) h) [] [(2,(pT a 0))] f
def lN.call{t0 t1 h0 R}(H:lN t0 t1 h0 R):bW PG nK #[t0,t1] h0 R:=dC (sL 3 [2] 13) Tryz.func166 H
def hY.eq(kv:cF)(l:Nat)(ρ:kE)(h0:PH):aLf PG (sL 3 [2] 13) 200 l gP gM kv ρ h0=hY kv l (ρ 2) (ρ 7) h0:=by kernel_rfl
def hY.next{kv:cF}{l:Nat}{f:FuncId}{tmps:Array Value}{h0:PH}(hs:tmps.size=13)(H:hY kv l (tmps.getD 2 undef) (tmps.getD 7 undef) h0):rI PG (.round l f tmps gP gM) h0 kv:=
 aNB (sL 3 [2] 13) 200 mix hs (by kernel_rfl) (by kernel_rfl) (hY.eq kv l (λt=>tmps.getD t undef) h0) H
def jC(c:Value)(b:PH)(R:cF):Prop:=∀a,b a=none->dT (PH.set b a (.cells c.cells dL)) λd=>pP (Instr.makeFunc (Fn.func gL) #[] #[pT a 0]) λe=>R e d
def jC.call{t0 h0 R}(H:jC t0 h0 R):bW PG kO #[t0] h0 R:=dC (iK 4) Tryz.func116 H
def mM(R:cF)(h:fY)(c b:Value)(i:PH):Prop:=cM PG (Instr.next b false T_) i λj d=>fT j 0 λk=>cN k (cM PG (Instr.entry b) d λl e=>fT l 1 λm=>∀a,e a=none->dT (PH.set e a (.cells (dD PG cE) cE)) λn=>cM PG (cP cE (pT a 0) m) n λr f=>dI f cE (pT a 0) λo=>xP PG c #[o] f λp g=>pP (Op.unary .not p) λq=>cN q (R (.tuple #[]) g) (h [c,b] g)) (R (.tuple #[]) d)
def iV(b c:Value)(a:PH)(R:cF):Prop:=dI a dL c λd=>cM PG (Instr.range dL d) a λe f=>gU [0,6] (λg ρ h=>mM R g (ρ 0) (ρ 6) h) [b,e] f
def iV.call{t0 t1 h0 R}(H:iV t0 t1 h0 R):bW PG gL #[t0,t1] h0 R:=dC (sL 1 [0,6] 15) Tryz.func167 H
def pW(k l:Value)(e:PH)(R:cF):Prop:=∀b,e b=none->dT (PH.set e b (.cells k.cells cE)) λf=>∀c,f c=none->dT (PH.set f c (.cells l.cells cE)) λa=>dP cE (pT b 0) 0 λm=>dP bX m 0 λn=>dI a aR n λo=>dP cE (pT c 0) 0 λp=>dP bX p 0 λq=>dI a aR q λr=>dP cE (pT b 0) 0 λs=>dP bX s 1 λg=>dI a cI g λh=>dP cE (pT c 0) 0 λu=>dP bX u 1 λi=>dI a cI i λj=>bW PG aCU #[o,r] a λv d=>cB PG d (loadAt cI i)=some j∧cB PG d (loadAt cI g)=some h∧(bW PG aAz #[h,j] d λw x=>(yD x (buildSlice lP 2 #[(0,v),(1,w)]) λy z=>bW PG aGS #[y] z λA B=>(R A B)))
def pW.ann:kD:={b:=λi=>match i with|1=>#[0,1,3,0,8,24,63,0,128,384,0,1024,3072,8191,16383,32767,65535]|_=>#[],ord:=λi=>match i with|1=>[0,1,2,3,4,5,7,8,9,10,11,12,6,13,14,15,16]|_=>[],keep:=λ_=>[],n:=21}
def pW.call{t0 t1 h0 R}(H:pW t0 t1 h0 R):bW PG pZ #[t0,t1] h0 R:=dC pW.ann Tryz.func118 H
def aJA(R:cF)(g:fY)(b d e c:Value)(a:PH):Prop:=dU .lss aR c e λh=>cN h (mI lP d c λi=>dI a aR i λf=>gG a .neq aR (.tmp 12) (.tmp 13) f b λj=>cN j (R f a) (dU .add aR c (.int .i64 1) λk=>g [b,d,e,k] a)) (R b a)
def aGz(a:Value)(b:PH)(R:cF):Prop:=iJ lP aR a λc=>gU [3,6,7,8] (λd ρ h=>aJA R d (ρ 3) (ρ 6) (ρ 7) (ρ 8) h) [(.int .i64 0),a,c,.int .i64 0] b
def aGz.call{t0 h0 R}(H:aGz t0 h0 R):bW PG aGS #[t0] h0 R:=dC (sL 3 [3,6,7,8] 18) Tryz.func119 H
def aCF(b c:Value)(e:PH)(R:cF):Prop:=bW PG aBJ #[b] e λf g=>bW PG aBJ #[c] g λd a=>cN f (cN d (R (.int .i64 0) a) (R (.int .i64 (-1)) a)) (cN d (R (.int .i64 1) a) (dU .lss aR b c λh=>cN h (R (.int .i64 (-1)) a) (dU .gtr aR b c λi=>cN i (R (.int .i64 1) a) (R (.int .i64 0) a))))
def aCF.call{t0 t1 h0 R}(H:aCF t0 t1 h0 R):bW PG aCU #[t0,t1] h0 R:=dC (iK 20) Tryz.func120 H
def aDW(a:Value)(b:PH)(R:cF):Prop:=gG b .neq aR (.tmp 3) (.tmp 4) a a λc=>R c b
def aDW.call{t0 h0 R}(H:aDW t0 h0 R):bW PG aBJ #[t0] h0 R:=dC (iK 6) Tryz.func170 H
def zF(b c:Value)(e:PH)(R:cF):Prop:=bW PG yA #[b] e λf g=>bW PG yA #[c] g λd a=>cN f (cN d (R (.int .i64 0) a) (R (.int .i64 (-1)) a)) (cN d (R (.int .i64 1) a) (dU .lss cI b c λh=>cN h (R (.int .i64 (-1)) a) (dU .gtr cI b c λi=>cN i (R (.int .i64 1) a) (R (.int .i64 0) a))))
def zF.call{t0 t1 h0 R}(H:zF t0 t1 h0 R):bW PG aAz #[t0,t1] h0 R:=dC (iK 20) Tryz.func121 H
def aBa(a:Value)(b:PH)(R:cF):Prop:=gG b .neq cI (.tmp 3) (.tmp 4) a a λc=>R c b
def aBa.call{t0 h0 R}(H:aBa t0 h0 R):bW PG yA #[t0] h0 R:=dC (iK 6) Tryz.func171 H
def aEG(R:cF)(t0:Value)(t5:Value)(h0:PH):Prop:=
 bZ (cC PG (gH t0)) λv84=>
 bZ (cC PG (fieldAt eM v84 0)) λv85=>
 bZ (cB PG h0 (loadAt dZ v85)) λv86=>
 bZ (cC PG (gH t5)) λv87=>
 bZ (cC PG (fieldAt dO v87 1)) λv88=>
 bZ (cC PG (fieldAt cL v88 0)) λv89=>
 bZ (cB PG h0 (loadAt cI v89)) λv90=>
 bZ (cC PG (gH t5)) λv91=>
 bZ (cC PG (fieldAt dO v91 0)) λv92=>
 bZ (cB PG h0 (loadAt dW v92)) λv93=>
 bZ (cC PG (gH t5)) λv94=>
 bZ (cC PG (fieldAt dO v94 0)) λv95=>
 bZ (cB PG h0 (loadAt dW v95)) λv96=>
 bZ (cC PG (gH t5)) λv97=>
 bZ (cC PG (fieldAt dO v97 1)) λv98=>
 bZ (cC PG (fieldAt cL v98 1)) λv99=>
 bZ (cB PG h0 (loadAt aR v99)) λv100=>
 bZ (cC PG (gH t5)) λv101=>
 bZ (cC PG (fieldAt dO v101 0)) λv102=>
 bZ (cB PG h0 (loadAt dW v102)) λv103=>
 bW PG jZ #[v86] h0 λv104 h105=>
 cB PG h105 (loadAt dW v102)=some v103∧cB PG h105 (loadAt aR v99)=some v100∧cB PG h105 (loadAt dW v95)=some v96∧cB PG h105 (loadAt dW v92)=some v93∧cB PG h105 (loadAt cI v89)=some v90∧(bW PG vX #[v96,v100] h105 λv106 h107=>
 cB PG h107 (loadAt dW v102)=some v103∧cB PG h107 (loadAt dW v92)=some v93∧cB PG h107 (loadAt cI v89)=some v90∧(bW PG pG #[v103] h107 λv108 h109=>
 cB PG h109 (loadAt dW v92)=some v93∧cB PG h109 (loadAt cI v89)=some v90∧(bW PG vZ #[v93,v106,v108] h109 λv110 h111=>
 cB PG h111 (loadAt cI v89)=some v90∧(bW PG aGM #[v104,v90,v110] h111 λv112 h113=>
 (bZ (cC PG (extract v112 0)) λv114=>
 bZ (cC PG (extract v112 1)) λv115=>
 bZ (cC PG (Builtin.len_ #[dE] aR #[v114])) λv116=>
 bZ (cC PG (convert aR cI v116)) λv117=>
 bZ (cC PG (gH t5)) λv118=>
 bZ (cC PG (fieldAt dO v118 3)) λv119=>
 cM PG (cP aR v119 v115) h113 λv120 h121=>
 bZ (cC PG (gH t5)) λv122=>
 bZ (cC PG (fieldAt dO v122 4)) λv123=>
 cM PG (cP cI v123 v117) h121 λv124 h125=>
 R (Value.tuple #[t5,v114,(Value.int IntKind.i64 0)]) h125)))))
def aFG(t0:Value)(h0:PH)(R:cF):Prop:=
 bZ (cC PG (build dW #[(0,t0)])) λv1=>
 bZ (cC PG (build dO #[(0,v1)])) λv2=>
 ∀r3,h0 r3=none->dT (PH.set h0 r3 (.cells (Value.cells v2) dO)) λh4=>
 bZ (cC PG (gH t0)) λv5=>
 bZ (cC PG (fieldAt eM v5 0)) λv6=>
 bZ (cB PG h4 (loadAt dZ v6)) λv7=>
 bW PG rU #[v7] h4 λv8 h9=>
 bZ (cC PG (binOp BinOp.lss aR v8 (Value.int IntKind.i64 4))) λv10=>
 cN v10
 (R (Value.tuple #[(Value.pointer none),(Value.slice none 0 0),(Value.int IntKind.i64 1)]) h9)
 (bW PG zH #[t0] h9 λv11 h12=>
 bZ (cB PG h12 (fJ BinOp.neq dF (.tmp 24) (.const (Value.int IntKind.i64 0)) v11 (Value.int IntKind.i64 0))) λv13=>
 cN v13
 (R (Value.tuple #[(Value.pointer none),(Value.slice none 0 0),v11]) h12)
 (bZ (cC PG (gH t0)) λv14=>
 bZ (cC PG (fieldAt eM v14 0)) λv15=>
 bZ (cB PG h12 (loadAt dZ v15)) λv16=>
 bZ (cC PG (gH (pT r3 0))) λv17=>
 bZ (cC PG (fieldAt dO v17 0)) λv18=>
 bZ (cB PG h12 (loadAt dW v18)) λv19=>
 bZ (cC PG (gH (pT r3 0))) λv20=>
 bZ (cC PG (fieldAt dO v20 0)) λv21=>
 bZ (cB PG h12 (loadAt dW v21)) λv22=>
 bW PG jZ #[v16] h12 λv23 h24=>
 cB PG h24 (loadAt dW v21)=some v22∧cB PG h24 (loadAt dW v18)=some v19∧(bW PG vZ #[v19,(Value.int IntKind.i64 0),(Value.int IntKind.i64 1)] h24 λv25 h26=>
 cB PG h26 (loadAt dW v21)=some v22∧(bW PG vZ #[v22,(Value.int IntKind.i64 1),(Value.int IntKind.i64 1)] h26 λv27 h28=>
 (bZ (jT PG (buildSlice dE 2 #[(0,v25),(1,v27)])) λx30=>∀r29,h28 r29=none->bZ (cC PG (x30.2 r29)) λv31=>dT (PH.set h28 r29 x30.1) λh32=>
 bW PG aFN #[v23,v31] h32 λv33 h34=>
 (bZ (cC PG (extract v33 0)) λv35=>
 bZ (cC PG (extract v33 1)) λv36=>
 bZ (cC PG (gH (pT r3 0))) λv37=>
 bZ (cC PG (fieldAt dO v37 1)) λv38=>
 cM PG (cP cL v38 v35) h34 λv39 h40=>
 (bZ (cC PG (gH (pT r3 0))) λv41=>
 bZ (cC PG (fieldAt dO v41 2)) λv42=>
 cM PG (cP aR v42 v36) h40 λv43 h44=>
 (bZ (cC PG (gH (pT r3 0))) λv45=>
 bZ (cC PG (fieldAt dO v45 2)) λv46=>
 bZ (cB PG h44 (loadAt aR v46)) λv47=>
 bZ (cC PG (binOp BinOp.lss aR v47 (Value.int IntKind.i64 0))) λv48=>
 cN v48
 (bZ (cC PG (build cL #[(0,(Value.int IntKind.u64 1))])) λv49=>
 bZ (cC PG (gH (pT r3 0))) λv50=>
 bZ (cC PG (fieldAt dO v50 1)) λv51=>
 cM PG (cP cL v51 v49) h44 λv52 h53=>
 bZ (cC PG (gH (pT r3 0))) λv54=>
 bZ (cC PG (fieldAt dO v54 2)) λv55=>
 cM PG (cP aR v55 (Value.int IntKind.i64 1)) h53 λv56 h57=>
 bZ (cC PG (gH t0)) λv58=>
 bZ (cC PG (fieldAt eM v58 0)) λv59=>
 bZ (cB PG h57 (loadAt dZ v59)) λv60=>
 bZ (cC PG (gH (pT r3 0))) λv61=>
 bZ (cC PG (fieldAt dO v61 1)) λv62=>
 bZ (cB PG h57 (loadAt cL v62)) λv63=>
 bW PG jZ #[v60] h57 λv64 h65=>
 cB PG h65 (loadAt cL v62)=some v63∧(bW PG aDH #[v64,v63] h65 λv66 h67=>
 (bZ (cC PG (extract v66 0)) λv68=>
 bZ (cC PG (extract v66 1)) λv69=>
 bZ (cC PG (gH (pT r3 0))) λv70=>
 bZ (cC PG (fieldAt dO v70 0)) λv71=>
 bZ (cB PG h67 (loadAt dW v71)) λv72=>
 bZ (cC PG (gH (pT r3 0))) λv73=>
 bZ (cC PG (fieldAt dO v73 2)) λv74=>
 bZ (cB PG h67 (loadAt aR v74)) λv75=>
 bZ (jT PG (buildSlice dE 1 #[(0,v68)])) λx77=>∀r76,h67 r76=none->bZ (cC PG (x77.2 r76)) λv78=>dT (PH.set h67 r76 x77.1) λh79=>
 bW PG tM #[v72,v75,v78] h79 λv80 h81=>
 (bZ (cB PG h81 (fJ BinOp.neq dF (.tmp 89) (.const (Value.int IntKind.i64 0)) v80 (Value.int IntKind.i64 0))) λv82=>
 cN v82
 (R (Value.tuple #[(Value.pointer none),(Value.slice none 0 0),v80]) h81)
 (aEG R t0 (pT r3 0) h81)))))
 (aEG R t0 (pT r3 0) h44)))))))))
def aFG.ann:kD:={b:=λi=>match i with|7=>#[0,0,0,4,12,28,60,0,128,384,896,2044,0,4096,12288,28672,65532,131068,262140,524284,1048572,1048572,2097149,6291453,14680061,33554431,67108863,134217727]|10=>#[0,1,3,7,15,0,32,96,224,511,1023,2047,2047,4095,16383]|11=>#[0,1,3,7,0,16,48,112,0,256,1023,2047]|14=>#[0,1,3,7,15,0,32,96,224,480,0,1024,3072,7168,0,16384,49152,114688,0,262144,786432,1835008,3932160,8372255,0,16777216,50331648,117440512,268419103,536869919,1073741823,2147483647,4294967295,4294967295,8589934591,34359738367]|_=>#[],ord:=λi=>match i with|7=>[0,1,2,3,4,5,7,8,9,10,12,13,14,15,6,11,16,17,18,19,20,21,22,23,24,25,26,27]|10=>[0,1,2,3,5,6,7,8,4,9,10,11,12,13,14]|11=>[0,1,2,3,4,5,6,7,8,9,10,11]|14=>[0,1,2,3,5,6,7,8,9,10,11,12,13,14,15,16,17,18,19,20,21,22,24,25,26,27,4,23,28,29,30,31,32,33,34,35]|_=>[],keep:=λ_=>[],n:=138}
def aFG.call{t0 h0 R}(H:aFG t0 h0 R):bW PG aIN #[t0] h0 R:=dC aFG.ann Tryz.func28 H
def uS(t0:Value)(h0:PH)(R:cF):Prop:=
 ∀r1,h0 r1=none->dT (PH.set h0 r1 (.cells (Value.cells t0) dZ)) λh2=>
 bZ (cC PG (fieldAt dZ (pT r1 0) 1)) λv3=>
 bZ (cB PG h2 (loadAt aR v3)) λv4=>
 R v4 h2
def uS.call{t0 h0 R}(H:uS t0 h0 R):bW PG rU #[t0] h0 R:=dC (iK 5) Tryz.func57 H
def aGE(R:cF)(n7:fY)(t0:Value)(t10:Value)(t11:Value)(t12:Value)(h0:PH):Prop:=
 bZ (cC PG (binOp BinOp.lss aR t12 t11)) λv9=>
 cN v9
 (bZ (cC PG (indexAt fE t10 t12)) λv10=>
 bZ (cB PG h0 (loadAt eO v10)) λv11=>
 ∀r12,h0 r12=none->dT (PH.set h0 r12 (.cells (dD PG eO) eO)) λh13=>
 cM PG (cP eO (pT r12 0) v11) h13 λv14 h15=>
 bZ (cC PG (gH t0)) λv16=>
 bZ (cC PG (fieldAt eM v16 1)) λv17=>
 bZ (cB PG h15 (loadAt dE v17)) λv18=>
 bZ (cC PG (fieldAt eO (pT r12 0) 0)) λv19=>
 bZ (cB PG h15 (loadAt aR v19)) λv20=>
 bZ (cC PG (fieldAt eO (pT r12 0) 1)) λv21=>
 bZ (cB PG h15 (loadAt bR v21)) λv22=>
 bZ (cC PG (indexAt dE v18 v20)) λv23=>
 cM PG (cP bR v23 v22) h15 λv24 h25=>
 (bZ (cC PG (binOp BinOp.add aR t12 (Value.int IntKind.i64 1))) λv26=>
 n7 [t0,t10,t11,v26] h25))
 (bZ (cC PG (gH t0)) λv27=>
 bZ (cC PG (fieldAt eM v27 2)) λv28=>
 cM PG (cP fE v28 (Value.slice none 0 0)) h0 λv29 h30=>
 R (Value.int IntKind.i64 0) h30)
def vP(t0:Value)(h0:PH)(R:cF):Prop:=
 bW PG yS #[t0] h0 λv1 h2=>
 cN v1
 (R (Value.int IntKind.i64 13) h2)
 (bZ (cC PG (gH t0)) λv3=>
 bZ (cC PG (fieldAt eM v3 2)) λv4=>
 bZ (cB PG h2 (loadAt fE v4)) λv5=>
 bZ (cC PG (Builtin.len_ #[fE] aR #[v5])) λv6=>
 gU [0,10,11,12] (λn7 ρ h=>aGE R n7 (ρ 0) (ρ 10) (ρ 11) (ρ 12) h) [t0,v5,v6,(Value.int IntKind.i64 0)] h2)
def vP.ann:kD:={b:=λi=>match i with|6=>#[0,1,3,7,0,16,0,64,255,511]|_=>#[],ord:=λi=>match i with|6=>[0,1,2,3,4,5,6,7,8,9]|_=>[],keep:=λi=>match i with|4=>[0,10,11,12]|_=>[],n:=29}
def vP.call{t0 h0 R}(H:vP t0 h0 R):bW PG zH #[t0] h0 R:=dC vP.ann Tryz.func58 H
def aCC(t0:Value)(h0:PH)(R:cF):Prop:=
 bZ (cC PG (gH t0)) λv1=>
 bZ (cC PG (fieldAt eM v1 3)) λv2=>
 bZ (cB PG h0 (loadAt aR v2)) λv3=>
 bZ (cB PG h0 (fJ BinOp.eql aR (.tmp 6) (.const (Value.int IntKind.i64 0)) v3 (Value.int IntKind.i64 0))) λv4=>
 cN v4
 (R (Value.bool false) h0)
 (bZ (cC PG (gH t0)) λv5=>
 bZ (cC PG (fieldAt eM v5 3)) λv6=>
 bZ (cB PG h0 (loadAt aR v6)) λv7=>
 bZ (cC PG (binOp BinOp.sub aR v7 (Value.int IntKind.i64 1))) λv8=>
 bZ (cC PG (gH t0)) λv9=>
 bZ (cC PG (fieldAt eM v9 3)) λv10=>
 cM PG (cP aR v10 v8) h0 λv11 h12=>
 bZ (cC PG (gH t0)) λv13=>
 bZ (cC PG (fieldAt eM v13 3)) λv14=>
 bZ (cB PG h12 (loadAt aR v14)) λv15=>
 bZ (cB PG h12 (fJ BinOp.eql aR (.tmp 18) (.const (Value.int IntKind.i64 0)) v15 (Value.int IntKind.i64 0))) λv16=>
 R v16 h12)
def aCC.call{t0 h0 R}(H:aCC t0 h0 R):bW PG yS #[t0] h0 R:=dC (iK 20) Tryz.func122 H
def aB2(R:cF)(n9:fY)(t0:Value)(t4:Value)(t6:Value)(t7:Value)(t13:Value)(t14:Value)(t15:Value)(h0:PH):Prop:=
 bZ (cC PG (binOp BinOp.add aR t15 (Value.int IntKind.i64 1))) λv51=>
 n9 [t0,t4,t6,t7,t13,t14,v51] h0
def zL(R:cF)(n9:fY)(t0:Value)(t4:Value)(t6:Value)(t7:Value)(t13:Value)(t14:Value)(t15:Value)(h0:PH):Prop:=
 aB2 R n9 t0 t4 t6 t7 t13 t14 t15 h0
def aHn(R:cF)(n9:fY)(t0:Value)(t4:Value)(t6:Value)(t7:Value)(t13:Value)(t14:Value)(t15:Value)(h0:PH):Prop:=
 bZ (cC PG (binOp BinOp.lss aR t15 t14)) λv11=>
 cN v11
 (bZ (cC PG (indexAt dE t13 t15)) λv12=>
 bZ (cB PG h0 (loadAt bR v12)) λv13=>
 bW PG aIG #[t0,v13] h0 λv14 h15=>
 bZ (cC PG (extract v14 0)) λv16=>
 bZ (cC PG (extract v14 1)) λv17=>
 ∀r18,h15 r18=none->dT (PH.set h15 r18 (.cells (dD PG cL) cL)) λh19=>
 cM PG (cP cL (pT r18 0) v16) h19 λv20 h21=>
 bZ (cB PG h21 (loadAt cL (pT r18 0))) λv22=>
 bZ (cC PG (build cL #[])) λv23=>
 bZ (cB PG h21 (fJ BinOp.neq cL (.tmp 26) (.tmp 27) v22 v23)) λv24=>
 fA (yV v24) true (λk27=>bZ (cC PG (fieldAt cL (pT r18 0) 0)) λv28=>k27 v28 h21) h21 λv25 h26=>
 fA (yV v24) true (λk31=>bZ (cB PG h26 (loadAt cI v25)) λv32=>k31 v32 h26) h26 λv29 h30=>
 fA (yV v24) true (λk35=>bZ (cC PG (fieldAt cL t6 0)) λv36=>k35 v36 h30) h30 λv33 h34=>
 fA (yV v24) true (λk39=>bZ (cB PG h34 (loadAt cI v33)) λv40=>k39 v40 h34) h34 λv37 h38=>
 fA (yV v24) true (λk43=>bZ (cC PG (binOp BinOp.gtr cI v29 v37)) λv44=>k43 v44 h38) h38 λv41 h42=>
 bZ (eH v24 v41 (Value.bool false)) λv45=>
 cN v45
 (bZ (cB PG h42 (loadAt cL (pT r18 0))) λv46=>
 cM PG (cP cL t6 v46) h42 λv47 h48=>
 zL R n9 t0 t4 t6 t15 t13 t14 t15 h48)
 (zL R n9 t0 t4 t6 t7 t13 t14 t15 h42))
 (bZ (cB PG h0 (loadAt cL t6)) λv52=>
 cM PG (cP cL t4 v52) h0 λv53 h54=>
 bZ (cB PG h54 (loadAt cL t4)) λv55=>
 R (Value.tuple #[v55,t7]) h54)
def aFf(t0:Value)(t1:Value)(h0:PH)(R:cF):Prop:=
 ∀r1,h0 r1=none->dT (PH.set h0 r1 (.cells (dD PG cL) cL)) λh2=>
 bZ (cC PG (build cL #[])) λv3=>
 ∀r4,h2 r4=none->dT (PH.set h2 r4 (.cells (dD PG cL) cL)) λh5=>
 cM PG (cP cL (pT r4 0) v3) h5 λv6 h7=>
 bZ (cC PG (Builtin.len_ #[dE] aR #[t1])) λv8=>
 gU [0,4,6,7,13,14,15] (λn9 ρ h=>aHn R n9 (ρ 0) (ρ 4) (ρ 6) (ρ 7) (ρ 13) (ρ 14) (ρ 15) h) [t0,(pT r1 0),(pT r4 0),(Value.int IntKind.i64 (-1)),t1,v8,(Value.int IntKind.i64 0)] h7
def aFf.call{t0 t1 h0 R}(H:aFf t0 t1 h0 R):bW PG aFN #[t0,t1] h0 R:=dC (sL 3 [0,4,6,7,13,14,15] 41) Tryz.func59 H
def aI6(t0:Value)(t1:Value)(h0:PH)(R:cF):Prop:=
 ∀r1,h0 r1=none->dT (PH.set h0 r1 (.cells (dD PG cL) cL)) λh2=>
 bW PG aDd #[t0] h2 λv3 h4=>
 bZ (cC PG (Op.unary UnOp.not v3)) λv5=>
 cN v5
 (bZ (cC PG (build cL #[])) λv6=>
 cM PG (cP cL (pT r1 0) v6) h4 λv7 h8=>
 bZ (cB PG h8 (loadAt cL (pT r1 0))) λv9=>
 R (Value.tuple #[v9,(Value.int IntKind.i64 1)]) h8)
 (bZ (cC PG (Builtin.len_ #[bR] aR #[t1])) λv10=>
 bZ (cB PG h4 (fJ BinOp.neq aR (.tmp 17) (.tmp 18) v10 t0)) λv11=>
 cN v11
 (bZ (cC PG (build cL #[])) λv12=>
 cM PG (cP cL (pT r1 0) v12) h4 λv13 h14=>
 bZ (cB PG h14 (loadAt cL (pT r1 0))) λv15=>
 R (Value.tuple #[v15,(Value.int IntKind.i64 6)]) h14)
 (bW PG aEQ #[t1] h4 λv16 h17=>
 bZ (cC PG (Op.unary UnOp.not v16)) λv18=>
 cN v18
 (bZ (cC PG (build cL #[])) λv19=>
 cM PG (cP cL (pT r1 0) v19) h17 λv20 h21=>
 bZ (cB PG h21 (loadAt cL (pT r1 0))) λv22=>
 R (Value.tuple #[v22,(Value.int IntKind.i64 8)]) h21)
 (bZ (cC PG (Instr.sliceAt bR t1 (some (Value.int IntKind.i64 1)) none none)) λv23=>
 bW PG vW #[v23] h17 λv24 h25=>
 bW PG kR #[v24] h25 λv26 h27=>
 bW PG jJ #[v24] h27 λv28 h29=>
 bZ (cC PG (build cL #[(0,v26),(1,v28)])) λv30=>
 ∀r31,h29 r31=none->dT (PH.set h29 r31 (.cells (dD PG cL) cL)) λh32=>
 cM PG (cP cL (pT r31 0) v30) h32 λv33 h34=>
 bZ (cB PG h34 (loadAt cL (pT r31 0))) λv35=>
 bW PG aDH #[t0,v35] h34 λv36 h37=>
 bZ (cC PG (extract v36 0)) λv38=>
 bZ (cC PG (extract v36 1)) λv39=>
 bZ (cB PG h37 (fJ BinOp.neq dF (.tmp 40) (.const (Value.int IntKind.i64 0)) v39 (Value.int IntKind.i64 0))) λv40=>
 fA (yV v40) false (λk43=>k43 v38 h37) h37 λv41 h42=>
 fA (yV v40) false (λk46=>k46 t1 h42) h42 λv44 h45=>
 fA (yV v40) false (λk49=>bZ (cB PG h45 (fJ BinOp.neq bR (.tmp 43) (.tmp 44) v41 v44)) λv50=>k49 v50 h45) h45 λv47 h48=>
 bZ (eH v40 (Value.bool true) v47) λv51=>
 cN v51
 (bZ (cC PG (build cL #[])) λv52=>
 cM PG (cP cL (pT r1 0) v52) h48 λv53 h54=>
 bZ (cB PG h54 (loadAt cL (pT r1 0))) λv55=>
 R (Value.tuple #[v55,(Value.int IntKind.i64 5)]) h54)
 (bZ (cB PG h48 (loadAt cL (pT r31 0))) λv56=>
 cM PG (cP cL (pT r1 0) v56) h48 λv57 h58=>
 bZ (cB PG h58 (loadAt cL (pT r1 0))) λv59=>
 R (Value.tuple #[v59,(Value.int IntKind.i64 0)]) h58))))
def aI6.call{t0 t1 h0 R}(H:aI6 t0 t1 h0 R):bW PG aIG #[t0,t1] h0 R:=dC (iK 49) Tryz.func123 H
def aIm(t0:Value)(t1:Value)(h0:PH)(R:cF):Prop:=
 ∀r1,h0 r1=none->dT (PH.set h0 r1 (.cells (Value.cells t1) cL)) λh2=>
 bW PG aDd #[t0] h2 λv3 h4=>
 bZ (cC PG (Op.unary UnOp.not v3)) λv5=>
 fA (yV v5) false (λk8=>bZ (cC PG (fieldAt cL (pT r1 0) 0)) λv9=>k8 v9 h4) h4 λv6 h7=>
 fA (yV v5) false (λk12=>bZ (cB PG h7 (loadAt cI v6)) λv13=>k12 v13 h7) h7 λv10 h11=>
 fA (yV v5) false (λk16=>bZ (cB PG h11 (fJ BinOp.eql cI (.tmp 14) (.const (Value.int IntKind.u64 0)) v10 (Value.int IntKind.u64 0))) λv17=>k16 v17 h11) h11 λv14 h15=>
 bZ (eH v5 (Value.bool true) v14) λv18=>
 fA (yV v18) false (λk21=>bZ (cC PG (fieldAt cL (pT r1 0) 1)) λv22=>k21 v22 h15) h15 λv19 h20=>
 fA (yV v18) false (λk25=>bZ (cB PG h20 (loadAt aR v19)) λv26=>k25 v26 h20) h20 λv23 h24=>
 fA (yV v18) false (λk29=>bZ (cC PG (binOp BinOp.lss aR v23 (Value.int IntKind.i64 0))) λv30=>k29 v30 h24) h24 λv27 h28=>
 bZ (eH v18 (Value.bool true) v27) λv31=>
 fA (yV v31) false (λk34=>bZ (cC PG (fieldAt cL (pT r1 0) 1)) λv35=>k34 v35 h28) h28 λv32 h33=>
 fA (yV v31) false (λk38=>bZ (cB PG h33 (loadAt aR v32)) λv39=>k38 v39 h33) h33 λv36 h37=>
 fA (yV v31) false (λk42=>bZ (cC PG (binOp BinOp.gtr aR v36 (Value.int IntKind.i64 1))) λv43=>k42 v43 h37) h37 λv40 h41=>
 bZ (eH v31 (Value.bool true) v40) λv44=>
 cN v44
 (R (Value.tuple #[(Value.string {data:=#[]}),(Value.int IntKind.i64 1)]) h41)
 (∀r45,h41 r45=none->dT (PH.set h41 r45 (.cells (dD PG eN) eN)) λh46=>
 bW PG nA #[(pT r45 0),(Value.string {data:=#[72]})] h46 λv47 h48=>
 bZ (cC PG (fieldAt cL (pT r1 0) 0)) λv49=>
 bZ (cB PG h48 (loadAt cI v49)) λv50=>
 bW PG jX #[(pT r45 0),v50] h48 λv51 h52=>
 bZ (cC PG (fieldAt cL (pT r1 0) 1)) λv53=>
 bZ (cB PG h52 (loadAt aR v53)) λv54=>
 bW PG iH #[(pT r45 0),v54] h52 λv55 h56=>
 bZ (cC PG (binOp BinOp.sub aR t0 (Value.int IntKind.i64 14))) λv57=>
 bW PG vY #[(Value.string {data:=#[0]}),v57] h56 λv58 h59=>
 bW PG nA #[(pT r45 0),v58] h59 λv60 h61=>
 bW PG nH #[(pT r45 0)] h61 λv62 h63=>
 bZ (cC PG (extract v62 0)) λv64=>
 bZ (cC PG (extract v62 1)) λv65=>
 bW PG aFZ #[v64] h63 λv66 h67=>
 R (Value.tuple #[v66,v65]) h67)
def aIm.call{t0 t1 h0 R}(H:aIm t0 t1 h0 R):bW PG aDH #[t0,t1] h0 R:=dC (iK 45) Tryz.func62 H
def aBR(c a:Value)(e:PH)(R:cF):Prop:=dU .lss aR a (.int .i64 0) λb=>gY b false a e λf g=>eZ b false (binOp .gtr aR f (.int .i64 255)) g λh d=>bZ (eH b (.bool true) h) λi=>cN i (fX c λj=>dP eN j 0 λk=>bW PG iU #[k,.int .i64 1] d λo l=>R (.tuple #[]) l) (pP (convert aR cI a) λm=>bW PG tV #[c,m,.int .i64 1] d λp n=>R (.tuple #[]) n)
def aBR.call{t0 t1 h0 R}(H:aBR t0 t1 h0 R):bW PG iH #[t0,t1] h0 R:=dC (iK 18) Tryz.func85 H
def oU(b c:Value)(a:PH)(R:cF):Prop:=fX b λd=>dP mJ d 0 λe=>dI a dF e λf=>gG a .eql dF (.tmp 7) (.const (.int .i64 0)) f (.int .i64 0) λg=>cN g (fX b λh=>dP mJ h 0 λi=>cM PG (cP dF i c) a λk j=>R (.tuple #[]) j) (R (.tuple #[]) a)
def oU.call{t0 t1 h0 R}(H:oU t0 t1 h0 R):bW PG iU #[t0,t1] h0 R:=dC (iK 13) Tryz.func137 H
def aFq(R:cF)(e:fY)(b c a:Value)(d:PH):Prop:=dU .geq aR a (.int .i64 0) λf=>cN f (fX b λg=>dP eN g 1 λh=>dU .mul aR (.int .i64 8) a λi=>dU .shr cI c i λj=>pP (convert cI dJ j) λk=>bW PG oX #[h,k] d λn l=>(dU .sub aR a (.int .i64 1) λm=>e [b,c,m] l)) (R (.tuple #[]) d)
def uU(a b c:Value)(d:PH)(R:cF):Prop:=dU .sub aR c (.int .i64 1) λe=>gU [0,1,6] (λf ρ h=>aFq R f (ρ 0) (ρ 1) (ρ 6) h) [a,b,e] d
def uU.ann:kD:={b:=λi=>match i with|3=>#[0,1,3,0,0,16,56,120,255]|_=>#[],ord:=λi=>match i with|3=>[0,1,2,3,4,5,6,7,8]|_=>[],keep:=λi=>match i with|1=>[0,1,6]|_=>[],n:=22}
def uU.call{t0 t1 t2 h0 R}(H:uU t0 t1 t2 h0 R):bW PG tV #[t0,t1,t2] h0 R:=dC uU.ann Tryz.func145 H
def mF(a c:Value)(d:PH)(R:cF):Prop:=bW PG lE #[a] d λo b=>fX a λe=>dP dA e 1 λf=>dI b cS f λg=>yD b (buildSlice cS 1 #[(0,c)]) λh i=>cM PG (Builtin.append_ #[cS,cS] cS #[g,h]) i λj k=>fX a λl=>dP dA l 1 λm=>cM PG (cP cS m j) k λp n=>R Value.nilIface n
def mF.call{t0 t1 h0 R}(H:mF t0 t1 h0 R):bW PG oX #[t0,t1] h0 R:=dC (iK 17) Tryz.func189 H
def aAZ(b:Value)(d:PH)(R:cF):Prop:=fX b λe=>dP eN e 0 λf=>bW PG iG #[f] d λc a=>gG a .neq dF (.tmp 9) (.const (.int .i64 0)) c (.int .i64 0) λg=>cN g (R (.tuple #[(.string ⟨#[]⟩),c]) a) (fX b λh=>dP eN h 1 λi=>bW PG kF #[i] a λj k=>R (.tuple #[j,.int .i64 0]) k)
def aAZ.call{t0 h0 R}(H:aAZ t0 h0 R):bW PG nH #[t0] h0 R:=dC (iK 16) Tryz.func88 H
def aB7(b:Value)(a:PH)(R:cF):Prop:=fX b λc=>dP mJ c 0 λd=>dI a dF d λe=>R e a
def aB7.call{t0 h0 R}(H:aB7 t0 h0 R):bW PG iG #[t0] h0 R:=dC (iK 7) Tryz.func149 H
def aGv(t0:Value)(h0:PH)(R:cF):Prop:=
 bZ (cC PG (binOp BinOp.geq aR t0 (Value.int IntKind.i64 64))) λv1=>
 fA (yV v1) true (λk4=>k4 t0 h0) h0 λv2 h3=>
 fA (yV v1) true (λk7=>bZ (cC PG (binOp BinOp.leq aR v2 (Value.int IntKind.i64 512))) λv8=>k7 v8 h3) h3 λv5 h6=>
 bZ (eH v1 v5 (Value.bool false)) λv9=>
 R v9 h6
def aGv.call{t0 h0 R}(H:aGv t0 h0 R):bW PG aDd #[t0] h0 R:=dC (iK 9) Tryz.func125 H
def aB5(a b:Value)(c:PH)(R:cF):Prop:=fX a λd=>dP eN d 1 λe=>bW PG iS #[e,b] c λg f=>R (.tuple #[]) f
def aB5.call{t0 t1 h0 R}(H:aB5 t0 t1 h0 R):bW PG nA #[t0,t1] h0 R:=dC (iK 9) Tryz.func126 H
def zG(a b:Value)(c:PH)(R:cF):Prop:=bW PG tV #[a,b,.int .i64 8] c λe d=>R (.tuple #[]) d
def zG.call{t0 t1 h0 R}(H:zG t0 t1 h0 R):bW PG jX #[t0,t1] h0 R:=dC (iK 7) Tryz.func127 H
def aI0(t0:Value)(h0:PH)(R:cF):Prop:=
 bZ (jT PG (buildSlice dE 1 #[(0,t0)])) λx2=>∀r1,h0 r1=none->bZ (cC PG (x2.2 r1)) λv3=>dT (PH.set h0 r1 x2.1) λh4=>
 bW PG aGx #[v3] h4 λv5 h6=>
 bW PG aEL #[v5] h6 λv7 h8=>
 bZ (cC PG (binOp BinOp.add bR t0 v7)) λv9=>
 R v9 h8
def aI0.call{t0 h0 R}(H:aI0 t0 h0 R):bW PG aFZ #[t0] h0 R:=dC (iK 9) Tryz.func128 H
def aJo(R:cF)(n3:fY)(t0:Value)(t3:Value)(t5:Value)(h0:PH):Prop:=
 bZ (cC PG (binOp BinOp.lss aR t5 (Value.int IntKind.i64 4))) λv5=>
 cN v5
 (bZ (cC PG (binOp BinOp.mul aR (Value.int IntKind.i64 8) t5)) λv6=>
 bZ (cC PG (binOp BinOp.shr fD t0 v6)) λv7=>
 bZ (cC PG (convert fD dJ v7)) λv8=>
 bZ (cC PG (indexAt mZ t3 t5)) λv9=>
 cM PG (cP dJ v9 v8) h0 λv10 h11=>
 bZ (cC PG (binOp BinOp.add aR t5 (Value.int IntKind.i64 1))) λv12=>
 n3 [t0,t3,v12] h11)
 (bZ (cC PG (Instr.sliceAt mZ t3 none none none)) λv13=>
 bZ (cB PG h0 (convert cS bR v13)) λv14=>
 R v14 h0)
def aHj(t0:Value)(h0:PH)(R:cF):Prop:=
 ∀r1,h0 r1=none->dT (PH.set h0 r1 (.cells (dD PG mZ) mZ)) λh2=>
 gU [0,3,5] (λn3 ρ h=>aJo R n3 (ρ 0) (ρ 3) (ρ 5) h) [t0,(pT r1 0),(Value.int IntKind.i64 0)] h2
def aHj.call{t0 h0 R}(H:aHj t0 h0 R):bW PG aEL #[t0] h0 R:=dC (sL 3 [0,3,5] 18) Tryz.func175 H
def aL7(R:cF)(n2:fY)(t3:Value)(t6:Value)(t7:Value)(t8:Value)(h0:PH):Prop:=
 bZ (cC PG (binOp BinOp.lss aR t8 t7)) λv4=>
 cN v4
 (bZ (cC PG (indexAt dE t6 t8)) λv5=>
 bZ (cB PG h0 (loadAt bR v5)) λv6=>
 bW PG aH7 #[t3,v6] h0 λv7 h8=>
 bZ (cC PG (binOp BinOp.add aR t8 (Value.int IntKind.i64 1))) λv9=>
 n2 [v7,t6,t7,v9] h8)
 (bZ (cC PG (Op.unary UnOp.xor t3)) λv10=>
 R v10 h0)
def aKK(t0:Value)(h0:PH)(R:cF):Prop:=
 bZ (cC PG (Builtin.len_ #[dE] aR #[t0])) λv1=>
 gU [3,6,7,8] (λn2 ρ h=>aL7 R n2 (ρ 3) (ρ 6) (ρ 7) (ρ 8) h) [(Value.int IntKind.u32 4294967295),t0,v1,(Value.int IntKind.i64 0)] h0
def aKK.call{t0 h0 R}(H:aKK t0 h0 R):bW PG aGx #[t0] h0 R:=dC (sL 3 [3,6,7,8] 18) Tryz.func176 H
def aKa(R:cF)(n8:fY)(t0:Value)(t1:Value)(t5:Value)(t9:Value)(t10:Value)(h0:PH):Prop:=
 bZ (cC PG (binOp BinOp.lss aR t10 t9)) λv10=>
 cN v10
 (bZ (cC PG (binOp BinOp.shr fD t0 (Value.int IntKind.u64 8))) λv11=>
 bZ (cC PG (convert fD dJ t0)) λv12=>
 bZ (cC PG (Instr.index bR t1 t10)) λv13=>
 bZ (cC PG (binOp BinOp.xor dJ v12 v13)) λv14=>
 bZ (cC PG (indexAt eY t5 v14)) λv15=>
 bZ (cB PG h0 (loadAt fD v15)) λv16=>
 bZ (cC PG (binOp BinOp.xor fD v11 v16)) λv17=>
 bZ (cC PG (binOp BinOp.add aR t10 (Value.int IntKind.i64 1))) λv18=>
 n8 [v17,t1,t5,t9,v18] h0)
 (R t0 h0)
def aI5(t0:Value)(t1:Value)(h0:PH)(R:cF):Prop:=
 bW PG aHL #[] h0 λv1 h2=>
 ∀r3,h2 r3=none->dT (PH.set h2 r3 (.cells (dD PG eY) eY)) λh4=>
 cM PG (cP eY (pT r3 0) v1) h4 λv5 h6=>
 bZ (cC PG (Builtin.len_ #[bR] aR #[t1])) λv7=>
 gU [0,1,5,9,10] (λn8 ρ h=>aKa R n8 (ρ 0) (ρ 1) (ρ 5) (ρ 9) (ρ 10) h) [t0,t1,(pT r3 0),v7,(Value.int IntKind.i64 0)] h6
def aI5.call{t0 t1 h0 R}(H:aI5 t0 t1 h0 R):bW PG aH7 #[t0,t1] h0 R:=dC (sL 3 [0,1,5,9,10] 26) Tryz.func211 H
def aGH(R:cF)(n5:fY)(n9:fY)(t0:Value)(t1:Value)(t2:Value)(t3:Value)(t4:Value)(t9:Value)(h0:PH):Prop:=
 bZ (cC PG (binOp BinOp.lss aR t9 (Value.int IntKind.i64 8))) λv11=>
 cN v11
 (bZ (cC PG (binOp BinOp.shr fD t3 (Value.int IntKind.u64 1))) λv12=>
 bZ (cC PG (binOp BinOp.and fD t3 (Value.int IntKind.u32 1))) λv13=>
 bZ (cC PG (binOp BinOp.mul fD v13 (Value.int IntKind.u32 3988292384))) λv14=>
 bZ (cC PG (binOp BinOp.xor fD v12 v14)) λv15=>
 bZ (cC PG (binOp BinOp.add aR t9 (Value.int IntKind.i64 1))) λv16=>
 n9 [t0,t1,t2,v15,t4,v16] h0)
 (bZ (cC PG (indexAt eY t1 t2)) λv17=>
 cM PG (cP fD v17 t3) h0 λv18 h19=>
 bZ (cC PG (binOp BinOp.add aR t4 (Value.int IntKind.i64 1))) λv20=>
 n5 [t0,t1,v20] h19)
def aJh(R:cF)(n5:fY)(t0:Value)(t1:Value)(t4:Value)(h0:PH):Prop:=
 bZ (cC PG (binOp BinOp.lss aR t4 (Value.int IntKind.i64 256))) λv7=>
 cN v7
 (bZ (cC PG (convert aR fD t4)) λv8=>
 gU [0,1,2,3,4,9] (λn9 ρ h=>aGH R n5 n9 (ρ 0) (ρ 1) (ρ 2) (ρ 3) (ρ 4) (ρ 9) h) [t0,t1,t4,v8,t4,(Value.int IntKind.i64 0)] h0)
 (bZ (cB PG h0 (loadAt eY t1)) λv21=>
 cM PG (cP eY t0 v21) h0 λv22 h23=>
 bZ (cB PG h23 (loadAt eY t0)) λv24=>
 R v24 h23)
def aEA(h0:PH)(R:cF):Prop:=
 ∀r1,h0 r1=none->dT (PH.set h0 r1 (.cells (dD PG eY) eY)) λh2=>
 ∀r3,h2 r3=none->dT (PH.set h2 r3 (.cells (dD PG eY) eY)) λh4=>
 gU [0,1,4] (λn5 ρ h=>aJh R n5 (ρ 0) (ρ 1) (ρ 4) h) [(pT r1 0),(pT r3 0),(Value.int IntKind.i64 0)] h4
def aEA.ann:kD:={b:=λ_=>#[],ord:=λ_=>[],keep:=λi=>match i with|3=>[0,1,4]|7=>[0,1,2,3,4,9]|_=>[],n:=23}
def aEA.call{h0 R}(H:aEA h0 R):bW PG aHL #[] h0 R:=dC aEA.ann Tryz.func225 H
def aCg(c:Value)(b:PH)(R:cF):Prop:=pP (build eK #[(1,c)]) λd=>∀a,b a=none->dT (PH.set b a (.cells d.cells eK)) λe=>R (pT a 0) e
def aCg.call{t0 h0 R}(H:aCg t0 h0 R):bW PG vW #[t0] h0 R:=dC (iK 6) Tryz.func132 H
def aBb(a:Value)(b:PH)(R:cF):Prop:=bW PG uL #[a,.int .i64 1] b λc d=>pP (convert cI aR c) λe=>R e d
def aBb.call{t0 h0 R}(H:aBb t0 h0 R):bW PG jJ #[t0] h0 R:=dC (iK 6) Tryz.func133 H
def aGF(R:cF)(f:fY)(c d e a:Value)(b:PH):Prop:=dU .lss aR a e λg=>cN g (mI cS d a λh=>dI b dJ h λi=>dU .shl cI c (.int .u64 8) λj=>pP (convert dJ cI i) λk=>dU .or cI j k λl=>dU .add aR a (.int .i64 1) λm=>f [l,d,e,m] b) (R c b)
def aB1(b c:Value)(d:PH)(R:cF):Prop:=bW PG qO #[b,c] d λe f=>cM PG (convert bR cS e) f λa g=>iJ cS aR a λi=>gU [5,11,12,13] (λj ρ h=>aGF R j (ρ 5) (ρ 11) (ρ 12) (ρ 13) h) [(.int .u64 0),a,i,.int .i64 0] g
def aB1.call{t0 t1 h0 R}(H:aB1 t0 t1 h0 R):bW PG uL #[t0,t1] h0 R:=dC (sL 3 [5,11,12,13] 24) Tryz.func178 H
def sX(R:cF)(b c:Value)(d:PH):Prop:=fX b λe=>dP eK e 0 λf=>bW PG iG #[f] d λg a=>gG a .neq dF (.tmp 24) (.const (.int .i64 0)) g (.int .i64 0) λh=>cN h (R (.string ⟨#[]⟩) a) (fX b λi=>dP eK i 1 λj=>dI a bR j λk=>pP (Instr.sliceAt bR k none (some c) none) λl=>fX b λm=>dP eK m 1 λn=>dI a bR n λo=>pP (Instr.sliceAt bR o (some c) none none) λp=>fX b λq=>dP eK q 1 λr=>cM PG (cP bR r p) a λu s=>R l s)
def aB3(b c:Value)(e:PH)(R:cF):Prop:=dU .lss aR c (.int .i64 0) λa=>gY a false c e λf g=>gY a false b g λh i=>eZ a false (gH h) i λj k=>eZ a false (fieldAt eK j 1) k λl m=>gB a false (loadAt bR l) m λn o=>eZ a false (Builtin.len_ #[bR] aR #[n]) o λp q=>eZ a false (binOp .gtr aR f p) q λr d=>bZ (eH a (.bool true) r) λs=>cN s (fX b λu=>dP eK u 0 λv=>bW PG iU #[v,.int .i64 6] d λx w=>sX R b c w) (sX R b c d)
def aB3.call{t0 t1 h0 R}(H:aB3 t0 t1 h0 R):bW PG qO #[t0,t1] h0 R:=dC (iK 42) Tryz.func212 H
def aDw(t0:Value)(h0:PH)(R:cF):Prop:=
 bZ (cC PG (Builtin.len_ #[bR] aR #[t0])) λv1=>
 bZ (cC PG (binOp BinOp.sub aR v1 (Value.int IntKind.i64 4))) λv2=>
 bZ (cC PG (binOp BinOp.geq aR v2 (Value.int IntKind.i64 0))) λv3=>
 fA (yV v3) true (λk6=>k6 t0 h0) h0 λv4 h5=>
 fA (yV v3) true (λk9=>k9 v2 h5) h5 λv7 h8=>
 fA (yV v3) true (λk12=>bZ (cC PG (Instr.sliceAt bR v4 none (some v7) none)) λv13=>k12 v13 h8) h8 λv10 h11=>
 fA (yV v3) true (λk16=>k16 t0 h11) h11 λv14 h15=>
 fA (yV v3) true (λk19=>k19 v2 h15) h15 λv17 h18=>
 fA (yV v3) true (λk22=>bZ (cC PG (Instr.sliceAt bR v14 (some v17) none none)) λv23=>k22 v23 h18) h18 λv20 h21=>
 fA (yV v3) true (λk26=>bZ (jT PG (buildSlice dE 1 #[(0,v10)])) λx28=>∀r27,h21 r27=none->bZ (cC PG (x28.2 r27)) λv29=>dT (PH.set h21 r27 x28.1) λh30=>k26 v29 h30) h21 λv24 h25=>
 fA (yV v3) true (λk33=>bW PG aGx #[v24] h25 λv34 h35=>k33 v34 h35) h25 λv31 h32=>
 (fA (yV v3) true (λk38=>bW PG aEL #[v31] h32 λv39 h40=>k38 v39 h40) h32 λv36 h37=>
 (fA (yV v3) true (λk43=>bZ (cB PG h37 (fJ BinOp.eql bR (.tmp 15) (.tmp 18) v36 v20)) λv44=>k43 v44 h37) h37 λv41 h42=>
 bZ (eH v3 v41 (Value.bool false)) λv45=>
 R v45 h42))
def aDw.ann:kD:={b:=λi=>match i with|2=>#[0,1,3,7,7,31,63,127,255,7,7,1543,4095,8191,16383]|_=>#[],ord:=λi=>match i with|2=>[0,1,2,3,4,5,9,10,11,6,7,8,12,13,14]|_=>[],keep:=λ_=>[],n:=21}
def aDw.call{t0 h0 R}(H:aDw t0 h0 R):bW PG aEQ #[t0] h0 R:=dC aDw.ann Tryz.func172 H
def zM(a:Value)(b:PH)(R:cF):Prop:=bW PG uL #[a,.int .i64 8] b λc d=>R c d
def zM.call{t0 h0 R}(H:zM t0 h0 R):bW PG kR #[t0] h0 R:=dC (iK 5) Tryz.func173 H
def zR(t0:Value)(h0:PH)(R:cF):Prop:=
 ∀r1,h0 r1=none->dT (PH.set h0 r1 (.cells (Value.cells t0) dZ)) λh2=>
 bZ (cC PG (fieldAt dZ (pT r1 0) 0)) λv3=>
 bZ (cB PG h2 (loadAt aR v3)) λv4=>
 R v4 h2
def zR.call{t0 h0 R}(H:zR t0 h0 R):bW PG jZ #[t0] h0 R:=dC (iK 5) Tryz.func60 H
def aGc(R:cF)(n5:fY)(t1:Value)(t3:Value)(t7:Value)(t11:Value)(t12:Value)(h0:PH):Prop:=
 bZ (cC PG (binOp BinOp.lss aR t12 t11)) λv7=>
 cN v7
 (bZ (cC PG (fieldAt dW t3 0)) λv8=>
 bZ (cB PG h0 (loadAt gC v8)) λv9=>
 bZ (cC PG (binOp BinOp.add aR t1 t12)) λv10=>
 bW PG aC7 #[v9,v10] h0 λv11 h12=>
 bZ (cC PG (extract v11 0)) λv13=>
 bZ (cC PG (extract v11 1)) λv14=>
 bW PG iS #[t7,v13] h12 λv15 h16=>
 bZ (cC PG (binOp BinOp.add aR t12 (Value.int IntKind.i64 1))) λv17=>
 n5 [t1,t3,t7,t11,v17] h16)
 (bW PG kF #[t7] h0 λv18 h19=>
 R v18 h19)
def aCh(t0:Value)(t1:Value)(t2:Value)(h0:PH)(R:cF):Prop:=
 ∀r1,h0 r1=none->dT (PH.set h0 r1 (.cells (Value.cells t0) dW)) λh2=>
 ∀r3,h2 r3=none->dT (PH.set h2 r3 (.cells (dD PG dA) dA)) λh4=>
 gU [1,3,7,11,12] (λn5 ρ h=>aGc R n5 (ρ 1) (ρ 3) (ρ 7) (ρ 11) (ρ 12) h) [t1,(pT r1 0),(pT r3 0),t2,(Value.int IntKind.i64 0)] h4
def aCh.call{t0 t1 t2 h0 R}(H:aCh t0 t1 t2 h0 R):bW PG vZ #[t0,t1,t2] h0 R:=dC (sL 3 [1,3,7,11,12] 28) Tryz.func61 H
def aCP(R:cF)(n16:fY)(t1:Value)(t6:Value)(t26:Value)(t27:Value)(t28:Value)(h0:PH):Prop:=
 bZ (cC PG (binOp BinOp.add aR t28 (Value.int IntKind.i64 1))) λv32=>
 n16 [t1,t6,t26,t27,v32] h0
def zJ(R:cF)(n16:fY)(t1:Value)(t6:Value)(t26:Value)(t27:Value)(t28:Value)(h0:PH):Prop:=
 aCP R n16 t1 t6 t26 t27 t28 h0
def aFm(R:cF)(n16:fY)(t1:Value)(t6:Value)(t26:Value)(t27:Value)(t28:Value)(h0:PH):Prop:=
 bZ (cC PG (binOp BinOp.lss aR t28 t27)) λv18=>
 cN v18
 (bZ (cC PG (indexAt fE t26 t28)) λv19=>
 bZ (cB PG h0 (loadAt eO v19)) λv20=>
 ∀r21,h0 r21=none->dT (PH.set h0 r21 (.cells (dD PG eO) eO)) λh22=>
 cM PG (cP eO (pT r21 0) v20) h22 λv23 h24=>
 bZ (cC PG (fieldAt eO (pT r21 0) 0)) λv25=>
 bZ (cB PG h24 (loadAt aR v25)) λv26=>
 bZ (cB PG h24 (fJ BinOp.eql aR (.tmp 33) (.tmp 34) v26 t1)) λv27=>
 cN v27
 (bZ (cC PG (fieldAt eO (pT r21 0) 1)) λv28=>
 bZ (cB PG h24 (loadAt bR v28)) λv29=>
 zJ R n16 t1 v29 t26 t27 t28 h24)
 (zJ R n16 t1 t6 t26 t27 t28 h24))
 (R (Value.tuple #[t6,(Value.int IntKind.i64 0)]) h0)
def aCi(t0:Value)(t1:Value)(h0:PH)(R:cF):Prop:=
 bZ (cC PG (gH t0)) λv1=>
 bZ (cC PG (fieldAt eM v1 0)) λv2=>
 bZ (cB PG h0 (loadAt dZ v2)) λv3=>
 bW PG tR #[v3,t1] h0 λv4 h5=>
 bZ (cC PG (Op.unary UnOp.not v4)) λv6=>
 cN v6
 (R (Value.tuple #[(Value.string {data:=#[]}),(Value.int IntKind.i64 1)]) h5)
 (bZ (cC PG (gH t0)) λv7=>
 bZ (cC PG (fieldAt eM v7 1)) λv8=>
 bZ (cB PG h5 (loadAt dE v8)) λv9=>
 bZ (cC PG (indexAt dE v9 t1)) λv10=>
 bZ (cB PG h5 (loadAt bR v10)) λv11=>
 bZ (cC PG (gH t0)) λv12=>
 bZ (cC PG (fieldAt eM v12 2)) λv13=>
 bZ (cB PG h5 (loadAt fE v13)) λv14=>
 bZ (cC PG (Builtin.len_ #[fE] aR #[v14])) λv15=>
 gU [1,6,26,27,28] (λn16 ρ h=>aFm R n16 (ρ 1) (ρ 6) (ρ 26) (ρ 27) (ρ 28) h) [t1,v11,v14,v15,(Value.int IntKind.i64 0)] h5)
def aCi.call{t0 t1 h0 R}(H:aCi t0 t1 h0 R):bW PG aC7 #[t0,t1] h0 R:=dC (sL 5 [1,6,26,27,28] 40) Tryz.func124 H
def xM(t0:Value)(t1:Value)(h0:PH)(R:cF):Prop:=
 ∀r1,h0 r1=none->dT (PH.set h0 r1 (.cells (Value.cells t0) dZ)) λh2=>
 bZ (cC PG (binOp BinOp.geq aR t1 (Value.int IntKind.i64 0))) λv3=>
 fA (yV v3) true (λk6=>k6 t1 h2) h2 λv4 h5=>
 fA (yV v3) true (λk9=>bZ (cC PG (fieldAt dZ (pT r1 0) 1)) λv10=>k9 v10 h5) h5 λv7 h8=>
 fA (yV v3) true (λk13=>bZ (cB PG h8 (loadAt aR v7)) λv14=>k13 v14 h8) h8 λv11 h12=>
 fA (yV v3) true (λk17=>bZ (cC PG (binOp BinOp.lss aR v4 v11)) λv18=>k17 v18 h12) h12 λv15 h16=>
 bZ (eH v3 v15 (Value.bool false)) λv19=>
 R v19 h16
def xM.call{t0 t1 h0 R}(H:xM t0 t1 h0 R):bW PG tR #[t0,t1] h0 R:=dC (iK 13) Tryz.func174 H
def aHV(R:cF)(n4:fY)(t1:Value)(t3:Value)(t10:Value)(t11:Value)(t12:Value)(h0:PH):Prop:=
 bZ (cC PG (binOp BinOp.lss aR t12 t11)) λv6=>
 cN v6
 (bZ (cC PG (indexAt dE t10 t12)) λv7=>
 bZ (cB PG h0 (loadAt bR v7)) λv8=>
 bZ (cC PG (fieldAt dW t3 0)) λv9=>
 bZ (cB PG h0 (loadAt gC v9)) λv10=>
 bZ (cC PG (binOp BinOp.add aR t1 t12)) λv11=>
 bW PG aCO #[v10,v11,v8] h0 λv12 h13=>
 bZ (cB PG h13 (fJ BinOp.neq dF (.tmp 24) (.const (Value.int IntKind.i64 0)) v12 (Value.int IntKind.i64 0))) λv14=>
 cN v14
 (R v12 h13)
 (bZ (cC PG (binOp BinOp.add aR t12 (Value.int IntKind.i64 1))) λv15=>
 n4 [t1,t3,t10,t11,v15] h13))
 (bZ (cC PG (fieldAt dW t3 0)) λv16=>
 bZ (cB PG h0 (loadAt gC v16)) λv17=>
 bW PG zH #[v17] h0 λv18 h19=>
 R v18 h19)
def aDe(t0:Value)(t1:Value)(t2:Value)(h0:PH)(R:cF):Prop:=
 ∀r1,h0 r1=none->dT (PH.set h0 r1 (.cells (Value.cells t0) dW)) λh2=>
 bZ (cC PG (Builtin.len_ #[dE] aR #[t2])) λv3=>
 gU [1,3,10,11,12] (λn4 ρ h=>aHV R n4 (ρ 1) (ρ 3) (ρ 10) (ρ 11) (ρ 12) h) [t1,(pT r1 0),t2,v3,(Value.int IntKind.i64 0)] h2
def aDe.call{t0 t1 t2 h0 R}(H:aDe t0 t1 t2 h0 R):bW PG tM #[t0,t1,t2] h0 R:=dC (sL 2 [1,3,10,11,12] 31) Tryz.func63 H
def aCA(t0:Value)(t1:Value)(t2:Value)(h0:PH)(R:cF):Prop:=
 bZ (cC PG (gH t0)) λv1=>
 bZ (cC PG (fieldAt eM v1 0)) λv2=>
 bZ (cB PG h0 (loadAt dZ v2)) λv3=>
 bW PG tR #[v3,t1] h0 λv4 h5=>
 bZ (cC PG (Op.unary UnOp.not v4)) λv6=>
 fA (yV v6) false (λk9=>k9 t2 h5) h5 λv7 h8=>
 fA (yV v6) false (λk12=>bZ (cC PG (Builtin.len_ #[bR] aR #[v7])) λv13=>k12 v13 h8) h8 λv10 h11=>
 fA (yV v6) false (λk16=>k16 t0 h11) h11 λv14 h15=>
 fA (yV v6) false (λk19=>bZ (cC PG (gH v14)) λv20=>k19 v20 h15) h15 λv17 h18=>
 fA (yV v6) false (λk23=>bZ (cC PG (fieldAt eM v17 0)) λv24=>k23 v24 h18) h18 λv21 h22=>
 fA (yV v6) false (λk27=>bZ (cC PG (fieldAt dZ v21 0)) λv28=>k27 v28 h22) h22 λv25 h26=>
 fA (yV v6) false (λk31=>bZ (cB PG h26 (loadAt aR v25)) λv32=>k31 v32 h26) h26 λv29 h30=>
 fA (yV v6) false (λk35=>bZ (cB PG h30 (fJ BinOp.neq aR (.tmp 17) (.tmp 22) v10 v29)) λv36=>k35 v36 h30) h30 λv33 h34=>
 bZ (eH v6 (Value.bool true) v33) λv37=>
 cN v37
 (R (Value.int IntKind.i64 1) h34)
 (bW PG yS #[t0] h34 λv38 h39=>
 cN v38
 (R (Value.int IntKind.i64 13) h39)
 (bZ (cC PG (gH t0)) λv40=>
 bZ (cC PG (fieldAt eM v40 2)) λv41=>
 bZ (cB PG h39 (loadAt fE v41)) λv42=>
 bZ (cC PG (build eO #[(0,t1),(1,t2)])) λv43=>
 bZ (jT PG (buildSlice fE 1 #[(0,v43)])) λx45=>∀r44,h39 r44=none->bZ (cC PG (x45.2 r44)) λv46=>dT (PH.set h39 r44 x45.1) λh47=>
 cM PG (Builtin.append_ #[fE,fE] fE #[v42,v46]) h47 λv48 h49=>
 bZ (cC PG (gH t0)) λv50=>
 bZ (cC PG (fieldAt eM v50 2)) λv51=>
 cM PG (cP fE v51 v48) h49 λv52 h53=>
 R (Value.int IntKind.i64 0) h53))
def aCA.call{t0 t1 t2 h0 R}(H:aCA t0 t1 t2 h0 R):bW PG aCO #[t0,t1,t2] h0 R:=dC (iK 40) Tryz.func129 H
def aJF(R:cF)(n4:fY)(t0:Value)(t1:Value)(t2:Value)(t8:Value)(t9:Value)(t10:Value)(h0:PH):Prop:=
 bZ (cC PG (binOp BinOp.mul aR t9 t0)) λv6=>
 bZ (cC PG (Instr.sliceAt bR t2 (some v6) none none)) λv7=>
 bW PG aEq #[t0,t1,t10,v7] h0 λv8 h9=>
 bZ (cC PG (extract v8 0)) λv10=>
 bZ (cC PG (extract v8 1)) λv11=>
 bZ (cB PG h9 (fJ BinOp.eql aR (.tmp 30) (.const (Value.int IntKind.i64 0)) v11 (Value.int IntKind.i64 0))) λv12=>
 cN v12
 (R (Value.tuple #[t8,t9]) h9)
 (bZ (jT PG (buildSlice dE 1 #[(0,v10)])) λx14=>∀r13,h9 r13=none->bZ (cC PG (x14.2 r13)) λv15=>dT (PH.set h9 r13 x14.1) λh16=>
 cM PG (Builtin.append_ #[dE,dE] dE #[t8,v15]) h16 λv17 h18=>
 bZ (cC PG (binOp BinOp.add aR t9 v11)) λv19=>
 bZ (cC PG (binOp BinOp.add cI t10 (Value.int IntKind.u64 1))) λv20=>
 n4 [t0,t1,t2,v17,v19,v20] h18)
def aGs(t0:Value)(t1:Value)(t2:Value)(h0:PH)(R:cF):Prop:=
 bW PG aA5 #[t0] h0 λv1 h2=>
 bZ (cC PG (Op.unary UnOp.not v1)) λv3=>
 cN v3
 (R (Value.tuple #[(Value.slice none 0 0),(Value.int IntKind.i64 0)]) h2)
 (gU [0,1,2,8,9,10] (λn4 ρ h=>aJF R n4 (ρ 0) (ρ 1) (ρ 2) (ρ 8) (ρ 9) (ρ 10) h) [t0,t1,t2,(Value.slice none 0 0),(Value.int IntKind.i64 0),(Value.int IntKind.u64 0)] h2)
def aGs.call{t0 t1 t2 h0 R}(H:aGs t0 t1 t2 h0 R):bW PG aGM #[t0,t1,t2] h0 R:=dC (sL 7 [0,1,2,8,9,10] 41) Tryz.func64 H
def aFa(t0:Value)(h0:PH)(R:cF):Prop:=
 bZ (cC PG (binOp BinOp.geq aR t0 (Value.int IntKind.i64 64))) λv1=>
 fA (yV v1) true (λk4=>k4 t0 h0) h0 λv2 h3=>
 fA (yV v1) true (λk7=>bZ (cC PG (binOp BinOp.leq aR v2 (Value.int IntKind.i64 512))) λv8=>k7 v8 h3) h3 λv5 h6=>
 bZ (eH v1 v5 (Value.bool false)) λv9=>
 R v9 h6
def aFa.call{t0 h0 R}(H:aFa t0 h0 R):bW PG aA5 #[t0] h0 R:=dC (iK 9) Tryz.func130 H
def aBN(R:cF)(n1:fY)(t0:Value)(t1:Value)(t2:Value)(t3:Value)(t10:Value)(t11:Value)(t12:Value)(t13:Value)(t14:Value)(h0:PH):Prop:=
 bZ (cB PG h0 (fJ BinOp.neq dF (.tmp 42) (.const (Value.int IntKind.i64 0)) t14 (Value.int IntKind.i64 0))) λv23=>
 fA (yV v23) false (λk26=>bZ (cC PG (fieldAt cQ t13 0)) λv27=>k26 v27 h0) h0 λv24 h25=>
 fA (yV v23) false (λk30=>bZ (cB PG h25 (loadAt cI v24)) λv31=>k30 v31 h25) h25 λv28 h29=>
 fA (yV v23) false (λk34=>k34 t1 h29) h29 λv32 h33=>
 fA (yV v23) false (λk37=>bZ (cB PG h33 (fJ BinOp.neq cI (.tmp 46) (.tmp 47) v28 v32)) λv38=>k37 v38 h33) h33 λv35 h36=>
 bZ (eH v23 (Value.bool true) v35) λv39=>
 fA (yV v39) false (λk42=>bZ (cC PG (fieldAt cQ t13 1)) λv43=>k42 v43 h36) h36 λv40 h41=>
 fA (yV v39) false (λk46=>bZ (cB PG h41 (loadAt cI v40)) λv47=>k46 v47 h41) h41 λv44 h45=>
 fA (yV v39) false (λk50=>k50 t2 h45) h45 λv48 h49=>
 fA (yV v39) false (λk53=>bZ (cB PG h49 (fJ BinOp.neq cI (.tmp 52) (.tmp 53) v44 v48)) λv54=>k53 v54 h49) h49 λv51 h52=>
 bZ (eH v39 (Value.bool true) v51) λv55=>
 fA (yV v55) false (λk58=>bZ (cC PG (fieldAt cQ t13 2)) λv59=>k58 v59 h52) h52 λv56 h57=>
 fA (yV v55) false (λk62=>bZ (cB PG h57 (loadAt aR v56)) λv63=>k62 v63 h57) h57 λv60 h61=>
 fA (yV v55) false (λk66=>k66 t12 h61) h61 λv64 h65=>
 fA (yV v55) false (λk69=>bZ (cB PG h65 (fJ BinOp.neq aR (.tmp 58) (.tmp 59) v60 v64)) λv70=>k69 v70 h65) h65 λv67 h68=>
 bZ (eH v55 (Value.bool true) v67) λv71=>
 fA (yV v71) false (λk74=>bZ (cC PG (fieldAt cQ t13 3)) λv75=>k74 v75 h68) h68 λv72 h73=>
 fA (yV v71) false (λk78=>bZ (cB PG h73 (loadAt aR v72)) λv79=>k78 v79 h73) h73 λv76 h77=>
 fA (yV v71) false (λk82=>k82 t11 h77) h77 λv80 h81=>
 fA (yV v71) false (λk85=>bZ (cB PG h81 (fJ BinOp.neq aR (.tmp 64) (.tmp 65) v76 v80)) λv86=>k85 v86 h81) h81 λv83 h84=>
 bZ (eH v71 (Value.bool true) v83) λv87=>
 cN v87
 (R (Value.tuple #[(Value.string {data:=#[]}),(Value.int IntKind.i64 0)]) h84)
 (bZ (cC PG (fieldAt cQ t13 4)) λv88=>
 bZ (cB PG h84 (loadAt bR v88)) λv89=>
 bZ (cC PG (binOp BinOp.add bR t10 v89)) λv90=>
 bZ (cC PG (fieldAt cQ t13 3)) λv91=>
 bZ (cB PG h84 (loadAt aR v91)) λv92=>
 bZ (cC PG (binOp BinOp.sub aR v92 (Value.int IntKind.i64 1))) λv93=>
 bZ (cB PG h84 (fJ BinOp.eql aR (.tmp 72) (.tmp 75) t12 v93)) λv94=>
 cN v94
 (bZ (cC PG (fieldAt cQ t13 3)) λv95=>
 bZ (cB PG h84 (loadAt aR v95)) λv96=>
 R (Value.tuple #[v90,v96]) h84)
 (bZ (cC PG (binOp BinOp.add aR t12 (Value.int IntKind.i64 1))) λv97=>
 n1 [t0,t1,t2,t3,v90,t11,v97] h84))
def aHw(R:cF)(n1:fY)(t0:Value)(t1:Value)(t2:Value)(t3:Value)(t10:Value)(t11:Value)(t12:Value)(h0:PH):Prop:=
 bZ (cC PG (binOp BinOp.add aR t12 (Value.int IntKind.i64 1))) λv3=>
 bZ (cC PG (binOp BinOp.mul aR v3 t0)) λv4=>
 bZ (cC PG (Builtin.len_ #[bR] aR #[t3])) λv5=>
 bZ (cC PG (binOp BinOp.leq aR v4 v5)) λv6=>
 cN v6
 (bZ (cC PG (binOp BinOp.mul aR t12 t0)) λv7=>
 bZ (cC PG (binOp BinOp.add aR t12 (Value.int IntKind.i64 1))) λv8=>
 bZ (cC PG (binOp BinOp.mul aR v8 t0)) λv9=>
 bZ (cC PG (Instr.sliceAt bR t3 (some v7) (some v9) none)) λv10=>
 bW PG aGY #[t0,v10] h0 λv11 h12=>
 bZ (cC PG (extract v11 0)) λv13=>
 bZ (cC PG (extract v11 1)) λv14=>
 ∀r15,h12 r15=none->dT (PH.set h12 r15 (.cells (dD PG cQ) cQ)) λh16=>
 cM PG (cP cQ (pT r15 0) v13) h16 λv17 h18=>
 bZ (cB PG h18 (fJ BinOp.eql aR (.tmp 38) (.const (Value.int IntKind.i64 0)) t12 (Value.int IntKind.i64 0))) λv19=>
 cN v19
 (bZ (cC PG (fieldAt cQ (pT r15 0) 3)) λv20=>
 bZ (cB PG h18 (loadAt aR v20)) λv21=>
 aBN R n1 t0 t1 t2 t3 t10 v21 t12 (pT r15 0) v14 h18)
 (aBN R n1 t0 t1 t2 t3 t10 t11 t12 (pT r15 0) v14 h18))
 (R (Value.tuple #[(Value.string {data:=#[]}),(Value.int IntKind.i64 0)]) h0)
def aAu(t0:Value)(t1:Value)(t2:Value)(t3:Value)(h0:PH)(R:cF):Prop:=
 gU [0,1,2,3,10,11,12] (λn1 ρ h=>aHw R n1 (ρ 0) (ρ 1) (ρ 2) (ρ 3) (ρ 10) (ρ 11) (ρ 12) h) [t0,t1,t2,t3,(Value.string {data:=#[]}),(Value.int IntKind.i64 0),(Value.int IntKind.i64 0)] h0
def aAu.ann:kD:={b:=λi=>match i with|12=>#[0,0,2,1,15]|_=>#[],ord:=λi=>match i with|12=>[0,1,2,3,4]|_=>[],keep:=λi=>match i with|3=>[0,1,2,3,10,11,12]|_=>[],n:=80}
def aAu.call{t0 t1 t2 t3 h0 R}(H:aAu t0 t1 t2 t3 h0 R):bW PG aEq #[t0,t1,t2,t3] h0 R:=dC aAu.ann Tryz.func131 H
def aCl(t0:Value)(t1:Value)(h0:PH)(R:cF):Prop:=
 ∀r1,h0 r1=none->dT (PH.set h0 r1 (.cells (dD PG cQ) cQ)) λh2=>
 bW PG aA5 #[t0] h2 λv3 h4=>
 bZ (cC PG (Op.unary UnOp.not v3)) λv5=>
 cN v5
 (bZ (cC PG (build cQ #[])) λv6=>
 cM PG (cP cQ (pT r1 0) v6) h4 λv7 h8=>
 bZ (cB PG h8 (loadAt cQ (pT r1 0))) λv9=>
 R (Value.tuple #[v9,(Value.int IntKind.i64 1)]) h8)
 (bZ (cC PG (Builtin.len_ #[bR] aR #[t1])) λv10=>
 bZ (cB PG h4 (fJ BinOp.neq aR (.tmp 19) (.tmp 20) v10 t0)) λv11=>
 cN v11
 (bZ (cC PG (build cQ #[])) λv12=>
 cM PG (cP cQ (pT r1 0) v12) h4 λv13 h14=>
 bZ (cB PG h14 (loadAt cQ (pT r1 0))) λv15=>
 R (Value.tuple #[v15,(Value.int IntKind.i64 6)]) h14)
 (bW PG aEQ #[t1] h4 λv16 h17=>
 bZ (cC PG (Op.unary UnOp.not v16)) λv18=>
 cN v18
 (bZ (cC PG (build cQ #[])) λv19=>
 cM PG (cP cQ (pT r1 0) v19) h17 λv20 h21=>
 bZ (cB PG h21 (loadAt cQ (pT r1 0))) λv22=>
 R (Value.tuple #[v22,(Value.int IntKind.i64 8)]) h21)
 (bZ (cC PG (binOp BinOp.sub aR t0 (Value.int IntKind.i64 4))) λv23=>
 bZ (cC PG (Instr.sliceAt bR t1 none (some v23) none)) λv24=>
 bW PG vW #[v24] h17 λv25 h26=>
 bW PG qO #[v25,(Value.int IntKind.i64 1)] h26 λv27 h28=>
 bW PG kR #[v25] h28 λv29 h30=>
 bW PG kR #[v25] h30 λv31 h32=>
 bW PG jJ #[v25] h32 λv33 h34=>
 bW PG jJ #[v25] h34 λv35 h36=>
 bW PG xY #[v25] h36 λv37 h38=>
 bZ (cC PG (build cQ #[(0,v29),(1,v31),(2,v33),(3,v35),(4,v37)])) λv39=>
 ∀r40,h38 r40=none->dT (PH.set h38 r40 (.cells (dD PG cQ) cQ)) λh41=>
 cM PG (cP cQ (pT r40 0) v39) h41 λv42 h43=>
 bW PG xN #[v25] h43 λv44 h45=>
 bW PG qO #[v25,v44] h45 λv46 h47=>
 bZ (cC PG (fieldAt cQ (pT r40 0) 2)) λv48=>
 bZ (cB PG h47 (loadAt aR v48)) λv49=>
 bZ (cC PG (fieldAt cQ (pT r40 0) 3)) λv50=>
 bZ (cB PG h47 (loadAt aR v50)) λv51=>
 bZ (cC PG (binOp BinOp.sub aR v51 (Value.int IntKind.i64 1))) λv52=>
 bZ (cB PG h47 (fJ BinOp.eql aR (.tmp 51) (.tmp 54) v49 v52)) λv53=>
 bZ (cC PG (binOp BinOp.sub aR t0 (Value.int IntKind.i64 25))) λv54=>
 bZ (cC PG (gH v25)) λv55=>
 bZ (cC PG (fieldAt eK v55 0)) λv56=>
 bW PG iG #[v56] h47 λv57 h58=>
 bZ (cB PG h58 (fJ BinOp.neq dF (.tmp 62) (.const (Value.int IntKind.i64 0)) v57 (Value.int IntKind.i64 0))) λv59=>
 fA (yV v59) false (λk62=>k62 v27 h58) h58 λv60 h61=>
 fA (yV v59) false (λk65=>bZ (cB PG h61 (fJ BinOp.neq bR (.tmp 65) (.const (Value.string {data:=#[82]})) v60 (Value.string {data:=#[82]}))) λv66=>k65 v66 h61) h61 λv63 h64=>
 bZ (eH v59 (Value.bool true) v63) λv67=>
 fA (yV v67) false (λk70=>k70 v46 h64) h64 λv68 h69=>
 fA (yV v67) false (λk73=>bW PG aEJ #[v68,(Value.string {data:=#[0]})] h69 λv74 h75=>k73 v74 h75) h69 λv71 h72=>
 fA (yV v67) false (λk78=>bZ (cB PG h72 (fJ BinOp.neq bR (.tmp 70) (.const (Value.string {data:=#[]})) v71 (Value.string {data:=#[]}))) λv79=>k78 v79 h72) h72 λv76 h77=>
 bZ (eH v67 (Value.bool true) v76) λv80=>
 fA (yV v80) false (λk83=>bZ (cC PG (fieldAt cQ (pT r40 0) 2)) λv84=>k83 v84 h77) h77 λv81 h82=>
 fA (yV v80) false (λk87=>bZ (cB PG h82 (loadAt aR v81)) λv88=>k87 v88 h82) h82 λv85 h86=>
 fA (yV v80) false (λk91=>bZ (cC PG (fieldAt cQ (pT r40 0) 3)) λv92=>k91 v92 h86) h86 λv89 h90=>
 fA (yV v80) false (λk95=>bZ (cB PG h90 (loadAt aR v89)) λv96=>k95 v96 h90) h90 λv93 h94=>
 fA (yV v80) false (λk99=>bZ (cC PG (binOp BinOp.geq aR v85 v93)) λv100=>k99 v100 h94) h94 λv97 h98=>
 bZ (eH v80 (Value.bool true) v97) λv101=>
 cN v101
 (bZ (cC PG (build cQ #[])) λv102=>
 cM PG (cP cQ (pT r1 0) v102) h98 λv103 h104=>
 bZ (cB PG h104 (loadAt cQ (pT r1 0))) λv105=>
 R (Value.tuple #[v105,(Value.int IntKind.i64 5)]) h104)
 (bZ (cC PG (Op.unary UnOp.not v53)) λv106=>
 fA (yV v106) true (λk109=>bZ (cC PG (fieldAt cQ (pT r40 0) 4)) λv110=>k109 v110 h98) h98 λv107 h108=>
 fA (yV v106) true (λk113=>bZ (cB PG h108 (loadAt bR v107)) λv114=>k113 v114 h108) h108 λv111 h112=>
 fA (yV v106) true (λk117=>bZ (cC PG (Builtin.len_ #[bR] aR #[v111])) λv118=>k117 v118 h112) h112 λv115 h116=>
 fA (yV v106) true (λk121=>k121 v54 h116) h116 λv119 h120=>
 fA (yV v106) true (λk124=>bZ (cB PG h120 (fJ BinOp.neq aR (.tmp 87) (.tmp 88) v115 v119)) λv125=>k124 v125 h120) h120 λv122 h123=>
 bZ (eH v106 v122 (Value.bool false)) λv126=>
 fA (yV v126) false (λk129=>k129 v53 h123) h123 λv127 h128=>
 fA (yV v126) false (λk132=>k132 v127 h128) h128 λv130 h131=>
 fA (yV v130) true (λk135=>bZ (cC PG (fieldAt cQ (pT r40 0) 3)) λv136=>k135 v136 h131) h131 λv133 h134=>
 fA (yV v130) true (λk139=>bZ (cB PG h134 (loadAt aR v133)) λv140=>k139 v140 h134) h134 λv137 h138=>
 fA (yV v130) true (λk143=>bZ (cC PG (binOp BinOp.gtr aR v137 (Value.int IntKind.i64 1))) λv144=>k143 v144 h138) h138 λv141 h142=>
 fA (yV v126) false (λk147=>bZ (eH v130 v141 (Value.bool false)) λv148=>k147 v148 h142) h142 λv145 h146=>
 fA (yV v126) false (λk151=>k151 v145 h146) h146 λv149 h150=>
 fA (yV v149) true (λk154=>bZ (cC PG (fieldAt cQ (pT r40 0) 4)) λv155=>k154 v155 h150) h150 λv152 h153=>
 fA (yV v149) true (λk158=>bZ (cB PG h153 (loadAt bR v152)) λv159=>k158 v159 h153) h153 λv156 h157=>
 fA (yV v149) true (λk162=>bZ (cB PG h157 (fJ BinOp.eql bR (.tmp 100) (.const (Value.string {data:=#[]})) v156 (Value.string {data:=#[]}))) λv163=>k162 v163 h157) h157 λv160 h161=>
 fA (yV v126) false (λk166=>bZ (eH v149 v160 (Value.bool false)) λv167=>k166 v167 h161) h161 λv164 h165=>
 bZ (eH v126 (Value.bool true) v164) λv168=>
 cN v168
 (bZ (cC PG (build cQ #[])) λv169=>
 cM PG (cP cQ (pT r1 0) v169) h165 λv170 h171=>
 bZ (cB PG h171 (loadAt cQ (pT r1 0))) λv172=>
 R (Value.tuple #[v172,(Value.int IntKind.i64 5)]) h171)
 (bZ (cC PG (fieldAt cQ (pT r40 0) 2)) λv173=>
 bZ (cB PG h165 (loadAt aR v173)) λv174=>
 bZ (cC PG (binOp BinOp.mul aR v174 v54)) λv175=>
 bZ (cC PG (fieldAt cQ (pT r40 0) 4)) λv176=>
 bZ (cB PG h165 (loadAt bR v176)) λv177=>
 bZ (cC PG (Builtin.len_ #[bR] aR #[v177])) λv178=>
 bZ (cC PG (binOp BinOp.add aR v175 v178)) λv179=>
 bW PG tD #[t0,v179] h165 λv180 h181=>
 (bZ (cB PG h181 (fJ BinOp.eql aR (.tmp 115) (.const (Value.int IntKind.i64 0)) v180 (Value.int IntKind.i64 0))) λv182=>
 fA (yV v182) false (λk185=>bZ (cC PG (fieldAt cQ (pT r40 0) 3)) λv186=>k185 v186 h181) h181 λv183 h184=>
 fA (yV v182) false (λk189=>bZ (cB PG h184 (loadAt aR v183)) λv190=>k189 v190 h184) h184 λv187 h188=>
 fA (yV v182) false (λk193=>k193 t0 h188) h188 λv191 h192=>
 fA (yV v182) false (λk196=>bW PG tD #[v191,(Value.int IntKind.i64 4096)] h192 λv197 h198=>k196 v197 h198) h192 λv194 h195=>
 ((yV v182==some false)=true->cB PG h195 (loadAt aR v183)=some v187)∧(fA (yV v182) false (λk201=>bZ (cC PG (binOp BinOp.gtr aR v187 v194)) λv202=>k201 v202 h195) h195 λv199 h200=>
 bZ (eH v182 (Value.bool true) v199) λv203=>
 cN v203
 (bZ (cC PG (build cQ #[])) λv204=>
 cM PG (cP cQ (pT r1 0) v204) h200 λv205 h206=>
 bZ (cB PG h206 (loadAt cQ (pT r1 0))) λv207=>
 R (Value.tuple #[v207,(Value.int IntKind.i64 5)]) h206)
 (bZ (cB PG h200 (loadAt cQ (pT r40 0))) λv208=>
 cM PG (cP cQ (pT r1 0) v208) h200 λv209 h210=>
 bZ (cB PG h210 (loadAt cQ (pT r1 0))) λv211=>
 R (Value.tuple #[v211,(Value.int IntKind.i64 0)]) h210))))))))
def aCl.ann:kD:={b:=λi=>match i with|16=>#[0,0,2,0,14,0,32,96,254,511,1023,2047,4095,8191,4095,20479,65535,131071,262143]|_=>#[],ord:=λi=>match i with|16=>[0,1,2,3,4,5,6,7,8,9,10,11,12,13,14,15,16,17,18]|_=>[],keep:=λ_=>[],n:=126}
def aCl.call{t0 t1 h0 R}(H:aCl t0 t1 h0 R):bW PG aGY #[t0,t1] h0 R:=dC aCl.ann Tryz.func177 H
def aFe(t0:Value)(t1:Value)(h0:PH)(R:cF):Prop:=
 bW PG aA5 #[t0] h0 λv1 h2=>
 bZ (cC PG (Op.unary UnOp.not v1)) λv3=>
 fA (yV v3) false (λk6=>k6 t1 h2) h2 λv4 h5=>
 fA (yV v3) false (λk9=>bZ (cC PG (binOp BinOp.lss aR v4 (Value.int IntKind.i64 0))) λv10=>k9 v10 h5) h5 λv7 h8=>
 bZ (eH v3 (Value.bool true) v7) λv11=>
 fA (yV v11) false (λk14=>k14 t1 h8) h8 λv12 h13=>
 fA (yV v11) false (λk17=>bZ (cC PG (binOp BinOp.gtr aR v12 (Value.int IntKind.i64 4096))) λv18=>k17 v18 h13) h13 λv15 h16=>
 bZ (eH v11 (Value.bool true) v15) λv19=>
 cN v19
 (R (Value.int IntKind.i64 0) h16)
 (bZ (cC PG (binOp BinOp.sub aR t0 (Value.int IntKind.i64 25))) λv20=>
 bZ (cC PG (binOp BinOp.add aR t1 v20)) λv21=>
 bZ (cC PG (binOp BinOp.sub aR v21 (Value.int IntKind.i64 1))) λv22=>
 bZ (cC PG (binOp BinOp.quo aR v22 v20)) λv23=>
 bZ (cC PG (Builtin.max_ #[aR,aR] aR #[(Value.int IntKind.i64 1),v23])) λv24=>
 R v24 h16)
def aFe.call{t0 t1 h0 R}(H:aFe t0 t1 h0 R):bW PG tD #[t0,t1] h0 R:=dC (iK 26) Tryz.func72 H
def aBV(b:Value)(c:PH)(R:cF):Prop:=fX b λd=>dP eK d 0 λe=>bW PG iG #[e] c λf a=>gG a .neq dF (.tmp 6) (.const (.int .i64 0)) f (.int .i64 0) λg=>cN g (R (.int .i64 0) a) (fX b λh=>dP eK h 1 λi=>dI a bR i λj=>iJ bR aR j λk=>R k a)
def aBV.call{t0 h0 R}(H:aBV t0 h0 R):bW PG xN #[t0] h0 R:=dC (iK 13) Tryz.func183 H
def aBF(a:Value)(b:PH)(R:cF):Prop:=bW PG uL #[a,.int .i64 2] b λc d=>pP (convert cI aR c) λe=>bW PG qO #[a,e] d λf g=>R f g
def aBF.call{t0 h0 R}(H:aBF t0 h0 R):bW PG xY #[t0] h0 R:=dC (iK 8) Tryz.func213 H
def aAy(b a:Value)(g:PH)(R:cF):Prop:=gG g .eql bR (.tmp 7) (.const (.string ⟨#[]⟩)) b (.string ⟨#[]⟩) λe=>gY e false a g λl m=>gB e false (fJ .eql bR (.tmp 10) (.const (.string ⟨#[]⟩)) l (.string ⟨#[]⟩)) m λn f=>bZ (eH e (.bool true) n) λo=>cN o (R b f) (iJ bR aR a λp=>gG f .eql aR (.tmp 15) (.const (.int .i64 1)) p (.int .i64 1) λd=>gY d true a f λq r=>eZ d true (Instr.index bR q (.int .i64 0)) r λs u=>eZ d true (binOp .lss dJ s (.int .u8 128)) u λv h=>bZ (eH d v (.bool false)) λw=>cN w (pP (Instr.index bR a (.int .i64 0)) λx=>pP (Instr.index bR a (.int .i64 0)) λy=>bW PG xI #[b,x] h λz A=>(bW PG yK #[z,y] A λB C=>(R B C))) (bW PG aHf #[a] h λi j=>fT i 0 λD=>fT i 1 λE=>∀c,j c=none->dT (PH.set j c (.cells (dD PG aCX) aCX)) λF=>cM PG (cP aCX (pT c 0) D) F λO k=>cN E (bW PG aGf #[b,pT c 0] k λG H=>bW PG aHa #[G,pT c 0] H λI J=>R I J) (bW PG aF8 #[b,a] k λK L=>bW PG aGN #[K,a] L λM N=>R M N)))
def aAy.ann:kD:={b:=λi=>match i with|4=>#[0,0,2,7,0,16,63,127]|_=>#[],ord:=λi=>match i with|4=>[0,1,2,4,5,3,6,7]|_=>[],keep:=λ_=>[],n:=43}
def aAy.call{t0 t1 h0 R}(H:aAy t0 t1 h0 R):bW PG aEJ #[t0,t1] h0 R:=dC aAy.ann Tryz.func214 H
def aC0(R:cF)(e:fY)(b c:Value)(f:PH):Prop:=iJ bR aR b λg=>dU .gtr aR g (.int .i64 0) λa=>gY a true b f λh i=>eZ a true (Instr.index bR h (.int .i64 0)) i λj k=>gY a true c k λl m=>gB a true (fJ .eql dJ (.tmp 10) (.tmp 11) j l) m λn d=>bZ (eH a n (.bool false)) λo=>cN o (pP (Instr.sliceAt bR b (some (.int .i64 1)) none none) λp=>e [p,c] d) (R b d)
def wH(a b:Value)(c:PH)(R:cF):Prop:=gU [0,1] (λd ρ h=>aC0 R d (ρ 0) (ρ 1) h) [a,b] c
def wH.call{t0 t1 h0 R}(H:wH t0 t1 h0 R):bW PG yK #[t0,t1] h0 R:=dC (sL 1 [0,1] 17) Tryz.func226 H
def aCR(R:cF)(e:fY)(b c:Value)(f:PH):Prop:=iJ bR aR b λg=>dU .gtr aR g (.int .i64 0) λa=>gY a true b f λh i=>gY a true b i λj k=>eZ a true (Builtin.len_ #[bR] aR #[j]) k λl m=>eZ a true (binOp .sub aR l (.int .i64 1)) m λn o=>eZ a true (Instr.index bR h n) o λp q=>gY a true c q λr s=>gB a true (fJ .eql dJ (.tmp 13) (.tmp 14) p r) s λu d=>bZ (eH a u (.bool false)) λv=>cN v (iJ bR aR b λw=>dU .sub aR w (.int .i64 1) λx=>pP (Instr.sliceAt bR b none (some x) none) λy=>e [y,c] d) (R b d)
def vF(a b:Value)(c:PH)(R:cF):Prop:=gU [0,1] (λd ρ h=>aCR R d (ρ 0) (ρ 1) h) [a,b] c
def vF.call{t0 t1 h0 R}(H:vF t0 t1 h0 R):bW PG xI #[t0,t1] h0 R:=dC (sL 1 [0,1] 23) Tryz.func227 H
def aCu(t0:Value)(t1:Value)(h0:PH)(R:cF):Prop:=
 ∀r1,h0 r1=none->dT (PH.set h0 r1 (.cells (Value.cells t0) dW)) λh2=>
 bZ (cB PG h2 (loadAt dW (pT r1 0))) λv3=>
 bW PG pG #[v3] h2 λv4 h5=>
 bZ (cC PG (binOp BinOp.mul aR t1 v4)) λv6=>
 bZ (cC PG (binOp BinOp.add aR (Value.int IntKind.i64 2) v6)) λv7=>
 R v7 h5
def aCu.call{t0 t1 h0 R}(H:aCu t0 t1 h0 R):bW PG vX #[t0,t1] h0 R:=dC (iK 10) Tryz.func65 H
def aAQ(t0:Value)(h0:PH)(R:cF):Prop:=
 ∀r1,h0 r1=none->dT (PH.set h0 r1 (.cells (Value.cells t0) dW)) λh2=>
 bZ (cC PG (fieldAt dW (pT r1 0) 0)) λv3=>
 bZ (cB PG h2 (loadAt gC v3)) λv4=>
 bZ (cC PG (gH v4)) λv5=>
 bZ (cC PG (fieldAt eM v5 0)) λv6=>
 bZ (cB PG h2 (loadAt dZ v6)) λv7=>
 bW PG rU #[v7] h2 λv8 h9=>
 bZ (cC PG (binOp BinOp.sub aR v8 (Value.int IntKind.i64 2))) λv10=>
 bZ (cC PG (binOp BinOp.quo aR v10 (Value.int IntKind.i64 2))) λv11=>
 R v11 h9
def aAQ.call{t0 h0 R}(H:aAQ t0 h0 R):bW PG pG #[t0] h0 R:=dC (iK 11) Tryz.func66 H
def aGe(R:cF)(l:fY)(b f c g h i d:Value)(a:PH):Prop:=dU .lss aR d i λm=>cN m (mI dE h d λn=>dI a bR n λo=>xP PG g #[o] a λy p=>dU .add aR d (.int .i64 1) λq=>l [b,f,c,g,h,i,q] p) (dI a dF c λr=>gG a .neq dF (.tmp 35) (.const (.int .i64 0)) r (.int .i64 0) λs=>cN s (pP (build aT #[]) λu=>dI a dF c λj=>cM PG (cP aT b u) a λz e=>cB PG e (loadAt dF c)=some j∧(dI e aT b λv=>R (.tuple #[v,j]) e)) (dI a aT f λw=>cM PG (cP aT b w) a λA k=>dI k aT b λx=>R (.tuple #[x,.int .i64 0]) k))
def yL(o f:Value)(g:PH)(R:cF):Prop:=∀e,g e=none->dT (PH.set g e (.cells o.cells aR)) λi=>∀a,i a=none->dT (PH.set i a (.cells (dD PG aT) aT)) λb=>iJ dE aR f λp=>gG b .eql aR (.tmp 12) (.const (.int .i64 0)) p (.int .i64 0) λq=>cN q (pP (build aT #[]) λr=>cM PG (cP aT (pT a 0) r) b λF j=>dI j aT (pT a 0) λs=>R (.tuple #[s,.int .i64 3]) j) (dI b aR (pT e 0) λu=>mI dE f (.int .i64 0) λv=>dI b bR v λw=>bW PG aE2 #[u,w] b λk l=>(fT k 0 λx=>fT k 1 λy=>∀c,l c=none->dT (PH.set l c (.cells (dD PG aT) aT)) λm=>∀d,m d=none->dT (PH.set m d (.cells (dD PG dF) dF)) λz=>cM PG (cP aT (pT c 0) x) z λG A=>(cM PG (cP dF (pT d 0) y) A λH B=>(pP (Instr.makeFunc (Fn.func uA) #[] #[pT d 0,pT c 0,pT e 0]) λC=>pP (Instr.sliceAt dE f (some (.int .i64 1)) none none) λn=>iJ dE aR n λD=>gU [4,6,7,8,25,26,27] (λE ρ h=>aGe R E (ρ 4) (ρ 6) (ρ 7) (ρ 8) (ρ 25) (ρ 26) (ρ 27) h) [(pT a 0),pT c 0,pT d 0,C,n,D,.int .i64 0] B))))
def yL.ann:kD:={b:=λi=>match i with|3=>#[0,0,2,6,15,31,63,63,0,0,895,2047]|11=>#[0,0,1,7]|_=>#[],ord:=λi=>match i with|3=>[0,1,2,3,4,5,6,7,8,9,10,11]|11=>[0,1,2,3]|_=>[],keep:=λi=>match i with|6=>[4,6,7,8,25,26,27]|_=>[],n:=40}
def yL.call{t0 t1 h0 R}(H:yL t0 t1 h0 R):bW PG aDn #[t0,t1] h0 R:=dC yL.ann Tryz.func29 H
def aE5(n o:Value)(e:PH)(R:cF):Prop:=∀a,e a=none->dT (PH.set e a (.cells (dD PG aT) aT)) λp=>bW PG aB8 #[o] p λf g=>fT f 0 λq=>fT f 1 λh=>∀c,g c=none->dT (PH.set g c (.cells (dD PG bT) bT)) λr=>cM PG (cP bT (pT c 0) q) r λJ b=>gG b .neq dF (.tmp 15) (.const (.int .i64 0)) h (.int .i64 0) λs=>cN s (pP (build aT #[]) λu=>cM PG (cP aT (pT a 0) u) b λK i=>dI i aT (pT a 0) λv=>R (.tuple #[v,h]) i) (dP bT (pT c 0) 0 λw=>dI b aR w λx=>gG b .neq aR (.tmp 21) (.const (.int .i64 1)) x (.int .i64 1) λy=>cN y (pP (build aT #[]) λz=>cM PG (cP aT (pT a 0) z) b λL j=>dI j aT (pT a 0) λA=>R (.tuple #[A,.int .i64 5]) j) (dP bT (pT c 0) 1 λB=>dI b aT B λC=>bW PG uT #[C,n] b λk d=>gG d .neq dF (.tmp 28) (.const (.int .i64 0)) k (.int .i64 0) λD=>cN D (pP (build aT #[]) λE=>cM PG (cP aT (pT a 0) E) d λM l=>dI l aT (pT a 0) λF=>R (.tuple #[F,k]) l) (dP bT (pT c 0) 1 λG=>dI d aT G λH=>cM PG (cP aT (pT a 0) H) d λN m=>dI m aT (pT a 0) λI=>R (.tuple #[I,.int .i64 0]) m)))
def aE5.call{t0 t1 h0 R}(H:aE5 t0 t1 h0 R):bW PG aE2 #[t0,t1] h0 R:=dC (iK 34) Tryz.func67 H
def aBY(R:cF)(a f g:Value)(h:PH):Prop:=bW PG aCL #[f] h λc b=>gG b .neq dF (.tmp 51) (.const (.int .i64 0)) c (.int .i64 0) λi=>cN i (pP (build bT #[]) λj=>cM PG (cP bT a j) b λn d=>dI d bT a λk=>R (.tuple #[k,c]) d) (dI b bT g λl=>cM PG (cP bT a l) b λo e=>dI e bT a λm=>R (.tuple #[m,.int .i64 0]) e)
def aDs(R:cF)(c a b:Value)(d:PH):Prop:=dI d bT b λf=>bW PG aCJ #[f] d λg e=>pP (Op.unary .not g) λh=>cN h (fX a λi=>dP eK i 0 λj=>bW PG iU #[j,.int .i64 5] e λl k=>aBY R c a b k) (aBY R c a b e)
def tI(R:cF)(a b c:Value)(d:PH):Prop:=aDs R a b c d
def aHS(R:cF)(f:fY)(d a b c:Value)(e:PH):Prop:=dU .lss aR c (.int .i64 2) λg=>cN g (bW PG aDa #[a] e λh i=>dP bT b 1 λj=>dP aT j 0 λk=>mI cR k c λl=>cM PG (cP cG l h) i λu m=>dU .add aR c (.int .i64 1) λn=>f [d,a,b,n] m) (bW PG aGU #[a] e λo p=>dP bT b 1 λq=>dP aT q 1 λr=>cM PG (cP bY r o) p λv s=>tI R d a b s)
def aEi(i:Value)(e:PH)(R:cF):Prop:=∀d,e d=none->dT (PH.set e d (.cells (dD PG bT) bT)) λj=>bW PG vW #[i] j λb k=>bW PG jJ #[b] k λl f=>pP (build bT #[(0,l)]) λm=>∀a,f a=none->dT (PH.set f a (.cells (dD PG bT) bT)) λn=>cM PG (cP bT (pT a 0) m) n λF c=>dP bT (pT a 0) 0 λo=>dI c aR o λg=>gG c .eql aR (.tmp 14) (.const (.int .i64 1)) g (.int .i64 1) λp=>cN p (gU [2,4,5,17] (λq ρ h=>aHS R q (ρ 2) (ρ 4) (ρ 5) (ρ 17) h) [(pT d 0),b,pT a 0,.int .i64 0] c) (gG c .eql aR (.tmp 14) (.const (.int .i64 2)) g (.int .i64 2) λr=>cN r (bW PG jJ #[b] c λs u=>dP bT (pT a 0) 2 λv=>cM PG (cP aR v s) u λG w=>bW PG aDa #[b] w λx y=>dP bT (pT a 0) 3 λz=>cM PG (cP cG z x) y λH A=>bW PG aGX #[b] A λB C=>dP bT (pT a 0) 4 λD=>cM PG (cP cT D B) C λI E=>tI R (pT d 0) b (pT a 0) E) (tI R (pT d 0) b (pT a 0) c))
def aEi.call{t0 h0 R}(H:aEi t0 h0 R):bW PG aB8 #[t0] h0 R:=dC (sL 6 [2,4,5,17] 56) Tryz.func69 H
def aET(m:Value)(j:PH)(R:cF):Prop:=∀a,j a=none->dT (PH.set j a (.cells m.cells bT)) λb=>dP bT (pT a 0) 0 λn=>dI b aR n λk=>gG b .eql aR (.tmp 4) (.const (.int .i64 1)) k (.int .i64 1) λo=>cN o (dP bT (pT a 0) 2 λp=>dI b aR p λq=>gG b .eql aR (.tmp 8) (.const (.int .i64 0)) q (.int .i64 0) λf=>eZ f true (fieldAt bT (pT a 0) 3) b λr s=>gB f true (loadAt cG r) s λu v=>eZ f true (build cG #[]) v λw x=>gB f true (fJ .eql cG (.tmp 12) (.tmp 13) u w) x λy z=>bZ (eH f y (.bool false)) λg=>eZ g true (fieldAt bT (pT a 0) 4) z λA B=>gB g true (loadAt cT A) B λC D=>eZ g true (Builtin.len_ #[cT] aR #[C]) D λE F=>gB g true (fJ .eql aR (.tmp 19) (.const (.int .i64 0)) E (.int .i64 0)) F λG H=>bZ (eH g G (.bool false)) λc=>eZ c true (fieldAt bT (pT a 0) 1) H λI J=>eZ c true (fieldAt aT I 1) J λK L=>gB c true (loadAt bY K) L λM N=>eZ c true (Builtin.len_ #[bY] aR #[M]) N λO P=>eZ c true (binOp .leq aR O (.int .i64 40)) P λQ S=>bZ (eH c Q (.bool false)) λU=>R U S) (gG b .eql aR (.tmp 4) (.const (.int .i64 2)) k (.int .i64 2) λV=>cN V (dP bT (pT a 0) 1 λW=>dP aT W 0 λX=>dI b cR X λY=>pP (build cR #[]) λZ=>gG b .eql cR (.tmp 33) (.tmp 34) Y Z λd=>eZ d true (fieldAt bT (pT a 0) 1) b λa0 a1=>eZ d true (fieldAt aT a0 1) a1 λa2 a3=>gB d true (loadAt bY a2) a3 λa4 a5=>eZ d true (Builtin.len_ #[bY] aR #[a4]) a5 λa6 a7=>gB d true (fJ .eql aR (.tmp 40) (.const (.int .i64 0)) a6 (.int .i64 0)) a7 λa8 a9=>bZ (eH d a8 (.bool false)) λe=>eZ e true (fieldAt bT (pT a 0) 2) a9 λaa ab=>gB e true (loadAt aR aa) ab λac ad=>gB e true (fJ .eql aR (.tmp 45) (.const (.int .i64 0)) ac (.int .i64 0)) ad λae af=>gY e true ae af λi ag=>eZ i false (fieldAt bT (pT a 0) 2) ag λah ai=>gB i false (loadAt aR ah) ai λaj ak=>gB i false (fJ .eql aR (.tmp 49) (.const (.int .i64 1)) aj (.int .i64 1)) ak λal l=>fA (yV e) true (λam=>bZ (eH i (.bool true) al) λan=>am an l) l λao ap=>bZ (eH e ao (.bool false)) λh=>eZ h true (fieldAt bT (pT a 0) 4) ap λaq ar=>gB h true (loadAt cT aq) ar λau av=>eZ h true (Builtin.len_ #[cT] aR #[au]) av λaw ax=>eZ h true (binOp .leq aR aw (.int .i64 16)) ax λay az=>bZ (eH h ay (.bool false)) λaA=>R aA az) (R (.bool false) b))
def aET.call{t0 h0 R}(H:aET t0 h0 R):bW PG aCJ #[t0] h0 R:=dC (iK 59) Tryz.func84 H
def aCf(R:cF)(e a f g:Value)(h:PH):Prop:=fX e λi=>dP eK i 0 λj=>bW PG iG #[j] h λk b=>gG b .neq dF (.tmp 18) (.const (.int .i64 0)) k (.int .i64 0) λl=>cN l (pP (build cG #[]) λm=>cM PG (cP cG a m) b λr c=>dI c cG a λn=>R n c) (pP (convert cI aR g) λo=>pP (build cG #[(0,f),(1,o)]) λp=>cM PG (cP cG a p) b λs d=>dI d cG a λq=>R q d)
def aGg(a:Value)(d:PH)(R:cF):Prop:=∀b,d b=none->dT (PH.set d b (.cells (dD PG cG) cG)) λg=>bW PG kR #[a] g λe h=>bW PG kR #[a] h λc f=>dU .gtr cI c (.int .u64 65535) λi=>cN i (fX a λj=>dP eK j 0 λk=>bW PG iU #[k,.int .i64 5] f λm l=>aCf R a (pT b 0) e c l) (aCf R a (pT b 0) e c f)
def aGg.call{t0 h0 R}(H:aGg t0 h0 R):bW PG aDa #[t0] h0 R:=dC (iK 25) Tryz.func134 H
def aGi(a:Value)(b:PH)(R:cF):Prop:=bW PG aEn #[a,.int .i64 2,(.func (Fn.func lU) #[] #[])] b λc d=>R c d
def aGi.call{t0 h0 R}(H:aGi t0 h0 R):bW PG aGU #[t0] h0 R:=dC (iK 5) Tryz.func135 H
def vJ(R:cF)(c:fY)(d e a f g h i:Value)(b:PH):Prop:=dI b bX i λj=>xP PG a #[h,j] b λk l=>yD l (buildSlice bY 1 #[(0,k)]) λm n=>cM PG (Builtin.append_ #[bY,bY] bY #[f,m]) n λo p=>dU .sub aR g (.int .i64 1) λq=>c [d,e,a,o,q] p
def aEr(R:cF)(j:fY)(a f k g h:Value)(p:PH):Prop:=dU .gtr aR h (.int .i64 0) λb=>gY b true a p λq r=>eZ b true (gH q) r λs u=>eZ b true (fieldAt eK s 0) u λv l=>fA (yV b) true (λw=>bW PG iG #[v] l λx y=>w x y) l λz A=>gB b true (fJ .eql dF (.tmp 19) (.const (.int .i64 0)) z (.int .i64 0)) A λB m=>bZ (eH b B (.bool false)) λC=>cN C (bW PG jJ #[a] m λd D=>bW PG aDf #[a] D λE n=>∀c,n c=none->dT (PH.set n c (.cells (dD PG bX) bX)) λF=>cM PG (cP bX (pT c 0) E) F λW G=>dU .lss aR d (.int .i64 1) λe=>gY e false d G λH I=>gY e false f I λJ K=>eZ e false (binOp .gtr aR H J) K λL o=>bZ (eH e (.bool true) L) λM=>cN M (fX a λN=>dP eK N 0 λO=>bW PG iU #[O,.int .i64 5] o λX P=>vJ R j a f k g h d (pT c 0) P) (vJ R j a f k g h d (pT c 0) o)) (fX a λQ=>dP eK Q 0 λS=>bW PG iG #[S] m λU i=>gG i .neq dF (.tmp 49) (.const (.int .i64 0)) U (.int .i64 0) λV=>cN V (R (.slice none 0 0) i) (R g i))
def aAU(a b c:Value)(d:PH)(R:cF):Prop:=bW PG jJ #[a] d λe f=>gU [0,1,2,7,8] (λg ρ h=>aEr R g (ρ 0) (ρ 1) (ρ 2) (ρ 7) (ρ 8) h) [a,b,c,(.slice none 0 0),e] f
def aAU.call{t0 t1 t2 h0 R}(H:aAU t0 t1 t2 h0 R):bW PG aEn #[t0,t1,t2] h0 R:=dC (sL 3 [0,1,2,7,8] 52) Tryz.func179 H
def aCx(R:cF)(e a f:Value)(g:PH):Prop:=fX e λh=>dP eK h 0 λi=>bW PG iG #[i] g λj b=>gG b .neq dF (.tmp 23) (.const (.int .i64 0)) j (.int .i64 0) λk=>cN k (pP (build bX #[]) λl=>cM PG (cP bX a l) b λp c=>dI c bX a λm=>R m c) (dI b bX f λn=>cM PG (cP bX a n) b λq d=>dI d bX a λo=>R o d)
def aG1(a:Value)(e:PH)(R:cF):Prop:=∀c,e c=none->dT (PH.set e c (.cells (dD PG bX) bX)) λh=>bW PG jJ #[a] h λi j=>bW PG kR #[a] j λk l=>bW PG kR #[a] l λm n=>bW PG xY #[a] n λo f=>pP (build bX #[(0,i),(1,k),(2,m),(3,o)]) λp=>∀b,f b=none->dT (PH.set f b (.cells (dD PG bX) bX)) λq=>cM PG (cP bX (pT b 0) p) q λy g=>dI g bX (pT b 0) λr=>bW PG uR #[r] g λs d=>gG d .neq dF (.tmp 14) (.const (.int .i64 0)) s (.int .i64 0) λu=>cN u (fX a λv=>dP eK v 0 λw=>bW PG iU #[w,.int .i64 5] d λz x=>aCx R a (pT c 0) (pT b 0) x) (aCx R a (pT c 0) (pT b 0) d)
def aG1.call{t0 h0 R}(H:aG1 t0 h0 R):bW PG aDf #[t0] h0 R:=dC (iK 27) Tryz.func215 H
def aE0(g h:Value)(c:PH)(R:cF):Prop:=∀b,c b=none->dT (PH.set c b (.cells h.cells bX)) λd=>∀a,d a=none->dT (PH.set d a (.cells (dD PG cE) cE)) λe=>dI e bX (pT b 0) λi=>pP (build cE #[(0,i),(1,g)]) λj=>cM PG (cP cE (pT a 0) j) e λl f=>dI f cE (pT a 0) λk=>R k f
def aE0.call{t0 t1 h0 R}(H:aE0 t0 t1 h0 R):bW PG lU #[t0,t1] h0 R:=dC (iK 8) Tryz.func180 H
def aG0(a:Value)(b:PH)(R:cF):Prop:=bW PG aEx #[a,.int .i64 4,(.func (Fn.func lV) #[] #[])] b λc d=>R c d
def aG0.call{t0 h0 R}(H:aG0 t0 h0 R):bW PG aGX #[t0] h0 R:=dC (iK 5) Tryz.func136 H
def vQ(R:cF)(c:fY)(d e a f g h i:Value)(b:PH):Prop:=dI b bX i λj=>xP PG a #[h,j] b λk l=>yD l (buildSlice cT 1 #[(0,k)]) λm n=>cM PG (Builtin.append_ #[cT,cT] cT #[f,m]) n λo p=>dU .sub aR g (.int .i64 1) λq=>c [d,e,a,o,q] p
def aEl(R:cF)(j:fY)(a f k g h:Value)(p:PH):Prop:=dU .gtr aR h (.int .i64 0) λb=>gY b true a p λq r=>eZ b true (gH q) r λs u=>eZ b true (fieldAt eK s 0) u λv l=>fA (yV b) true (λw=>bW PG iG #[v] l λx y=>w x y) l λz A=>gB b true (fJ .eql dF (.tmp 19) (.const (.int .i64 0)) z (.int .i64 0)) A λB m=>bZ (eH b B (.bool false)) λC=>cN C (bW PG jJ #[a] m λd D=>bW PG aDf #[a] D λE n=>∀c,n c=none->dT (PH.set n c (.cells (dD PG bX) bX)) λF=>cM PG (cP bX (pT c 0) E) F λW G=>dU .lss aR d (.int .i64 1) λe=>gY e false d G λH I=>gY e false f I λJ K=>eZ e false (binOp .gtr aR H J) K λL o=>bZ (eH e (.bool true) L) λM=>cN M (fX a λN=>dP eK N 0 λO=>bW PG iU #[O,.int .i64 5] o λX P=>vQ R j a f k g h d (pT c 0) P) (vQ R j a f k g h d (pT c 0) o)) (fX a λQ=>dP eK Q 0 λS=>bW PG iG #[S] m λU i=>gG i .neq dF (.tmp 49) (.const (.int .i64 0)) U (.int .i64 0) λV=>cN V (R (.slice none 0 0) i) (R g i))
def aAb(a b c:Value)(d:PH)(R:cF):Prop:=bW PG jJ #[a] d λe f=>gU [0,1,2,7,8] (λg ρ h=>aEl R g (ρ 0) (ρ 1) (ρ 2) (ρ 7) (ρ 8) h) [a,b,c,(.slice none 0 0),e] f
def aAb.call{t0 t1 t2 h0 R}(H:aAb t0 t1 t2 h0 R):bW PG aEx #[t0,t1,t2] h0 R:=dC (sL 3 [0,1,2,7,8] 52) Tryz.func181 H
def aEY(g h:Value)(c:PH)(R:cF):Prop:=∀b,c b=none->dT (PH.set c b (.cells h.cells bX)) λd=>∀a,d a=none->dT (PH.set d a (.cells (dD PG cK) cK)) λe=>dI e bX (pT b 0) λi=>pP (build cK #[(0,g),(1,i)]) λj=>cM PG (cP cK (pT a 0) j) e λl f=>dI f cK (pT a 0) λk=>R k f
def aEY.call{t0 t1 h0 R}(H:aEY t0 t1 h0 R):bW PG lV #[t0,t1] h0 R:=dC (iK 8) Tryz.func182 H
def aB6(a:Value)(c:PH)(R:cF):Prop:=bW PG xN #[a] c λd b=>dU .gtr aR d (.int .i64 0) λe=>cN e (R (.int .i64 7) b) (fX a λf=>dP eK f 0 λg=>bW PG iG #[g] b λh i=>R h i)
def aB6.call{t0 h0 R}(H:aB6 t0 h0 R):bW PG aCL #[t0] h0 R:=dC (iK 10) Tryz.func138 H
def xT(R:cF)(a b:Value)(c:PH):Prop:=cM PG (cP dF a b) c λe d=>R (.tuple #[]) d
def xX(R:cF)(b c f g d:Value)(a:PH):Prop:=gG a .eql dF (.tmp 16) (.const (.int .i64 0)) d (.int .i64 0) λh=>cN h (dI a aT c λi=>dI a aR f λj=>dI a bT g λk=>bW PG aCz #[i,j,k] a λe l=>fT e 0 λm=>fT e 1 λn=>cM PG (cP aT c m) l λp o=>xT R b n o) (xT R b d a)
def uM(i b e f:Value)(d:PH)(R:cF):Prop:=pP (build bT #[]) λj=>dI d dF b λg=>∀a,d a=none->dT (PH.set d a (.cells (dD PG bT) bT)) λk=>cM PG (cP bT (pT a 0) j) k λr c=>cB PG c (loadAt dF b)=some g∧(dI c dF b λl=>gG c .eql dF (.tmp 9) (.const (.int .i64 0)) l (.int .i64 0) λm=>cN m (bW PG aB8 #[i] c λh n=>fT h 0 λo=>fT h 1 λp=>cM PG (cP bT (pT a 0) o) n λs q=>xX R b e f (pT a 0) p q) (xX R b e f (pT a 0) g c))
def uM.ann:kD:={b:=λi=>match i with|0=>#[0,0,0,5,15]|_=>#[],ord:=λi=>match i with|0=>[0,1,2,3,4]|_=>[],keep:=λ_=>[],n:=26}
def uM.call{t0 t1 t2 t3 h0 R}(H:uM t0 t1 t2 t3 h0 R):bW PG uA #[t0,t1,t2,t3] h0 R:=dC uM.ann Tryz.func68 H
def aFh(F g G:Value)(j:PH)(R:cF):Prop:=∀d,j d=none->dT (PH.set j d (.cells F.cells aT)) λk=>∀b,k b=none->dT (PH.set k b (.cells G.cells bT)) λl=>∀a,l a=none->dT (PH.set l a (.cells (dD PG aT) aT)) λm=>dI m aT (pT d 0) λH=>bW PG uT #[H,g] m λn e=>gG e .neq dF (.tmp 19) (.const (.int .i64 0)) n (.int .i64 0) λI=>cN I (pP (build aT #[]) λJ=>cM PG (cP aT (pT a 0) J) e λar o=>dI o aT (pT a 0) λK=>R (.tuple #[K,n]) o) (dI e bT (pT b 0) λL=>bW PG yW #[L] e λp c=>fT p 0 λau=>fT p 1 λq=>gG c .neq dF (.tmp 28) (.const (.int .i64 0)) q (.int .i64 0) λM=>cN M (pP (build aT #[]) λN=>cM PG (cP aT (pT a 0) N) c λav r=>dI r aT (pT a 0) λO=>R (.tuple #[O,q]) r) (dP bT (pT b 0) 0 λP=>dI c aR P λQ=>gG c .eql aR (.tmp 33) (.const (.int .i64 1)) Q (.int .i64 1) λS=>cN S (dP bT (pT b 0) 1 λU=>dI c aT U λV=>bW PG uT #[V,g] c λs f=>gG f .neq dF (.tmp 39) (.const (.int .i64 0)) s (.int .i64 0) λW=>cN W (pP (build aT #[]) λX=>cM PG (cP aT (pT a 0) X) f λaw u=>dI u aT (pT a 0) λY=>R (.tuple #[Y,s]) u) (dP bT (pT b 0) 1 λZ=>dP aT Z 1 λa0=>dI f bY a0 λa1=>bW PG lT #[a1] f λa2 a3=>dP bT (pT b 0) 1 λa4=>dP aT a4 1 λa5=>cM PG (cP bY a5 a2) a3 λax v=>dP bT (pT b 0) 1 λa6=>dI v aT a6 λa7=>cM PG (cP aT (pT a 0) a7) v λay w=>dI w aT (pT a 0) λa8=>R (.tuple #[a8,.int .i64 0]) w)) (dP aT (pT d 0) 1 λa9=>dI c bY a9 λaa=>bW PG aFY #[g,aa] c λx y=>fT x 0 λz=>fT x 1 λaz=>dP bT (pT b 0) 4 λab=>dI y cT ab λac=>bW PG aGJ #[z,ac] y λA h=>fT A 0 λaA=>fT A 1 λB=>gG h .neq dF (.tmp 65) (.const (.int .i64 0)) B (.int .i64 0) λad=>cN ad (pP (build aT #[]) λae=>cM PG (cP aT (pT a 0) ae) h λaB C=>dI C aT (pT a 0) λaf=>R (.tuple #[af,B]) C) (bW PG wI #[z] h λag ah=>dP aT (pT d 0) 1 λai=>cM PG (cP bY ai ag) ah λaC i=>dP bT (pT b 0) 2 λaj=>dI i aR aj λak=>dP bT (pT b 0) 3 λal=>dI i cG al λam=>dP aT (pT d 0) 0 λan=>mI cR an ak λao=>cM PG (cP cG ao am) i λaD D=>dI D aT (pT d 0) λap=>cM PG (cP aT (pT a 0) ap) D λaE E=>dI E aT (pT a 0) λaq=>R (.tuple #[aq,.int .i64 0]) E))))
def aFh.call{t0 t1 t2 h0 R}(H:aFh t0 t1 t2 h0 R):bW PG aCz #[t0,t1,t2] h0 R:=dC (iK 79) Tryz.func38 H
def mW(b:Value)(a:PH)(R:cF):Prop:=gG a .eql bY (.tmp 3) (.const (.slice none 0 0)) b (.slice none 0 0) λc=>cN c (R (.slice none 0 0) a) (yD a (buildSlice bY 0 #[]) λd e=>cM PG (Builtin.append_ #[bY,bY] bY #[d,b]) e λf g=>R f g)
def mW.call{t0 h0 R}(H:mW t0 h0 R):bW PG lT #[t0] h0 R:=dC (iK 8) Tryz.func33 H
def aHb(R:cF)(i:fY)(e a f d:Value)(b:PH):Prop:=dU .lss aR d (.int .i64 2) λj=>cN j (pP (Instr.index cR f d) λk=>∀c,b c=none->dT (PH.set b c (.cells (dD PG cG) cG)) λl=>cM PG (cP cG (pT c 0) k) l λx g=>dI g cG (pT c 0) λm=>bW PG aBA #[a,m] g λy n=>dU .add aR d (.int .i64 1) λo=>i [e,a,f,o] n) (dP bT e 1 λp=>dP aT p 1 λq=>dI b bY q λr=>bW PG aDj #[a,r] b λz s=>bW PG nH #[a] s λh u=>fT h 0 λv=>fT h 1 λw=>R (.tuple #[v,w]) u)
def aEd(l:Value)(e:PH)(R:cF):Prop:=∀a,e a=none->dT (PH.set e a (.cells l.cells bT)) λf=>dI f bT (pT a 0) λm=>bW PG aCJ #[m] f λn d=>pP (Op.unary .not n) λo=>cN o (R (.tuple #[(.string ⟨#[]⟩),.int .i64 1]) d) (∀b,d b=none->dT (PH.set d b (.cells (dD PG eN) eN)) λg=>dP bT (pT a 0) 0 λp=>dI g aR p λq=>bW PG iH #[pT b 0,q] g λJ c=>dP bT (pT a 0) 0 λr=>dI c aR r λs=>gG c .eql aR (.tmp 14) (.const (.int .i64 1)) s (.int .i64 1) λu=>cN u (dP bT (pT a 0) 1 λv=>dP aT v 0 λw=>dI c cR w λx=>gU [1,4,18,19] (λy ρ h=>aHb R y (ρ 1) (ρ 4) (ρ 18) (ρ 19) h) [(pT a 0),pT b 0,x,.int .i64 0] c) (dP bT (pT a 0) 2 λz=>dI c aR z λA=>bW PG iH #[pT b 0,A] c λK i=>dP bT (pT a 0) 3 λB=>dI i cG B λC=>bW PG aBA #[pT b 0,C] i λL j=>dP bT (pT a 0) 4 λD=>dI j cT D λE=>bW PG aDk #[pT b 0,E] j λM F=>bW PG nH #[pT b 0] F λk G=>fT k 0 λH=>fT k 1 λI=>R (.tuple #[H,I]) G))
def aEd.call{t0 h0 R}(H:aEd t0 h0 R):bW PG yW #[t0] h0 R:=dC (sL 7 [1,4,18,19] 44) Tryz.func39 H
def aAY(R:cF)(a b:Value)(c:PH):Prop:=dP cG b 0 λe=>dI c cI e λf=>bW PG jX #[a,f] c λk d=>dP cG b 1 λg=>dI d aR g λh=>pP (convert aR cI h) λi=>bW PG jX #[a,i] d λl j=>R (.tuple #[]) j
def aDZ(c g:Value)(d:PH)(R:cF):Prop:=∀a,d a=none->dT (PH.set d a (.cells g.cells cG)) λe=>dP cG (pT a 0) 1 λh=>dI e aR h λi=>dU .lss aR i (.int .i64 0) λb=>eZ b false (fieldAt cG (pT a 0) 1) e λj k=>gB b false (loadAt aR j) k λl m=>eZ b false (binOp .gtr aR l (.int .i64 65535)) m λn f=>bZ (eH b (.bool true) n) λo=>cN o (bW PG iH #[c,.int .i64 (-1)] f λq p=>aAY R c (pT a 0) p) (aAY R c (pT a 0) f)
def aDZ.call{t0 t1 h0 R}(H:aDZ t0 t1 h0 R):bW PG aBA #[t0,t1] h0 R:=dC (iK 23) Tryz.func86 H
def aDb(a b:Value)(c:PH)(R:cF):Prop:=bW PG aEw #[a,(.func (Fn.func tZ) #[] #[]),b] c λe d=>R (.tuple #[]) d
def aDb.call{t0 t1 h0 R}(H:aDb t0 t1 h0 R):bW PG aDj #[t0,t1] h0 R:=dC (iK 7) Tryz.func87 H
def aEE(R:cF)(m:fY)(d f g h e:Value)(a:PH):Prop:=dU .lss aR e h λn=>cN n (mI bY g e λo=>dI a cE o λp=>∀b,a b=none->dT (PH.set a b (.cells (dD PG cE) cE)) λq=>cM PG (cP cE (pT b 0) p) q λA i=>dI i cE (pT b 0) λr=>xP PG f #[r] i λj k=>fT j 0 λs=>fT j 1 λu=>∀c,k c=none->dT (PH.set k c (.cells (dD PG bX) bX)) λv=>cM PG (cP bX (pT c 0) u) v λB w=>bW PG iH #[d,s] w λC l=>dI l bX (pT c 0) λx=>bW PG aDc #[d,x] l λD y=>dU .add aR e (.int .i64 1) λz=>m [d,f,g,h,z] y) (R (.tuple #[]) a)
def aAP(b c a:Value)(d:PH)(R:cF):Prop:=iJ bY aR a λe=>bW PG iH #[b,e] d λj f=>iJ bY aR a λg=>gU [0,1,14,15,16] (λi ρ h=>aEE R i (ρ 0) (ρ 1) (ρ 14) (ρ 15) (ρ 16) h) [b,c,a,g,.int .i64 0] f
def aAP.call{t0 t1 t2 h0 R}(H:aAP t0 t1 t2 h0 R):bW PG aEw #[t0,t1,t2] h0 R:=dC (sL 2 [0,1,14,15,16] 33) Tryz.func146 H
def aGq(b i:Value)(d:PH)(R:cF):Prop:=∀a,d a=none->dT (PH.set d a (.cells i.cells bX)) λe=>dI e bX (pT a 0) λj=>bW PG uR #[j] e λk c=>gG c .neq dF (.tmp 5) (.const (.int .i64 0)) k (.int .i64 0) λl=>cN l (bW PG iH #[b,.int .i64 (-1)] c λx m=>R (.tuple #[]) m) (dP bX (pT a 0) 0 λn=>dI c aR n λo=>bW PG iH #[b,o] c λy f=>dP bX (pT a 0) 1 λp=>dI f cI p λq=>bW PG jX #[b,q] f λz g=>dP bX (pT a 0) 2 λr=>dI g cI r λs=>bW PG jX #[b,s] g λA h=>dP bX (pT a 0) 3 λu=>dI h bR u λv=>bW PG sY #[b,v] h λB w=>R (.tuple #[]) w)
def aGq.call{t0 t1 h0 R}(H:aGq t0 t1 h0 R):bW PG aDc #[t0,t1] h0 R:=dC (iK 25) Tryz.func190 H
def aBK(a b:Value)(c:PH)(R:cF):Prop:=iJ bR aR b λd=>dU .gtr aR d (.int .i64 65535) λe=>cN e (fX a λf=>dP eN f 0 λg=>bW PG iU #[g,.int .i64 1] c λm h=>R (.tuple #[]) h) (iJ bR aR b λi=>pP (convert aR cI i) λj=>bW PG tV #[a,j,.int .i64 2] c λn k=>bW PG nA #[a,b] k λo l=>R (.tuple #[]) l)
def aBK.call{t0 t1 h0 R}(H:aBK t0 t1 h0 R):bW PG sY #[t0,t1] h0 R:=dC (iK 19) Tryz.func140 H
def vL(j:Value)(d:PH)(R:cF):Prop:=∀a,d a=none->dT (PH.set d a (.cells j.cells cE)) λe=>∀b,e b=none->dT (PH.set e b (.cells (dD PG bX) bX)) λc=>dP cE (pT a 0) 1 λk=>dI c aR k λl=>dP cE (pT a 0) 0 λf=>dI c bX f λg=>bW PG aEp #[l,.int .i64 2] c λm h=>cB PG h (loadAt bX f)=some g∧(cM PG (cP bX (pT b 0) g) h λo i=>(dI i bX (pT b 0) λn=>R (.tuple #[m,n]) i))
def vL.ann:kD:={b:=λi=>match i with|1=>#[0,1,3,0,8,7,63]|_=>#[],ord:=λi=>match i with|1=>[0,1,3,4,2,5,6]|_=>[],keep:=λ_=>[],n:=9}
def vL.call{t0 h0 R}(H:vL t0 h0 R):bW PG tZ #[t0] h0 R:=dC vL.ann Tryz.func147 H
def aHk(b d:Value)(e:PH)(R:cF):Prop:=dU .lss aR b (.int .i64 1) λa=>gY a false b e λf g=>gY a false d g λh i=>eZ a false (binOp .gtr aR f h) i λj c=>bZ (eH a (.bool true) j) λk=>cN k (R (.int .i64 (-1)) c) (R b c)
def aHk.call{t0 t1 h0 R}(H:aHk t0 t1 h0 R):bW PG aEp #[t0,t1] h0 R:=dC (iK 13) Tryz.func148 H
def aDQ(a b:Value)(c:PH)(R:cF):Prop:=bW PG aEk #[a,(.func (Fn.func uF) #[] #[]),b] c λe d=>R (.tuple #[]) d
def aDQ.call{t0 t1 h0 R}(H:aDQ t0 t1 h0 R):bW PG aDk #[t0,t1] h0 R:=dC (iK 7) Tryz.func89 H
def aE4(R:cF)(m:fY)(d f g h e:Value)(a:PH):Prop:=dU .lss aR e h λn=>cN n (mI cT g e λo=>dI a cK o λp=>∀b,a b=none->dT (PH.set a b (.cells (dD PG cK) cK)) λq=>cM PG (cP cK (pT b 0) p) q λA i=>dI i cK (pT b 0) λr=>xP PG f #[r] i λj k=>fT j 0 λs=>fT j 1 λu=>∀c,k c=none->dT (PH.set k c (.cells (dD PG bX) bX)) λv=>cM PG (cP bX (pT c 0) u) v λB w=>bW PG iH #[d,s] w λC l=>dI l bX (pT c 0) λx=>bW PG aDc #[d,x] l λD y=>dU .add aR e (.int .i64 1) λz=>m [d,f,g,h,z] y) (R (.tuple #[]) a)
def aAO(b c a:Value)(d:PH)(R:cF):Prop:=iJ cT aR a λe=>bW PG iH #[b,e] d λj f=>iJ cT aR a λg=>gU [0,1,14,15,16] (λi ρ h=>aE4 R i (ρ 0) (ρ 1) (ρ 14) (ρ 15) (ρ 16) h) [b,c,a,g,.int .i64 0] f
def aAO.call{t0 t1 t2 h0 R}(H:aAO t0 t1 t2 h0 R):bW PG aEk #[t0,t1,t2] h0 R:=dC (sL 2 [0,1,14,15,16] 33) Tryz.func150 H
def uW(j:Value)(d:PH)(R:cF):Prop:=∀a,d a=none->dT (PH.set d a (.cells j.cells cK)) λe=>∀b,e b=none->dT (PH.set e b (.cells (dD PG bX) bX)) λc=>dP cK (pT a 0) 0 λk=>dI c aR k λl=>dP cK (pT a 0) 1 λf=>dI c bX f λg=>bW PG aEp #[l,.int .i64 4] c λm h=>cB PG h (loadAt bX f)=some g∧(cM PG (cP bX (pT b 0) g) h λo i=>(dI i bX (pT b 0) λn=>R (.tuple #[m,n]) i))
def uW.ann:kD:={b:=λi=>match i with|1=>#[0,1,3,0,8,7,63]|_=>#[],ord:=λi=>match i with|1=>[0,1,3,4,2,5,6]|_=>[],keep:=λ_=>[],n:=9}
def uW.call{t0 h0 R}(H:uW t0 h0 R):bW PG uF #[t0] h0 R:=dC uW.ann Tryz.func151 H
def aJB(R:cF)(k:fY)(e f g h a:Value)(b:PH):Prop:=dU .lss aR a h λl=>cN l (mI cT g a λm=>dI b cK m λn=>∀c,b c=none->dT (PH.set b c (.cells (dD PG cK) cK)) λo=>cM PG (cP cK (pT c 0) n) o λu i=>dI i cK (pT c 0) λp=>bW PG aBL #[e,p] i λj d=>gG d .neq dF (.tmp 19) (.const (.int .i64 0)) j (.int .i64 0) λq=>cN q (R (.tuple #[a,j]) d) (dU .add aR a (.int .i64 1) λr=>k [e,f,g,h,r] d)) (iJ cT aR f λs=>R (.tuple #[s,.int .i64 0]) b)
def aG2(b a:Value)(c:PH)(R:cF):Prop:=iJ cT aR a λd=>gU [0,1,9,10,11] (λe ρ h=>aJB R e (ρ 0) (ρ 1) (ρ 9) (ρ 10) (ρ 11) h) [b,a,a,d,.int .i64 0] c
def aG2.call{t0 t1 h0 R}(H:aG2 t0 t1 h0 R):bW PG aGJ #[t0,t1] h0 R:=dC (sL 2 [0,1,9,10,11] 26) Tryz.func83 H
def sG(h i:Value)(e:PH)(R:cF):Prop:=∀a,e a=none->dT (PH.set e a (.cells i.cells cK)) λf=>dI f cK (pT a 0) λj=>bW PG aGR #[j] f λg c=>gG c .neq dF (.tmp 9) (.const (.int .i64 0)) g (.int .i64 0) λk=>cN k (R g c) (pP (build dN #[(1,(.func (Fn.func kC) #[] #[])),(2,(.func (Fn.func iO) #[] #[])),(3,(.func (Fn.func gO) #[] #[])),(4,(.func (Fn.func gO) #[] #[]))]) λl=>∀d,c d=none->dT (PH.set c d (.cells (dD PG dN) dN)) λm=>cM PG (cP dN (pT d 0) l) m λD b=>dP cK (pT a 0) 0 λn=>dI b aR n λo=>mI dN (pT d 0) o λp=>dI b eR p λq=>dP cK (pT a 0) 1 λr=>dP bX r 0 λs=>dI b aR s λu=>dP cK (pT a 0) 1 λv=>dP bX v 1 λw=>dI b cI w λx=>pP (build fI #[(0,u),(1,x)]) λy=>dP cK (pT a 0) 1 λz=>dI b bX z λA=>xP PG q #[h,y,A] b λB C=>(R B C))
def sG.ann:kD:={b:=λi=>match i with|5=>#[0,1,3,7,0,0,32,96,0,256,768,2016,0,4096,16383,32767]|_=>#[],ord:=λi=>match i with|5=>[0,1,2,3,4,5,6,7,8,9,10,11,12,13,14,15]|_=>[],keep:=λ_=>[],n:=28}
def sG.call{t0 t1 h0 R}(H:sG t0 t1 h0 R):bW PG aBL #[t0,t1] h0 R:=dC sG.ann Tryz.func144 H
def aGo(f:Value)(d:PH)(R:cF):Prop:=∀a,d a=none->dT (PH.set d a (.cells f.cells cK)) λe=>dP cK (pT a 0) 0 λg=>dI e aR g λh=>dU .lss aR h (.int .i64 1) λb=>eZ b false (fieldAt cK (pT a 0) 0) e λi j=>gB b false (loadAt aR i) j λk l=>eZ b false (binOp .gtr aR k (.int .i64 4)) l λm c=>bZ (eH b (.bool true) m) λn=>cN n (R (.int .i64 1) c) (dP cK (pT a 0) 1 λo=>dI c bX o λp=>bW PG uR #[p] c λq r=>R q r)
def aGo.call{t0 h0 R}(H:aGo t0 h0 R):bW PG aGR #[t0] h0 R:=dC (iK 14) Tryz.func185 H
def tG(f j k:Value)(g:PH)(R:cF):Prop:=∀b,g b=none->dT (PH.set g b (.cells j.cells fI)) λh=>∀d,h d=none->dT (PH.set h d (.cells k.cells bX)) λa=>fX f λl=>dP gA l 0 λm=>dI a dL m λn=>dI a fI (pT b 0) λo=>pE a (Instr.lookup dL n o true) λi=>fT i 0 λp=>fT i 1 λq=>∀e,a e=none->dT (PH.set a e (.cells (dD PG cE) cE)) λr=>cM PG (cP cE (pT e 0) p) r λy c=>(cN q (R (.int .i64 0) c) (dI c fI (pT b 0) λs=>dI c bX (pT d 0) λu=>pP (build cE #[(0,u),(1,(.int .i64 1))]) λv=>bW PG yN #[f,s,v] c λw x=>R w x))
def tG.ann:kD:={b:=λi=>match i with|1=>#[0,1,3,7,0,31,63,127,127,0,767,2047]|_=>#[],ord:=λi=>match i with|1=>[0,1,2,3,4,5,6,7,8,9,10,11]|_=>[],keep:=λ_=>[],n:=24}
def tG.call{t0 t1 t2 h0 R}(H:tG t0 t1 t2 h0 R):bW PG kC #[t0,t1,t2] h0 R:=dC tG.ann Tryz.func186 H
def vE(d k l:Value)(h:PH)(R:cF):Prop:=∀e,h e=none->dT (PH.set h e (.cells k.cells fI)) λi=>∀f,i f=none->dT (PH.set i f (.cells l.cells cE)) λb=>fX d λm=>dP gA m 0 λn=>dI b dL n λo=>dI b fI (pT e 0) λp=>pE b (Instr.lookup dL o p true) λj=>fT j 0 λq=>fT j 1 λr=>∀g,b g=none->dT (PH.set b g (.cells (dD PG cE) cE)) λs=>cM PG (cP cE (pT g 0) q) s λX u=>(pP (Op.unary .not r) λa=>gY a true d u λv w=>eZ a true (gH v) w λx y=>eZ a true (fieldAt gA x 0) y λz A=>gB a true (loadAt dL z) A λB C=>gB a true (Builtin.len_ #[dL] aR #[B]) C λD E=>gY a true d E λF G=>eZ a true (gH F) G λH I=>eZ a true (fieldAt gA H 1) I λJ K=>gB a true (loadAt aR J) K λL M=>eZ a true (binOp .geq aR D L) M λN c=>bZ (eH a N (.bool false)) λO=>cN O (R (.int .i64 2) c) (fX d λP=>dP gA P 0 λQ=>dI c dL Q λS=>dI c fI (pT e 0) λU=>dI c cE (pT f 0) λV=>cM PG (aIW dL S U V) c λY W=>(R (.int .i64 0) W)))
def vE.ann:kD:={b:=λi=>match i with|1=>#[0,1,3,7,0,31,63,127,127,0,767,2047]|2=>#[0,1,3,7,15,31,63,127,7,263,775,1799,4095,8191]|4=>#[0,1,3,7,0,0,63]|_=>#[],ord:=λi=>match i with|1=>[0,1,2,3,4,5,6,7,8,9,10,11]|2=>[0,1,2,3,4,5,6,7,8,9,10,11,12,13]|4=>[0,1,2,3,4,5,6]|_=>[],keep:=λ_=>[],n:=38}
def vE.call{t0 t1 t2 h0 R}(H:vE t0 t1 t2 h0 R):bW PG yN #[t0,t1,t2] h0 R:=dC vE.ann Tryz.func216 H
def rY(R:cF)(b c d:Value)(a:PH):Prop:=dI a fI c λe=>dI a bX d λf=>pP (build cE #[(0,f),(1,(.int .i64 2))]) λg=>bW PG yN #[b,e,g] a λh i=>R h i
def pJ(e j k:Value)(g:PH)(R:cF):Prop:=∀a,g a=none->dT (PH.set g a (.cells j.cells fI)) λh=>∀b,h b=none->dT (PH.set h b (.cells k.cells bX)) λc=>fX e λl=>dP gA l 0 λm=>dI c dL m λn=>dI c fI (pT a 0) λo=>pE c (Instr.lookup dL n o true) λi=>fT i 0 λp=>fT i 1 λq=>∀d,c d=none->dT (PH.set c d (.cells (dD PG cE) cE)) λr=>cM PG (cP cE (pT d 0) p) r λw f=>(cN q (dP cE (pT d 0) 0 λs=>dI f bX s λu=>cM PG (cP bX (pT b 0) u) f λx v=>rY R e (pT a 0) (pT b 0) v) (rY R e (pT a 0) (pT b 0) f))
def pJ.ann:kD:={b:=λi=>match i with|1=>#[0,1,3,7,0,31,63,127,127,0,767,2047]|_=>#[],ord:=λi=>match i with|1=>[0,1,2,3,4,5,6,7,8,9,10,11]|_=>[],keep:=λ_=>[],n:=26}
def pJ.call{t0 t1 t2 h0 R}(H:pJ t0 t1 t2 h0 R):bW PG iO #[t0,t1,t2] h0 R:=dC pJ.ann Tryz.func187 H
def tL(f g h:Value)(c:PH)(R:cF):Prop:=∀a,c a=none->dT (PH.set c a (.cells g.cells fI)) λd=>∀e,d e=none->dT (PH.set d e (.cells h.cells bX)) λb=>fX f λi=>dP gA i 0 λj=>dI b dL j λk=>dI b fI (pT a 0) λl=>cM PG (Builtin.delete_ #[dL,fI] T_ #[k,l]) b λn m=>(R (.int .i64 0) m)
def tL.ann:kD:={b:=λi=>match i with|1=>#[0,1,3,7,0,31]|_=>#[],ord:=λi=>match i with|1=>[0,1,2,3,4,5]|_=>[],keep:=λ_=>[],n:=12}
def tL.call{t0 t1 t2 h0 R}(H:tL t0 t1 t2 h0 R):bW PG gO #[t0,t1,t2] h0 R:=dC tL.ann Tryz.func188 H
def zT(t0:Value)(t1:Value)(h0:PH)(R:cF):Prop:=
 ∀r1,h0 r1=none->dT (PH.set h0 r1 (.cells (Value.cells t0) eA)) λh2=>
 ∀r3,h2 r3=none->dT (PH.set h2 r3 (.cells (Value.cells t1) bR)) λh4=>
 bZ (cB PG h4 (loadAt eA (pT r1 0))) λv5=>
 bZ (cC PG (Instr.makeFunc (Fn.func yG) #[] #[(pT r1 0),(pT r3 0)])) λv6=>
 bW PG aCj #[v5,v6] h4 λv7 h8=>
 R v7 h8
def zT.call{t0 t1 h0 R}(H:zT t0 t1 h0 R):bW PG vG #[t0,t1] h0 R:=dC (iK 8) Tryz.func30 H
def aFk(t0:Value)(t1:Value)(h0:PH)(R:cF):Prop:=
 bZ (cC PG (gH t0)) λv1=>
 bZ (cC PG (fieldAt dO v1 6)) λv2=>
 bZ (cB PG h0 (loadAt iY v2)) λv3=>
 cN v3
 (R (Value.int IntKind.i64 14) h0)
 (xP PG t1 #[] h0 λv4 h5=>
 bZ (cB PG h5 (fJ BinOp.eql dF (.tmp 13) (.const (Value.int IntKind.i64 13)) v4 (Value.int IntKind.i64 13))) λv6=>
 bZ (cC PG (gH t0)) λv7=>
 bZ (cC PG (fieldAt dO v7 6)) λv8=>
 cM PG (cP iY v8 v6) h5 λv9 h10=>
 R v4 h10)
def aFk.call{t0 t1 h0 R}(H:aFk t0 t1 h0 R):bW PG aCj #[t0,t1] h0 R:=dC (iK 18) Tryz.func70 H
def pD(t0:Value)(t1:Value)(h0:PH)(R:cF):Prop:=
 bZ (cB PG h0 (loadAt eA t0)) λv1=>
 bZ (cC PG (gH v1)) λv2=>
 bZ (cC PG (fieldAt dO v2 0)) λv3=>
 bZ (cC PG (fieldAt dW v3 0)) λv4=>
 bZ (cB PG h0 (loadAt gC v4)) λv5=>
 bZ (cC PG (gH v5)) λv6=>
 bZ (cC PG (fieldAt eM v6 0)) λv7=>
 bZ (cB PG h0 (loadAt dZ v7)) λv8=>
 bZ (cB PG h0 (loadAt bR t1)) λv9=>
 bZ (cC PG (Builtin.len_ #[bR] aR #[v9])) λv10=>
 bW PG jZ #[v8] h0 λv11 h12=>
 cB PG h12 (loadAt bR t1)=some v9∧(bW PG tD #[v11,v10] h12 λv13 h14=>
 (bZ (cB PG h14 (fJ BinOp.eql aR (.tmp 25) (.const (Value.int IntKind.i64 0)) v13 (Value.int IntKind.i64 0))) λv15=>
 cN v15
 (R (Value.int IntKind.i64 1) h14)
 (bZ (cB PG h14 (loadAt eA t0)) λv16=>
 bZ (cC PG (gH v16)) λv17=>
 bZ (cC PG (fieldAt dO v17 0)) λv18=>
 bZ (cB PG h14 (loadAt dW v18)) λv19=>
 bW PG pG #[v19] h14 λv20 h21=>
 bZ (cC PG (binOp BinOp.gtr aR v13 v20)) λv22=>
 cN v22
 (R (Value.int IntKind.i64 2) h21)
 (bZ (cB PG h21 (loadAt eA t0)) λv23=>
 bZ (cC PG (gH v23)) λv24=>
 bZ (cC PG (fieldAt dO v24 1)) λv25=>
 bZ (cB PG h21 (loadAt cL v25)) λv26=>
 bW PG aHe #[v26] h21 λv27 h28=>
 bZ (cC PG (extract v27 0)) λv29=>
 bZ (cC PG (extract v27 1)) λv30=>
 ∀r31,h28 r31=none->dT (PH.set h28 r31 (.cells (dD PG cL) cL)) λh32=>
 cM PG (cP cL (pT r31 0) v29) h32 λv33 h34=>
 bZ (cB PG h34 (fJ BinOp.neq dF (.tmp 43) (.const (Value.int IntKind.i64 0)) v30 (Value.int IntKind.i64 0))) λv35=>
 cN v35
 (R v30 h34)
 (bZ (cB PG h34 (loadAt eA t0)) λv36=>
 bZ (cC PG (gH v36)) λv37=>
 bZ (cC PG (fieldAt dO v37 0)) λv38=>
 bZ (cC PG (fieldAt dW v38 0)) λv39=>
 bZ (cB PG h34 (loadAt gC v39)) λv40=>
 bZ (cC PG (gH v40)) λv41=>
 bZ (cC PG (fieldAt eM v41 0)) λv42=>
 bZ (cB PG h34 (loadAt dZ v42)) λv43=>
 bZ (cC PG (fieldAt cL (pT r31 0) 0)) λv44=>
 bZ (cB PG h34 (loadAt cI v44)) λv45=>
 bZ (cB PG h34 (loadAt bR t1)) λv46=>
 bW PG jZ #[v43] h34 λv47 h48=>
 cB PG h48 (loadAt bR t1)=some v46∧cB PG h48 (loadAt cI v44)=some v45∧(bW PG aCn #[v47,v45,(Value.int IntKind.u64 0),v46] h48 λv49 h50=>
 (bZ (cC PG (extract v49 0)) λv51=>
 bZ (cC PG (extract v49 1)) λv52=>
 bZ (cB PG h50 (loadAt eA t0)) λv53=>
 bZ (cC PG (gH v53)) λv54=>
 bZ (cC PG (fieldAt dO v54 0)) λv55=>
 bZ (cB PG h50 (loadAt dW v55)) λv56=>
 bZ (cB PG h50 (loadAt eA t0)) λv57=>
 bZ (cC PG (gH v57)) λv58=>
 bZ (cC PG (fieldAt dO v58 0)) λv59=>
 bZ (cB PG h50 (loadAt dW v59)) λv60=>
 bZ (cC PG (fieldAt cL (pT r31 0) 1)) λv61=>
 bZ (cB PG h50 (loadAt aR v61)) λv62=>
 bW PG vX #[v60,v62] h50 λv63 h64=>
 cB PG h64 (loadAt dW v55)=some v56∧cB PG h64 (loadAt eA t0)=some v53∧(bW PG tM #[v56,v63,v51] h64 λv65 h66=>
 (bZ (cB PG h66 (fJ BinOp.neq dF (.tmp 75) (.const (Value.int IntKind.i64 0)) v65 (Value.int IntKind.i64 0))) λv67=>
 cN v67
 (R v65 h66)
 (bZ (cB PG h66 (loadAt eA t0)) λv68=>
 bZ (cC PG (gH v68)) λv69=>
 bZ (cC PG (fieldAt dO v69 0)) λv70=>
 bZ (cC PG (fieldAt dW v70 0)) λv71=>
 bZ (cB PG h66 (loadAt gC v71)) λv72=>
 bZ (cC PG (gH v72)) λv73=>
 bZ (cC PG (fieldAt eM v73 0)) λv74=>
 bZ (cB PG h66 (loadAt dZ v74)) λv75=>
 bZ (cB PG h66 (loadAt cL (pT r31 0))) λv76=>
 bW PG jZ #[v75] h66 λv77 h78=>
 cB PG h78 (loadAt cL (pT r31 0))=some v76∧(bW PG aDH #[v77,v76] h78 λv79 h80=>
 (bZ (cC PG (extract v79 0)) λv81=>
 bZ (cC PG (extract v79 1)) λv82=>
 bZ (cB PG h80 (loadAt eA t0)) λv83=>
 bZ (cC PG (gH v83)) λv84=>
 bZ (cC PG (fieldAt dO v84 0)) λv85=>
 bZ (cB PG h80 (loadAt dW v85)) λv86=>
 bZ (cB PG h80 (loadAt eA t0)) λv87=>
 bZ (cC PG (gH v87)) λv88=>
 bZ (cC PG (fieldAt dO v88 2)) λv89=>
 bZ (cB PG h80 (loadAt aR v89)) λv90=>
 bZ (cC PG (binOp BinOp.sub aR (Value.int IntKind.i64 1) v90)) λv91=>
 bZ (jT PG (buildSlice dE 1 #[(0,v81)])) λx93=>∀r92,h80 r92=none->bZ (cC PG (x93.2 r92)) λv94=>dT (PH.set h80 r92 x93.1) λh95=>
 bW PG tM #[v86,v91,v94] h95 λv96 h97=>
 (bZ (cB PG h97 (fJ BinOp.neq dF (.tmp 104) (.const (Value.int IntKind.i64 0)) v96 (Value.int IntKind.i64 0))) λv98=>
 cN v98
 (R v96 h97)
 (bZ (cB PG h97 (loadAt eA t0)) λv99=>
 bZ (cB PG h97 (loadAt eA t0)) λv100=>
 bZ (cB PG h97 (loadAt eA t0)) λv101=>
 bZ (cB PG h97 (loadAt eA t0)) λv102=>
 bZ (cB PG h97 (loadAt eA t0)) λv103=>
 bZ (cB PG h97 (loadAt cL (pT r31 0))) λv104=>
 bZ (cB PG h97 (loadAt eA t0)) λv105=>
 bZ (cC PG (gH v105)) λv106=>
 bZ (cC PG (fieldAt dO v106 2)) λv107=>
 bZ (cB PG h97 (loadAt aR v107)) λv108=>
 bZ (cC PG (binOp BinOp.sub aR (Value.int IntKind.i64 1) v108)) λv109=>
 bZ (cC PG (gH v99)) λv110=>
 bZ (cC PG (fieldAt dO v110 1)) λv111=>
 cM PG (cP cL v111 v104) h97 λv112 h113=>
 cB PG h113 (loadAt eA t0)=some v103∧cB PG h113 (loadAt eA t0)=some v102∧cB PG h113 (loadAt eA t0)=some v101∧cB PG h113 (loadAt eA t0)=some v100∧(bZ (cC PG (gH v100)) λv114=>
 bZ (cC PG (fieldAt dO v114 2)) λv115=>
 cM PG (cP aR v115 v109) h113 λv116 h117=>
 cB PG h117 (loadAt eA t0)=some v103∧cB PG h117 (loadAt eA t0)=some v102∧cB PG h117 (loadAt eA t0)=some v101∧(bZ (cC PG (gH v101)) λv118=>
 bZ (cC PG (fieldAt dO v118 3)) λv119=>
 cM PG (cP aR v119 v13) h117 λv120 h121=>
 cB PG h121 (loadAt eA t0)=some v103∧cB PG h121 (loadAt eA t0)=some v102∧(bZ (cC PG (gH v102)) λv122=>
 bZ (cC PG (fieldAt dO v122 4)) λv123=>
 cM PG (cP cI v123 (Value.int IntKind.u64 1)) h121 λv124 h125=>
 cB PG h125 (loadAt eA t0)=some v103∧(bZ (cC PG (gH v103)) λv126=>
 bZ (cC PG (fieldAt dO v126 5)) λv127=>
 cM PG (cP iY v127 (Value.bool true)) h125 λv128 h129=>
 (R (Value.int IntKind.i64 0) h129)))))))))))))))))))
def pD.ann:kD:={b:=λi=>match i with|1=>#[0,1,3,7,15,31,63,127,255,0,512,2047,4095]|9=>#[0,1,3,7,15,31,63,127,255,0,512,0,4095,8191,16383,16383,32767,131071]|10=>#[0,1,3,7,0,16,48,112,0,256,1008,0,4095,8191]|13=>#[0,1,3,7,15,31,63,127,255,0,1023,2047,4095,4095,8191,32767]|14=>#[0,1,3,7,0,16,48,112,240,0,512,2047,4095]|17=>#[0,0,0,0,0,0,0,64,192,448,960,0,993,5089,13281,30691,63459,128995,262119,524263,1048551,2097135,4194287,8388591,16777215,33554431,67108863]|_=>#[],ord:=λi=>match i with|1=>[0,1,2,3,4,5,6,7,9,10,8,11,12]|9=>[0,1,2,3,4,5,6,7,9,10,11,8,12,13,14,15,16,17]|10=>[0,1,2,3,4,5,6,7,8,9,11,10,12,13]|13=>[0,1,2,3,4,5,6,7,9,8,10,11,12,13,14,15]|14=>[0,1,2,3,4,5,6,7,8,9,10,11,12]|17=>[0,1,2,3,4,5,6,7,8,9,10,11,12,13,14,15,16,17,18,19,20,21,22,23,24,25,26]|_=>[],keep:=λ_=>[],n:=129}
def pD.call{t0 t1 h0 R}(H:pD t0 t1 h0 R):bW PG yG #[t0,t1] h0 R:=dC pD.ann Tryz.func71 H
def aDR(R:cF)(t2:Value)(t4:Value)(h0:PH):Prop:=
 bZ (cB PG h0 (loadAt cL t4)) λv27=>
 cM PG (cP cL t2 v27) h0 λv28 h29=>
 bZ (cB PG h29 (loadAt cL t2)) λv30=>
 R (Value.tuple #[v30,(Value.int IntKind.i64 0)]) h29
def aHp(t0:Value)(h0:PH)(R:cF):Prop:=
 ∀r1,h0 r1=none->dT (PH.set h0 r1 (.cells (Value.cells t0) cL)) λh2=>
 ∀r3,h2 r3=none->dT (PH.set h2 r3 (.cells (dD PG cL) cL)) λh4=>
 bZ (cC PG (fieldAt cL (pT r1 0) 0)) λv5=>
 bZ (cB PG h4 (loadAt cI v5)) λv6=>
 bZ (cB PG h4 (fJ BinOp.eql cI (.tmp 6) (.const (Value.int IntKind.u64 18446744073709551615)) v6 (Value.int IntKind.u64 18446744073709551615))) λv7=>
 cN v7
 (bZ (cC PG (build cL #[])) λv8=>
 cM PG (cP cL (pT r3 0) v8) h4 λv9 h10=>
 bZ (cB PG h10 (loadAt cL (pT r3 0))) λv11=>
 R (Value.tuple #[v11,(Value.int IntKind.i64 12)]) h10)
 (bZ (cC PG (fieldAt cL (pT r1 0) 0)) λv12=>
 bZ (cB PG h4 (loadAt cI v12)) λv13=>
 bZ (cC PG (binOp BinOp.add cI v13 (Value.int IntKind.u64 1))) λv14=>
 bZ (cC PG (build cL #[(0,v14)])) λv15=>
 ∀r16,h4 r16=none->dT (PH.set h4 r16 (.cells (dD PG cL) cL)) λh17=>
 cM PG (cP cL (pT r16 0) v15) h17 λv18 h19=>
 bZ (cC PG (fieldAt cL (pT r1 0) 1)) λv20=>
 bZ (cB PG h19 (loadAt aR v20)) λv21=>
 bZ (cB PG h19 (fJ BinOp.eql aR (.tmp 14) (.const (Value.int IntKind.i64 0)) v21 (Value.int IntKind.i64 0))) λv22=>
 cN v22
 (bZ (cC PG (fieldAt cL (pT r16 0) 1)) λv23=>
 cM PG (cP aR v23 (Value.int IntKind.i64 1)) h19 λv24 h25=>
 aDR R (pT r3 0) (pT r16 0) h25)
 (aDR R (pT r3 0) (pT r16 0) h19))
def aHp.call{t0 h0 R}(H:aHp t0 h0 R):bW PG aHe #[t0] h0 R:=dC (iK 18) Tryz.func73 H
noncomputable def mC:Code:=((xD (aBi Tryz.f74)).getD 0 (.skip,.skip)).1
noncomputable def lJ:Code:=((xD (aBi Tryz.f74)).getD 0 (.skip,.skip)).2
end Go.Proofs.YtiohehjhlghikaaGreatDoor
