/- The texts of this claim, put together. -/
import Derived.Test.YtiohehjhlghikaaGreatDoorJgUVC1
set_option linter.all false
set_option maxRecDepth 100000
open Go.Instr (loadAt fieldAt indexAt extract buildSlice build)
namespace Go.Proofs.YtiohehjhlghikaaGreatDoor
open Go
def pP(x:Sem Value)(k:Value->Prop):Prop:=dA (dE PG x) k
def pE(h:PH)(x:Sem Value)(k:Value->Prop):Prop:=dA (dH PG h x) k
def fA(t:TypeId)(v:Value)(n:Nat)(k:Value->Prop):Prop:=dA (dE PG (fieldAt t v n)) k
def fL(o:BinOp)(t:TypeId)(x y:Value)(k:Value->Prop):Prop:=dA (dE PG (binOp o t x y)) k
def eN(h:PH)(t:TypeId)(x:Value)(k:Value->Prop):Prop:=dA (dH PG h (loadAt t x)) k
def nP(t:TypeId)(x y:Value)(k:Value->Prop):Prop:=dA (dE PG (indexAt t x y)) k
def iD(x:Value)(n:Nat)(k:Value->Prop):Prop:=dA (dE PG (extract x n)) k
def gU(x:Value)(k:Value->Prop):Prop:=dA (dE PG (gW x)) k
def jH(t u:TypeId)(x:Value)(k:Value->Prop):Prop:=dA (dE PG (Builtin.len_ #[t] u #[x])) k
def iJ(h:PH)(o:BinOp)(t:TypeId)(x y:Operand)(a b:Value)(k:Value->Prop):Prop:=dA (dH PG h (gV o t x y a b)) k
def iW(c:Value)(w:Bool)(v:Value)(h:PH)(k:dI):Prop:=gG (yV c) w (λj=>j v h) h k
def fV(c:Value)(w:Bool)(x:Sem Value)(h:PH)(k:dI):Prop:=gG (yV c) w (λj=>dA (dE PG x) λv=>j v h) h k
def gZ(c:Value)(w:Bool)(x:Sem Value)(h:PH)(k:dI):Prop:=gG (yV c) w (λj=>dA (dH PG h x) λv=>j v h) h k
def pAl(h:PH)(x:Sem Value)(k:dI):Prop:=dA (lH PG x) λy=>∀r,h r=none->dA (dE PG (y.2 r)) λv=>fK (PH.set h r y.1) λh'=>k v h'
def zPP:(∀(x:Sem Value) (k:Value->Prop),pP x k=dA (dE PG x) k)∧(∀(h:PH) (x:Sem Value) (k:Value->Prop),pE h x k=dA (dH PG h x) k)∧(∀(t:TypeId) (v:Value) (n:Nat) (k:Value->Prop),fA t v n k=dA (dE PG (fieldAt t v n)) k)∧(∀(o:BinOp) (t:TypeId) (x y:Value) (k:Value->Prop),fL o t x y k=dA (dE PG (binOp o t x y)) k)∧(∀(h:PH) (t:TypeId) (x:Value) (k:Value->Prop),eN h t x k=dA (dH PG h (loadAt t x)) k)∧(∀(t:TypeId) (x y:Value) (k:Value->Prop),nP t x y k=dA (dE PG (indexAt t x y)) k)∧(∀(x:Value) (n:Nat) (k:Value->Prop),iD x n k=dA (dE PG (extract x n)) k)∧(∀(x:Value) (k:Value->Prop),gU x k=dA (dE PG (gW x)) k)∧(∀(t u:TypeId) (x:Value) (k:Value->Prop),jH t u x k=dA (dE PG (Builtin.len_ #[t] u #[x])) k)∧(∀(h:PH) (o:BinOp) (t:TypeId) (x y:Operand) (a b:Value) (k:Value->Prop),iJ h o t x y a b k=dA (dH PG h (gV o t x y a b)) k)∧(∀(c:Value) (w:Bool) (v:Value) (h:PH) (k:dI),iW c w v h k=gG (yV c) w (λj=>j v h) h k)∧(∀(c:Value) (w:Bool) (x:Sem Value) (h:PH) (k:dI),fV c w x h k=gG (yV c) w (λj=>dA (dE PG x) λv=>j v h) h k)∧(∀(c:Value) (w:Bool) (x:Sem Value) (h:PH) (k:dI),gZ c w x h k=gG (yV c) w (λj=>dA (dH PG h x) λv=>j v h) h k)∧(∀(h:PH) (x:Sem Value) (k:dI),pAl h x k=dA (lH PG x) λy=>∀r,h r=none->dA (dE PG (y.2 r)) λv=>fK (PH.set h r y.1) λh'=>k v h'):=⟨λ_ _=>(rfl),λ_ _ _=>(rfl),λ_ _ _ _=>(rfl),λ_ _ _ _ _=>(rfl),λ_ _ _ _=>(rfl),λ_ _ _ _=>(rfl),λ_ _ _=>(rfl),λ_ _=>(rfl),λ_ _ _ _=>(rfl),λ_ _ _ _ _ _ _ _=>(rfl),λ_ _ _ _ _=>(rfl),λ_ _ _ _ _=>(rfl),λ_ _ _ _ _=>(rfl),λ_ _ _=>(rfl)⟩
def eO{f:FuncId}{fn:Func}(ann:kW)(hf:PG.funcs[f]? =some fn){args:Array Value}{h:PH}{R:dI}{X:Prop}(H:X)(ha:decide (args.size≤fn.ntmps)=true:=by kernel_rfl)(h1:aDP PG f=true:=by kernel_rfl)(h2:fn.body.isSome=true:=by kernel_rfl)(h3:decide (wA (aB0 fn)<200)=true:=by kernel_rfl)(h4:yS PG ann fn.ntmps (aB0 fn)=true:=by kernel_rfl)(he:aDy PG ann 200 (aB0 fn) (aUa PG fn R) (λt=>args.getD t undef) h=X:=by kernel_rfl):bR PG f args h R:=aN8 ann 200 mix hf h1 h2 h3 h4 (of_decide_eq_true ha) he H
def jU(n:Nat):kW:={b:=λi=>#[],ord:=λi=>[],keep:=λi=>[],n:=n}
def uH(k:Nat)(l:List Nat)(n:Nat):kW:={b:=λi=>#[],ord:=λi=>[],keep:=λi=>if i=k then l else [],n:=n}
def aXS:Array UInt8:=((((List.replicate 64 32:List UInt8).append) (List.replicate 64 32:List UInt8)).toArray)
def aXh:Array UInt8:=((((List.replicate 64 45:List UInt8).append) (List.replicate 64 45:List UInt8)).toArray)
def aXC:Array UInt8:=((((List.replicate 64 61:List UInt8).append) (List.replicate 64 61:List UInt8)).toArray)
def sW(q:PH)(R:dI):Prop:=pP (build dK #[(0,(.int .u64 5))]) λr=>pP (build dK #[(0,(.int .u64 5))]) λs=>pP (build eD #[(0,r),(1,s)]) λu=>bR PG yL #[.int .i64 64,.int .i64 20,.int .i64 2,u] q λb m=>iJ m .eql qG (.tmp 9) (.const (.pointer none)) b (.pointer none) λi=>iW i false b m λv n=>gG (yV i) false (λw=>bR PG kR #[v] n λx y=>w x y) n λz A=>fV i false (Op.unary .not z) A λB C=>dA (gA i (.bool true) B) λc=>iW c false b C λD E=>fV c false (gW D) E λF G=>fV c false (fieldAt dU F 1) G λH I=>gZ c false (loadAt fO H) I λJ K=>gZ c false (gV .eql fO (.tmp 20) (.const (.pointer none)) J (.pointer none)) K λL j=>dA (gA c (.bool true) L) λM=>dW M (R (.bool false) j) (pP (build cT #[(1,(.int .u64 1)),(2,(.int .u64 9))]) λN=>∀g,j g=none->fK (PH.set j g (.cells (eX PG cT) cT)) λO=>dT PG (dX cT (pT g 0) N) O λaS k=>gU b λP=>fA dU P 1 λQ=>eN k fO Q λS=>pP (build dK #[(0,(.int .u64 6)),(1,(.int .i64 1))]) λU=>eN k cT (pT g 0) λV=>pP (build dP #[(0,(.int .i64 1)),(1,V)]) λW=>pAl k (buildSlice eK 1 #[(0,W)]) λX Y=>bR PG rO #[S,.int .i64 0,U,X] Y λZ a0=>(bR PG kR #[b] a0 λa1 a2=>pP (Op.unary .not a1) λd=>iW d false b a2 λa3 a4=>fV d false (gW a3) a4 λa5 a6=>fV d false (fieldAt dU a5 1) a6 λa7 a8=>gZ d false (loadAt fO a7) a8 λa9 aa=>gZ d false (gV .eql fO (.tmp 40) (.const (.pointer none)) a9 (.pointer none)) aa λab l=>dA (gA d (.bool true) ab) λac=>dW ac (R (.bool false) l) (gU b λad=>fA dU ad 1 λae=>eN l fO ae λaf=>bR PG qO #[af] l λag o=>∀e,o e=none->fK (PH.set o e (.cells (eX PG cR) cR)) λah=>dT PG (dX cR (pT e 0) ag) ah λaU p=>iJ p .eql eY (.tmp 48) (.const (.int .i64 0)) Z (.int .i64 0) λh=>fV h true (fieldAt cR (pT e 0) 1) p λai aj=>gZ h true (loadAt dC ai) aj λak al=>fV h true (Builtin.len_ #[dC] aR #[ak]) al λam an=>gZ h true (gV .eql aR (.tmp 53) (.const (.int .i64 1)) am (.int .i64 1)) an λao ap=>dA (gA h ao (.bool false)) λa=>fV a true (fieldAt cR (pT e 0) 1) ap λaq ar=>gZ a true (loadAt dC aq) ar λau av=>fV a true (indexAt dC au (.int .i64 0)) av λaw ax=>fV a true (fieldAt dJ aw 0) ax λay az=>gZ a true (loadAt cT ay) az λaA aB=>gZ a true (loadAt cT (pT g 0)) aB λaC aD=>gZ a true (gV .eql cT (.tmp 61) (.tmp 62) aA aC) aD λaE aF=>dA (gA a aE (.bool false)) λf=>fV f true (fieldAt cR (pT e 0) 0) aF λaG aH=>fV f true (indexAt eD aG (.int .i64 0)) aH λaI aJ=>gZ f true (loadAt dK aI) aJ λaK aL=>fV f true (build dK #[(0,(.int .u64 6)),(1,(.int .i64 1))]) aL λaM aN=>gZ f true (gV .eql dK (.tmp 68) (.tmp 69) aK aM) aN λaO aP=>dA (gA f aO (.bool false)) λaQ=>R aQ aP)))
def sW.ann:kW:={b:=λi=>match i with|5=>#[0,1,3,7,0,0,32,96,255,511]|9=>#[0,1,3,7,15,31,63,127,255,511,1023,2047,4095,8191,511,32767,65535,131071,262143,524287,1048575,262143,4194303,8388607,16777215]|_=>#[],ord:=λi=>match i with|5=>[0,1,2,3,4,5,6,7,8,9]|9=>[0,1,2,3,4,5,6,7,8,9,10,11,12,13,14,15,16,17,18,19,20,21,22,23,24]|_=>[],keep:=λ_=>[],n:=72}
def sW.call{h0 R}(H:sW h0 R):bR PG aBz #[] h0 R:=eO sW.ann Tryz.func7 H
def tY(f g m n:Value)(h:PH)(R:dI):Prop:=∀a,h a=none->fK (PH.set h a (.cells n.cells eD)) λo=>bR PG aJa #[f,g] o λi j=>iD i 0 λk=>iD i 1 λp=>iJ j .neq eY (.tmp 17) (.const (.int .i64 0)) p (.int .i64 0) λb=>iW b false k j λq r=>gZ b false (gV .eql hZ (.tmp 20) (.const (.pointer none)) q (.pointer none)) r λs c=>dA (gA b (.bool true) s) λu=>dW u (R (.pointer none) c) (eN c eD (pT a 0) λl=>bR PG aC2 #[f,g] c λv d=>dH PG d (loadAt eD (pT a 0))=some l∧(pP (build dU #[(0,k),(3,v),(5,m),(6,l)]) λw=>∀e,d e=none->fK (PH.set d e (.cells w.cells dU)) λx=>R (pT e 0) x))
def tY.ann:kW:={b:=λi=>match i with|4=>#[0,0,0,6,0,0,63,127,255]|_=>#[],ord:=λi=>match i with|4=>[0,1,2,4,5,3,6,7,8]|_=>[],keep:=λ_=>[],n:=31}
def tY.call{t0 t1 t2 t3 h0 R}(H:tY t0 t1 t2 t3 h0 R):bR PG yL #[t0,t1,t2,t3] h0 R:=eO tY.ann Tryz.func9 H
def aLK(R:dI)(n38:iC)(t0:Value)(t6:Value)(t33:Value)(t34:Value)(h0:PH):Prop:=
 dA (dE PG (binOp BinOp.lss aR t34 t33)) λv40=>
 dW v40
 (dA (dE PG (gW t6)) λv41=>
 dA (dE PG (fieldAt fM v41 1)) λv42=>
 dA (dH PG h0 (loadAt eB v42)) λv43=>
 bR PG yB #[(Value.string {data:=#[0]}),t0] h0 λv44 h45=>
 dH PG h45 (loadAt eB v42)=some v43∧(dA (dE PG (indexAt eB v43 t34)) λv46=>
 dT PG (dX aT v46 v44) h45 λv47 h48=>
 (dA (dE PG (binOp BinOp.add aR t34 (Value.int IntKind.i64 1))) λv49=>
 n38 [t0,t6,t33,v49] h48)))
 (R (Value.tuple #[t6,(Value.int IntKind.i64 0)]) h0)
def aGd(t0:Value)(t1:Value)(h0:PH)(R:dI):Prop:=
 dA (dE PG (binOp BinOp.lss aR t0 (Value.int IntKind.i64 64))) λv1=>
 gG (yV v1) false (λk4=>k4 t0 h0) h0 λv2 h3=>
 gG (yV v1) false (λk7=>dA (dE PG (binOp BinOp.gtr aR v2 (Value.int IntKind.i64 512))) λv8=>k7 v8 h3) h3 λv5 h6=>
 dA (gA v1 (Value.bool true) v5) λv9=>
 gG (yV v9) false (λk12=>k12 t1 h6) h6 λv10 h11=>
 gG (yV v9) false (λk15=>dA (dE PG (binOp BinOp.lss aR v10 (Value.int IntKind.i64 1))) λv16=>k15 v16 h11) h11 λv13 h14=>
 dA (gA v9 (Value.bool true) v13) λv17=>
 gG (yV v17) false (λk20=>k20 t1 h14) h14 λv18 h19=>
 gG (yV v17) false (λk23=>dA (dE PG (binOp BinOp.gtr aR v18 (Value.int IntKind.i64 4096))) λv24=>k23 v24 h19) h19 λv21 h22=>
 dA (gA v17 (Value.bool true) v21) λv25=>
 dW v25
 (R (Value.tuple #[(Value.pointer none),(Value.int IntKind.i64 1)]) h22)
 (dA (dE PG (build fR #[(0,t0),(1,t1)])) λv26=>
 dA (lH PG (Instr.makeSlice eB t1 t1)) λx28=>∀r27,h22 r27=none->dA (dE PG (x28.2 r27)) λv29=>fK (PH.set h22 r27 x28.1) λh30=>
 dA (dE PG (build fM #[(0,v26),(1,v29)])) λv31=>
 ∀r32,h30 r32=none->fK (PH.set h30 r32 (.cells (Value.cells v31) fM)) λh33=>
 dA (dE PG (gW (pT r32 0))) λv34=>
 dA (dE PG (fieldAt fM v34 1)) λv35=>
 dA (dH PG h33 (loadAt eB v35)) λv36=>
 dA (dE PG (Builtin.len_ #[eB] aR #[v36])) λv37=>
 iV [0,6,33,34] (λn38 ρ h=>aLK R n38 (ρ 0) (ρ 6) (ρ 33) (ρ 34) h) [t0,(pT r32 0),v37,(Value.int IntKind.i64 0)] h33)
def aGd.ann:kW:={b:=λi=>match i with|7=>#[0,1,3,7,0,0,32,127,255]|_=>#[],ord:=λi=>match i with|7=>[0,1,2,3,4,5,6,7,8]|_=>[],keep:=λi=>match i with|5=>[0,6,33,34]|_=>[],n:=47}
def aGd.call{t0 t1 h0 R}(H:aGd t0 t1 h0 R):bR PG aJa #[t0,t1] h0 R:=eO aGd.ann Tryz.func24 H
def aGL(R:dI)(e:iC)(b c a:Value)(f:PH):Prop:=bR PG sA #[a] f λg d=>fL .lss aR g b λh=>dW h (bR PG sA #[a] d λi j=>fL .sub aR b i λk=>bR PG sA #[a] j λl m=>pP (Builtin.min_ #[aR,aR,aR] aR #[k,l,c]) λn=>bR PG kS #[a] m λo p=>pP (Instr.sliceAt aT o none (some n) none) λq=>bR PG jB #[a,q] p λv r=>e [b,c,a] r) (bR PG kS #[a] d λs u=>R s u)
def aAg(R:dI)(d b e:Value)(c:PH):Prop:=∀a,c a=none->fK (PH.set c a (.cells (eX PG eI) eI)) λf=>bR PG uS #[pT a 0,b] f λk g=>bR PG jB #[pT a 0,d] g λl i=>iV [7,8,9] (λj ρ h=>aGL R j (ρ 7) (ρ 8) (ρ 9) h) [b,e,pT a 0] i
def aG1(R:dI)(a b:Value)(c:PH):Prop:=fL .gtr aR b (.int .i64 8192) λe=>dW e (jH aT aR a λf=>fL .quo aR (.int .i64 8192) f λg=>jH aT aR a λh=>fL .mul aR g h λd=>iJ c .eql aR (.tmp 103) (.const (.int .i64 0)) d (.int .i64 0) λi=>dW i (jH aT aR a λj=>aAg R a b j c) (aAg R a b d c)) (aAg R a b b c)
def aDi(R:dI)(a b:Value)(c:PH):Prop:=aG1 R a b c
def sX(R:dI)(b a s:Value)(h:PH):Prop:=dW s (fL .leq aR a (.int .i64 128) λc=>iW c true b h λu i=>gG (yV c) true (λv=>bR PG tT #[.string {data:=aXS},u] i λw x=>v w x) i λy j=>dA (gA c y (.bool false)) λz=>dW z (pP (Instr.sliceAt aT (.string {data:=aXS}) none (some a) none) λA=>R A j) (fL .leq aR a (.int .i64 128) λd=>iW d true b j λB k=>gG (yV d) true (λC=>bR PG tT #[.string {data:=aXh},B] k λD E=>C D E) k λF l=>dA (gA d F (.bool false)) λG=>dW G (pP (Instr.sliceAt aT (.string {data:=aXh}) none (some a) none) λH=>R H l) (fL .leq aR a (.int .i64 64) λe=>iW e true b l λI m=>gG (yV e) true (λJ=>bR PG tT #[.string ⟨(Array.replicate 64 48)⟩,I] m λK L=>J K L) m λM n=>dA (gA e M (.bool false)) λN=>dW N (pP (Instr.sliceAt aT (.string ⟨(Array.replicate 64 48)⟩) none (some a) none) λO=>R O n) (fL .leq aR a (.int .i64 128) λf=>iW f true b n λP o=>gG (yV f) true (λQ=>bR PG tT #[.string {data:=aXC},P] o λS U=>Q S U) o λV p=>dA (gA f V (.bool false)) λW=>dW W (pP (Instr.sliceAt aT (.string {data:=aXC}) none (some a) none) λX=>R X p) (fL .leq aR a (.int .i64 64) λg=>iW g true b p λY q=>gG (yV g) true (λZ=>bR PG tT #[.string ⟨(Array.replicate 64 9)⟩,Y] q λa0 a1=>Z a0 a1) q λa2 r=>dA (gA g a2 (.bool false)) λa3=>dW a3 (pP (Instr.sliceAt aT (.string ⟨(Array.replicate 64 9)⟩) none (some a) none) λa4=>R a4 r) (aDi R b a r)))))) (aDi R b a h)
def aG6(R:dI)(b i:Value)(a:PH):Prop:=pP (convert aDR aR i) λc=>jH aT aR b λj=>iJ a .eql aR (.tmp 39) (.const (.int .i64 0)) j (.int .i64 0) λk=>dW k (R (.string ⟨#[]⟩) a) (pP (Instr.index aT b (.int .i64 0)) λd=>iJ a .eql eZ (.tmp 42) (.const (.int .u8 32)) d (.int .u8 32) λe=>dW e (sX R b c e a) (iJ a .eql eZ (.tmp 42) (.const (.int .u8 45)) d (.int .u8 45) λf=>dW f (sX R b c f a) (iJ a .eql eZ (.tmp 42) (.const (.int .u8 48)) d (.int .u8 48) λg=>dW g (sX R b c g a) (iJ a .eql eZ (.tmp 42) (.const (.int .u8 61)) d (.int .u8 61) λh=>dW h (sX R b c h a) (iJ a .eql eZ (.tmp 42) (.const (.int .u8 9)) d (.int .u8 9) λl=>sX R b c l a)))))
def aHm(R:dI)(b e:Value)(f:PH):Prop:=jH aT aR b λg=>pP (convert aR aDR g) λh=>pP (convert aR aDR e) λi=>bR PG aEo #[h,i] f λc j=>iD c 0 λk=>iD c 1 λd=>fL .gtr aDR k (.int .u64 0) λa=>iW a false d j λl m=>fV a false (binOp .gtr aDR l (.int .u64 9223372036854775807)) m λn o=>dA (gA a (.bool true) n) λp=>dW p (pP (Instr.makeInterface aT (.string ⟨#[115,116,114,105,110,103,115,58,32,82,101,112,101,97,116,32,111,117,116,112,117,116,32,108,101,110,103,116,104,32,111,118,101,114,102,108,111,119]⟩)) λq=>False) (aG6 R b d o)
def aDp(c b:Value)(a:PH)(R:dI):Prop:=iJ a .eql aR (.tmp 11) (.const (.int .i64 0)) b (.int .i64 0) λd=>dW d (R (.string ⟨#[]⟩) a) (iJ a .eql aR (.tmp 11) (.const (.int .i64 1)) b (.int .i64 1) λe=>dW e (R c a) (fL .lss aR b (.int .i64 0) λf=>dW f (pP (Instr.makeInterface aT (.string ⟨#[115,116,114,105,110,103,115,58,32,110,101,103,97,116,105,118,101,32,82,101,112,101,97,116,32,99,111,117,110,116]⟩)) λg=>False) (aHm R c b a)))
def aDp.call{t0 t1 h0 R}(H:aDp t0 t1 h0 R):bR PG yB #[t0,t1] h0 R:=eO (uH 38 [7,8,9] 125) Tryz.func47 H
def aD5(R:dI)(b c:Value)(a:PH):Prop:=gU b λd=>fA eI d 1 λe=>eN a eJ e λf=>pP (Builtin.cap_ #[eJ] aR #[f]) λg=>gU b λh=>fA eI h 1 λi=>eN a eJ i λj=>jH eJ aR j λk=>fL .sub aR g k λl=>fL .lss aR l c λm=>dW m (bR PG aD8 #[b,c] a λo n=>R (.tuple #[]) n) (R (.tuple #[]) a)
def qU(a b:Value)(c:PH)(R:dI):Prop:=bR PG mM #[a] c λf d=>fL .lss aR b (.int .i64 0) λe=>dW e (pP (Instr.makeInterface aT (.string ⟨#[115,116,114,105,110,103,115,46,66,117,105,108,100,101,114,46,71,114,111,119,58,32,110,101,103,97,116,105,118,101,32,99,111,117,110,116]⟩)) λg=>False) (aD5 R a b d)
def qU.ann:kW:={b:=λi=>match i with|3=>#[0,1,3,7,15,0,32,96,224,480,1023,0,4095]|_=>#[],ord:=λi=>match i with|3=>[0,1,2,3,4,5,6,7,8,9,10,11,12]|_=>[],keep:=λ_=>[],n:=25}
def qU.call{t0 t1 h0 R}(H:qU t0 t1 h0 R):bR PG uS #[t0,t1] h0 R:=eO qU.ann Tryz.func94 H
def nW(b:Value)(a:PH)(R:dI):Prop:=gU b λc=>fA eI c 0 λd=>eN a fC d λe=>iJ a .eql fC (.tmp 5) (.const (.pointer none)) e (.pointer none) λf=>dW f (dT PG (convert fC iM b) a λg h=>bR PG zN #[g] h λi j=>dT PG (convert iM fC i) j λk l=>gU b λm=>fA eI m 0 λn=>dT PG (dX fC n k) l λu o=>R (.tuple #[]) o) (gU b λp=>fA eI p 0 λq=>eN a fC q λr=>iJ a .neq fC (.tmp 17) (.tmp 18) r b λs=>dW s (False) (R (.tuple #[]) a))
def nW.call{t0 h0 R}(H:nW t0 h0 R):bR PG mM #[t0] h0 R:=eO (jU 20) Tryz.func152 H
def qY(a g:Value)(b:PH)(R:dI):Prop:=gU a λh=>fA eI h 1 λi=>eN b eJ i λj=>pP (Builtin.cap_ #[eJ] aR #[j]) λk=>fL .mul aR (.int .i64 2) k λl=>fL .add aR l g λm=>gU a λn=>fA eI n 1 λd=>eN b eJ d λe=>jH eJ aR e λo=>bR PG tU #[m] b λp c=>dH PG c (loadAt eJ d)=some e∧(pP (Instr.sliceAt eJ p none (some o) none) λf=>gU a λq=>fA eI q 1 λr=>eN c eJ r λs=>dT PG (Builtin.copy_ #[eJ,eJ] aR #[f,s]) c λy u=>gU a λv=>fA eI v 1 λw=>dT PG (dX eJ w f) u λz x=>R (.tuple #[]) x)
def qY.ann:kW:={b:=λi=>match i with|0=>#[0,1,3,7,15,31,0,127,255,0,512,1536,3584,7680,16383,32767]|_=>#[],ord:=λi=>match i with|0=>[0,1,2,3,4,5,6,7,9,10,11,12,13,8,14,15]|_=>[],keep:=λ_=>[],n:=30}
def qY.call{t0 t1 h0 R}(H:qY t0 t1 h0 R):bR PG aD8 #[t0,t1] h0 R:=eO qY.ann Tryz.func153 H
def lC(a b:Value)(d:PH)(R:dI):Prop:=bR PG mM #[a] d λn c=>gU a λe=>fA eI e 1 λf=>eN c eJ f λg=>dT PG (Builtin.append_ #[eJ,aT] eJ #[g,b]) c λh i=>gU a λj=>fA eI j 1 λk=>dT PG (dX eJ k h) i λo l=>jH aT aR b λm=>R (.tuple #[m,Value.nilIface]) l
def lC.call{t0 t1 h0 R}(H:lC t0 t1 h0 R):bR PG jB #[t0,t1] h0 R:=eO (jU 19) Tryz.func95 H
def lD(b:Value)(a:PH)(R:dI):Prop:=gU b λf=>fA eI f 1 λg=>eN a eJ g λh=>gU b λi=>fA eI i 1 λc=>eN a eJ c λd=>jH eJ aR d λj=>dT PG (Builtin.unsafeSliceData_ #[eJ] pV #[h]) a λk e=>dH PG e (loadAt eJ c)=some d∧(dT PG (Builtin.unsafeString_ #[pV,aR] aT #[k,j]) e λl m=>(R l m))
def lD.ann:kW:={b:=λi=>match i with|1=>#[0,1,3,7,15,0,32,96,224,480,1023,2047]|_=>#[],ord:=λi=>match i with|1=>[0,1,2,3,5,6,7,8,9,4,10,11]|_=>[],keep:=λ_=>[],n:=14}
def lD.call{t0 h0 R}(H:lD t0 h0 R):bR PG kS #[t0] h0 R:=eO lD.ann Tryz.func96 H
def aEe(a b:Value)(c:PH)(R:dI):Prop:=dW (.bool false) (pP (convert aDR gP a) λf=>pP (convert aDR gP b) λg=>bR PG aLI #[f,g] c λd h=>iD d 0 λi=>iD d 1 λj=>pP (convert gP aDR i) λk=>pP (convert gP aDR j) λl=>R (.tuple #[k,l]) h) (bR PG aG9 #[a,b] c λe m=>iD e 0 λn=>iD e 1 λo=>R (.tuple #[n,o]) m)
def aEe.call{t0 t1 h0 R}(H:aEe t0 t1 h0 R):bR PG aEo #[t0,t1] h0 R:=eO (jU 30) Tryz.func97 H
def aDH(a b:Value)(h:PH)(R:dI):Prop:=fL .and dN a (.int .u64 4294967295) λc=>fL .shr dN a (.int .u64 32) λd=>fL .and dN b (.int .u64 4294967295) λe=>fL .shr dN b (.int .u64 32) λf=>fL .mul dN c e λi=>fL .mul dN d e λj=>fL .shr dN i (.int .u64 32) λk=>fL .add dN j k λg=>fL .and dN g (.int .u64 4294967295) λl=>fL .shr dN g (.int .u64 32) λm=>fL .mul dN c f λn=>fL .add dN l n λo=>fL .mul dN d f λp=>fL .add dN p m λq=>fL .shr dN o (.int .u64 32) λr=>fL .add dN q r λs=>fL .mul dN a b λu=>R (.tuple #[s,u]) h
def aDH.call{t0 t1 h0 R}(H:aDH t0 t1 h0 R):bR PG aG9 #[t0,t1] h0 R:=eO (jU 51) Tryz.func155 H
def aAM(b:Value)(a:PH)(R:dI):Prop:=gU b λc=>fA eI c 1 λd=>eN a eJ d λe=>jH eJ aR e λf=>R f a
def aAM.call{t0 h0 R}(H:aAM t0 h0 R):bR PG sA #[t0] h0 R:=eO (jU 8) Tryz.func99 H
def aCd(c d:Value)(f:PH)(R:dI):Prop:=fL .mul aR c d λe=>pAl f (Instr.makeSlice eJ e e) λg a=>pE a (convert eJ aT g) λh=>pP (build dQ #[(0,c),(1,d),(2,h)]) λi=>∀b,a b=none->fK (PH.set a b (.cells i.cells dQ)) λj=>R (pT b 0) j
def aCd.call{t0 t1 h0 R}(H:aCd t0 t1 h0 R):bR PG aC2 #[t0,t1] h0 R:=eO (jU 14) Tryz.func25 H
def pO(a:Value)(c:PH)(R:dI):Prop:=gU a λh=>fA dU h 0 λi=>eN c hZ i λj=>gU a λk=>fA dU k 5 λl=>eN c aR l λm=>gU a λn=>fA dU n 6 λo=>eN c eD o λp=>bR PG aDN #[j,m,p] c λf q=>(iD f 0 λr=>iD f 1 λs=>gU a λu=>fA dU u 1 λv=>dT PG (dX fO v r) q λaf w=>(gU a λx=>fA dU x 2 λy=>dT PG (dX eY y s) w λag d=>(gU a λz=>fA dU z 3 λA=>eN d fN A λB=>gU a λC=>fA dU C 5 λD=>eN d aR D λE=>gU a λF=>fA dU F 6 λG=>eN d eD G λH=>bR PG yH #[B,E,H] d λg I=>(iD g 0 λJ=>iD g 1 λK=>gU a λL=>fA dU L 4 λM=>dT PG (dX fJ M J) I λah e=>(gU a λN=>fA dU N 2 λO=>eN e eY O λP=>iJ e .eql aR (.tmp 48) (.tmp 49) P K λb=>iW b true a e λQ S=>fV b true (gW Q) S λU V=>fV b true (fieldAt dU U 1) V λW X=>gZ b true (loadAt fO W) X λY Z=>gZ b true (gV .eql fO (.tmp 55) (.const (.pointer none)) Y (.pointer none)) Z λa0 a1=>iW b true a a1 λa2 a3=>fV b true (gW a2) a3 λa4 a5=>fV b true (fieldAt dU a4 4) a5 λa6 a7=>gZ b true (loadAt fJ a6) a7 λa8 a9=>gZ b true (gV .eql fJ (.tmp 60) (.const (.pointer none)) a8 (.pointer none)) a9 λaa ab=>gZ b true (gV .eql iI (.tmp 56) (.tmp 61) a0 aa) ab λac ad=>dA (gA b ac (.bool false)) λae=>R ae ad)))))
def pO.ann:kW:={b:=λi=>match i with|2=>#[0,0,0,4,12,28,0,64,192,448,0,1024,3072,7168,16380,32764,65532,65532,131069,393213,917501,2097151,4194303,8388607]|3=>#[0,0,2,6,14,0,32,96,224,0,512,1536,3584,8190,16382,32766,32766,65535,196607,458751,1048575]|4=>#[0,1,3,7,0,31,63,127,255,511,1023,2047,127,4223,12415,28799,61567,131071,262143,524287]|_=>#[],ord:=λi=>match i with|2=>[0,1,2,3,4,5,6,7,8,9,10,11,12,13,14,15,16,17,18,19,20,21,22,23]|3=>[0,1,2,3,4,5,6,7,8,9,10,11,12,13,14,15,16,17,18,19,20]|4=>[0,1,2,3,4,5,6,7,8,9,10,11,12,13,14,15,16,17,18,19]|_=>[],keep:=λ_=>[],n:=64}
def pO.call{t0 h0 R}(H:pO t0 h0 R):bR PG kR #[t0] h0 R:=eO pO.ann Tryz.func10 H
def aCf(R:dI)(g c d:Value)(e:PH):Prop:=eN e cR c λh=>bR PG aCD #[h] e λi j=>bR PG wN #[d,i] j λf a=>iJ a .neq eY (.tmp 47) (.const (.int .i64 0)) f (.int .i64 0) λk=>dW k (R (.tuple #[.pointer none,f]) a) (eN a cR c λl=>pP (build gS #[(0,d),(1,g),(2,l)]) λm=>∀b,a b=none->fK (PH.set a b (.cells m.cells gS)) λn=>R (.tuple #[pT b 0,.int .i64 0]) n)
def aFU(q b r:Value)(i:PH)(R:dI):Prop:=∀d,i d=none->fK (PH.set i d (.cells r.cells eD)) λe=>eN e eD (pT d 0) λs=>pP (build cR #[(0,s)]) λu=>∀a,e a=none->fK (PH.set e a (.cells (eX PG cR) cR)) λv=>dT PG (dX cR (pT a 0) u) v λE j=>eN j cR (pT a 0) λw=>bR PG xG #[w,b] j λk f=>iJ f .neq eY (.tmp 19) (.const (.int .i64 0)) k (.int .i64 0) λx=>dW x (R (.tuple #[.pointer none,k]) f) (bR PG aJh #[q] f λg c=>iD g 0 λl=>iD g 1 λm=>iD g 2 λn=>iJ c .neq eY (.tmp 28) (.const (.int .i64 0)) n (.int .i64 0) λy=>dW y (R (.tuple #[.pointer none,n]) c) (jH eB aR m λz=>fL .gtr aR z (.int .i64 0) λA=>dW A (bR PG aE3 #[b,m] c λo B=>iD o 0 λC=>iD o 1 λp=>dT PG (dX cR (pT a 0) C) B λF h=>iJ h .neq eY (.tmp 40) (.const (.int .i64 0)) p (.int .i64 0) λD=>dW D (R (.tuple #[.pointer none,p]) h) (aCf R b (pT a 0) l h)) (aCf R b (pT a 0) l c)))
def aFU.call{t0 t1 t2 h0 R}(H:aFU t0 t1 t2 h0 R):bR PG aDN #[t0,t1,t2] h0 R:=eO (jU 55) Tryz.func11 H
def aBv(m n:Value)(d:PH)(R:dI):Prop:=∀a,d a=none->fK (PH.set d a (.cells m.cells cR)) λe=>fA cR (pT a 0) 1 λo=>eN e dC o λp=>bR PG aGm #[n,p] e λf q=>iD f 0 λr=>iD f 1 λc=>fA cR (pT a 0) 0 λs=>pP (Instr.sliceAt eD s none none none) λu=>bR PG nJ #[u,(.func (Fn.func uF) #[] #[])] q λv g=>iJ g .eql eY (.tmp 19) (.const (.int .i64 1)) c (.int .i64 1) λh=>iW h false v g λw b=>dA (gA h (.bool true) w) λx=>dW x (R (.int .i64 1) b) (iJ b .neq eY (.tmp 25) (.const (.int .i64 0)) c (.int .i64 0) λy=>dW y (R c b) (fA cR (pT a 0) 1 λi=>eN b dC i λj=>bR PG yJ #[r] b λz k=>dH PG k (loadAt dC i)=some j∧(bR PG qN #[z,j] k λA l=>(pP (Op.unary .not A) λB=>dW B (R (.int .i64 15) l) (R (.int .i64 0) l)))))
def aBv.ann:kW:={b:=λi=>match i with|7=>#[0,1,0,4,15,31,63]|_=>#[],ord:=λi=>match i with|7=>[0,2,3,1,4,5,6]|_=>[],keep:=λ_=>[],n:=35}
def aBv.call{t0 t1 h0 R}(H:aBv t0 t1 h0 R):bR PG xG #[t0,t1] h0 R:=eO aBv.ann Tryz.func27 H
def aME(R:dI)(u:iC)(n o g j p q k:Value)(b:PH):Prop:=fL .lss aR k q λv=>dW v (nP dC p k λw=>eN b dJ w λx=>∀a,b a=none->fK (PH.set b a (.cells (eX PG dJ) dJ)) λy=>dT PG (dX dJ (pT a 0) x) y λak l=>fA dJ (pT a 0) 1 λz=>eN l aR z λA=>iJ l .neq aR (.tmp 29) (.const (.int .i64 1)) A (.int .i64 1) λh=>fV h true (fieldAt dJ (pT a 0) 1) l λB C=>gZ h true (loadAt aR B) C λD E=>gZ h true (gV .neq aR (.tmp 33) (.const (.int .i64 2)) D (.int .i64 2)) E λF G=>dA (gA h F (.bool false)) λc=>fV c false (fieldAt dJ (pT a 0) 0) G λH I=>gZ c false (loadAt cT H) I λJ r=>gG (yV c) false (λK=>bR PG wS #[J] r λL M=>K L M) r λN O=>gZ c false (gV .neq eY (.tmp 39) (.const (.int .i64 0)) N (.int .i64 0)) O λP d=>dA (gA c (.bool true) P) λQ=>dW Q (R (.tuple #[.pointer none,.int .i64 1]) d) (fA dJ (pT a 0) 0 λS=>fA cT S 0 λU=>eN d aR U λV=>fA dJ (pT a 0) 0 λW=>fA cT W 1 λX=>eN d dN X λY=>pP (build gR #[(0,V),(1,Y)]) λZ=>∀e,d e=none->fK (PH.set d e (.cells (eX PG gR) gR)) λa0=>dT PG (dX gR (pT e 0) Z) a0 λal f=>gU g λa1=>fA iH a1 0 λa2=>eN f fB a2 λa3=>eN f gR (pT e 0) λa4=>pE f (Instr.lookup fB a3 a4 true) λs=>iD s 0 λa5=>iD s 1 λa6=>∀m,f m=none->fK (PH.set f m (.cells (eX PG dJ) dJ)) λa7=>dT PG (dX dJ (pT m 0) a5) a7 λam a8=>(iW j false a6 a8 λa9 i=>dA (gA j (.bool true) a9) λaa=>gU g λab=>fA iH ab 0 λac=>eN i fB ac λad=>eN i gR (pT e 0) λae=>eN i dJ (pT a 0) λaf=>dT PG (aJi fB ad ae af) i λan ag=>(fL .add aR k (.int .i64 1) λah=>u [n,o,g,aa,p,q,ah] ag)))) (dW j (R (.tuple #[.pointer none,.int .i64 4]) b) (jH dC aR o λai=>fL .gtr aR ai n λaj=>dW aj (R (.tuple #[.pointer none,.int .i64 2]) b) (R (.tuple #[g,.int .i64 0]) b)))
def aGZ(c a:Value)(f:PH)(R:dI):Prop:=bR PG aIN #[c] f λd b=>iD d 0 λg=>iD d 1 λe=>iJ b .neq eY (.tmp 19) (.const (.int .i64 0)) e (.int .i64 0) λi=>dW i (R (.tuple #[.pointer none,e]) b) (jH dC aR a λj=>iV [0,1,6,8,22,23,24] (λk ρ h=>aME R k (ρ 0) (ρ 1) (ρ 6) (ρ 8) (ρ 22) (ρ 23) (ρ 24) h) [c,a,g,.bool false,a,j,.int .i64 0] b)
def aGZ.ann:kW:={b:=λi=>match i with|11=>#[0,1,3,7,0,31,63,127,127,0,767,2047]|13=>#[0,1,3,7,0,0,63]|_=>#[],ord:=λi=>match i with|11=>[0,1,2,3,4,5,6,7,8,9,10,11]|13=>[0,1,2,3,4,5,6]|_=>[],keep:=λi=>match i with|6=>[0,1,6,8,22,23,24]|_=>[],n:=77}
def aGZ.call{t0 t1 h0 R}(H:aGZ t0 t1 h0 R):bR PG aGm #[t0,t1] h0 R:=eO aGZ.ann Tryz.func52 H
def aI8(a:Value)(f:PH)(R:dI):Prop:=fL .lss aR a (.int .i64 1) λb=>iW b false a f λg h=>fV b false (binOp .gtr aR g (.int .i64 40)) h λi d=>dA (gA b (.bool true) i) λj=>dW j (R (.tuple #[.pointer none,.int .i64 1]) d) (pAl d (Instr.makeMap fB none) λk e=>pP (build iH #[(0,k),(1,a)]) λl=>∀c,e c=none->fK (PH.set e c (.cells l.cells iH)) λm=>R (.tuple #[pT c 0,.int .i64 0]) m)
def aI8.call{t0 h0 R}(H:aI8 t0 h0 R):bR PG aIN #[t0] h0 R:=eO (jU 14) Tryz.func112 H
def aFt(i:Value)(f:PH)(R:dI):Prop:=∀a,f a=none->fK (PH.set f a (.cells i.cells cT)) λg=>fA cT (pT a 0) 0 λj=>eN g aR j λk=>fL .lss aR k (.int .i64 0) λc=>fV c false (fieldAt cT (pT a 0) 0) g λl m=>gZ c false (loadAt aR l) m λn o=>fV c false (binOp .gtr aR n (.int .i64 1)) o λp q=>dA (gA c (.bool true) p) λd=>fV d false (fieldAt cT (pT a 0) 1) q λr s=>gZ d false (loadAt dN r) s λu v=>gZ d false (gV .eql dN (.tmp 13) (.const (.int .u64 0)) u (.int .u64 0)) v λw x=>dA (gA d (.bool true) w) λe=>fV e false (fieldAt cT (pT a 0) 2) x λy z=>gZ e false (loadAt dN y) z λA B=>gZ e false (gV .eql dN (.tmp 18) (.const (.int .u64 0)) A (.int .u64 0)) B λC D=>dA (gA e (.bool true) C) λb=>fV b false (fieldAt cT (pT a 0) 3) D λE F=>gZ b false (loadAt aT E) F λG H=>fV b false (Builtin.len_ #[aT] aR #[G]) H λI J=>fV b false (binOp .gtr aR I (.int .i64 64)) J λK h=>dA (gA b (.bool true) K) λL=>dW L (R (.int .i64 1) h) (R (.int .i64 0) h)
def aFt.call{t0 h0 R}(H:aFt t0 h0 R):bR PG wS #[t0] h0 R:=eO (jU 27) Tryz.func113 H
def mI(a b:Value)(c:PH)(R:dI):Prop:=bR PG sN #[a,b] c λd e=>fL .geq aR d (.int .i64 0) λf=>R f e
def mI.call{t0 t1 h0 R}(H:mI t0 t1 h0 R):bR PG nJ #[t0,t1] h0 R:=eO (jU 9) Tryz.func53 H
def sK(R:dI)(g:iC)(c d e a:Value)(b:PH):Prop:=fL .lss aR a e λh=>dW h (nP zF c a λi=>eN b dK i λj=>aAK PG d #[j] b λk f=>dW k (R a f) (fL .add aR a (.int .i64 1) λl=>g [c,d,e,l] f)) (R (.int .i64 (-1)) b)
def mO(a b:Value)(c:PH)(R:dI):Prop:=jH zF aR a λd=>iV [0,1,7,8] (λe ρ h=>sK R e (ρ 0) (ρ 1) (ρ 7) (ρ 8) h) [a,b,d,.int .i64 0] c
def mO.call{t0 t1 h0 R}(H:mO t0 t1 h0 R):bR PG sN #[t0,t1] h0 R:=eO (uH 2 [0,1,7,8] 19) Tryz.func114 H
def aDl(e:Value)(c:PH)(R:dI):Prop:=∀a,c a=none->fK (PH.set c a (.cells e.cells dK)) λd=>fA dK (pT a 0) 1 λf=>eN d aR f λg=>fL .lss aR g (.int .i64 0) λb=>fV b false (fieldAt dK (pT a 0) 1) d λh i=>gZ b false (loadAt aR h) i λj k=>fV b false (binOp .gtr aR j (.int .i64 65535)) k λl m=>dA (gA b (.bool true) l) λn=>R n m
def aDl.call{t0 h0 R}(H:aDl t0 h0 R):bR PG uF #[t0] h0 R:=eO (jU 11) Tryz.func54 H
def wC(R:dI)(f:iC)(c d e b:Value)(a:PH):Prop:=fL .lss aR b e λg=>dW g (nP dC c b λh=>eN a dJ h λi=>nP dC d b λj=>eN a dJ j λk=>iJ a .neq dJ (.tmp 19) (.tmp 23) i k λl=>dW l (R (.bool false) a) (fL .add aR b (.int .i64 1) λm=>f [c,d,e,m] a)) (R (.bool true) a)
def lP(a c:Value)(b:PH)(R:dI):Prop:=jH dC aR a λd=>jH dC aR c λe=>iJ b .neq aR (.tmp 7) (.tmp 9) d e λf=>dW f (R (.bool false) b) (jH dC aR a λg=>iV [0,1,12,13] (λi ρ h=>wC R i (ρ 0) (ρ 1) (ρ 12) (ρ 13) h) [a,c,g,.int .i64 0] b)
def lP.ann:kW:={b:=λi=>match i with|6=>#[0,0,3,7,0,0,48,112,255]|_=>#[],ord:=λi=>match i with|6=>[0,1,2,3,4,5,6,7,8]|_=>[],keep:=λi=>match i with|4=>[0,1,12,13]|_=>[],n:=26}
def lP.call{t0 t1 h0 R}(H:lP t0 t1 h0 R):bR PG qN #[t0,t1] h0 R:=eO lP.ann Tryz.func55 H
def aBe(e:Value)(b:PH)(R:dI):Prop:=gU e λf=>fA iH f 0 λg=>eN b fB g λh=>bR PG lZ #[h] b λi j=>bR PG xT #[i] j λa k=>bR PG pG #[a,(.func (Fn.func sC) #[] #[])] k λo l=>jH dC aR a λc=>pAl l (Instr.makeSlice dC c c) λd m=>dT PG (Builtin.copy_ #[dC,dC] aR #[d,a]) m λp n=>R d n
def aBe.call{t0 h0 R}(H:aBe t0 h0 R):bR PG yJ #[t0] h0 R:=eO (jU 20) Tryz.func56 H
def uL(a:Value)(b:PH)(R:dI):Prop:=bR PG oX #[(.slice none 0 0),a] b λc d=>R c d
def uL.call{t0 h0 R}(H:uL t0 h0 R):bR PG xT #[t0] h0 R:=eO (jU 5) Tryz.func115 H
noncomputable def iU:Code:=((zM (aB0 Tryz.f166)).getD 0 (.skip,.skip)).1
noncomputable def iP:Code:=((zM (aB0 Tryz.f166)).getD 0 (.skip,.skip)).2
def jL(kv:dI)(l:Nat)(c e:Value)(d:PH):Prop:=∀a,d a=none->fK (PH.set d a (.cells (eX PG dJ) dJ)) λf=>dT PG (dX dJ (pT a 0) e) f λp g=>dT PG (Instr.beginRound l) g λ_ b=>eN b dC c λh=>eN b dJ (pT a 0) λi=>pAl b (buildSlice dC 1 #[(0,i)]) λj k=>dT PG (Builtin.append_ #[dC,dC] dC #[h,j]) k λm n=>dT PG (dX dC c m) n λq o=>dT PG (Instr.endRound l none) o kv
def mX(d e:Value)(b:PH)(R:dI):Prop:=∀a,b a=none->fK (PH.set b a (.cells d.cells dC)) λf=>aEV PG 13 e #[7] iU iP (λc=>eN c dC (pT a 0) λg=>R g c) (λh=>R (.slice none 0 0) h) [] [(2,(pT a 0))] f
def mX.call{t0 t1 h0 R}(H:mX t0 t1 h0 R):bR PG oX #[t0,t1] h0 R:=eO (uH 3 [2] 13) Tryz.func166 H
def jL.eq(kv:dI)(l:Nat)(ρ:lR)(h0:PH):aMv PG (uH 3 [2] 13) 200 l iU iP kv ρ h0=jL kv l (ρ 2) (ρ 7) h0:=by kernel_rfl
def jL.next{kv:dI}{l:Nat}{f:FuncId}{tmps:Array Value}{h0:PH}(hs:tmps.size=13)(H:jL kv l (tmps.getD 2 undef) (tmps.getD 7 undef) h0):tG PG (.round l f tmps iU iP) h0 kv:=
 aOX (uH 3 [2] 13) 200 mix hs (by kernel_rfl) (by kernel_rfl) (jL.eq kv l (λt=>tmps.getD t undef) h0) H
def kP(c:Value)(b:PH)(R:dI):Prop:=∀a,b a=none->fK (PH.set b a (.cells c.cells fB)) λd=>pP (Instr.makeFunc (Fn.func iO) #[] #[pT a 0]) λe=>R e d
def kP.call{t0 h0 R}(H:kP t0 h0 R):bR PG lZ #[t0] h0 R:=eO (jU 4) Tryz.func116 H
def oG(R:dI)(h:iC)(c b:Value)(i:PH):Prop:=dT PG (Instr.next b false T_) i λj d=>iD j 0 λk=>dW k (dT PG (Instr.entry b) d λl e=>iD l 1 λm=>∀a,e a=none->fK (PH.set e a (.cells (eX PG dJ) dJ)) λn=>dT PG (dX dJ (pT a 0) m) n λr f=>eN f dJ (pT a 0) λo=>aAK PG c #[o] f λp g=>pP (Op.unary .not p) λq=>dW q (R (.tuple #[]) g) (h [c,b] g)) (R (.tuple #[]) d)
def kH(b c:Value)(a:PH)(R:dI):Prop:=eN a fB c λd=>dT PG (Instr.range fB d) a λe f=>iV [0,6] (λg ρ h=>oG R g (ρ 0) (ρ 6) h) [b,e] f
def kH.call{t0 t1 h0 R}(H:kH t0 t1 h0 R):bR PG iO #[t0,t1] h0 R:=eO (uH 1 [0,6] 15) Tryz.func167 H
def rV(k l:Value)(e:PH)(R:dI):Prop:=∀b,e b=none->fK (PH.set e b (.cells k.cells dJ)) λf=>∀c,f c=none->fK (PH.set f c (.cells l.cells dJ)) λa=>fA dJ (pT b 0) 0 λm=>fA cT m 0 λn=>eN a aR n λo=>fA dJ (pT c 0) 0 λp=>fA cT p 0 λq=>eN a aR q λr=>fA dJ (pT b 0) 0 λs=>fA cT s 1 λg=>eN a dN g λh=>fA dJ (pT c 0) 0 λu=>fA cT u 1 λi=>eN a dN i λj=>bR PG aDT #[o,r] a λv d=>dH PG d (loadAt dN i)=some j∧dH PG d (loadAt dN g)=some h∧(bR PG aBo #[h,j] d λw x=>(pAl x (buildSlice nA 2 #[(0,v),(1,w)]) λy z=>bR PG aHf #[y] z λA B=>(R A B)))
def rV.ann:kW:={b:=λi=>match i with|1=>#[0,1,3,0,8,24,63,0,128,384,0,1024,3072,8191,16383,32767,65535]|_=>#[],ord:=λi=>match i with|1=>[0,1,2,3,4,5,7,8,9,10,11,12,6,13,14,15,16]|_=>[],keep:=λ_=>[],n:=21}
def rV.call{t0 t1 h0 R}(H:rV t0 t1 h0 R):bR PG sC #[t0,t1] h0 R:=eO rV.ann Tryz.func118 H
def aKa(R:dI)(g:iC)(b d e c:Value)(a:PH):Prop:=fL .lss aR c e λh=>dW h (nP nA d c λi=>eN a aR i λf=>iJ a .neq aR (.tmp 12) (.tmp 13) f b λj=>dW j (R f a) (fL .add aR c (.int .i64 1) λk=>g [b,d,e,k] a)) (R b a)
def aIF(a:Value)(b:PH)(R:dI):Prop:=jH nA aR a λc=>iV [3,6,7,8] (λd ρ h=>aKa R d (ρ 3) (ρ 6) (ρ 7) (ρ 8) h) [(.int .i64 0),a,c,.int .i64 0] b
def aIF.call{t0 h0 R}(H:aIF t0 h0 R):bR PG aHf #[t0] h0 R:=eO (uH 3 [3,6,7,8] 18) Tryz.func119 H
def aC6(b c:Value)(e:PH)(R:dI):Prop:=bR PG aCR #[b] e λf g=>bR PG aCR #[c] g λd a=>dW f (dW d (R (.int .i64 0) a) (R (.int .i64 (-1)) a)) (dW d (R (.int .i64 1) a) (fL .lss aR b c λh=>dW h (R (.int .i64 (-1)) a) (fL .gtr aR b c λi=>dW i (R (.int .i64 1) a) (R (.int .i64 0) a))))
def aC6.call{t0 t1 h0 R}(H:aC6 t0 t1 h0 R):bR PG aDT #[t0,t1] h0 R:=eO (jU 20) Tryz.func120 H
def aEX(a:Value)(b:PH)(R:dI):Prop:=iJ b .neq aR (.tmp 3) (.tmp 4) a a λc=>R c b
def aEX.call{t0 h0 R}(H:aEX t0 h0 R):bR PG aCR #[t0] h0 R:=eO (jU 6) Tryz.func170 H
def aAo(b c:Value)(e:PH)(R:dI):Prop:=bR PG zY #[b] e λf g=>bR PG zY #[c] g λd a=>dW f (dW d (R (.int .i64 0) a) (R (.int .i64 (-1)) a)) (dW d (R (.int .i64 1) a) (fL .lss dN b c λh=>dW h (R (.int .i64 (-1)) a) (fL .gtr dN b c λi=>dW i (R (.int .i64 1) a) (R (.int .i64 0) a))))
def aAo.call{t0 t1 h0 R}(H:aAo t0 t1 h0 R):bR PG aBo #[t0,t1] h0 R:=eO (jU 20) Tryz.func121 H
def aCe(a:Value)(b:PH)(R:dI):Prop:=iJ b .neq dN (.tmp 3) (.tmp 4) a a λc=>R c b
def aCe.call{t0 h0 R}(H:aCe t0 h0 R):bR PG zY #[t0] h0 R:=eO (jU 6) Tryz.func171 H
def aGC(R:dI)(t0:Value)(t5:Value)(h0:PH):Prop:=
 dA (dE PG (gW t0)) λv84=>
 dA (dE PG (fieldAt fM v84 0)) λv85=>
 dA (dH PG h0 (loadAt fR v85)) λv86=>
 dA (dE PG (gW t5)) λv87=>
 dA (dE PG (fieldAt fH v87 1)) λv88=>
 dA (dE PG (fieldAt dR v88 0)) λv89=>
 dA (dH PG h0 (loadAt dN v89)) λv90=>
 dA (dE PG (gW t5)) λv91=>
 dA (dE PG (fieldAt fH v91 0)) λv92=>
 dA (dH PG h0 (loadAt fQ v92)) λv93=>
 dA (dE PG (gW t5)) λv94=>
 dA (dE PG (fieldAt fH v94 0)) λv95=>
 dA (dH PG h0 (loadAt fQ v95)) λv96=>
 dA (dE PG (gW t5)) λv97=>
 dA (dE PG (fieldAt fH v97 1)) λv98=>
 dA (dE PG (fieldAt dR v98 1)) λv99=>
 dA (dH PG h0 (loadAt aR v99)) λv100=>
 dA (dE PG (gW t5)) λv101=>
 dA (dE PG (fieldAt fH v101 0)) λv102=>
 dA (dH PG h0 (loadAt fQ v102)) λv103=>
 bR PG lK #[v86] h0 λv104 h105=>
 dH PG h105 (loadAt fQ v102)=some v103∧dH PG h105 (loadAt aR v99)=some v100∧dH PG h105 (loadAt fQ v95)=some v96∧dH PG h105 (loadAt fQ v92)=some v93∧dH PG h105 (loadAt dN v89)=some v90∧(bR PG yC #[v96,v100] h105 λv106 h107=>
 dH PG h107 (loadAt fQ v102)=some v103∧dH PG h107 (loadAt fQ v92)=some v93∧dH PG h107 (loadAt dN v89)=some v90∧(bR PG qZ #[v103] h107 λv108 h109=>
 dH PG h109 (loadAt fQ v92)=some v93∧dH PG h109 (loadAt dN v89)=some v90∧(bR PG yD #[v93,v106,v108] h109 λv110 h111=>
 dH PG h111 (loadAt dN v89)=some v90∧(bR PG aHV #[v104,v90,v110] h111 λv112 h113=>
 (dA (dE PG (extract v112 0)) λv114=>
 dA (dE PG (extract v112 1)) λv115=>
 dA (dE PG (Builtin.len_ #[eB] aR #[v114])) λv116=>
 dA (dE PG (convert aR dN v116)) λv117=>
 dA (dE PG (gW t5)) λv118=>
 dA (dE PG (fieldAt fH v118 3)) λv119=>
 dT PG (dX aR v119 v115) h113 λv120 h121=>
 dA (dE PG (gW t5)) λv122=>
 dA (dE PG (fieldAt fH v122 4)) λv123=>
 dT PG (dX dN v123 v117) h121 λv124 h125=>
 R (Value.tuple #[t5,v114,(Value.int IntKind.i64 0)]) h125)))))
def aGh(t0:Value)(h0:PH)(R:dI):Prop:=
 dA (dE PG (build fQ #[(0,t0)])) λv1=>
 dA (dE PG (build fH #[(0,v1)])) λv2=>
 ∀r3,h0 r3=none->fK (PH.set h0 r3 (.cells (Value.cells v2) fH)) λh4=>
 dA (dE PG (gW t0)) λv5=>
 dA (dE PG (fieldAt fM v5 0)) λv6=>
 dA (dH PG h4 (loadAt fR v6)) λv7=>
 bR PG tS #[v7] h4 λv8 h9=>
 dA (dE PG (binOp BinOp.lss aR v8 (Value.int IntKind.i64 4))) λv10=>
 dW v10
 (R (Value.tuple #[(Value.pointer none),(Value.slice none 0 0),(Value.int IntKind.i64 1)]) h9)
 (bR PG aAh #[t0] h9 λv11 h12=>
 dA (dH PG h12 (gV BinOp.neq eY (.tmp 24) (.const (Value.int IntKind.i64 0)) v11 (Value.int IntKind.i64 0))) λv13=>
 dW v13
 (R (Value.tuple #[(Value.pointer none),(Value.slice none 0 0),v11]) h12)
 (dA (dE PG (gW t0)) λv14=>
 dA (dE PG (fieldAt fM v14 0)) λv15=>
 dA (dH PG h12 (loadAt fR v15)) λv16=>
 dA (dE PG (gW (pT r3 0))) λv17=>
 dA (dE PG (fieldAt fH v17 0)) λv18=>
 dA (dH PG h12 (loadAt fQ v18)) λv19=>
 dA (dE PG (gW (pT r3 0))) λv20=>
 dA (dE PG (fieldAt fH v20 0)) λv21=>
 dA (dH PG h12 (loadAt fQ v21)) λv22=>
 bR PG lK #[v16] h12 λv23 h24=>
 dH PG h24 (loadAt fQ v21)=some v22∧dH PG h24 (loadAt fQ v18)=some v19∧(bR PG yD #[v19,(Value.int IntKind.i64 0),(Value.int IntKind.i64 1)] h24 λv25 h26=>
 dH PG h26 (loadAt fQ v21)=some v22∧(bR PG yD #[v22,(Value.int IntKind.i64 1),(Value.int IntKind.i64 1)] h26 λv27 h28=>
 (dA (lH PG (buildSlice eB 2 #[(0,v25),(1,v27)])) λx30=>∀r29,h28 r29=none->dA (dE PG (x30.2 r29)) λv31=>fK (PH.set h28 r29 x30.1) λh32=>
 bR PG aGj #[v23,v31] h32 λv33 h34=>
 (dA (dE PG (extract v33 0)) λv35=>
 dA (dE PG (extract v33 1)) λv36=>
 dA (dE PG (gW (pT r3 0))) λv37=>
 dA (dE PG (fieldAt fH v37 1)) λv38=>
 dT PG (dX dR v38 v35) h34 λv39 h40=>
 (dA (dE PG (gW (pT r3 0))) λv41=>
 dA (dE PG (fieldAt fH v41 2)) λv42=>
 dT PG (dX aR v42 v36) h40 λv43 h44=>
 (dA (dE PG (gW (pT r3 0))) λv45=>
 dA (dE PG (fieldAt fH v45 2)) λv46=>
 dA (dH PG h44 (loadAt aR v46)) λv47=>
 dA (dE PG (binOp BinOp.lss aR v47 (Value.int IntKind.i64 0))) λv48=>
 dW v48
 (dA (dE PG (build dR #[(0,(Value.int IntKind.u64 1))])) λv49=>
 dA (dE PG (gW (pT r3 0))) λv50=>
 dA (dE PG (fieldAt fH v50 1)) λv51=>
 dT PG (dX dR v51 v49) h44 λv52 h53=>
 dA (dE PG (gW (pT r3 0))) λv54=>
 dA (dE PG (fieldAt fH v54 2)) λv55=>
 dT PG (dX aR v55 (Value.int IntKind.i64 1)) h53 λv56 h57=>
 dA (dE PG (gW t0)) λv58=>
 dA (dE PG (fieldAt fM v58 0)) λv59=>
 dA (dH PG h57 (loadAt fR v59)) λv60=>
 dA (dE PG (gW (pT r3 0))) λv61=>
 dA (dE PG (fieldAt fH v61 1)) λv62=>
 dA (dH PG h57 (loadAt dR v62)) λv63=>
 bR PG lK #[v60] h57 λv64 h65=>
 dH PG h65 (loadAt dR v62)=some v63∧(bR PG aEL #[v64,v63] h65 λv66 h67=>
 (dA (dE PG (extract v66 0)) λv68=>
 dA (dE PG (extract v66 1)) λv69=>
 dA (dE PG (gW (pT r3 0))) λv70=>
 dA (dE PG (fieldAt fH v70 0)) λv71=>
 dA (dH PG h67 (loadAt fQ v71)) λv72=>
 dA (dE PG (gW (pT r3 0))) λv73=>
 dA (dE PG (fieldAt fH v73 2)) λv74=>
 dA (dH PG h67 (loadAt aR v74)) λv75=>
 dA (lH PG (buildSlice eB 1 #[(0,v68)])) λx77=>∀r76,h67 r76=none->dA (dE PG (x77.2 r76)) λv78=>fK (PH.set h67 r76 x77.1) λh79=>
 bR PG uZ #[v72,v75,v78] h79 λv80 h81=>
 (dA (dH PG h81 (gV BinOp.neq eY (.tmp 89) (.const (Value.int IntKind.i64 0)) v80 (Value.int IntKind.i64 0))) λv82=>
 dW v82
 (R (Value.tuple #[(Value.pointer none),(Value.slice none 0 0),v80]) h81)
 (aGC R t0 (pT r3 0) h81)))))
 (aGC R t0 (pT r3 0) h44)))))))))
def aGh.ann:kW:={b:=λi=>match i with|7=>#[0,0,0,4,12,28,60,0,128,384,896,2044,0,4096,12288,28672,65532,131068,262140,524284,1048572,1048572,2097149,6291453,14680061,33554431,67108863,134217727]|10=>#[0,1,3,7,15,0,32,96,224,511,1023,2047,2047,4095,16383]|11=>#[0,1,3,7,0,16,48,112,0,256,1023,2047]|14=>#[0,1,3,7,15,0,32,96,224,480,0,1024,3072,7168,0,16384,49152,114688,0,262144,786432,1835008,3932160,8372255,0,16777216,50331648,117440512,268419103,536869919,1073741823,2147483647,4294967295,4294967295,8589934591,34359738367]|_=>#[],ord:=λi=>match i with|7=>[0,1,2,3,4,5,7,8,9,10,12,13,14,15,6,11,16,17,18,19,20,21,22,23,24,25,26,27]|10=>[0,1,2,3,5,6,7,8,4,9,10,11,12,13,14]|11=>[0,1,2,3,4,5,6,7,8,9,10,11]|14=>[0,1,2,3,5,6,7,8,9,10,11,12,13,14,15,16,17,18,19,20,21,22,24,25,26,27,4,23,28,29,30,31,32,33,34,35]|_=>[],keep:=λ_=>[],n:=138}
def aGh.call{t0 h0 R}(H:aGh t0 h0 R):bR PG aJh #[t0] h0 R:=eO aGh.ann Tryz.func28 H
def xH(t0:Value)(h0:PH)(R:dI):Prop:=
 ∀r1,h0 r1=none->fK (PH.set h0 r1 (.cells (Value.cells t0) fR)) λh2=>
 dA (dE PG (fieldAt fR (pT r1 0) 1)) λv3=>
 dA (dH PG h2 (loadAt aR v3)) λv4=>
 R v4 h2
def xH.call{t0 h0 R}(H:xH t0 h0 R):bR PG tS #[t0] h0 R:=eO (jU 5) Tryz.func57 H
def aHE(R:dI)(n7:iC)(t0:Value)(t10:Value)(t11:Value)(t12:Value)(h0:PH):Prop:=
 dA (dE PG (binOp BinOp.lss aR t12 t11)) λv9=>
 dW v9
 (dA (dE PG (indexAt fS t10 t12)) λv10=>
 dA (dH PG h0 (loadAt fP v10)) λv11=>
 ∀r12,h0 r12=none->fK (PH.set h0 r12 (.cells (eX PG fP) fP)) λh13=>
 dT PG (dX fP (pT r12 0) v11) h13 λv14 h15=>
 dA (dE PG (gW t0)) λv16=>
 dA (dE PG (fieldAt fM v16 1)) λv17=>
 dA (dH PG h15 (loadAt eB v17)) λv18=>
 dA (dE PG (fieldAt fP (pT r12 0) 0)) λv19=>
 dA (dH PG h15 (loadAt aR v19)) λv20=>
 dA (dE PG (fieldAt fP (pT r12 0) 1)) λv21=>
 dA (dH PG h15 (loadAt aT v21)) λv22=>
 dA (dE PG (indexAt eB v18 v20)) λv23=>
 dT PG (dX aT v23 v22) h15 λv24 h25=>
 (dA (dE PG (binOp BinOp.add aR t12 (Value.int IntKind.i64 1))) λv26=>
 n7 [t0,t10,t11,v26] h25))
 (dA (dE PG (gW t0)) λv27=>
 dA (dE PG (fieldAt fM v27 2)) λv28=>
 dT PG (dX fS v28 (Value.slice none 0 0)) h0 λv29 h30=>
 R (Value.int IntKind.i64 0) h30)
def wJ(t0:Value)(h0:PH)(R:dI):Prop:=
 bR PG aAs #[t0] h0 λv1 h2=>
 dW v1
 (R (Value.int IntKind.i64 13) h2)
 (dA (dE PG (gW t0)) λv3=>
 dA (dE PG (fieldAt fM v3 2)) λv4=>
 dA (dH PG h2 (loadAt fS v4)) λv5=>
 dA (dE PG (Builtin.len_ #[fS] aR #[v5])) λv6=>
 iV [0,10,11,12] (λn7 ρ h=>aHE R n7 (ρ 0) (ρ 10) (ρ 11) (ρ 12) h) [t0,v5,v6,(Value.int IntKind.i64 0)] h2)
def wJ.ann:kW:={b:=λi=>match i with|6=>#[0,1,3,7,0,16,0,64,255,511]|_=>#[],ord:=λi=>match i with|6=>[0,1,2,3,4,5,6,7,8,9]|_=>[],keep:=λi=>match i with|4=>[0,10,11,12]|_=>[],n:=29}
def wJ.call{t0 h0 R}(H:wJ t0 h0 R):bR PG aAh #[t0] h0 R:=eO wJ.ann Tryz.func58 H
def aDC(t0:Value)(h0:PH)(R:dI):Prop:=
 dA (dE PG (gW t0)) λv1=>
 dA (dE PG (fieldAt fM v1 3)) λv2=>
 dA (dH PG h0 (loadAt aR v2)) λv3=>
 dA (dH PG h0 (gV BinOp.eql aR (.tmp 6) (.const (Value.int IntKind.i64 0)) v3 (Value.int IntKind.i64 0))) λv4=>
 dW v4
 (R (Value.bool false) h0)
 (dA (dE PG (gW t0)) λv5=>
 dA (dE PG (fieldAt fM v5 3)) λv6=>
 dA (dH PG h0 (loadAt aR v6)) λv7=>
 dA (dE PG (binOp BinOp.sub aR v7 (Value.int IntKind.i64 1))) λv8=>
 dA (dE PG (gW t0)) λv9=>
 dA (dE PG (fieldAt fM v9 3)) λv10=>
 dT PG (dX aR v10 v8) h0 λv11 h12=>
 dA (dE PG (gW t0)) λv13=>
 dA (dE PG (fieldAt fM v13 3)) λv14=>
 dA (dH PG h12 (loadAt aR v14)) λv15=>
 dA (dH PG h12 (gV BinOp.eql aR (.tmp 18) (.const (Value.int IntKind.i64 0)) v15 (Value.int IntKind.i64 0))) λv16=>
 R v16 h12)
def aDC.call{t0 h0 R}(H:aDC t0 h0 R):bR PG aAs #[t0] h0 R:=eO (jU 20) Tryz.func122 H
def aDL(R:dI)(n9:iC)(t0:Value)(t4:Value)(t6:Value)(t7:Value)(t13:Value)(t14:Value)(t15:Value)(h0:PH):Prop:=
 dA (dE PG (binOp BinOp.add aR t15 (Value.int IntKind.i64 1))) λv51=>
 n9 [t0,t4,t6,t7,t13,t14,v51] h0
def aAZ(R:dI)(n9:iC)(t0:Value)(t4:Value)(t6:Value)(t7:Value)(t13:Value)(t14:Value)(t15:Value)(h0:PH):Prop:=
 aDL R n9 t0 t4 t6 t7 t13 t14 t15 h0
def aJJ(R:dI)(n9:iC)(t0:Value)(t4:Value)(t6:Value)(t7:Value)(t13:Value)(t14:Value)(t15:Value)(h0:PH):Prop:=
 dA (dE PG (binOp BinOp.lss aR t15 t14)) λv11=>
 dW v11
 (dA (dE PG (indexAt eB t13 t15)) λv12=>
 dA (dH PG h0 (loadAt aT v12)) λv13=>
 bR PG aJc #[t0,v13] h0 λv14 h15=>
 dA (dE PG (extract v14 0)) λv16=>
 dA (dE PG (extract v14 1)) λv17=>
 ∀r18,h15 r18=none->fK (PH.set h15 r18 (.cells (eX PG dR) dR)) λh19=>
 dT PG (dX dR (pT r18 0) v16) h19 λv20 h21=>
 dA (dH PG h21 (loadAt dR (pT r18 0))) λv22=>
 dA (dE PG (build dR #[])) λv23=>
 dA (dH PG h21 (gV BinOp.neq dR (.tmp 26) (.tmp 27) v22 v23)) λv24=>
 gG (yV v24) true (λk27=>dA (dE PG (fieldAt dR (pT r18 0) 0)) λv28=>k27 v28 h21) h21 λv25 h26=>
 gG (yV v24) true (λk31=>dA (dH PG h26 (loadAt dN v25)) λv32=>k31 v32 h26) h26 λv29 h30=>
 gG (yV v24) true (λk35=>dA (dE PG (fieldAt dR t6 0)) λv36=>k35 v36 h30) h30 λv33 h34=>
 gG (yV v24) true (λk39=>dA (dH PG h34 (loadAt dN v33)) λv40=>k39 v40 h34) h34 λv37 h38=>
 gG (yV v24) true (λk43=>dA (dE PG (binOp BinOp.gtr dN v29 v37)) λv44=>k43 v44 h38) h38 λv41 h42=>
 dA (gA v24 v41 (Value.bool false)) λv45=>
 dW v45
 (dA (dH PG h42 (loadAt dR (pT r18 0))) λv46=>
 dT PG (dX dR t6 v46) h42 λv47 h48=>
 aAZ R n9 t0 t4 t6 t15 t13 t14 t15 h48)
 (aAZ R n9 t0 t4 t6 t7 t13 t14 t15 h42))
 (dA (dH PG h0 (loadAt dR t6)) λv52=>
 dT PG (dX dR t4 v52) h0 λv53 h54=>
 dA (dH PG h54 (loadAt dR t4)) λv55=>
 R (Value.tuple #[v55,t7]) h54)
def aGt(t0:Value)(t1:Value)(h0:PH)(R:dI):Prop:=
 ∀r1,h0 r1=none->fK (PH.set h0 r1 (.cells (eX PG dR) dR)) λh2=>
 dA (dE PG (build dR #[])) λv3=>
 ∀r4,h2 r4=none->fK (PH.set h2 r4 (.cells (eX PG dR) dR)) λh5=>
 dT PG (dX dR (pT r4 0) v3) h5 λv6 h7=>
 dA (dE PG (Builtin.len_ #[eB] aR #[t1])) λv8=>
 iV [0,4,6,7,13,14,15] (λn9 ρ h=>aJJ R n9 (ρ 0) (ρ 4) (ρ 6) (ρ 7) (ρ 13) (ρ 14) (ρ 15) h) [t0,(pT r1 0),(pT r4 0),(Value.int IntKind.i64 (-1)),t1,v8,(Value.int IntKind.i64 0)] h7
def aGt.call{t0 t1 h0 R}(H:aGt t0 t1 h0 R):bR PG aGj #[t0,t1] h0 R:=eO (uH 3 [0,4,6,7,13,14,15] 41) Tryz.func59 H
def aJ7(t0:Value)(t1:Value)(h0:PH)(R:dI):Prop:=
 ∀r1,h0 r1=none->fK (PH.set h0 r1 (.cells (eX PG dR) dR)) λh2=>
 bR PG aEg #[t0] h2 λv3 h4=>
 dA (dE PG (Op.unary UnOp.not v3)) λv5=>
 dW v5
 (dA (dE PG (build dR #[])) λv6=>
 dT PG (dX dR (pT r1 0) v6) h4 λv7 h8=>
 dA (dH PG h8 (loadAt dR (pT r1 0))) λv9=>
 R (Value.tuple #[v9,(Value.int IntKind.i64 1)]) h8)
 (dA (dE PG (Builtin.len_ #[aT] aR #[t1])) λv10=>
 dA (dH PG h4 (gV BinOp.neq aR (.tmp 17) (.tmp 18) v10 t0)) λv11=>
 dW v11
 (dA (dE PG (build dR #[])) λv12=>
 dT PG (dX dR (pT r1 0) v12) h4 λv13 h14=>
 dA (dH PG h14 (loadAt dR (pT r1 0))) λv15=>
 R (Value.tuple #[v15,(Value.int IntKind.i64 6)]) h14)
 (bR PG aFg #[t1] h4 λv16 h17=>
 dA (dE PG (Op.unary UnOp.not v16)) λv18=>
 dW v18
 (dA (dE PG (build dR #[])) λv19=>
 dT PG (dX dR (pT r1 0) v19) h17 λv20 h21=>
 dA (dH PG h21 (loadAt dR (pT r1 0))) λv22=>
 R (Value.tuple #[v22,(Value.int IntKind.i64 8)]) h21)
 (dA (dE PG (Instr.sliceAt aT t1 (some (Value.int IntKind.i64 1)) none none)) λv23=>
 bR PG yF #[v23] h17 λv24 h25=>
 bR PG mE #[v24] h25 λv26 h27=>
 bR PG kY #[v24] h27 λv28 h29=>
 dA (dE PG (build dR #[(0,v26),(1,v28)])) λv30=>
 ∀r31,h29 r31=none->fK (PH.set h29 r31 (.cells (eX PG dR) dR)) λh32=>
 dT PG (dX dR (pT r31 0) v30) h32 λv33 h34=>
 dA (dH PG h34 (loadAt dR (pT r31 0))) λv35=>
 bR PG aEL #[t0,v35] h34 λv36 h37=>
 dA (dE PG (extract v36 0)) λv38=>
 dA (dE PG (extract v36 1)) λv39=>
 dA (dH PG h37 (gV BinOp.neq eY (.tmp 40) (.const (Value.int IntKind.i64 0)) v39 (Value.int IntKind.i64 0))) λv40=>
 gG (yV v40) false (λk43=>k43 v38 h37) h37 λv41 h42=>
 gG (yV v40) false (λk46=>k46 t1 h42) h42 λv44 h45=>
 gG (yV v40) false (λk49=>dA (dH PG h45 (gV BinOp.neq aT (.tmp 43) (.tmp 44) v41 v44)) λv50=>k49 v50 h45) h45 λv47 h48=>
 dA (gA v40 (Value.bool true) v47) λv51=>
 dW v51
 (dA (dE PG (build dR #[])) λv52=>
 dT PG (dX dR (pT r1 0) v52) h48 λv53 h54=>
 dA (dH PG h54 (loadAt dR (pT r1 0))) λv55=>
 R (Value.tuple #[v55,(Value.int IntKind.i64 5)]) h54)
 (dA (dH PG h48 (loadAt dR (pT r31 0))) λv56=>
 dT PG (dX dR (pT r1 0) v56) h48 λv57 h58=>
 dA (dH PG h58 (loadAt dR (pT r1 0))) λv59=>
 R (Value.tuple #[v59,(Value.int IntKind.i64 0)]) h58))))
def aJ7.call{t0 t1 h0 R}(H:aJ7 t0 t1 h0 R):bR PG aJc #[t0,t1] h0 R:=eO (jU 49) Tryz.func123 H
def aKP(t0:Value)(t1:Value)(h0:PH)(R:dI):Prop:=
 ∀r1,h0 r1=none->fK (PH.set h0 r1 (.cells (Value.cells t1) dR)) λh2=>
 bR PG aEg #[t0] h2 λv3 h4=>
 dA (dE PG (Op.unary UnOp.not v3)) λv5=>
 gG (yV v5) false (λk8=>dA (dE PG (fieldAt dR (pT r1 0) 0)) λv9=>k8 v9 h4) h4 λv6 h7=>
 gG (yV v5) false (λk12=>dA (dH PG h7 (loadAt dN v6)) λv13=>k12 v13 h7) h7 λv10 h11=>
 gG (yV v5) false (λk16=>dA (dH PG h11 (gV BinOp.eql dN (.tmp 14) (.const (Value.int IntKind.u64 0)) v10 (Value.int IntKind.u64 0))) λv17=>k16 v17 h11) h11 λv14 h15=>
 dA (gA v5 (Value.bool true) v14) λv18=>
 gG (yV v18) false (λk21=>dA (dE PG (fieldAt dR (pT r1 0) 1)) λv22=>k21 v22 h15) h15 λv19 h20=>
 gG (yV v18) false (λk25=>dA (dH PG h20 (loadAt aR v19)) λv26=>k25 v26 h20) h20 λv23 h24=>
 gG (yV v18) false (λk29=>dA (dE PG (binOp BinOp.lss aR v23 (Value.int IntKind.i64 0))) λv30=>k29 v30 h24) h24 λv27 h28=>
 dA (gA v18 (Value.bool true) v27) λv31=>
 gG (yV v31) false (λk34=>dA (dE PG (fieldAt dR (pT r1 0) 1)) λv35=>k34 v35 h28) h28 λv32 h33=>
 gG (yV v31) false (λk38=>dA (dH PG h33 (loadAt aR v32)) λv39=>k38 v39 h33) h33 λv36 h37=>
 gG (yV v31) false (λk42=>dA (dE PG (binOp BinOp.gtr aR v36 (Value.int IntKind.i64 1))) λv43=>k42 v43 h37) h37 λv40 h41=>
 dA (gA v31 (Value.bool true) v40) λv44=>
 dW v44
 (R (Value.tuple #[(Value.string {data:=#[]}),(Value.int IntKind.i64 1)]) h41)
 (∀r45,h41 r45=none->fK (PH.set h41 r45 (.cells (eX PG gH) gH)) λh46=>
 bR PG oP #[(pT r45 0),(Value.string {data:=#[72]})] h46 λv47 h48=>
 dA (dE PG (fieldAt dR (pT r1 0) 0)) λv49=>
 dA (dH PG h48 (loadAt dN v49)) λv50=>
 bR PG lN #[(pT r45 0),v50] h48 λv51 h52=>
 dA (dE PG (fieldAt dR (pT r1 0) 1)) λv53=>
 dA (dH PG h52 (loadAt aR v53)) λv54=>
 bR PG jT #[(pT r45 0),v54] h52 λv55 h56=>
 dA (dE PG (binOp BinOp.sub aR t0 (Value.int IntKind.i64 14))) λv57=>
 bR PG yB #[(Value.string {data:=#[0]}),v57] h56 λv58 h59=>
 bR PG oP #[(pT r45 0),v58] h59 λv60 h61=>
 bR PG pB #[(pT r45 0)] h61 λv62 h63=>
 dA (dE PG (extract v62 0)) λv64=>
 dA (dE PG (extract v62 1)) λv65=>
 bR PG aGn #[v64] h63 λv66 h67=>
 R (Value.tuple #[v66,v65]) h67)
def aKP.call{t0 t1 h0 R}(H:aKP t0 t1 h0 R):bR PG aEL #[t0,t1] h0 R:=eO (jU 45) Tryz.func62 H
def aCC(c a:Value)(e:PH)(R:dI):Prop:=fL .lss aR a (.int .i64 0) λb=>iW b false a e λf g=>fV b false (binOp .gtr aR f (.int .i64 255)) g λh d=>dA (gA b (.bool true) h) λi=>dW i (gU c λj=>fA gH j 0 λk=>bR PG kG #[k,.int .i64 1] d λo l=>R (.tuple #[]) l) (pP (convert aR dN a) λm=>bR PG vW #[c,m,.int .i64 1] d λp n=>R (.tuple #[]) n)
def aCC.call{t0 t1 h0 R}(H:aCC t0 t1 h0 R):bR PG jT #[t0,t1] h0 R:=eO (jU 18) Tryz.func85 H
def qP(b c:Value)(a:PH)(R:dI):Prop:=gU b λd=>fA oA d 0 λe=>eN a eY e λf=>iJ a .eql eY (.tmp 7) (.const (.int .i64 0)) f (.int .i64 0) λg=>dW g (gU b λh=>fA oA h 0 λi=>dT PG (dX eY i c) a λk j=>R (.tuple #[]) j) (R (.tuple #[]) a)
def qP.call{t0 t1 h0 R}(H:qP t0 t1 h0 R):bR PG kG #[t0,t1] h0 R:=eO (jU 13) Tryz.func137 H
def aHK(R:dI)(e:iC)(b c a:Value)(d:PH):Prop:=fL .geq aR a (.int .i64 0) λf=>dW f (gU b λg=>fA gH g 1 λh=>fL .mul aR (.int .i64 8) a λi=>fL .shr dN c i λj=>pP (convert dN eZ j) λk=>bR PG qW #[h,k] d λn l=>(fL .sub aR a (.int .i64 1) λm=>e [b,c,m] l)) (R (.tuple #[]) d)
def xO(a b c:Value)(d:PH)(R:dI):Prop:=fL .sub aR c (.int .i64 1) λe=>iV [0,1,6] (λf ρ h=>aHK R f (ρ 0) (ρ 1) (ρ 6) h) [a,b,e] d
def xO.ann:kW:={b:=λi=>match i with|3=>#[0,1,3,0,0,16,56,120,255]|_=>#[],ord:=λi=>match i with|3=>[0,1,2,3,4,5,6,7,8]|_=>[],keep:=λi=>match i with|1=>[0,1,6]|_=>[],n:=22}
def xO.call{t0 t1 t2 h0 R}(H:xO t0 t1 t2 h0 R):bR PG vW #[t0,t1,t2] h0 R:=eO xO.ann Tryz.func145 H
def nV(a c:Value)(d:PH)(R:dI):Prop:=bR PG mM #[a] d λo b=>gU a λe=>fA eI e 1 λf=>eN b eJ f λg=>pAl b (buildSlice eJ 1 #[(0,c)]) λh i=>dT PG (Builtin.append_ #[eJ,eJ] eJ #[g,h]) i λj k=>gU a λl=>fA eI l 1 λm=>dT PG (dX eJ m j) k λp n=>R Value.nilIface n
def nV.call{t0 t1 h0 R}(H:nV t0 t1 h0 R):bR PG qW #[t0,t1] h0 R:=eO (jU 17) Tryz.func189 H
def aBP(b:Value)(d:PH)(R:dI):Prop:=gU b λe=>fA gH e 0 λf=>bR PG jR #[f] d λc a=>iJ a .neq eY (.tmp 9) (.const (.int .i64 0)) c (.int .i64 0) λg=>dW g (R (.tuple #[(.string ⟨#[]⟩),c]) a) (gU b λh=>fA gH h 1 λi=>bR PG kS #[i] a λj k=>R (.tuple #[j,.int .i64 0]) k)
def aBP.call{t0 h0 R}(H:aBP t0 h0 R):bR PG pB #[t0] h0 R:=eO (jU 16) Tryz.func88 H
def aDK(b:Value)(a:PH)(R:dI):Prop:=gU b λc=>fA oA c 0 λd=>eN a eY d λe=>R e a
def aDK.call{t0 h0 R}(H:aDK t0 h0 R):bR PG jR #[t0] h0 R:=eO (jU 7) Tryz.func149 H
def aHw(t0:Value)(h0:PH)(R:dI):Prop:=
 dA (dE PG (binOp BinOp.geq aR t0 (Value.int IntKind.i64 64))) λv1=>
 gG (yV v1) true (λk4=>k4 t0 h0) h0 λv2 h3=>
 gG (yV v1) true (λk7=>dA (dE PG (binOp BinOp.leq aR v2 (Value.int IntKind.i64 512))) λv8=>k7 v8 h3) h3 λv5 h6=>
 dA (gA v1 v5 (Value.bool false)) λv9=>
 R v9 h6
def aHw.call{t0 h0 R}(H:aHw t0 h0 R):bR PG aEg #[t0] h0 R:=eO (jU 9) Tryz.func125 H
def aDI(a b:Value)(c:PH)(R:dI):Prop:=gU a λd=>fA gH d 1 λe=>bR PG jB #[e,b] c λg f=>R (.tuple #[]) f
def aDI.call{t0 t1 h0 R}(H:aDI t0 t1 h0 R):bR PG oP #[t0,t1] h0 R:=eO (jU 9) Tryz.func126 H
def aAt(a b:Value)(c:PH)(R:dI):Prop:=bR PG vW #[a,b,.int .i64 8] c λe d=>R (.tuple #[]) d
def aAt.call{t0 t1 h0 R}(H:aAt t0 t1 h0 R):bR PG lN #[t0,t1] h0 R:=eO (jU 7) Tryz.func127 H
def aKD(t0:Value)(h0:PH)(R:dI):Prop:=
 dA (lH PG (buildSlice eB 1 #[(0,t0)])) λx2=>∀r1,h0 r1=none->dA (dE PG (x2.2 r1)) λv3=>fK (PH.set h0 r1 x2.1) λh4=>
 bR PG aH9 #[v3] h4 λv5 h6=>
 bR PG aFN #[v5] h6 λv7 h8=>
 dA (dE PG (binOp BinOp.add aT t0 v7)) λv9=>
 R v9 h8
def aKD.call{t0 h0 R}(H:aKD t0 h0 R):bR PG aGn #[t0] h0 R:=eO (jU 9) Tryz.func128 H
def aKv(R:dI)(n3:iC)(t0:Value)(t3:Value)(t5:Value)(h0:PH):Prop:=
 dA (dE PG (binOp BinOp.lss aR t5 (Value.int IntKind.i64 4))) λv5=>
 dW v5
 (dA (dE PG (binOp BinOp.mul aR (Value.int IntKind.i64 8) t5)) λv6=>
 dA (dE PG (binOp BinOp.shr gP t0 v6)) λv7=>
 dA (dE PG (convert gP eZ v7)) λv8=>
 dA (dE PG (indexAt oO t3 t5)) λv9=>
 dT PG (dX eZ v9 v8) h0 λv10 h11=>
 dA (dE PG (binOp BinOp.add aR t5 (Value.int IntKind.i64 1))) λv12=>
 n3 [t0,t3,v12] h11)
 (dA (dE PG (Instr.sliceAt oO t3 none none none)) λv13=>
 dA (dH PG h0 (convert eJ aT v13)) λv14=>
 R v14 h0)
def aJN(t0:Value)(h0:PH)(R:dI):Prop:=
 ∀r1,h0 r1=none->fK (PH.set h0 r1 (.cells (eX PG oO) oO)) λh2=>
 iV [0,3,5] (λn3 ρ h=>aKv R n3 (ρ 0) (ρ 3) (ρ 5) h) [t0,(pT r1 0),(Value.int IntKind.i64 0)] h2
def aJN.call{t0 h0 R}(H:aJN t0 h0 R):bR PG aFN #[t0] h0 R:=eO (uH 3 [0,3,5] 18) Tryz.func175 H
def aM6(R:dI)(n2:iC)(t3:Value)(t6:Value)(t7:Value)(t8:Value)(h0:PH):Prop:=
 dA (dE PG (binOp BinOp.lss aR t8 t7)) λv4=>
 dW v4
 (dA (dE PG (indexAt eB t6 t8)) λv5=>
 dA (dH PG h0 (loadAt aT v5)) λv6=>
 bR PG aJf #[t3,v6] h0 λv7 h8=>
 dA (dE PG (binOp BinOp.add aR t8 (Value.int IntKind.i64 1))) λv9=>
 n2 [v7,t6,t7,v9] h8)
 (dA (dE PG (Op.unary UnOp.xor t3)) λv10=>
 R v10 h0)
def aLu(t0:Value)(h0:PH)(R:dI):Prop:=
 dA (dE PG (Builtin.len_ #[eB] aR #[t0])) λv1=>
 iV [3,6,7,8] (λn2 ρ h=>aM6 R n2 (ρ 3) (ρ 6) (ρ 7) (ρ 8) h) [(Value.int IntKind.u32 4294967295),t0,v1,(Value.int IntKind.i64 0)] h0
def aLu.call{t0 h0 R}(H:aLu t0 h0 R):bR PG aH9 #[t0] h0 R:=eO (uH 3 [3,6,7,8] 18) Tryz.func176 H
def aLz(R:dI)(n8:iC)(t0:Value)(t1:Value)(t5:Value)(t9:Value)(t10:Value)(h0:PH):Prop:=
 dA (dE PG (binOp BinOp.lss aR t10 t9)) λv10=>
 dW v10
 (dA (dE PG (binOp BinOp.shr gP t0 (Value.int IntKind.u64 8))) λv11=>
 dA (dE PG (convert gP eZ t0)) λv12=>
 dA (dE PG (Instr.index aT t1 t10)) λv13=>
 dA (dE PG (binOp BinOp.xor eZ v12 v13)) λv14=>
 dA (dE PG (indexAt gL t5 v14)) λv15=>
 dA (dH PG h0 (loadAt gP v15)) λv16=>
 dA (dE PG (binOp BinOp.xor gP v11 v16)) λv17=>
 dA (dE PG (binOp BinOp.add aR t10 (Value.int IntKind.i64 1))) λv18=>
 n8 [v17,t1,t5,t9,v18] h0)
 (R t0 h0)
def aKK(t0:Value)(t1:Value)(h0:PH)(R:dI):Prop:=
 bR PG aIh #[] h0 λv1 h2=>
 ∀r3,h2 r3=none->fK (PH.set h2 r3 (.cells (eX PG gL) gL)) λh4=>
 dT PG (dX gL (pT r3 0) v1) h4 λv5 h6=>
 dA (dE PG (Builtin.len_ #[aT] aR #[t1])) λv7=>
 iV [0,1,5,9,10] (λn8 ρ h=>aLz R n8 (ρ 0) (ρ 1) (ρ 5) (ρ 9) (ρ 10) h) [t0,t1,(pT r3 0),v7,(Value.int IntKind.i64 0)] h6
def aKK.call{t0 t1 h0 R}(H:aKK t0 t1 h0 R):bR PG aJf #[t0,t1] h0 R:=eO (uH 3 [0,1,5,9,10] 26) Tryz.func211 H
def aHk(R:dI)(n5:iC)(n9:iC)(t0:Value)(t1:Value)(t2:Value)(t3:Value)(t4:Value)(t9:Value)(h0:PH):Prop:=
 dA (dE PG (binOp BinOp.lss aR t9 (Value.int IntKind.i64 8))) λv11=>
 dW v11
 (dA (dE PG (binOp BinOp.shr gP t3 (Value.int IntKind.u64 1))) λv12=>
 dA (dE PG (binOp BinOp.and gP t3 (Value.int IntKind.u32 1))) λv13=>
 dA (dE PG (binOp BinOp.mul gP v13 (Value.int IntKind.u32 3988292384))) λv14=>
 dA (dE PG (binOp BinOp.xor gP v12 v14)) λv15=>
 dA (dE PG (binOp BinOp.add aR t9 (Value.int IntKind.i64 1))) λv16=>
 n9 [t0,t1,t2,v15,t4,v16] h0)
 (dA (dE PG (indexAt gL t1 t2)) λv17=>
 dT PG (dX gP v17 t3) h0 λv18 h19=>
 dA (dE PG (binOp BinOp.add aR t4 (Value.int IntKind.i64 1))) λv20=>
 n5 [t0,t1,v20] h19)
def aK8(R:dI)(n5:iC)(t0:Value)(t1:Value)(t4:Value)(h0:PH):Prop:=
 dA (dE PG (binOp BinOp.lss aR t4 (Value.int IntKind.i64 256))) λv7=>
 dW v7
 (dA (dE PG (convert aR gP t4)) λv8=>
 iV [0,1,2,3,4,9] (λn9 ρ h=>aHk R n5 n9 (ρ 0) (ρ 1) (ρ 2) (ρ 3) (ρ 4) (ρ 9) h) [t0,t1,t4,v8,t4,(Value.int IntKind.i64 0)] h0)
 (dA (dH PG h0 (loadAt gL t1)) λv21=>
 dT PG (dX gL t0 v21) h0 λv22 h23=>
 dA (dH PG h23 (loadAt gL t0)) λv24=>
 R v24 h23)
def aFD(h0:PH)(R:dI):Prop:=
 ∀r1,h0 r1=none->fK (PH.set h0 r1 (.cells (eX PG gL) gL)) λh2=>
 ∀r3,h2 r3=none->fK (PH.set h2 r3 (.cells (eX PG gL) gL)) λh4=>
 iV [0,1,4] (λn5 ρ h=>aK8 R n5 (ρ 0) (ρ 1) (ρ 4) h) [(pT r1 0),(pT r3 0),(Value.int IntKind.i64 0)] h4
def aFD.ann:kW:={b:=λ_=>#[],ord:=λ_=>[],keep:=λi=>match i with|3=>[0,1,4]|7=>[0,1,2,3,4,9]|_=>[],n:=23}
def aFD.call{h0 R}(H:aFD h0 R):bR PG aIh #[] h0 R:=eO aFD.ann Tryz.func225 H
def aD1(c:Value)(b:PH)(R:dI):Prop:=pP (build gF #[(1,c)]) λd=>∀a,b a=none->fK (PH.set b a (.cells d.cells gF)) λe=>R (pT a 0) e
def aD1.call{t0 h0 R}(H:aD1 t0 h0 R):bR PG yF #[t0] h0 R:=eO (jU 6) Tryz.func132 H
def aCZ(a:Value)(b:PH)(R:dI):Prop:=bR PG wB #[a,.int .i64 1] b λc d=>pP (convert dN aR c) λe=>R e d
def aCZ.call{t0 h0 R}(H:aCZ t0 h0 R):bR PG kY #[t0] h0 R:=eO (jU 6) Tryz.func133 H
def aHJ(R:dI)(f:iC)(c d e a:Value)(b:PH):Prop:=fL .lss aR a e λg=>dW g (nP eJ d a λh=>eN b eZ h λi=>fL .shl dN c (.int .u64 8) λj=>pP (convert eZ dN i) λk=>fL .or dN j k λl=>fL .add aR a (.int .i64 1) λm=>f [l,d,e,m] b) (R c b)
def aDD(b c:Value)(d:PH)(R:dI):Prop:=bR PG sT #[b,c] d λe f=>dT PG (convert aT eJ e) f λa g=>jH eJ aR a λi=>iV [5,11,12,13] (λj ρ h=>aHJ R j (ρ 5) (ρ 11) (ρ 12) (ρ 13) h) [(.int .u64 0),a,i,.int .i64 0] g
def aDD.call{t0 t1 h0 R}(H:aDD t0 t1 h0 R):bR PG wB #[t0,t1] h0 R:=eO (uH 3 [5,11,12,13] 24) Tryz.func178 H
def uX(R:dI)(b c:Value)(d:PH):Prop:=gU b λe=>fA gF e 0 λf=>bR PG jR #[f] d λg a=>iJ a .neq eY (.tmp 24) (.const (.int .i64 0)) g (.int .i64 0) λh=>dW h (R (.string ⟨#[]⟩) a) (gU b λi=>fA gF i 1 λj=>eN a aT j λk=>pP (Instr.sliceAt aT k none (some c) none) λl=>gU b λm=>fA gF m 1 λn=>eN a aT n λo=>pP (Instr.sliceAt aT o (some c) none none) λp=>gU b λq=>fA gF q 1 λr=>dT PG (dX aT r p) a λu s=>R l s)
def aC7(b c:Value)(e:PH)(R:dI):Prop:=fL .lss aR c (.int .i64 0) λa=>iW a false c e λf g=>iW a false b g λh i=>fV a false (gW h) i λj k=>fV a false (fieldAt gF j 1) k λl m=>gZ a false (loadAt aT l) m λn o=>fV a false (Builtin.len_ #[aT] aR #[n]) o λp q=>fV a false (binOp .gtr aR f p) q λr d=>dA (gA a (.bool true) r) λs=>dW s (gU b λu=>fA gF u 0 λv=>bR PG kG #[v,.int .i64 6] d λx w=>uX R b c w) (uX R b c d)
def aC7.call{t0 t1 h0 R}(H:aC7 t0 t1 h0 R):bR PG sT #[t0,t1] h0 R:=eO (jU 42) Tryz.func212 H
def aFJ(t0:Value)(h0:PH)(R:dI):Prop:=
 dA (dE PG (Builtin.len_ #[aT] aR #[t0])) λv1=>
 dA (dE PG (binOp BinOp.sub aR v1 (Value.int IntKind.i64 4))) λv2=>
 dA (dE PG (binOp BinOp.geq aR v2 (Value.int IntKind.i64 0))) λv3=>
 gG (yV v3) true (λk6=>k6 t0 h0) h0 λv4 h5=>
 gG (yV v3) true (λk9=>k9 v2 h5) h5 λv7 h8=>
 gG (yV v3) true (λk12=>dA (dE PG (Instr.sliceAt aT v4 none (some v7) none)) λv13=>k12 v13 h8) h8 λv10 h11=>
 gG (yV v3) true (λk16=>k16 t0 h11) h11 λv14 h15=>
 gG (yV v3) true (λk19=>k19 v2 h15) h15 λv17 h18=>
 gG (yV v3) true (λk22=>dA (dE PG (Instr.sliceAt aT v14 (some v17) none none)) λv23=>k22 v23 h18) h18 λv20 h21=>
 gG (yV v3) true (λk26=>dA (lH PG (buildSlice eB 1 #[(0,v10)])) λx28=>∀r27,h21 r27=none->dA (dE PG (x28.2 r27)) λv29=>fK (PH.set h21 r27 x28.1) λh30=>k26 v29 h30) h21 λv24 h25=>
 gG (yV v3) true (λk33=>bR PG aH9 #[v24] h25 λv34 h35=>k33 v34 h35) h25 λv31 h32=>
 (gG (yV v3) true (λk38=>bR PG aFN #[v31] h32 λv39 h40=>k38 v39 h40) h32 λv36 h37=>
 (gG (yV v3) true (λk43=>dA (dH PG h37 (gV BinOp.eql aT (.tmp 15) (.tmp 18) v36 v20)) λv44=>k43 v44 h37) h37 λv41 h42=>
 dA (gA v3 v41 (Value.bool false)) λv45=>
 R v45 h42))
def aFJ.ann:kW:={b:=λi=>match i with|2=>#[0,1,3,7,7,31,63,127,255,7,7,1543,4095,8191,16383]|_=>#[],ord:=λi=>match i with|2=>[0,1,2,3,4,5,9,10,11,6,7,8,12,13,14]|_=>[],keep:=λ_=>[],n:=21}
def aFJ.call{t0 h0 R}(H:aFJ t0 h0 R):bR PG aFg #[t0] h0 R:=eO aFJ.ann Tryz.func172 H
def aAl(a:Value)(b:PH)(R:dI):Prop:=bR PG wB #[a,.int .i64 8] b λc d=>R c d
def aAl.call{t0 h0 R}(H:aAl t0 h0 R):bR PG mE #[t0] h0 R:=eO (jU 5) Tryz.func173 H
def aAk(t0:Value)(h0:PH)(R:dI):Prop:=
 ∀r1,h0 r1=none->fK (PH.set h0 r1 (.cells (Value.cells t0) fR)) λh2=>
 dA (dE PG (fieldAt fR (pT r1 0) 0)) λv3=>
 dA (dH PG h2 (loadAt aR v3)) λv4=>
 R v4 h2
def aAk.call{t0 h0 R}(H:aAk t0 h0 R):bR PG lK #[t0] h0 R:=eO (jU 5) Tryz.func60 H
def aHn(R:dI)(n5:iC)(t1:Value)(t3:Value)(t7:Value)(t11:Value)(t12:Value)(h0:PH):Prop:=
 dA (dE PG (binOp BinOp.lss aR t12 t11)) λv7=>
 dW v7
 (dA (dE PG (fieldAt fQ t3 0)) λv8=>
 dA (dH PG h0 (loadAt hZ v8)) λv9=>
 dA (dE PG (binOp BinOp.add aR t1 t12)) λv10=>
 bR PG aEB #[v9,v10] h0 λv11 h12=>
 dA (dE PG (extract v11 0)) λv13=>
 dA (dE PG (extract v11 1)) λv14=>
 bR PG jB #[t7,v13] h12 λv15 h16=>
 dA (dE PG (binOp BinOp.add aR t12 (Value.int IntKind.i64 1))) λv17=>
 n5 [t1,t3,t7,t11,v17] h16)
 (bR PG kS #[t7] h0 λv18 h19=>
 R v18 h19)
def aDw(t0:Value)(t1:Value)(t2:Value)(h0:PH)(R:dI):Prop:=
 ∀r1,h0 r1=none->fK (PH.set h0 r1 (.cells (Value.cells t0) fQ)) λh2=>
 ∀r3,h2 r3=none->fK (PH.set h2 r3 (.cells (eX PG eI) eI)) λh4=>
 iV [1,3,7,11,12] (λn5 ρ h=>aHn R n5 (ρ 1) (ρ 3) (ρ 7) (ρ 11) (ρ 12) h) [t1,(pT r1 0),(pT r3 0),t2,(Value.int IntKind.i64 0)] h4
def aDw.call{t0 t1 t2 h0 R}(H:aDw t0 t1 t2 h0 R):bR PG yD #[t0,t1,t2] h0 R:=eO (uH 3 [1,3,7,11,12] 28) Tryz.func61 H
def aDd(R:dI)(n16:iC)(t1:Value)(t6:Value)(t26:Value)(t27:Value)(t28:Value)(h0:PH):Prop:=
 dA (dE PG (binOp BinOp.add aR t28 (Value.int IntKind.i64 1))) λv32=>
 n16 [t1,t6,t26,t27,v32] h0
def aAY(R:dI)(n16:iC)(t1:Value)(t6:Value)(t26:Value)(t27:Value)(t28:Value)(h0:PH):Prop:=
 aDd R n16 t1 t6 t26 t27 t28 h0
def aHH(R:dI)(n16:iC)(t1:Value)(t6:Value)(t26:Value)(t27:Value)(t28:Value)(h0:PH):Prop:=
 dA (dE PG (binOp BinOp.lss aR t28 t27)) λv18=>
 dW v18
 (dA (dE PG (indexAt fS t26 t28)) λv19=>
 dA (dH PG h0 (loadAt fP v19)) λv20=>
 ∀r21,h0 r21=none->fK (PH.set h0 r21 (.cells (eX PG fP) fP)) λh22=>
 dT PG (dX fP (pT r21 0) v20) h22 λv23 h24=>
 dA (dE PG (fieldAt fP (pT r21 0) 0)) λv25=>
 dA (dH PG h24 (loadAt aR v25)) λv26=>
 dA (dH PG h24 (gV BinOp.eql aR (.tmp 33) (.tmp 34) v26 t1)) λv27=>
 dW v27
 (dA (dE PG (fieldAt fP (pT r21 0) 1)) λv28=>
 dA (dH PG h24 (loadAt aT v28)) λv29=>
 aAY R n16 t1 v29 t26 t27 t28 h24)
 (aAY R n16 t1 t6 t26 t27 t28 h24))
 (R (Value.tuple #[t6,(Value.int IntKind.i64 0)]) h0)
def aDk(t0:Value)(t1:Value)(h0:PH)(R:dI):Prop:=
 dA (dE PG (gW t0)) λv1=>
 dA (dE PG (fieldAt fM v1 0)) λv2=>
 dA (dH PG h0 (loadAt fR v2)) λv3=>
 bR PG vU #[v3,t1] h0 λv4 h5=>
 dA (dE PG (Op.unary UnOp.not v4)) λv6=>
 dW v6
 (R (Value.tuple #[(Value.string {data:=#[]}),(Value.int IntKind.i64 1)]) h5)
 (dA (dE PG (gW t0)) λv7=>
 dA (dE PG (fieldAt fM v7 1)) λv8=>
 dA (dH PG h5 (loadAt eB v8)) λv9=>
 dA (dE PG (indexAt eB v9 t1)) λv10=>
 dA (dH PG h5 (loadAt aT v10)) λv11=>
 dA (dE PG (gW t0)) λv12=>
 dA (dE PG (fieldAt fM v12 2)) λv13=>
 dA (dH PG h5 (loadAt fS v13)) λv14=>
 dA (dE PG (Builtin.len_ #[fS] aR #[v14])) λv15=>
 iV [1,6,26,27,28] (λn16 ρ h=>aHH R n16 (ρ 1) (ρ 6) (ρ 26) (ρ 27) (ρ 28) h) [t1,v11,v14,v15,(Value.int IntKind.i64 0)] h5)
def aDk.call{t0 t1 h0 R}(H:aDk t0 t1 h0 R):bR PG aEB #[t0,t1] h0 R:=eO (uH 5 [1,6,26,27,28] 40) Tryz.func124 H
def aAE(t0:Value)(t1:Value)(h0:PH)(R:dI):Prop:=
 ∀r1,h0 r1=none->fK (PH.set h0 r1 (.cells (Value.cells t0) fR)) λh2=>
 dA (dE PG (binOp BinOp.geq aR t1 (Value.int IntKind.i64 0))) λv3=>
 gG (yV v3) true (λk6=>k6 t1 h2) h2 λv4 h5=>
 gG (yV v3) true (λk9=>dA (dE PG (fieldAt fR (pT r1 0) 1)) λv10=>k9 v10 h5) h5 λv7 h8=>
 gG (yV v3) true (λk13=>dA (dH PG h8 (loadAt aR v7)) λv14=>k13 v14 h8) h8 λv11 h12=>
 gG (yV v3) true (λk17=>dA (dE PG (binOp BinOp.lss aR v4 v11)) λv18=>k17 v18 h12) h12 λv15 h16=>
 dA (gA v3 v15 (Value.bool false)) λv19=>
 R v19 h16
def aAE.call{t0 t1 h0 R}(H:aAE t0 t1 h0 R):bR PG vU #[t0,t1] h0 R:=eO (jU 13) Tryz.func174 H
def aIk(R:dI)(n4:iC)(t1:Value)(t3:Value)(t10:Value)(t11:Value)(t12:Value)(h0:PH):Prop:=
 dA (dE PG (binOp BinOp.lss aR t12 t11)) λv6=>
 dW v6
 (dA (dE PG (indexAt eB t10 t12)) λv7=>
 dA (dH PG h0 (loadAt aT v7)) λv8=>
 dA (dE PG (fieldAt fQ t3 0)) λv9=>
 dA (dH PG h0 (loadAt hZ v9)) λv10=>
 dA (dE PG (binOp BinOp.add aR t1 t12)) λv11=>
 bR PG aDf #[v10,v11,v8] h0 λv12 h13=>
 dA (dH PG h13 (gV BinOp.neq eY (.tmp 24) (.const (Value.int IntKind.i64 0)) v12 (Value.int IntKind.i64 0))) λv14=>
 dW v14
 (R v12 h13)
 (dA (dE PG (binOp BinOp.add aR t12 (Value.int IntKind.i64 1))) λv15=>
 n4 [t1,t3,t10,t11,v15] h13))
 (dA (dE PG (fieldAt fQ t3 0)) λv16=>
 dA (dH PG h0 (loadAt hZ v16)) λv17=>
 bR PG aAh #[v17] h0 λv18 h19=>
 R v18 h19)
def aEY(t0:Value)(t1:Value)(t2:Value)(h0:PH)(R:dI):Prop:=
 ∀r1,h0 r1=none->fK (PH.set h0 r1 (.cells (Value.cells t0) fQ)) λh2=>
 dA (dE PG (Builtin.len_ #[eB] aR #[t2])) λv3=>
 iV [1,3,10,11,12] (λn4 ρ h=>aIk R n4 (ρ 1) (ρ 3) (ρ 10) (ρ 11) (ρ 12) h) [t1,(pT r1 0),t2,v3,(Value.int IntKind.i64 0)] h2
def aEY.call{t0 t1 t2 h0 R}(H:aEY t0 t1 t2 h0 R):bR PG uZ #[t0,t1,t2] h0 R:=eO (uH 2 [1,3,10,11,12] 31) Tryz.func63 H
def aDF(t0:Value)(t1:Value)(t2:Value)(h0:PH)(R:dI):Prop:=
 dA (dE PG (gW t0)) λv1=>
 dA (dE PG (fieldAt fM v1 0)) λv2=>
 dA (dH PG h0 (loadAt fR v2)) λv3=>
 bR PG vU #[v3,t1] h0 λv4 h5=>
 dA (dE PG (Op.unary UnOp.not v4)) λv6=>
 gG (yV v6) false (λk9=>k9 t2 h5) h5 λv7 h8=>
 gG (yV v6) false (λk12=>dA (dE PG (Builtin.len_ #[aT] aR #[v7])) λv13=>k12 v13 h8) h8 λv10 h11=>
 gG (yV v6) false (λk16=>k16 t0 h11) h11 λv14 h15=>
 gG (yV v6) false (λk19=>dA (dE PG (gW v14)) λv20=>k19 v20 h15) h15 λv17 h18=>
 gG (yV v6) false (λk23=>dA (dE PG (fieldAt fM v17 0)) λv24=>k23 v24 h18) h18 λv21 h22=>
 gG (yV v6) false (λk27=>dA (dE PG (fieldAt fR v21 0)) λv28=>k27 v28 h22) h22 λv25 h26=>
 gG (yV v6) false (λk31=>dA (dH PG h26 (loadAt aR v25)) λv32=>k31 v32 h26) h26 λv29 h30=>
 gG (yV v6) false (λk35=>dA (dH PG h30 (gV BinOp.neq aR (.tmp 17) (.tmp 22) v10 v29)) λv36=>k35 v36 h30) h30 λv33 h34=>
 dA (gA v6 (Value.bool true) v33) λv37=>
 dW v37
 (R (Value.int IntKind.i64 1) h34)
 (bR PG aAs #[t0] h34 λv38 h39=>
 dW v38
 (R (Value.int IntKind.i64 13) h39)
 (dA (dE PG (gW t0)) λv40=>
 dA (dE PG (fieldAt fM v40 2)) λv41=>
 dA (dH PG h39 (loadAt fS v41)) λv42=>
 dA (dE PG (build fP #[(0,t1),(1,t2)])) λv43=>
 dA (lH PG (buildSlice fS 1 #[(0,v43)])) λx45=>∀r44,h39 r44=none->dA (dE PG (x45.2 r44)) λv46=>fK (PH.set h39 r44 x45.1) λh47=>
 dT PG (Builtin.append_ #[fS,fS] fS #[v42,v46]) h47 λv48 h49=>
 dA (dE PG (gW t0)) λv50=>
 dA (dE PG (fieldAt fM v50 2)) λv51=>
 dT PG (dX fS v51 v48) h49 λv52 h53=>
 R (Value.int IntKind.i64 0) h53))
def aDF.call{t0 t1 t2 h0 R}(H:aDF t0 t1 t2 h0 R):bR PG aDf #[t0,t1,t2] h0 R:=eO (jU 40) Tryz.func129 H
def aKb(R:dI)(n4:iC)(t0:Value)(t1:Value)(t2:Value)(t8:Value)(t9:Value)(t10:Value)(h0:PH):Prop:=
 dA (dE PG (binOp BinOp.mul aR t9 t0)) λv6=>
 dA (dE PG (Instr.sliceAt aT t2 (some v6) none none)) λv7=>
 bR PG aFb #[t0,t1,t10,v7] h0 λv8 h9=>
 dA (dE PG (extract v8 0)) λv10=>
 dA (dE PG (extract v8 1)) λv11=>
 dA (dH PG h9 (gV BinOp.eql aR (.tmp 30) (.const (Value.int IntKind.i64 0)) v11 (Value.int IntKind.i64 0))) λv12=>
 dW v12
 (R (Value.tuple #[t8,t9]) h9)
 (dA (lH PG (buildSlice eB 1 #[(0,v10)])) λx14=>∀r13,h9 r13=none->dA (dE PG (x14.2 r13)) λv15=>fK (PH.set h9 r13 x14.1) λh16=>
 dT PG (Builtin.append_ #[eB,eB] eB #[t8,v15]) h16 λv17 h18=>
 dA (dE PG (binOp BinOp.add aR t9 v11)) λv19=>
 dA (dE PG (binOp BinOp.add dN t10 (Value.int IntKind.u64 1))) λv20=>
 n4 [t0,t1,t2,v17,v19,v20] h18)
def aIB(t0:Value)(t1:Value)(t2:Value)(h0:PH)(R:dI):Prop:=
 bR PG aBj #[t0] h0 λv1 h2=>
 dA (dE PG (Op.unary UnOp.not v1)) λv3=>
 dW v3
 (R (Value.tuple #[(Value.slice none 0 0),(Value.int IntKind.i64 0)]) h2)
 (iV [0,1,2,8,9,10] (λn4 ρ h=>aKb R n4 (ρ 0) (ρ 1) (ρ 2) (ρ 8) (ρ 9) (ρ 10) h) [t0,t1,t2,(Value.slice none 0 0),(Value.int IntKind.i64 0),(Value.int IntKind.u64 0)] h2)
def aIB.call{t0 t1 t2 h0 R}(H:aIB t0 t1 t2 h0 R):bR PG aHV #[t0,t1,t2] h0 R:=eO (uH 7 [0,1,2,8,9,10] 41) Tryz.func64 H
def aGv(t0:Value)(h0:PH)(R:dI):Prop:=
 dA (dE PG (binOp BinOp.geq aR t0 (Value.int IntKind.i64 64))) λv1=>
 gG (yV v1) true (λk4=>k4 t0 h0) h0 λv2 h3=>
 gG (yV v1) true (λk7=>dA (dE PG (binOp BinOp.leq aR v2 (Value.int IntKind.i64 512))) λv8=>k7 v8 h3) h3 λv5 h6=>
 dA (gA v1 v5 (Value.bool false)) λv9=>
 R v9 h6
def aGv.call{t0 h0 R}(H:aGv t0 h0 R):bR PG aBj #[t0] h0 R:=eO (jU 9) Tryz.func130 H
def aCF(R:dI)(n1:iC)(t0:Value)(t1:Value)(t2:Value)(t3:Value)(t10:Value)(t11:Value)(t12:Value)(t13:Value)(t14:Value)(h0:PH):Prop:=
 dA (dH PG h0 (gV BinOp.neq eY (.tmp 42) (.const (Value.int IntKind.i64 0)) t14 (Value.int IntKind.i64 0))) λv23=>
 gG (yV v23) false (λk26=>dA (dE PG (fieldAt dZ t13 0)) λv27=>k26 v27 h0) h0 λv24 h25=>
 gG (yV v23) false (λk30=>dA (dH PG h25 (loadAt dN v24)) λv31=>k30 v31 h25) h25 λv28 h29=>
 gG (yV v23) false (λk34=>k34 t1 h29) h29 λv32 h33=>
 gG (yV v23) false (λk37=>dA (dH PG h33 (gV BinOp.neq dN (.tmp 46) (.tmp 47) v28 v32)) λv38=>k37 v38 h33) h33 λv35 h36=>
 dA (gA v23 (Value.bool true) v35) λv39=>
 gG (yV v39) false (λk42=>dA (dE PG (fieldAt dZ t13 1)) λv43=>k42 v43 h36) h36 λv40 h41=>
 gG (yV v39) false (λk46=>dA (dH PG h41 (loadAt dN v40)) λv47=>k46 v47 h41) h41 λv44 h45=>
 gG (yV v39) false (λk50=>k50 t2 h45) h45 λv48 h49=>
 gG (yV v39) false (λk53=>dA (dH PG h49 (gV BinOp.neq dN (.tmp 52) (.tmp 53) v44 v48)) λv54=>k53 v54 h49) h49 λv51 h52=>
 dA (gA v39 (Value.bool true) v51) λv55=>
 gG (yV v55) false (λk58=>dA (dE PG (fieldAt dZ t13 2)) λv59=>k58 v59 h52) h52 λv56 h57=>
 gG (yV v55) false (λk62=>dA (dH PG h57 (loadAt aR v56)) λv63=>k62 v63 h57) h57 λv60 h61=>
 gG (yV v55) false (λk66=>k66 t12 h61) h61 λv64 h65=>
 gG (yV v55) false (λk69=>dA (dH PG h65 (gV BinOp.neq aR (.tmp 58) (.tmp 59) v60 v64)) λv70=>k69 v70 h65) h65 λv67 h68=>
 dA (gA v55 (Value.bool true) v67) λv71=>
 gG (yV v71) false (λk74=>dA (dE PG (fieldAt dZ t13 3)) λv75=>k74 v75 h68) h68 λv72 h73=>
 gG (yV v71) false (λk78=>dA (dH PG h73 (loadAt aR v72)) λv79=>k78 v79 h73) h73 λv76 h77=>
 gG (yV v71) false (λk82=>k82 t11 h77) h77 λv80 h81=>
 gG (yV v71) false (λk85=>dA (dH PG h81 (gV BinOp.neq aR (.tmp 64) (.tmp 65) v76 v80)) λv86=>k85 v86 h81) h81 λv83 h84=>
 dA (gA v71 (Value.bool true) v83) λv87=>
 dW v87
 (R (Value.tuple #[(Value.string {data:=#[]}),(Value.int IntKind.i64 0)]) h84)
 (dA (dE PG (fieldAt dZ t13 4)) λv88=>
 dA (dH PG h84 (loadAt aT v88)) λv89=>
 dA (dE PG (binOp BinOp.add aT t10 v89)) λv90=>
 dA (dE PG (fieldAt dZ t13 3)) λv91=>
 dA (dH PG h84 (loadAt aR v91)) λv92=>
 dA (dE PG (binOp BinOp.sub aR v92 (Value.int IntKind.i64 1))) λv93=>
 dA (dH PG h84 (gV BinOp.eql aR (.tmp 72) (.tmp 75) t12 v93)) λv94=>
 dW v94
 (dA (dE PG (fieldAt dZ t13 3)) λv95=>
 dA (dH PG h84 (loadAt aR v95)) λv96=>
 R (Value.tuple #[v90,v96]) h84)
 (dA (dE PG (binOp BinOp.add aR t12 (Value.int IntKind.i64 1))) λv97=>
 n1 [t0,t1,t2,t3,v90,t11,v97] h84))
def aIz(R:dI)(n1:iC)(t0:Value)(t1:Value)(t2:Value)(t3:Value)(t10:Value)(t11:Value)(t12:Value)(h0:PH):Prop:=
 dA (dE PG (binOp BinOp.add aR t12 (Value.int IntKind.i64 1))) λv3=>
 dA (dE PG (binOp BinOp.mul aR v3 t0)) λv4=>
 dA (dE PG (Builtin.len_ #[aT] aR #[t3])) λv5=>
 dA (dE PG (binOp BinOp.leq aR v4 v5)) λv6=>
 dW v6
 (dA (dE PG (binOp BinOp.mul aR t12 t0)) λv7=>
 dA (dE PG (binOp BinOp.add aR t12 (Value.int IntKind.i64 1))) λv8=>
 dA (dE PG (binOp BinOp.mul aR v8 t0)) λv9=>
 dA (dE PG (Instr.sliceAt aT t3 (some v7) (some v9) none)) λv10=>
 bR PG aHd #[t0,v10] h0 λv11 h12=>
 dA (dE PG (extract v11 0)) λv13=>
 dA (dE PG (extract v11 1)) λv14=>
 ∀r15,h12 r15=none->fK (PH.set h12 r15 (.cells (eX PG dZ) dZ)) λh16=>
 dT PG (dX dZ (pT r15 0) v13) h16 λv17 h18=>
 dA (dH PG h18 (gV BinOp.eql aR (.tmp 38) (.const (Value.int IntKind.i64 0)) t12 (Value.int IntKind.i64 0))) λv19=>
 dW v19
 (dA (dE PG (fieldAt dZ (pT r15 0) 3)) λv20=>
 dA (dH PG h18 (loadAt aR v20)) λv21=>
 aCF R n1 t0 t1 t2 t3 t10 v21 t12 (pT r15 0) v14 h18)
 (aCF R n1 t0 t1 t2 t3 t10 t11 t12 (pT r15 0) v14 h18))
 (R (Value.tuple #[(Value.string {data:=#[]}),(Value.int IntKind.i64 0)]) h0)
def aB2(t0:Value)(t1:Value)(t2:Value)(t3:Value)(h0:PH)(R:dI):Prop:=
 iV [0,1,2,3,10,11,12] (λn1 ρ h=>aIz R n1 (ρ 0) (ρ 1) (ρ 2) (ρ 3) (ρ 10) (ρ 11) (ρ 12) h) [t0,t1,t2,t3,(Value.string {data:=#[]}),(Value.int IntKind.i64 0),(Value.int IntKind.i64 0)] h0
def aB2.ann:kW:={b:=λi=>match i with|12=>#[0,0,2,1,15]|_=>#[],ord:=λi=>match i with|12=>[0,1,2,3,4]|_=>[],keep:=λi=>match i with|3=>[0,1,2,3,10,11,12]|_=>[],n:=80}
def aB2.call{t0 t1 t2 t3 h0 R}(H:aB2 t0 t1 t2 t3 h0 R):bR PG aFb #[t0,t1,t2,t3] h0 R:=eO aB2.ann Tryz.func131 H
def aD0(t0:Value)(t1:Value)(h0:PH)(R:dI):Prop:=
 ∀r1,h0 r1=none->fK (PH.set h0 r1 (.cells (eX PG dZ) dZ)) λh2=>
 bR PG aBj #[t0] h2 λv3 h4=>
 dA (dE PG (Op.unary UnOp.not v3)) λv5=>
 dW v5
 (dA (dE PG (build dZ #[])) λv6=>
 dT PG (dX dZ (pT r1 0) v6) h4 λv7 h8=>
 dA (dH PG h8 (loadAt dZ (pT r1 0))) λv9=>
 R (Value.tuple #[v9,(Value.int IntKind.i64 1)]) h8)
 (dA (dE PG (Builtin.len_ #[aT] aR #[t1])) λv10=>
 dA (dH PG h4 (gV BinOp.neq aR (.tmp 19) (.tmp 20) v10 t0)) λv11=>
 dW v11
 (dA (dE PG (build dZ #[])) λv12=>
 dT PG (dX dZ (pT r1 0) v12) h4 λv13 h14=>
 dA (dH PG h14 (loadAt dZ (pT r1 0))) λv15=>
 R (Value.tuple #[v15,(Value.int IntKind.i64 6)]) h14)
 (bR PG aFg #[t1] h4 λv16 h17=>
 dA (dE PG (Op.unary UnOp.not v16)) λv18=>
 dW v18
 (dA (dE PG (build dZ #[])) λv19=>
 dT PG (dX dZ (pT r1 0) v19) h17 λv20 h21=>
 dA (dH PG h21 (loadAt dZ (pT r1 0))) λv22=>
 R (Value.tuple #[v22,(Value.int IntKind.i64 8)]) h21)
 (dA (dE PG (binOp BinOp.sub aR t0 (Value.int IntKind.i64 4))) λv23=>
 dA (dE PG (Instr.sliceAt aT t1 none (some v23) none)) λv24=>
 bR PG yF #[v24] h17 λv25 h26=>
 bR PG sT #[v25,(Value.int IntKind.i64 1)] h26 λv27 h28=>
 bR PG mE #[v25] h28 λv29 h30=>
 bR PG mE #[v25] h30 λv31 h32=>
 bR PG kY #[v25] h32 λv33 h34=>
 bR PG kY #[v25] h34 λv35 h36=>
 bR PG aAP #[v25] h36 λv37 h38=>
 dA (dE PG (build dZ #[(0,v29),(1,v31),(2,v33),(3,v35),(4,v37)])) λv39=>
 ∀r40,h38 r40=none->fK (PH.set h38 r40 (.cells (eX PG dZ) dZ)) λh41=>
 dT PG (dX dZ (pT r40 0) v39) h41 λv42 h43=>
 bR PG aAL #[v25] h43 λv44 h45=>
 bR PG sT #[v25,v44] h45 λv46 h47=>
 dA (dE PG (fieldAt dZ (pT r40 0) 2)) λv48=>
 dA (dH PG h47 (loadAt aR v48)) λv49=>
 dA (dE PG (fieldAt dZ (pT r40 0) 3)) λv50=>
 dA (dH PG h47 (loadAt aR v50)) λv51=>
 dA (dE PG (binOp BinOp.sub aR v51 (Value.int IntKind.i64 1))) λv52=>
 dA (dH PG h47 (gV BinOp.eql aR (.tmp 51) (.tmp 54) v49 v52)) λv53=>
 dA (dE PG (binOp BinOp.sub aR t0 (Value.int IntKind.i64 25))) λv54=>
 dA (dE PG (gW v25)) λv55=>
 dA (dE PG (fieldAt gF v55 0)) λv56=>
 bR PG jR #[v56] h47 λv57 h58=>
 dA (dH PG h58 (gV BinOp.neq eY (.tmp 62) (.const (Value.int IntKind.i64 0)) v57 (Value.int IntKind.i64 0))) λv59=>
 gG (yV v59) false (λk62=>k62 v27 h58) h58 λv60 h61=>
 gG (yV v59) false (λk65=>dA (dH PG h61 (gV BinOp.neq aT (.tmp 65) (.const (Value.string {data:=#[82]})) v60 (Value.string {data:=#[82]}))) λv66=>k65 v66 h61) h61 λv63 h64=>
 dA (gA v59 (Value.bool true) v63) λv67=>
 gG (yV v67) false (λk70=>k70 v46 h64) h64 λv68 h69=>
 gG (yV v67) false (λk73=>bR PG aFx #[v68,(Value.string {data:=#[0]})] h69 λv74 h75=>k73 v74 h75) h69 λv71 h72=>
 gG (yV v67) false (λk78=>dA (dH PG h72 (gV BinOp.neq aT (.tmp 70) (.const (Value.string {data:=#[]})) v71 (Value.string {data:=#[]}))) λv79=>k78 v79 h72) h72 λv76 h77=>
 dA (gA v67 (Value.bool true) v76) λv80=>
 gG (yV v80) false (λk83=>dA (dE PG (fieldAt dZ (pT r40 0) 2)) λv84=>k83 v84 h77) h77 λv81 h82=>
 gG (yV v80) false (λk87=>dA (dH PG h82 (loadAt aR v81)) λv88=>k87 v88 h82) h82 λv85 h86=>
 gG (yV v80) false (λk91=>dA (dE PG (fieldAt dZ (pT r40 0) 3)) λv92=>k91 v92 h86) h86 λv89 h90=>
 gG (yV v80) false (λk95=>dA (dH PG h90 (loadAt aR v89)) λv96=>k95 v96 h90) h90 λv93 h94=>
 gG (yV v80) false (λk99=>dA (dE PG (binOp BinOp.geq aR v85 v93)) λv100=>k99 v100 h94) h94 λv97 h98=>
 dA (gA v80 (Value.bool true) v97) λv101=>
 dW v101
 (dA (dE PG (build dZ #[])) λv102=>
 dT PG (dX dZ (pT r1 0) v102) h98 λv103 h104=>
 dA (dH PG h104 (loadAt dZ (pT r1 0))) λv105=>
 R (Value.tuple #[v105,(Value.int IntKind.i64 5)]) h104)
 (dA (dE PG (Op.unary UnOp.not v53)) λv106=>
 gG (yV v106) true (λk109=>dA (dE PG (fieldAt dZ (pT r40 0) 4)) λv110=>k109 v110 h98) h98 λv107 h108=>
 gG (yV v106) true (λk113=>dA (dH PG h108 (loadAt aT v107)) λv114=>k113 v114 h108) h108 λv111 h112=>
 gG (yV v106) true (λk117=>dA (dE PG (Builtin.len_ #[aT] aR #[v111])) λv118=>k117 v118 h112) h112 λv115 h116=>
 gG (yV v106) true (λk121=>k121 v54 h116) h116 λv119 h120=>
 gG (yV v106) true (λk124=>dA (dH PG h120 (gV BinOp.neq aR (.tmp 87) (.tmp 88) v115 v119)) λv125=>k124 v125 h120) h120 λv122 h123=>
 dA (gA v106 v122 (Value.bool false)) λv126=>
 gG (yV v126) false (λk129=>k129 v53 h123) h123 λv127 h128=>
 gG (yV v126) false (λk132=>k132 v127 h128) h128 λv130 h131=>
 gG (yV v130) true (λk135=>dA (dE PG (fieldAt dZ (pT r40 0) 3)) λv136=>k135 v136 h131) h131 λv133 h134=>
 gG (yV v130) true (λk139=>dA (dH PG h134 (loadAt aR v133)) λv140=>k139 v140 h134) h134 λv137 h138=>
 gG (yV v130) true (λk143=>dA (dE PG (binOp BinOp.gtr aR v137 (Value.int IntKind.i64 1))) λv144=>k143 v144 h138) h138 λv141 h142=>
 gG (yV v126) false (λk147=>dA (gA v130 v141 (Value.bool false)) λv148=>k147 v148 h142) h142 λv145 h146=>
 gG (yV v126) false (λk151=>k151 v145 h146) h146 λv149 h150=>
 gG (yV v149) true (λk154=>dA (dE PG (fieldAt dZ (pT r40 0) 4)) λv155=>k154 v155 h150) h150 λv152 h153=>
 gG (yV v149) true (λk158=>dA (dH PG h153 (loadAt aT v152)) λv159=>k158 v159 h153) h153 λv156 h157=>
 gG (yV v149) true (λk162=>dA (dH PG h157 (gV BinOp.eql aT (.tmp 100) (.const (Value.string {data:=#[]})) v156 (Value.string {data:=#[]}))) λv163=>k162 v163 h157) h157 λv160 h161=>
 gG (yV v126) false (λk166=>dA (gA v149 v160 (Value.bool false)) λv167=>k166 v167 h161) h161 λv164 h165=>
 dA (gA v126 (Value.bool true) v164) λv168=>
 dW v168
 (dA (dE PG (build dZ #[])) λv169=>
 dT PG (dX dZ (pT r1 0) v169) h165 λv170 h171=>
 dA (dH PG h171 (loadAt dZ (pT r1 0))) λv172=>
 R (Value.tuple #[v172,(Value.int IntKind.i64 5)]) h171)
 (dA (dE PG (fieldAt dZ (pT r40 0) 2)) λv173=>
 dA (dH PG h165 (loadAt aR v173)) λv174=>
 dA (dE PG (binOp BinOp.mul aR v174 v54)) λv175=>
 dA (dE PG (fieldAt dZ (pT r40 0) 4)) λv176=>
 dA (dH PG h165 (loadAt aT v176)) λv177=>
 dA (dE PG (Builtin.len_ #[aT] aR #[v177])) λv178=>
 dA (dE PG (binOp BinOp.add aR v175 v178)) λv179=>
 bR PG vA #[t0,v179] h165 λv180 h181=>
 (dA (dH PG h181 (gV BinOp.eql aR (.tmp 115) (.const (Value.int IntKind.i64 0)) v180 (Value.int IntKind.i64 0))) λv182=>
 gG (yV v182) false (λk185=>dA (dE PG (fieldAt dZ (pT r40 0) 3)) λv186=>k185 v186 h181) h181 λv183 h184=>
 gG (yV v182) false (λk189=>dA (dH PG h184 (loadAt aR v183)) λv190=>k189 v190 h184) h184 λv187 h188=>
 gG (yV v182) false (λk193=>k193 t0 h188) h188 λv191 h192=>
 gG (yV v182) false (λk196=>bR PG vA #[v191,(Value.int IntKind.i64 4096)] h192 λv197 h198=>k196 v197 h198) h192 λv194 h195=>
 ((yV v182==some false)=true->dH PG h195 (loadAt aR v183)=some v187)∧(gG (yV v182) false (λk201=>dA (dE PG (binOp BinOp.gtr aR v187 v194)) λv202=>k201 v202 h195) h195 λv199 h200=>
 dA (gA v182 (Value.bool true) v199) λv203=>
 dW v203
 (dA (dE PG (build dZ #[])) λv204=>
 dT PG (dX dZ (pT r1 0) v204) h200 λv205 h206=>
 dA (dH PG h206 (loadAt dZ (pT r1 0))) λv207=>
 R (Value.tuple #[v207,(Value.int IntKind.i64 5)]) h206)
 (dA (dH PG h200 (loadAt dZ (pT r40 0))) λv208=>
 dT PG (dX dZ (pT r1 0) v208) h200 λv209 h210=>
 dA (dH PG h210 (loadAt dZ (pT r1 0))) λv211=>
 R (Value.tuple #[v211,(Value.int IntKind.i64 0)]) h210))))))))
def aD0.ann:kW:={b:=λi=>match i with|16=>#[0,0,2,0,14,0,32,96,254,511,1023,2047,4095,8191,4095,20479,65535,131071,262143]|_=>#[],ord:=λi=>match i with|16=>[0,1,2,3,4,5,6,7,8,9,10,11,12,13,14,15,16,17,18]|_=>[],keep:=λ_=>[],n:=126}
def aD0.call{t0 t1 h0 R}(H:aD0 t0 t1 h0 R):bR PG aHd #[t0,t1] h0 R:=eO aD0.ann Tryz.func177 H
def aGq(t0:Value)(t1:Value)(h0:PH)(R:dI):Prop:=
 bR PG aBj #[t0] h0 λv1 h2=>
 dA (dE PG (Op.unary UnOp.not v1)) λv3=>
 gG (yV v3) false (λk6=>k6 t1 h2) h2 λv4 h5=>
 gG (yV v3) false (λk9=>dA (dE PG (binOp BinOp.lss aR v4 (Value.int IntKind.i64 0))) λv10=>k9 v10 h5) h5 λv7 h8=>
 dA (gA v3 (Value.bool true) v7) λv11=>
 gG (yV v11) false (λk14=>k14 t1 h8) h8 λv12 h13=>
 gG (yV v11) false (λk17=>dA (dE PG (binOp BinOp.gtr aR v12 (Value.int IntKind.i64 4096))) λv18=>k17 v18 h13) h13 λv15 h16=>
 dA (gA v11 (Value.bool true) v15) λv19=>
 dW v19
 (R (Value.int IntKind.i64 0) h16)
 (dA (dE PG (binOp BinOp.sub aR t0 (Value.int IntKind.i64 25))) λv20=>
 dA (dE PG (binOp BinOp.add aR t1 v20)) λv21=>
 dA (dE PG (binOp BinOp.sub aR v21 (Value.int IntKind.i64 1))) λv22=>
 dA (dE PG (binOp BinOp.quo aR v22 v20)) λv23=>
 dA (dE PG (Builtin.max_ #[aR,aR] aR #[(Value.int IntKind.i64 1),v23])) λv24=>
 R v24 h16)
def aGq.call{t0 t1 h0 R}(H:aGq t0 t1 h0 R):bR PG vA #[t0,t1] h0 R:=eO (jU 26) Tryz.func72 H
def aCJ(b:Value)(c:PH)(R:dI):Prop:=gU b λd=>fA gF d 0 λe=>bR PG jR #[e] c λf a=>iJ a .neq eY (.tmp 6) (.const (.int .i64 0)) f (.int .i64 0) λg=>dW g (R (.int .i64 0) a) (gU b λh=>fA gF h 1 λi=>eN a aT i λj=>jH aT aR j λk=>R k a)
def aCJ.call{t0 h0 R}(H:aCJ t0 h0 R):bR PG aAL #[t0] h0 R:=eO (jU 13) Tryz.func183 H
def aCO(a:Value)(b:PH)(R:dI):Prop:=bR PG wB #[a,.int .i64 2] b λc d=>pP (convert dN aR c) λe=>bR PG sT #[a,e] d λf g=>R f g
def aCO.call{t0 h0 R}(H:aCO t0 h0 R):bR PG aAP #[t0] h0 R:=eO (jU 8) Tryz.func213 H
def aBx(b a:Value)(g:PH)(R:dI):Prop:=iJ g .eql aT (.tmp 7) (.const (.string ⟨#[]⟩)) b (.string ⟨#[]⟩) λe=>iW e false a g λl m=>gZ e false (gV .eql aT (.tmp 10) (.const (.string ⟨#[]⟩)) l (.string ⟨#[]⟩)) m λn f=>dA (gA e (.bool true) n) λo=>dW o (R b f) (jH aT aR a λp=>iJ f .eql aR (.tmp 15) (.const (.int .i64 1)) p (.int .i64 1) λd=>iW d true a f λq r=>fV d true (Instr.index aT q (.int .i64 0)) r λs u=>fV d true (binOp .lss eZ s (.int .u8 128)) u λv h=>dA (gA d v (.bool false)) λw=>dW w (pP (Instr.index aT a (.int .i64 0)) λx=>pP (Instr.index aT a (.int .i64 0)) λy=>bR PG zU #[b,x] h λz A=>(bR PG aAT #[z,y] A λB C=>(R B C))) (bR PG aIw #[a] h λi j=>iD i 0 λD=>iD i 1 λE=>∀c,j c=none->fK (PH.set j c (.cells (eX PG aDh) aDh)) λF=>dT PG (dX aDh (pT c 0) D) F λO k=>dW E (bR PG aH8 #[b,pT c 0] k λG H=>bR PG aId #[G,pT c 0] H λI J=>R I J) (bR PG aHN #[b,a] k λK L=>bR PG aHj #[K,a] L λM N=>R M N)))
def aBx.ann:kW:={b:=λi=>match i with|4=>#[0,0,2,7,0,16,63,127]|_=>#[],ord:=λi=>match i with|4=>[0,1,2,4,5,3,6,7]|_=>[],keep:=λ_=>[],n:=43}
def aBx.call{t0 t1 h0 R}(H:aBx t0 t1 h0 R):bR PG aFx #[t0,t1] h0 R:=eO aBx.ann Tryz.func214 H
def aD6(R:dI)(e:iC)(b c:Value)(f:PH):Prop:=jH aT aR b λg=>fL .gtr aR g (.int .i64 0) λa=>iW a true b f λh i=>fV a true (Instr.index aT h (.int .i64 0)) i λj k=>iW a true c k λl m=>gZ a true (gV .eql eZ (.tmp 10) (.tmp 11) j l) m λn d=>dA (gA a n (.bool false)) λo=>dW o (pP (Instr.sliceAt aT b (some (.int .i64 1)) none none) λp=>e [p,c] d) (R b d)
def yT(a b:Value)(c:PH)(R:dI):Prop:=iV [0,1] (λd ρ h=>aD6 R d (ρ 0) (ρ 1) h) [a,b] c
def yT.call{t0 t1 h0 R}(H:yT t0 t1 h0 R):bR PG aAT #[t0,t1] h0 R:=eO (uH 1 [0,1] 17) Tryz.func226 H
def aDU(R:dI)(e:iC)(b c:Value)(f:PH):Prop:=jH aT aR b λg=>fL .gtr aR g (.int .i64 0) λa=>iW a true b f λh i=>iW a true b i λj k=>fV a true (Builtin.len_ #[aT] aR #[j]) k λl m=>fV a true (binOp .sub aR l (.int .i64 1)) m λn o=>fV a true (Instr.index aT h n) o λp q=>iW a true c q λr s=>gZ a true (gV .eql eZ (.tmp 13) (.tmp 14) p r) s λu d=>dA (gA a u (.bool false)) λv=>dW v (jH aT aR b λw=>fL .sub aR w (.int .i64 1) λx=>pP (Instr.sliceAt aT b none (some x) none) λy=>e [y,c] d) (R b d)
def xP(a b:Value)(c:PH)(R:dI):Prop:=iV [0,1] (λd ρ h=>aDU R d (ρ 0) (ρ 1) h) [a,b] c
def xP.call{t0 t1 h0 R}(H:xP t0 t1 h0 R):bR PG zU #[t0,t1] h0 R:=eO (uH 1 [0,1] 23) Tryz.func227 H
def aDt(t0:Value)(t1:Value)(h0:PH)(R:dI):Prop:=
 ∀r1,h0 r1=none->fK (PH.set h0 r1 (.cells (Value.cells t0) fQ)) λh2=>
 dA (dH PG h2 (loadAt fQ (pT r1 0))) λv3=>
 bR PG qZ #[v3] h2 λv4 h5=>
 dA (dE PG (binOp BinOp.mul aR t1 v4)) λv6=>
 dA (dE PG (binOp BinOp.add aR (Value.int IntKind.i64 2) v6)) λv7=>
 R v7 h5
def aDt.call{t0 t1 h0 R}(H:aDt t0 t1 h0 R):bR PG yC #[t0,t1] h0 R:=eO (jU 10) Tryz.func65 H
def aBS(t0:Value)(h0:PH)(R:dI):Prop:=
 ∀r1,h0 r1=none->fK (PH.set h0 r1 (.cells (Value.cells t0) fQ)) λh2=>
 dA (dE PG (fieldAt fQ (pT r1 0) 0)) λv3=>
 dA (dH PG h2 (loadAt hZ v3)) λv4=>
 dA (dE PG (gW v4)) λv5=>
 dA (dE PG (fieldAt fM v5 0)) λv6=>
 dA (dH PG h2 (loadAt fR v6)) λv7=>
 bR PG tS #[v7] h2 λv8 h9=>
 dA (dE PG (binOp BinOp.sub aR v8 (Value.int IntKind.i64 2))) λv10=>
 dA (dE PG (binOp BinOp.quo aR v10 (Value.int IntKind.i64 2))) λv11=>
 R v11 h9
def aBS.call{t0 h0 R}(H:aBS t0 h0 R):bR PG qZ #[t0] h0 R:=eO (jU 11) Tryz.func66 H
def aHo(R:dI)(l:iC)(b f c g h i d:Value)(a:PH):Prop:=fL .lss aR d i λm=>dW m (nP eB h d λn=>eN a aT n λo=>aAK PG g #[o] a λy p=>fL .add aR d (.int .i64 1) λq=>l [b,f,c,g,h,i,q] p) (eN a eY c λr=>iJ a .neq eY (.tmp 35) (.const (.int .i64 0)) r (.int .i64 0) λs=>dW s (pP (build cR #[]) λu=>eN a eY c λj=>dT PG (dX cR b u) a λz e=>dH PG e (loadAt eY c)=some j∧(eN e cR b λv=>R (.tuple #[v,j]) e)) (eN a cR f λw=>dT PG (dX cR b w) a λA k=>eN k cR b λx=>R (.tuple #[x,.int .i64 0]) k))
def aAX(o f:Value)(g:PH)(R:dI):Prop:=∀e,g e=none->fK (PH.set g e (.cells o.cells aR)) λi=>∀a,i a=none->fK (PH.set i a (.cells (eX PG cR) cR)) λb=>jH eB aR f λp=>iJ b .eql aR (.tmp 12) (.const (.int .i64 0)) p (.int .i64 0) λq=>dW q (pP (build cR #[]) λr=>dT PG (dX cR (pT a 0) r) b λF j=>eN j cR (pT a 0) λs=>R (.tuple #[s,.int .i64 3]) j) (eN b aR (pT e 0) λu=>nP eB f (.int .i64 0) λv=>eN b aT v λw=>bR PG aF1 #[u,w] b λk l=>(iD k 0 λx=>iD k 1 λy=>∀c,l c=none->fK (PH.set l c (.cells (eX PG cR) cR)) λm=>∀d,m d=none->fK (PH.set m d (.cells (eX PG eY) eY)) λz=>dT PG (dX cR (pT c 0) x) z λG A=>(dT PG (dX eY (pT d 0) y) A λH B=>(pP (Instr.makeFunc (Fn.func vX) #[] #[pT d 0,pT c 0,pT e 0]) λC=>pP (Instr.sliceAt eB f (some (.int .i64 1)) none none) λn=>jH eB aR n λD=>iV [4,6,7,8,25,26,27] (λE ρ h=>aHo R E (ρ 4) (ρ 6) (ρ 7) (ρ 8) (ρ 25) (ρ 26) (ρ 27) h) [(pT a 0),pT c 0,pT d 0,C,n,D,.int .i64 0] B))))
def aAX.ann:kW:={b:=λi=>match i with|3=>#[0,0,2,6,15,31,63,63,0,0,895,2047]|11=>#[0,0,1,7]|_=>#[],ord:=λi=>match i with|3=>[0,1,2,3,4,5,6,7,8,9,10,11]|11=>[0,1,2,3]|_=>[],keep:=λi=>match i with|6=>[4,6,7,8,25,26,27]|_=>[],n:=40}
def aAX.call{t0 t1 h0 R}(H:aAX t0 t1 h0 R):bR PG aE3 #[t0,t1] h0 R:=eO aAX.ann Tryz.func29 H
def aFP(n o:Value)(e:PH)(R:dI):Prop:=∀a,e a=none->fK (PH.set e a (.cells (eX PG cR) cR)) λp=>bR PG aC4 #[o] p λf g=>iD f 0 λq=>iD f 1 λh=>∀c,g c=none->fK (PH.set g c (.cells (eX PG bT) bT)) λr=>dT PG (dX bT (pT c 0) q) r λJ b=>iJ b .neq eY (.tmp 15) (.const (.int .i64 0)) h (.int .i64 0) λs=>dW s (pP (build cR #[]) λu=>dT PG (dX cR (pT a 0) u) b λK i=>eN i cR (pT a 0) λv=>R (.tuple #[v,h]) i) (fA bT (pT c 0) 0 λw=>eN b aR w λx=>iJ b .neq aR (.tmp 21) (.const (.int .i64 1)) x (.int .i64 1) λy=>dW y (pP (build cR #[]) λz=>dT PG (dX cR (pT a 0) z) b λL j=>eN j cR (pT a 0) λA=>R (.tuple #[A,.int .i64 5]) j) (fA bT (pT c 0) 1 λB=>eN b cR B λC=>bR PG xG #[C,n] b λk d=>iJ d .neq eY (.tmp 28) (.const (.int .i64 0)) k (.int .i64 0) λD=>dW D (pP (build cR #[]) λE=>dT PG (dX cR (pT a 0) E) d λM l=>eN l cR (pT a 0) λF=>R (.tuple #[F,k]) l) (fA bT (pT c 0) 1 λG=>eN d cR G λH=>dT PG (dX cR (pT a 0) H) d λN m=>eN m cR (pT a 0) λI=>R (.tuple #[I,.int .i64 0]) m)))
def aFP.call{t0 t1 h0 R}(H:aFP t0 t1 h0 R):bR PG aF1 #[t0,t1] h0 R:=eO (jU 34) Tryz.func67 H
def aCc(R:dI)(a f g:Value)(h:PH):Prop:=bR PG aDe #[f] h λc b=>iJ b .neq eY (.tmp 51) (.const (.int .i64 0)) c (.int .i64 0) λi=>dW i (pP (build bT #[]) λj=>dT PG (dX bT a j) b λn d=>eN d bT a λk=>R (.tuple #[k,c]) d) (eN b bT g λl=>dT PG (dX bT a l) b λo e=>eN e bT a λm=>R (.tuple #[m,.int .i64 0]) e)
def aE2(R:dI)(c a b:Value)(d:PH):Prop:=eN d bT b λf=>bR PG aDM #[f] d λg e=>pP (Op.unary .not g) λh=>dW h (gU a λi=>fA gF i 0 λj=>bR PG kG #[j,.int .i64 5] e λl k=>aCc R c a b k) (aCc R c a b e)
def vF(R:dI)(a b c:Value)(d:PH):Prop:=aE2 R a b c d
def aIf(R:dI)(f:iC)(d a b c:Value)(e:PH):Prop:=fL .lss aR c (.int .i64 2) λg=>dW g (bR PG aEc #[a] e λh i=>fA bT b 1 λj=>fA cR j 0 λk=>nP eD k c λl=>dT PG (dX dK l h) i λu m=>fL .add aR c (.int .i64 1) λn=>f [d,a,b,n] m) (bR PG aHX #[a] e λo p=>fA bT b 1 λq=>fA cR q 1 λr=>dT PG (dX dC r o) p λv s=>vF R d a b s)
def aFe(i:Value)(e:PH)(R:dI):Prop:=∀d,e d=none->fK (PH.set e d (.cells (eX PG bT) bT)) λj=>bR PG yF #[i] j λb k=>bR PG kY #[b] k λl f=>pP (build bT #[(0,l)]) λm=>∀a,f a=none->fK (PH.set f a (.cells (eX PG bT) bT)) λn=>dT PG (dX bT (pT a 0) m) n λF c=>fA bT (pT a 0) 0 λo=>eN c aR o λg=>iJ c .eql aR (.tmp 14) (.const (.int .i64 1)) g (.int .i64 1) λp=>dW p (iV [2,4,5,17] (λq ρ h=>aIf R q (ρ 2) (ρ 4) (ρ 5) (ρ 17) h) [(pT d 0),b,pT a 0,.int .i64 0] c) (iJ c .eql aR (.tmp 14) (.const (.int .i64 2)) g (.int .i64 2) λr=>dW r (bR PG kY #[b] c λs u=>fA bT (pT a 0) 2 λv=>dT PG (dX aR v s) u λG w=>bR PG aEc #[b] w λx y=>fA bT (pT a 0) 3 λz=>dT PG (dX dK z x) y λH A=>bR PG aHe #[b] A λB C=>fA bT (pT a 0) 4 λD=>dT PG (dX eK D B) C λI E=>vF R (pT d 0) b (pT a 0) E) (vF R (pT d 0) b (pT a 0) c))
def aFe.call{t0 h0 R}(H:aFe t0 h0 R):bR PG aC4 #[t0] h0 R:=eO (uH 6 [2,4,5,17] 56) Tryz.func69 H
def aFw(m:Value)(j:PH)(R:dI):Prop:=∀a,j a=none->fK (PH.set j a (.cells m.cells bT)) λb=>fA bT (pT a 0) 0 λn=>eN b aR n λk=>iJ b .eql aR (.tmp 4) (.const (.int .i64 1)) k (.int .i64 1) λo=>dW o (fA bT (pT a 0) 2 λp=>eN b aR p λq=>iJ b .eql aR (.tmp 8) (.const (.int .i64 0)) q (.int .i64 0) λf=>fV f true (fieldAt bT (pT a 0) 3) b λr s=>gZ f true (loadAt dK r) s λu v=>fV f true (build dK #[]) v λw x=>gZ f true (gV .eql dK (.tmp 12) (.tmp 13) u w) x λy z=>dA (gA f y (.bool false)) λg=>fV g true (fieldAt bT (pT a 0) 4) z λA B=>gZ g true (loadAt eK A) B λC D=>fV g true (Builtin.len_ #[eK] aR #[C]) D λE F=>gZ g true (gV .eql aR (.tmp 19) (.const (.int .i64 0)) E (.int .i64 0)) F λG H=>dA (gA g G (.bool false)) λc=>fV c true (fieldAt bT (pT a 0) 1) H λI J=>fV c true (fieldAt cR I 1) J λK L=>gZ c true (loadAt dC K) L λM N=>fV c true (Builtin.len_ #[dC] aR #[M]) N λO P=>fV c true (binOp .leq aR O (.int .i64 40)) P λQ S=>dA (gA c Q (.bool false)) λU=>R U S) (iJ b .eql aR (.tmp 4) (.const (.int .i64 2)) k (.int .i64 2) λV=>dW V (fA bT (pT a 0) 1 λW=>fA cR W 0 λX=>eN b eD X λY=>pP (build eD #[]) λZ=>iJ b .eql eD (.tmp 33) (.tmp 34) Y Z λd=>fV d true (fieldAt bT (pT a 0) 1) b λa0 a1=>fV d true (fieldAt cR a0 1) a1 λa2 a3=>gZ d true (loadAt dC a2) a3 λa4 a5=>fV d true (Builtin.len_ #[dC] aR #[a4]) a5 λa6 a7=>gZ d true (gV .eql aR (.tmp 40) (.const (.int .i64 0)) a6 (.int .i64 0)) a7 λa8 a9=>dA (gA d a8 (.bool false)) λe=>fV e true (fieldAt bT (pT a 0) 2) a9 λaa ab=>gZ e true (loadAt aR aa) ab λac ad=>gZ e true (gV .eql aR (.tmp 45) (.const (.int .i64 0)) ac (.int .i64 0)) ad λae af=>iW e true ae af λi ag=>fV i false (fieldAt bT (pT a 0) 2) ag λah ai=>gZ i false (loadAt aR ah) ai λaj ak=>gZ i false (gV .eql aR (.tmp 49) (.const (.int .i64 1)) aj (.int .i64 1)) ak λal l=>gG (yV e) true (λam=>dA (gA i (.bool true) al) λan=>am an l) l λao ap=>dA (gA e ao (.bool false)) λh=>fV h true (fieldAt bT (pT a 0) 4) ap λaq ar=>gZ h true (loadAt eK aq) ar λau av=>fV h true (Builtin.len_ #[eK] aR #[au]) av λaw ax=>fV h true (binOp .leq aR aw (.int .i64 16)) ax λay az=>dA (gA h ay (.bool false)) λaA=>R aA az) (R (.bool false) b))
def aFw.call{t0 h0 R}(H:aFw t0 h0 R):bR PG aDM #[t0] h0 R:=eO (jU 59) Tryz.func84 H
def aDu(R:dI)(e a f g:Value)(h:PH):Prop:=gU e λi=>fA gF i 0 λj=>bR PG jR #[j] h λk b=>iJ b .neq eY (.tmp 18) (.const (.int .i64 0)) k (.int .i64 0) λl=>dW l (pP (build dK #[]) λm=>dT PG (dX dK a m) b λr c=>eN c dK a λn=>R n c) (pP (convert dN aR g) λo=>pP (build dK #[(0,f),(1,o)]) λp=>dT PG (dX dK a p) b λs d=>eN d dK a λq=>R q d)
def aHv(a:Value)(d:PH)(R:dI):Prop:=∀b,d b=none->fK (PH.set d b (.cells (eX PG dK) dK)) λg=>bR PG mE #[a] g λe h=>bR PG mE #[a] h λc f=>fL .gtr dN c (.int .u64 65535) λi=>dW i (gU a λj=>fA gF j 0 λk=>bR PG kG #[k,.int .i64 5] f λm l=>aDu R a (pT b 0) e c l) (aDu R a (pT b 0) e c f)
def aHv.call{t0 h0 R}(H:aHv t0 h0 R):bR PG aEc #[t0] h0 R:=eO (jU 25) Tryz.func134 H
def aH5(a:Value)(b:PH)(R:dI):Prop:=bR PG aGE #[a,.int .i64 2,(.func (Fn.func nL) #[] #[])] b λc d=>R c d
def aH5.call{t0 h0 R}(H:aH5 t0 h0 R):bR PG aHX #[t0] h0 R:=eO (jU 5) Tryz.func135 H
def wL(R:dI)(c:iC)(d e a f g h i:Value)(b:PH):Prop:=eN b cT i λj=>aAK PG a #[h,j] b λk l=>pAl l (buildSlice dC 1 #[(0,k)]) λm n=>dT PG (Builtin.append_ #[dC,dC] dC #[f,m]) n λo p=>fL .sub aR g (.int .i64 1) λq=>c [d,e,a,o,q] p
def aFy(R:dI)(j:iC)(a f k g h:Value)(p:PH):Prop:=fL .gtr aR h (.int .i64 0) λb=>iW b true a p λq r=>fV b true (gW q) r λs u=>fV b true (fieldAt gF s 0) u λv l=>gG (yV b) true (λw=>bR PG jR #[v] l λx y=>w x y) l λz A=>gZ b true (gV .eql eY (.tmp 19) (.const (.int .i64 0)) z (.int .i64 0)) A λB m=>dA (gA b B (.bool false)) λC=>dW C (bR PG kY #[a] m λd D=>bR PG aEa #[a] D λE n=>∀c,n c=none->fK (PH.set n c (.cells (eX PG cT) cT)) λF=>dT PG (dX cT (pT c 0) E) F λW G=>fL .lss aR d (.int .i64 1) λe=>iW e false d G λH I=>iW e false f I λJ K=>fV e false (binOp .gtr aR H J) K λL o=>dA (gA e (.bool true) L) λM=>dW M (gU a λN=>fA gF N 0 λO=>bR PG kG #[O,.int .i64 5] o λX P=>wL R j a f k g h d (pT c 0) P) (wL R j a f k g h d (pT c 0) o)) (gU a λQ=>fA gF Q 0 λS=>bR PG jR #[S] m λU i=>iJ i .neq eY (.tmp 49) (.const (.int .i64 0)) U (.int .i64 0) λV=>dW V (R (.slice none 0 0) i) (R g i))
def aBb(a b c:Value)(d:PH)(R:dI):Prop:=bR PG kY #[a] d λe f=>iV [0,1,2,7,8] (λg ρ h=>aFy R g (ρ 0) (ρ 1) (ρ 2) (ρ 7) (ρ 8) h) [a,b,c,(.slice none 0 0),e] f
def aBb.call{t0 t1 t2 h0 R}(H:aBb t0 t1 t2 h0 R):bR PG aGE #[t0,t1,t2] h0 R:=eO (uH 3 [0,1,2,7,8] 52) Tryz.func179 H
def aDq(R:dI)(e a f:Value)(g:PH):Prop:=gU e λh=>fA gF h 0 λi=>bR PG jR #[i] g λj b=>iJ b .neq eY (.tmp 23) (.const (.int .i64 0)) j (.int .i64 0) λk=>dW k (pP (build cT #[]) λl=>dT PG (dX cT a l) b λp c=>eN c cT a λm=>R m c) (eN b cT f λn=>dT PG (dX cT a n) b λq d=>eN d cT a λo=>R o d)
def aHz(a:Value)(e:PH)(R:dI):Prop:=∀c,e c=none->fK (PH.set e c (.cells (eX PG cT) cT)) λh=>bR PG kY #[a] h λi j=>bR PG mE #[a] j λk l=>bR PG mE #[a] l λm n=>bR PG aAP #[a] n λo f=>pP (build cT #[(0,i),(1,k),(2,m),(3,o)]) λp=>∀b,f b=none->fK (PH.set f b (.cells (eX PG cT) cT)) λq=>dT PG (dX cT (pT b 0) p) q λy g=>eN g cT (pT b 0) λr=>bR PG wS #[r] g λs d=>iJ d .neq eY (.tmp 14) (.const (.int .i64 0)) s (.int .i64 0) λu=>dW u (gU a λv=>fA gF v 0 λw=>bR PG kG #[w,.int .i64 5] d λz x=>aDq R a (pT c 0) (pT b 0) x) (aDq R a (pT c 0) (pT b 0) d)
def aHz.call{t0 h0 R}(H:aHz t0 h0 R):bR PG aEa #[t0] h0 R:=eO (jU 27) Tryz.func215 H
def aFO(g h:Value)(c:PH)(R:dI):Prop:=∀b,c b=none->fK (PH.set c b (.cells h.cells cT)) λd=>∀a,d a=none->fK (PH.set d a (.cells (eX PG dJ) dJ)) λe=>eN e cT (pT b 0) λi=>pP (build dJ #[(0,i),(1,g)]) λj=>dT PG (dX dJ (pT a 0) j) e λl f=>eN f dJ (pT a 0) λk=>R k f
def aFO.call{t0 t1 h0 R}(H:aFO t0 t1 h0 R):bR PG nL #[t0,t1] h0 R:=eO (jU 8) Tryz.func180 H
def aH0(a:Value)(b:PH)(R:dI):Prop:=bR PG aF8 #[a,.int .i64 4,(.func (Fn.func nN) #[] #[])] b λc d=>R c d
def aH0.call{t0 h0 R}(H:aH0 t0 h0 R):bR PG aHe #[t0] h0 R:=eO (jU 5) Tryz.func136 H
def xJ(R:dI)(c:iC)(d e a f g h i:Value)(b:PH):Prop:=eN b cT i λj=>aAK PG a #[h,j] b λk l=>pAl l (buildSlice eK 1 #[(0,k)]) λm n=>dT PG (Builtin.append_ #[eK,eK] eK #[f,m]) n λo p=>fL .sub aR g (.int .i64 1) λq=>c [d,e,a,o,q] p
def aFQ(R:dI)(j:iC)(a f k g h:Value)(p:PH):Prop:=fL .gtr aR h (.int .i64 0) λb=>iW b true a p λq r=>fV b true (gW q) r λs u=>fV b true (fieldAt gF s 0) u λv l=>gG (yV b) true (λw=>bR PG jR #[v] l λx y=>w x y) l λz A=>gZ b true (gV .eql eY (.tmp 19) (.const (.int .i64 0)) z (.int .i64 0)) A λB m=>dA (gA b B (.bool false)) λC=>dW C (bR PG kY #[a] m λd D=>bR PG aEa #[a] D λE n=>∀c,n c=none->fK (PH.set n c (.cells (eX PG cT) cT)) λF=>dT PG (dX cT (pT c 0) E) F λW G=>fL .lss aR d (.int .i64 1) λe=>iW e false d G λH I=>iW e false f I λJ K=>fV e false (binOp .gtr aR H J) K λL o=>dA (gA e (.bool true) L) λM=>dW M (gU a λN=>fA gF N 0 λO=>bR PG kG #[O,.int .i64 5] o λX P=>xJ R j a f k g h d (pT c 0) P) (xJ R j a f k g h d (pT c 0) o)) (gU a λQ=>fA gF Q 0 λS=>bR PG jR #[S] m λU i=>iJ i .neq eY (.tmp 49) (.const (.int .i64 0)) U (.int .i64 0) λV=>dW V (R (.slice none 0 0) i) (R g i))
def aBW(a b c:Value)(d:PH)(R:dI):Prop:=bR PG kY #[a] d λe f=>iV [0,1,2,7,8] (λg ρ h=>aFQ R g (ρ 0) (ρ 1) (ρ 2) (ρ 7) (ρ 8) h) [a,b,c,(.slice none 0 0),e] f
def aBW.call{t0 t1 t2 h0 R}(H:aBW t0 t1 t2 h0 R):bR PG aF8 #[t0,t1,t2] h0 R:=eO (uH 3 [0,1,2,7,8] 52) Tryz.func181 H
def aFl(g h:Value)(c:PH)(R:dI):Prop:=∀b,c b=none->fK (PH.set c b (.cells h.cells cT)) λd=>∀a,d a=none->fK (PH.set d a (.cells (eX PG dP) dP)) λe=>eN e cT (pT b 0) λi=>pP (build dP #[(0,g),(1,i)]) λj=>dT PG (dX dP (pT a 0) j) e λl f=>eN f dP (pT a 0) λk=>R k f
def aFl.call{t0 t1 h0 R}(H:aFl t0 t1 h0 R):bR PG nN #[t0,t1] h0 R:=eO (jU 8) Tryz.func182 H
def aDG(a:Value)(c:PH)(R:dI):Prop:=bR PG aAL #[a] c λd b=>fL .gtr aR d (.int .i64 0) λe=>dW e (R (.int .i64 7) b) (gU a λf=>fA gF f 0 λg=>bR PG jR #[g] b λh i=>R h i)
def aDG.call{t0 h0 R}(H:aDG t0 h0 R):bR PG aDe #[t0] h0 R:=eO (jU 10) Tryz.func138 H
def aAN(R:dI)(a b:Value)(c:PH):Prop:=dT PG (dX eY a b) c λe d=>R (.tuple #[]) d
def aAF(R:dI)(b c f g d:Value)(a:PH):Prop:=iJ a .eql eY (.tmp 16) (.const (.int .i64 0)) d (.int .i64 0) λh=>dW h (eN a cR c λi=>eN a aR f λj=>eN a bT g λk=>bR PG aDj #[i,j,k] a λe l=>iD e 0 λm=>iD e 1 λn=>dT PG (dX cR c m) l λp o=>aAN R b n o) (aAN R b d a)
def xD(i b e f:Value)(d:PH)(R:dI):Prop:=pP (build bT #[]) λj=>eN d eY b λg=>∀a,d a=none->fK (PH.set d a (.cells (eX PG bT) bT)) λk=>dT PG (dX bT (pT a 0) j) k λr c=>dH PG c (loadAt eY b)=some g∧(eN c eY b λl=>iJ c .eql eY (.tmp 9) (.const (.int .i64 0)) l (.int .i64 0) λm=>dW m (bR PG aC4 #[i] c λh n=>iD h 0 λo=>iD h 1 λp=>dT PG (dX bT (pT a 0) o) n λs q=>aAF R b e f (pT a 0) p q) (aAF R b e f (pT a 0) g c))
def xD.ann:kW:={b:=λi=>match i with|0=>#[0,0,0,5,15]|_=>#[],ord:=λi=>match i with|0=>[0,1,2,3,4]|_=>[],keep:=λ_=>[],n:=26}
def xD.call{t0 t1 t2 t3 h0 R}(H:xD t0 t1 t2 t3 h0 R):bR PG vX #[t0,t1,t2,t3] h0 R:=eO xD.ann Tryz.func68 H
def aGp(F g G:Value)(j:PH)(R:dI):Prop:=∀d,j d=none->fK (PH.set j d (.cells F.cells cR)) λk=>∀b,k b=none->fK (PH.set k b (.cells G.cells bT)) λl=>∀a,l a=none->fK (PH.set l a (.cells (eX PG cR) cR)) λm=>eN m cR (pT d 0) λH=>bR PG xG #[H,g] m λn e=>iJ e .neq eY (.tmp 19) (.const (.int .i64 0)) n (.int .i64 0) λI=>dW I (pP (build cR #[]) λJ=>dT PG (dX cR (pT a 0) J) e λar o=>eN o cR (pT a 0) λK=>R (.tuple #[K,n]) o) (eN e bT (pT b 0) λL=>bR PG aA8 #[L] e λp c=>iD p 0 λau=>iD p 1 λq=>iJ c .neq eY (.tmp 28) (.const (.int .i64 0)) q (.int .i64 0) λM=>dW M (pP (build cR #[]) λN=>dT PG (dX cR (pT a 0) N) c λav r=>eN r cR (pT a 0) λO=>R (.tuple #[O,q]) r) (fA bT (pT b 0) 0 λP=>eN c aR P λQ=>iJ c .eql aR (.tmp 33) (.const (.int .i64 1)) Q (.int .i64 1) λS=>dW S (fA bT (pT b 0) 1 λU=>eN c cR U λV=>bR PG xG #[V,g] c λs f=>iJ f .neq eY (.tmp 39) (.const (.int .i64 0)) s (.int .i64 0) λW=>dW W (pP (build cR #[]) λX=>dT PG (dX cR (pT a 0) X) f λaw u=>eN u cR (pT a 0) λY=>R (.tuple #[Y,s]) u) (fA bT (pT b 0) 1 λZ=>fA cR Z 1 λa0=>eN f dC a0 λa1=>bR PG nE #[a1] f λa2 a3=>fA bT (pT b 0) 1 λa4=>fA cR a4 1 λa5=>dT PG (dX dC a5 a2) a3 λax v=>fA bT (pT b 0) 1 λa6=>eN v cR a6 λa7=>dT PG (dX cR (pT a 0) a7) v λay w=>eN w cR (pT a 0) λa8=>R (.tuple #[a8,.int .i64 0]) w)) (fA cR (pT d 0) 1 λa9=>eN c dC a9 λaa=>bR PG aGm #[g,aa] c λx y=>iD x 0 λz=>iD x 1 λaz=>fA bT (pT b 0) 4 λab=>eN y eK ab λac=>bR PG aHh #[z,ac] y λA h=>iD A 0 λaA=>iD A 1 λB=>iJ h .neq eY (.tmp 65) (.const (.int .i64 0)) B (.int .i64 0) λad=>dW ad (pP (build cR #[]) λae=>dT PG (dX cR (pT a 0) ae) h λaB C=>eN C cR (pT a 0) λaf=>R (.tuple #[af,B]) C) (bR PG yJ #[z] h λag ah=>fA cR (pT d 0) 1 λai=>dT PG (dX dC ai ag) ah λaC i=>fA bT (pT b 0) 2 λaj=>eN i aR aj λak=>fA bT (pT b 0) 3 λal=>eN i dK al λam=>fA cR (pT d 0) 0 λan=>nP eD an ak λao=>dT PG (dX dK ao am) i λaD D=>eN D cR (pT d 0) λap=>dT PG (dX cR (pT a 0) ap) D λaE E=>eN E cR (pT a 0) λaq=>R (.tuple #[aq,.int .i64 0]) E))))
def aGp.call{t0 t1 t2 h0 R}(H:aGp t0 t1 t2 h0 R):bR PG aDj #[t0,t1,t2] h0 R:=eO (jU 79) Tryz.func38 H
def oN(b:Value)(a:PH)(R:dI):Prop:=iJ a .eql dC (.tmp 3) (.const (.slice none 0 0)) b (.slice none 0 0) λc=>dW c (R (.slice none 0 0) a) (pAl a (buildSlice dC 0 #[]) λd e=>dT PG (Builtin.append_ #[dC,dC] dC #[d,b]) e λf g=>R f g)
def oN.call{t0 h0 R}(H:oN t0 h0 R):bR PG nE #[t0] h0 R:=eO (jU 8) Tryz.func33 H
def aIV(R:dI)(i:iC)(e a f d:Value)(b:PH):Prop:=fL .lss aR d (.int .i64 2) λj=>dW j (pP (Instr.index eD f d) λk=>∀c,b c=none->fK (PH.set b c (.cells (eX PG dK) dK)) λl=>dT PG (dX dK (pT c 0) k) l λx g=>eN g dK (pT c 0) λm=>bR PG aCT #[a,m] g λy n=>fL .add aR d (.int .i64 1) λo=>i [e,a,f,o] n) (fA bT e 1 λp=>fA cR p 1 λq=>eN b dC q λr=>bR PG aEu #[a,r] b λz s=>bR PG pB #[a] s λh u=>iD h 0 λv=>iD h 1 λw=>R (.tuple #[v,w]) u)
def aFr(l:Value)(e:PH)(R:dI):Prop:=∀a,e a=none->fK (PH.set e a (.cells l.cells bT)) λf=>eN f bT (pT a 0) λm=>bR PG aDM #[m] f λn d=>pP (Op.unary .not n) λo=>dW o (R (.tuple #[(.string ⟨#[]⟩),.int .i64 1]) d) (∀b,d b=none->fK (PH.set d b (.cells (eX PG gH) gH)) λg=>fA bT (pT a 0) 0 λp=>eN g aR p λq=>bR PG jT #[pT b 0,q] g λJ c=>fA bT (pT a 0) 0 λr=>eN c aR r λs=>iJ c .eql aR (.tmp 14) (.const (.int .i64 1)) s (.int .i64 1) λu=>dW u (fA bT (pT a 0) 1 λv=>fA cR v 0 λw=>eN c eD w λx=>iV [1,4,18,19] (λy ρ h=>aIV R y (ρ 1) (ρ 4) (ρ 18) (ρ 19) h) [(pT a 0),pT b 0,x,.int .i64 0] c) (fA bT (pT a 0) 2 λz=>eN c aR z λA=>bR PG jT #[pT b 0,A] c λK i=>fA bT (pT a 0) 3 λB=>eN i dK B λC=>bR PG aCT #[pT b 0,C] i λL j=>fA bT (pT a 0) 4 λD=>eN j eK D λE=>bR PG aE0 #[pT b 0,E] j λM F=>bR PG pB #[pT b 0] F λk G=>iD k 0 λH=>iD k 1 λI=>R (.tuple #[H,I]) G))
def aFr.call{t0 h0 R}(H:aFr t0 h0 R):bR PG aA8 #[t0] h0 R:=eO (uH 7 [1,4,18,19] 44) Tryz.func39 H
def aBa(R:dI)(a b:Value)(c:PH):Prop:=fA dK b 0 λe=>eN c dN e λf=>bR PG lN #[a,f] c λk d=>fA dK b 1 λg=>eN d aR g λh=>pP (convert aR dN h) λi=>bR PG lN #[a,i] d λl j=>R (.tuple #[]) j
def aEi(c g:Value)(d:PH)(R:dI):Prop:=∀a,d a=none->fK (PH.set d a (.cells g.cells dK)) λe=>fA dK (pT a 0) 1 λh=>eN e aR h λi=>fL .lss aR i (.int .i64 0) λb=>fV b false (fieldAt dK (pT a 0) 1) e λj k=>gZ b false (loadAt aR j) k λl m=>fV b false (binOp .gtr aR l (.int .i64 65535)) m λn f=>dA (gA b (.bool true) n) λo=>dW o (bR PG jT #[c,.int .i64 (-1)] f λq p=>aBa R c (pT a 0) p) (aBa R c (pT a 0) f)
def aEi.call{t0 t1 h0 R}(H:aEi t0 t1 h0 R):bR PG aCT #[t0,t1] h0 R:=eO (jU 23) Tryz.func86 H
def aEd(a b:Value)(c:PH)(R:dI):Prop:=bR PG aFp #[a,(.func (Fn.func vV) #[] #[]),b] c λe d=>R (.tuple #[]) d
def aEd.call{t0 t1 h0 R}(H:aEd t0 t1 h0 R):bR PG aEu #[t0,t1] h0 R:=eO (jU 7) Tryz.func87 H
def aGI(R:dI)(m:iC)(d f g h e:Value)(a:PH):Prop:=fL .lss aR e h λn=>dW n (nP dC g e λo=>eN a dJ o λp=>∀b,a b=none->fK (PH.set a b (.cells (eX PG dJ) dJ)) λq=>dT PG (dX dJ (pT b 0) p) q λA i=>eN i dJ (pT b 0) λr=>aAK PG f #[r] i λj k=>iD j 0 λs=>iD j 1 λu=>∀c,k c=none->fK (PH.set k c (.cells (eX PG cT) cT)) λv=>dT PG (dX cT (pT c 0) u) v λB w=>bR PG jT #[d,s] w λC l=>eN l cT (pT c 0) λx=>bR PG aEk #[d,x] l λD y=>fL .add aR e (.int .i64 1) λz=>m [d,f,g,h,z] y) (R (.tuple #[]) a)
def aBT(b c a:Value)(d:PH)(R:dI):Prop:=jH dC aR a λe=>bR PG jT #[b,e] d λj f=>jH dC aR a λg=>iV [0,1,14,15,16] (λi ρ h=>aGI R i (ρ 0) (ρ 1) (ρ 14) (ρ 15) (ρ 16) h) [b,c,a,g,.int .i64 0] f
def aBT.call{t0 t1 t2 h0 R}(H:aBT t0 t1 t2 h0 R):bR PG aFp #[t0,t1,t2] h0 R:=eO (uH 2 [0,1,14,15,16] 33) Tryz.func146 H
def aHs(b i:Value)(d:PH)(R:dI):Prop:=∀a,d a=none->fK (PH.set d a (.cells i.cells cT)) λe=>eN e cT (pT a 0) λj=>bR PG wS #[j] e λk c=>iJ c .neq eY (.tmp 5) (.const (.int .i64 0)) k (.int .i64 0) λl=>dW l (bR PG jT #[b,.int .i64 (-1)] c λx m=>R (.tuple #[]) m) (fA cT (pT a 0) 0 λn=>eN c aR n λo=>bR PG jT #[b,o] c λy f=>fA cT (pT a 0) 1 λp=>eN f dN p λq=>bR PG lN #[b,q] f λz g=>fA cT (pT a 0) 2 λr=>eN g dN r λs=>bR PG lN #[b,s] g λA h=>fA cT (pT a 0) 3 λu=>eN h aT u λv=>bR PG uW #[b,v] h λB w=>R (.tuple #[]) w)
def aHs.call{t0 t1 h0 R}(H:aHs t0 t1 h0 R):bR PG aEk #[t0,t1] h0 R:=eO (jU 25) Tryz.func190 H
def aCX(a b:Value)(c:PH)(R:dI):Prop:=jH aT aR b λd=>fL .gtr aR d (.int .i64 65535) λe=>dW e (gU a λf=>fA gH f 0 λg=>bR PG kG #[g,.int .i64 1] c λm h=>R (.tuple #[]) h) (jH aT aR b λi=>pP (convert aR dN i) λj=>bR PG vW #[a,j,.int .i64 2] c λn k=>bR PG oP #[a,b] k λo l=>R (.tuple #[]) l)
def aCX.call{t0 t1 h0 R}(H:aCX t0 t1 h0 R):bR PG uW #[t0,t1] h0 R:=eO (jU 19) Tryz.func140 H
def wI(j:Value)(d:PH)(R:dI):Prop:=∀a,d a=none->fK (PH.set d a (.cells j.cells dJ)) λe=>∀b,e b=none->fK (PH.set e b (.cells (eX PG cT) cT)) λc=>fA dJ (pT a 0) 1 λk=>eN c aR k λl=>fA dJ (pT a 0) 0 λf=>eN c cT f λg=>bR PG aF4 #[l,.int .i64 2] c λm h=>dH PG h (loadAt cT f)=some g∧(dT PG (dX cT (pT b 0) g) h λo i=>(eN i cT (pT b 0) λn=>R (.tuple #[m,n]) i))
def wI.ann:kW:={b:=λi=>match i with|1=>#[0,1,3,0,8,7,63]|_=>#[],ord:=λi=>match i with|1=>[0,1,3,4,2,5,6]|_=>[],keep:=λ_=>[],n:=9}
def wI.call{t0 h0 R}(H:wI t0 h0 R):bR PG vV #[t0] h0 R:=eO wI.ann Tryz.func147 H
def aJA(b d:Value)(e:PH)(R:dI):Prop:=fL .lss aR b (.int .i64 1) λa=>iW a false b e λf g=>iW a false d g λh i=>fV a false (binOp .gtr aR f h) i λj c=>dA (gA a (.bool true) j) λk=>dW k (R (.int .i64 (-1)) c) (R b c)
def aJA.call{t0 t1 h0 R}(H:aJA t0 t1 h0 R):bR PG aF4 #[t0,t1] h0 R:=eO (jU 13) Tryz.func148 H
def aEZ(a b:Value)(c:PH)(R:dI):Prop:=bR PG aF3 #[a,(.func (Fn.func wH) #[] #[]),b] c λe d=>R (.tuple #[]) d
def aEZ.call{t0 t1 h0 R}(H:aEZ t0 t1 h0 R):bR PG aE0 #[t0,t1] h0 R:=eO (jU 7) Tryz.func89 H
def aGD(R:dI)(m:iC)(d f g h e:Value)(a:PH):Prop:=fL .lss aR e h λn=>dW n (nP eK g e λo=>eN a dP o λp=>∀b,a b=none->fK (PH.set a b (.cells (eX PG dP) dP)) λq=>dT PG (dX dP (pT b 0) p) q λA i=>eN i dP (pT b 0) λr=>aAK PG f #[r] i λj k=>iD j 0 λs=>iD j 1 λu=>∀c,k c=none->fK (PH.set k c (.cells (eX PG cT) cT)) λv=>dT PG (dX cT (pT c 0) u) v λB w=>bR PG jT #[d,s] w λC l=>eN l cT (pT c 0) λx=>bR PG aEk #[d,x] l λD y=>fL .add aR e (.int .i64 1) λz=>m [d,f,g,h,z] y) (R (.tuple #[]) a)
def aBV(b c a:Value)(d:PH)(R:dI):Prop:=jH eK aR a λe=>bR PG jT #[b,e] d λj f=>jH eK aR a λg=>iV [0,1,14,15,16] (λi ρ h=>aGD R i (ρ 0) (ρ 1) (ρ 14) (ρ 15) (ρ 16) h) [b,c,a,g,.int .i64 0] f
def aBV.call{t0 t1 t2 h0 R}(H:aBV t0 t1 t2 h0 R):bR PG aF3 #[t0,t1,t2] h0 R:=eO (uH 2 [0,1,14,15,16] 33) Tryz.func150 H
def xM(j:Value)(d:PH)(R:dI):Prop:=∀a,d a=none->fK (PH.set d a (.cells j.cells dP)) λe=>∀b,e b=none->fK (PH.set e b (.cells (eX PG cT) cT)) λc=>fA dP (pT a 0) 0 λk=>eN c aR k λl=>fA dP (pT a 0) 1 λf=>eN c cT f λg=>bR PG aF4 #[l,.int .i64 4] c λm h=>dH PG h (loadAt cT f)=some g∧(dT PG (dX cT (pT b 0) g) h λo i=>(eN i cT (pT b 0) λn=>R (.tuple #[m,n]) i))
def xM.ann:kW:={b:=λi=>match i with|1=>#[0,1,3,0,8,7,63]|_=>#[],ord:=λi=>match i with|1=>[0,1,3,4,2,5,6]|_=>[],keep:=λ_=>[],n:=9}
def xM.call{t0 h0 R}(H:xM t0 h0 R):bR PG wH #[t0] h0 R:=eO xM.ann Tryz.func151 H
def aKm(R:dI)(k:iC)(e f g h a:Value)(b:PH):Prop:=fL .lss aR a h λl=>dW l (nP eK g a λm=>eN b dP m λn=>∀c,b c=none->fK (PH.set b c (.cells (eX PG dP) dP)) λo=>dT PG (dX dP (pT c 0) n) o λu i=>eN i dP (pT c 0) λp=>bR PG aCL #[e,p] i λj d=>iJ d .neq eY (.tmp 19) (.const (.int .i64 0)) j (.int .i64 0) λq=>dW q (R (.tuple #[a,j]) d) (fL .add aR a (.int .i64 1) λr=>k [e,f,g,h,r] d)) (jH eK aR f λs=>R (.tuple #[s,.int .i64 0]) b)
def aH4(b a:Value)(c:PH)(R:dI):Prop:=jH eK aR a λd=>iV [0,1,9,10,11] (λe ρ h=>aKm R e (ρ 0) (ρ 1) (ρ 9) (ρ 10) (ρ 11) h) [b,a,a,d,.int .i64 0] c
def aH4.call{t0 t1 h0 R}(H:aH4 t0 t1 h0 R):bR PG aHh #[t0,t1] h0 R:=eO (uH 2 [0,1,9,10,11] 26) Tryz.func83 H
def tX(h i:Value)(e:PH)(R:dI):Prop:=∀a,e a=none->fK (PH.set e a (.cells i.cells dP)) λf=>eN f dP (pT a 0) λj=>bR PG aHa #[j] f λg c=>iJ c .neq eY (.tmp 9) (.const (.int .i64 0)) g (.int .i64 0) λk=>dW k (R g c) (pP (build fI #[(1,(.func (Fn.func lS) #[] #[])),(2,(.func (Fn.func kA) #[] #[])),(3,(.func (Fn.func iS) #[] #[])),(4,(.func (Fn.func iS) #[] #[]))]) λl=>∀d,c d=none->fK (PH.set c d (.cells (eX PG fI) fI)) λm=>dT PG (dX fI (pT d 0) l) m λD b=>fA dP (pT a 0) 0 λn=>eN b aR n λo=>nP fI (pT d 0) o λp=>eN b gI p λq=>fA dP (pT a 0) 1 λr=>fA cT r 0 λs=>eN b aR s λu=>fA dP (pT a 0) 1 λv=>fA cT v 1 λw=>eN b dN w λx=>pP (build gR #[(0,u),(1,x)]) λy=>fA dP (pT a 0) 1 λz=>eN b cT z λA=>aAK PG q #[h,y,A] b λB C=>(R B C))
def tX.ann:kW:={b:=λi=>match i with|5=>#[0,1,3,7,0,0,32,96,0,256,768,2016,0,4096,16383,32767]|_=>#[],ord:=λi=>match i with|5=>[0,1,2,3,4,5,6,7,8,9,10,11,12,13,14,15]|_=>[],keep:=λ_=>[],n:=28}
def tX.call{t0 t1 h0 R}(H:tX t0 t1 h0 R):bR PG aCL #[t0,t1] h0 R:=eO tX.ann Tryz.func144 H
def aHx(f:Value)(d:PH)(R:dI):Prop:=∀a,d a=none->fK (PH.set d a (.cells f.cells dP)) λe=>fA dP (pT a 0) 0 λg=>eN e aR g λh=>fL .lss aR h (.int .i64 1) λb=>fV b false (fieldAt dP (pT a 0) 0) e λi j=>gZ b false (loadAt aR i) j λk l=>fV b false (binOp .gtr aR k (.int .i64 4)) l λm c=>dA (gA b (.bool true) m) λn=>dW n (R (.int .i64 1) c) (fA dP (pT a 0) 1 λo=>eN c cT o λp=>bR PG wS #[p] c λq r=>R q r)
def aHx.call{t0 h0 R}(H:aHx t0 h0 R):bR PG aHa #[t0] h0 R:=eO (jU 14) Tryz.func185 H
def vL(f j k:Value)(g:PH)(R:dI):Prop:=∀b,g b=none->fK (PH.set g b (.cells j.cells gR)) λh=>∀d,h d=none->fK (PH.set h d (.cells k.cells cT)) λa=>gU f λl=>fA iH l 0 λm=>eN a fB m λn=>eN a gR (pT b 0) λo=>pE a (Instr.lookup fB n o true) λi=>iD i 0 λp=>iD i 1 λq=>∀e,a e=none->fK (PH.set a e (.cells (eX PG dJ) dJ)) λr=>dT PG (dX dJ (pT e 0) p) r λy c=>(dW q (R (.int .i64 0) c) (eN c gR (pT b 0) λs=>eN c cT (pT d 0) λu=>pP (build dJ #[(0,u),(1,(.int .i64 1))]) λv=>bR PG aAu #[f,s,v] c λw x=>R w x))
def vL.ann:kW:={b:=λi=>match i with|1=>#[0,1,3,7,0,31,63,127,127,0,767,2047]|_=>#[],ord:=λi=>match i with|1=>[0,1,2,3,4,5,6,7,8,9,10,11]|_=>[],keep:=λ_=>[],n:=24}
def vL.call{t0 t1 t2 h0 R}(H:vL t0 t1 t2 h0 R):bR PG lS #[t0,t1,t2] h0 R:=eO vL.ann Tryz.func186 H
def xI(d k l:Value)(h:PH)(R:dI):Prop:=∀e,h e=none->fK (PH.set h e (.cells k.cells gR)) λi=>∀f,i f=none->fK (PH.set i f (.cells l.cells dJ)) λb=>gU d λm=>fA iH m 0 λn=>eN b fB n λo=>eN b gR (pT e 0) λp=>pE b (Instr.lookup fB o p true) λj=>iD j 0 λq=>iD j 1 λr=>∀g,b g=none->fK (PH.set b g (.cells (eX PG dJ) dJ)) λs=>dT PG (dX dJ (pT g 0) q) s λX u=>(pP (Op.unary .not r) λa=>iW a true d u λv w=>fV a true (gW v) w λx y=>fV a true (fieldAt iH x 0) y λz A=>gZ a true (loadAt fB z) A λB C=>gZ a true (Builtin.len_ #[fB] aR #[B]) C λD E=>iW a true d E λF G=>fV a true (gW F) G λH I=>fV a true (fieldAt iH H 1) I λJ K=>gZ a true (loadAt aR J) K λL M=>fV a true (binOp .geq aR D L) M λN c=>dA (gA a N (.bool false)) λO=>dW O (R (.int .i64 2) c) (gU d λP=>fA iH P 0 λQ=>eN c fB Q λS=>eN c gR (pT e 0) λU=>eN c dJ (pT f 0) λV=>dT PG (aJi fB S U V) c λY W=>(R (.int .i64 0) W)))
def xI.ann:kW:={b:=λi=>match i with|1=>#[0,1,3,7,0,31,63,127,127,0,767,2047]|2=>#[0,1,3,7,15,31,63,127,7,263,775,1799,4095,8191]|4=>#[0,1,3,7,0,0,63]|_=>#[],ord:=λi=>match i with|1=>[0,1,2,3,4,5,6,7,8,9,10,11]|2=>[0,1,2,3,4,5,6,7,8,9,10,11,12,13]|4=>[0,1,2,3,4,5,6]|_=>[],keep:=λ_=>[],n:=38}
def xI.call{t0 t1 t2 h0 R}(H:xI t0 t1 t2 h0 R):bR PG aAu #[t0,t1,t2] h0 R:=eO xI.ann Tryz.func216 H
def tR(R:dI)(b c d:Value)(a:PH):Prop:=eN a gR c λe=>eN a cT d λf=>pP (build dJ #[(0,f),(1,(.int .i64 2))]) λg=>bR PG aAu #[b,e,g] a λh i=>R h i
def rN(e j k:Value)(g:PH)(R:dI):Prop:=∀a,g a=none->fK (PH.set g a (.cells j.cells gR)) λh=>∀b,h b=none->fK (PH.set h b (.cells k.cells cT)) λc=>gU e λl=>fA iH l 0 λm=>eN c fB m λn=>eN c gR (pT a 0) λo=>pE c (Instr.lookup fB n o true) λi=>iD i 0 λp=>iD i 1 λq=>∀d,c d=none->fK (PH.set c d (.cells (eX PG dJ) dJ)) λr=>dT PG (dX dJ (pT d 0) p) r λw f=>(dW q (fA dJ (pT d 0) 0 λs=>eN f cT s λu=>dT PG (dX cT (pT b 0) u) f λx v=>tR R e (pT a 0) (pT b 0) v) (tR R e (pT a 0) (pT b 0) f))
def rN.ann:kW:={b:=λi=>match i with|1=>#[0,1,3,7,0,31,63,127,127,0,767,2047]|_=>#[],ord:=λi=>match i with|1=>[0,1,2,3,4,5,6,7,8,9,10,11]|_=>[],keep:=λ_=>[],n:=26}
def rN.call{t0 t1 t2 h0 R}(H:rN t0 t1 t2 h0 R):bR PG kA #[t0,t1,t2] h0 R:=eO rN.ann Tryz.func187 H
def vM(f g h:Value)(c:PH)(R:dI):Prop:=∀a,c a=none->fK (PH.set c a (.cells g.cells gR)) λd=>∀e,d e=none->fK (PH.set d e (.cells h.cells cT)) λb=>gU f λi=>fA iH i 0 λj=>eN b fB j λk=>eN b gR (pT a 0) λl=>dT PG (Builtin.delete_ #[fB,gR] T_ #[k,l]) b λn m=>(R (.int .i64 0) m)
def vM.ann:kW:={b:=λi=>match i with|1=>#[0,1,3,7,0,31]|_=>#[],ord:=λi=>match i with|1=>[0,1,2,3,4,5]|_=>[],keep:=λ_=>[],n:=12}
def vM.call{t0 t1 t2 h0 R}(H:vM t0 t1 t2 h0 R):bR PG iS #[t0,t1,t2] h0 R:=eO vM.ann Tryz.func188 H
def aAf(t0:Value)(t1:Value)(h0:PH)(R:dI):Prop:=
 ∀r1,h0 r1=none->fK (PH.set h0 r1 (.cells (Value.cells t0) fU)) λh2=>
 ∀r3,h2 r3=none->fK (PH.set h2 r3 (.cells (Value.cells t1) aT)) λh4=>
 dA (dH PG h4 (loadAt fU (pT r1 0))) λv5=>
 dA (dE PG (Instr.makeFunc (Fn.func aAV) #[] #[(pT r1 0),(pT r3 0)])) λv6=>
 bR PG aDo #[v5,v6] h4 λv7 h8=>
 R v7 h8
def aAf.call{t0 t1 h0 R}(H:aAf t0 t1 h0 R):bR PG wN #[t0,t1] h0 R:=eO (jU 8) Tryz.func30 H
def aGr(t0:Value)(t1:Value)(h0:PH)(R:dI):Prop:=
 dA (dE PG (gW t0)) λv1=>
 dA (dE PG (fieldAt fH v1 6)) λv2=>
 dA (dH PG h0 (loadAt iI v2)) λv3=>
 dW v3
 (R (Value.int IntKind.i64 14) h0)
 (aAK PG t1 #[] h0 λv4 h5=>
 dA (dH PG h5 (gV BinOp.eql eY (.tmp 13) (.const (Value.int IntKind.i64 13)) v4 (Value.int IntKind.i64 13))) λv6=>
 dA (dE PG (gW t0)) λv7=>
 dA (dE PG (fieldAt fH v7 6)) λv8=>
 dT PG (dX iI v8 v6) h5 λv9 h10=>
 R v4 h10)
def aGr.call{t0 t1 h0 R}(H:aGr t0 t1 h0 R):bR PG aDo #[t0,t1] h0 R:=eO (jU 18) Tryz.func70 H
def rH(t0:Value)(t1:Value)(h0:PH)(R:dI):Prop:=
 dA (dH PG h0 (loadAt fU t0)) λv1=>
 dA (dE PG (gW v1)) λv2=>
 dA (dE PG (fieldAt fH v2 0)) λv3=>
 dA (dE PG (fieldAt fQ v3 0)) λv4=>
 dA (dH PG h0 (loadAt hZ v4)) λv5=>
 dA (dE PG (gW v5)) λv6=>
 dA (dE PG (fieldAt fM v6 0)) λv7=>
 dA (dH PG h0 (loadAt fR v7)) λv8=>
 dA (dH PG h0 (loadAt aT t1)) λv9=>
 dA (dE PG (Builtin.len_ #[aT] aR #[v9])) λv10=>
 bR PG lK #[v8] h0 λv11 h12=>
 dH PG h12 (loadAt aT t1)=some v9∧(bR PG vA #[v11,v10] h12 λv13 h14=>
 (dA (dH PG h14 (gV BinOp.eql aR (.tmp 25) (.const (Value.int IntKind.i64 0)) v13 (Value.int IntKind.i64 0))) λv15=>
 dW v15
 (R (Value.int IntKind.i64 1) h14)
 (dA (dH PG h14 (loadAt fU t0)) λv16=>
 dA (dE PG (gW v16)) λv17=>
 dA (dE PG (fieldAt fH v17 0)) λv18=>
 dA (dH PG h14 (loadAt fQ v18)) λv19=>
 bR PG qZ #[v19] h14 λv20 h21=>
 dA (dE PG (binOp BinOp.gtr aR v13 v20)) λv22=>
 dW v22
 (R (Value.int IntKind.i64 2) h21)
 (dA (dH PG h21 (loadAt fU t0)) λv23=>
 dA (dE PG (gW v23)) λv24=>
 dA (dE PG (fieldAt fH v24 1)) λv25=>
 dA (dH PG h21 (loadAt dR v25)) λv26=>
 bR PG aIi #[v26] h21 λv27 h28=>
 dA (dE PG (extract v27 0)) λv29=>
 dA (dE PG (extract v27 1)) λv30=>
 ∀r31,h28 r31=none->fK (PH.set h28 r31 (.cells (eX PG dR) dR)) λh32=>
 dT PG (dX dR (pT r31 0) v29) h32 λv33 h34=>
 dA (dH PG h34 (gV BinOp.neq eY (.tmp 43) (.const (Value.int IntKind.i64 0)) v30 (Value.int IntKind.i64 0))) λv35=>
 dW v35
 (R v30 h34)
 (dA (dH PG h34 (loadAt fU t0)) λv36=>
 dA (dE PG (gW v36)) λv37=>
 dA (dE PG (fieldAt fH v37 0)) λv38=>
 dA (dE PG (fieldAt fQ v38 0)) λv39=>
 dA (dH PG h34 (loadAt hZ v39)) λv40=>
 dA (dE PG (gW v40)) λv41=>
 dA (dE PG (fieldAt fM v41 0)) λv42=>
 dA (dH PG h34 (loadAt fR v42)) λv43=>
 dA (dE PG (fieldAt dR (pT r31 0) 0)) λv44=>
 dA (dH PG h34 (loadAt dN v44)) λv45=>
 dA (dH PG h34 (loadAt aT t1)) λv46=>
 bR PG lK #[v43] h34 λv47 h48=>
 dH PG h48 (loadAt aT t1)=some v46∧dH PG h48 (loadAt dN v44)=some v45∧(bR PG aDn #[v47,v45,(Value.int IntKind.u64 0),v46] h48 λv49 h50=>
 (dA (dE PG (extract v49 0)) λv51=>
 dA (dE PG (extract v49 1)) λv52=>
 dA (dH PG h50 (loadAt fU t0)) λv53=>
 dA (dE PG (gW v53)) λv54=>
 dA (dE PG (fieldAt fH v54 0)) λv55=>
 dA (dH PG h50 (loadAt fQ v55)) λv56=>
 dA (dH PG h50 (loadAt fU t0)) λv57=>
 dA (dE PG (gW v57)) λv58=>
 dA (dE PG (fieldAt fH v58 0)) λv59=>
 dA (dH PG h50 (loadAt fQ v59)) λv60=>
 dA (dE PG (fieldAt dR (pT r31 0) 1)) λv61=>
 dA (dH PG h50 (loadAt aR v61)) λv62=>
 bR PG yC #[v60,v62] h50 λv63 h64=>
 dH PG h64 (loadAt fQ v55)=some v56∧dH PG h64 (loadAt fU t0)=some v53∧(bR PG uZ #[v56,v63,v51] h64 λv65 h66=>
 (dA (dH PG h66 (gV BinOp.neq eY (.tmp 75) (.const (Value.int IntKind.i64 0)) v65 (Value.int IntKind.i64 0))) λv67=>
 dW v67
 (R v65 h66)
 (dA (dH PG h66 (loadAt fU t0)) λv68=>
 dA (dE PG (gW v68)) λv69=>
 dA (dE PG (fieldAt fH v69 0)) λv70=>
 dA (dE PG (fieldAt fQ v70 0)) λv71=>
 dA (dH PG h66 (loadAt hZ v71)) λv72=>
 dA (dE PG (gW v72)) λv73=>
 dA (dE PG (fieldAt fM v73 0)) λv74=>
 dA (dH PG h66 (loadAt fR v74)) λv75=>
 dA (dH PG h66 (loadAt dR (pT r31 0))) λv76=>
 bR PG lK #[v75] h66 λv77 h78=>
 dH PG h78 (loadAt dR (pT r31 0))=some v76∧(bR PG aEL #[v77,v76] h78 λv79 h80=>
 (dA (dE PG (extract v79 0)) λv81=>
 dA (dE PG (extract v79 1)) λv82=>
 dA (dH PG h80 (loadAt fU t0)) λv83=>
 dA (dE PG (gW v83)) λv84=>
 dA (dE PG (fieldAt fH v84 0)) λv85=>
 dA (dH PG h80 (loadAt fQ v85)) λv86=>
 dA (dH PG h80 (loadAt fU t0)) λv87=>
 dA (dE PG (gW v87)) λv88=>
 dA (dE PG (fieldAt fH v88 2)) λv89=>
 dA (dH PG h80 (loadAt aR v89)) λv90=>
 dA (dE PG (binOp BinOp.sub aR (Value.int IntKind.i64 1) v90)) λv91=>
 dA (lH PG (buildSlice eB 1 #[(0,v81)])) λx93=>∀r92,h80 r92=none->dA (dE PG (x93.2 r92)) λv94=>fK (PH.set h80 r92 x93.1) λh95=>
 bR PG uZ #[v86,v91,v94] h95 λv96 h97=>
 (dA (dH PG h97 (gV BinOp.neq eY (.tmp 104) (.const (Value.int IntKind.i64 0)) v96 (Value.int IntKind.i64 0))) λv98=>
 dW v98
 (R v96 h97)
 (dA (dH PG h97 (loadAt fU t0)) λv99=>
 dA (dH PG h97 (loadAt fU t0)) λv100=>
 dA (dH PG h97 (loadAt fU t0)) λv101=>
 dA (dH PG h97 (loadAt fU t0)) λv102=>
 dA (dH PG h97 (loadAt fU t0)) λv103=>
 dA (dH PG h97 (loadAt dR (pT r31 0))) λv104=>
 dA (dH PG h97 (loadAt fU t0)) λv105=>
 dA (dE PG (gW v105)) λv106=>
 dA (dE PG (fieldAt fH v106 2)) λv107=>
 dA (dH PG h97 (loadAt aR v107)) λv108=>
 dA (dE PG (binOp BinOp.sub aR (Value.int IntKind.i64 1) v108)) λv109=>
 dA (dE PG (gW v99)) λv110=>
 dA (dE PG (fieldAt fH v110 1)) λv111=>
 dT PG (dX dR v111 v104) h97 λv112 h113=>
 dH PG h113 (loadAt fU t0)=some v103∧dH PG h113 (loadAt fU t0)=some v102∧dH PG h113 (loadAt fU t0)=some v101∧dH PG h113 (loadAt fU t0)=some v100∧(dA (dE PG (gW v100)) λv114=>
 dA (dE PG (fieldAt fH v114 2)) λv115=>
 dT PG (dX aR v115 v109) h113 λv116 h117=>
 dH PG h117 (loadAt fU t0)=some v103∧dH PG h117 (loadAt fU t0)=some v102∧dH PG h117 (loadAt fU t0)=some v101∧(dA (dE PG (gW v101)) λv118=>
 dA (dE PG (fieldAt fH v118 3)) λv119=>
 dT PG (dX aR v119 v13) h117 λv120 h121=>
 dH PG h121 (loadAt fU t0)=some v103∧dH PG h121 (loadAt fU t0)=some v102∧(dA (dE PG (gW v102)) λv122=>
 dA (dE PG (fieldAt fH v122 4)) λv123=>
 dT PG (dX dN v123 (Value.int IntKind.u64 1)) h121 λv124 h125=>
 dH PG h125 (loadAt fU t0)=some v103∧(dA (dE PG (gW v103)) λv126=>
 dA (dE PG (fieldAt fH v126 5)) λv127=>
 dT PG (dX iI v127 (Value.bool true)) h125 λv128 h129=>
 (R (Value.int IntKind.i64 0) h129)))))))))))))))))))
def rH.ann:kW:={b:=λi=>match i with|1=>#[0,1,3,7,15,31,63,127,255,0,512,2047,4095]|9=>#[0,1,3,7,15,31,63,127,255,0,512,0,4095,8191,16383,16383,32767,131071]|10=>#[0,1,3,7,0,16,48,112,0,256,1008,0,4095,8191]|13=>#[0,1,3,7,15,31,63,127,255,0,1023,2047,4095,4095,8191,32767]|14=>#[0,1,3,7,0,16,48,112,240,0,512,2047,4095]|17=>#[0,0,0,0,0,0,0,64,192,448,960,0,993,5089,13281,30691,63459,128995,262119,524263,1048551,2097135,4194287,8388591,16777215,33554431,67108863]|_=>#[],ord:=λi=>match i with|1=>[0,1,2,3,4,5,6,7,9,10,8,11,12]|9=>[0,1,2,3,4,5,6,7,9,10,11,8,12,13,14,15,16,17]|10=>[0,1,2,3,4,5,6,7,8,9,11,10,12,13]|13=>[0,1,2,3,4,5,6,7,9,8,10,11,12,13,14,15]|14=>[0,1,2,3,4,5,6,7,8,9,10,11,12]|17=>[0,1,2,3,4,5,6,7,8,9,10,11,12,13,14,15,16,17,18,19,20,21,22,23,24,25,26]|_=>[],keep:=λ_=>[],n:=129}
def rH.call{t0 t1 h0 R}(H:rH t0 t1 h0 R):bR PG aAV #[t0,t1] h0 R:=eO rH.ann Tryz.func71 H
def aEj(R:dI)(t2:Value)(t4:Value)(h0:PH):Prop:=
 dA (dH PG h0 (loadAt dR t4)) λv27=>
 dT PG (dX dR t2 v27) h0 λv28 h29=>
 dA (dH PG h29 (loadAt dR t2)) λv30=>
 R (Value.tuple #[v30,(Value.int IntKind.i64 0)]) h29
def aJG(t0:Value)(h0:PH)(R:dI):Prop:=
 ∀r1,h0 r1=none->fK (PH.set h0 r1 (.cells (Value.cells t0) dR)) λh2=>
 ∀r3,h2 r3=none->fK (PH.set h2 r3 (.cells (eX PG dR) dR)) λh4=>
 dA (dE PG (fieldAt dR (pT r1 0) 0)) λv5=>
 dA (dH PG h4 (loadAt dN v5)) λv6=>
 dA (dH PG h4 (gV BinOp.eql dN (.tmp 6) (.const (Value.int IntKind.u64 18446744073709551615)) v6 (Value.int IntKind.u64 18446744073709551615))) λv7=>
 dW v7
 (dA (dE PG (build dR #[])) λv8=>
 dT PG (dX dR (pT r3 0) v8) h4 λv9 h10=>
 dA (dH PG h10 (loadAt dR (pT r3 0))) λv11=>
 R (Value.tuple #[v11,(Value.int IntKind.i64 12)]) h10)
 (dA (dE PG (fieldAt dR (pT r1 0) 0)) λv12=>
 dA (dH PG h4 (loadAt dN v12)) λv13=>
 dA (dE PG (binOp BinOp.add dN v13 (Value.int IntKind.u64 1))) λv14=>
 dA (dE PG (build dR #[(0,v14)])) λv15=>
 ∀r16,h4 r16=none->fK (PH.set h4 r16 (.cells (eX PG dR) dR)) λh17=>
 dT PG (dX dR (pT r16 0) v15) h17 λv18 h19=>
 dA (dE PG (fieldAt dR (pT r1 0) 1)) λv20=>
 dA (dH PG h19 (loadAt aR v20)) λv21=>
 dA (dH PG h19 (gV BinOp.eql aR (.tmp 14) (.const (Value.int IntKind.i64 0)) v21 (Value.int IntKind.i64 0))) λv22=>
 dW v22
 (dA (dE PG (fieldAt dR (pT r16 0) 1)) λv23=>
 dT PG (dX aR v23 (Value.int IntKind.i64 1)) h19 λv24 h25=>
 aEj R (pT r3 0) (pT r16 0) h25)
 (aEj R (pT r3 0) (pT r16 0) h19))
def aJG.call{t0 h0 R}(H:aJG t0 h0 R):bR PG aIi #[t0] h0 R:=eO (jU 18) Tryz.func73 H
noncomputable def nR:Code:=((zM (aB0 Tryz.f74)).getD 0 (.skip,.skip)).1
noncomputable def mU:Code:=((zM (aB0 Tryz.f74)).getD 0 (.skip,.skip)).2
def uY(kv:dI)(l:Nat)(t4:Value)(t5:Value)(t6:Value)(t10:Value)(t11:Value)(t27:Value)(t28:Value)(h0:PH):Prop:=
 dT PG (Instr.beginRound l) h0 λ_ h23=>
 ∀r24,h23 r24=none->fK (PH.set h23 r24 (.cells (eX PG gH) gH)) λh25=>
 bR PG oP #[(pT r24 0),(Value.string {data:=#[82]})] h25 λv26 h27=>
 dA (dH PG h27 (loadAt dN t5)) λv28=>
 bR PG lN #[(pT r24 0),v28] h27 λv29 h30=>
 dA (dH PG h30 (loadAt dN t6)) λv31=>
 bR PG lN #[(pT r24 0),v31] h30 λv32 h33=>
 bR PG jT #[(pT r24 0),t27] h33 λv34 h35=>
 dA (dH PG h35 (loadAt aR t10)) λv36=>
 bR PG jT #[(pT r24 0),v36] h35 λv37 h38=>
 bR PG uW #[(pT r24 0),t28] h38 λv39 h40=>
 dA (dH PG h40 (loadAt aR t4)) λv41=>
 dA (dE PG (binOp BinOp.sub aR v41 (Value.int IntKind.i64 25))) λv42=>
 dA (dE PG (Builtin.len_ #[aT] aR #[t28])) λv43=>
 dA (dE PG (binOp BinOp.sub aR v42 v43)) λv44=>
 bR PG yB #[(Value.string {data:=#[0]}),v44] h40 λv45 h46=>
 bR PG oP #[(pT r24 0),v45] h46 λv47 h48=>
 bR PG pB #[(pT r24 0)] h48 λv49 h50=>
 dA (dE PG (extract v49 0)) λv51=>
 dA (dE PG (extract v49 1)) λv52=>
 dA (dH PG h50 (loadAt eB t11)) λv53=>
 bR PG aGn #[v51] h50 λv54 h55=>
 dH PG h55 (loadAt eB t11)=some v53∧(dA (lH PG (buildSlice eB 1 #[(0,v54)])) λx57=>∀r56,h55 r56=none->dA (dE PG (x57.2 r56)) λv58=>fK (PH.set h55 r56 x57.1) λh59=>
 dT PG (Builtin.append_ #[eB,eB] eB #[v53,v58]) h59 λv60 h61=>
 (dT PG (dX eB t11 v60) h61 λv62 h63=>
 (dT PG (Instr.endRound l none) h63 kv)))
def yW(t0:Value)(t1:Value)(t2:Value)(t3:Value)(h0:PH)(R:dI):Prop:=
 ∀r1,h0 r1=none->fK (PH.set h0 r1 (.cells (Value.cells t0) aR)) λh2=>
 ∀r3,h2 r3=none->fK (PH.set h2 r3 (.cells (Value.cells t1) dN)) λh4=>
 ∀r5,h4 r5=none->fK (PH.set h4 r5 (.cells (Value.cells t2) dN)) λh6=>
 dA (dH PG h6 (loadAt aR (pT r1 0))) λv7=>
 dA (dE PG (Builtin.len_ #[aT] aR #[t3])) λv8=>
 bR PG vA #[v7,v8] h6 λv9 h10=>
 ∀r11,h10 r11=none->fK (PH.set h10 r11 (.cells (eX PG aR) aR)) λh12=>
 dT PG (dX aR (pT r11 0) v9) h12 λv13 h14=>
 dA (dH PG h14 (loadAt aR (pT r11 0))) λv15=>
 dA (dH PG h14 (gV BinOp.eql aR (.tmp 21) (.const (Value.int IntKind.i64 0)) v15 (Value.int IntKind.i64 0))) λv16=>
 dW v16
 (R (Value.tuple #[(Value.slice none 0 0),(Value.int IntKind.i64 1)]) h14)
 (∀r17,h14 r17=none->fK (PH.set h14 r17 (.cells (eX PG eB) eB)) λh18=>
 dA (dH PG h18 (loadAt aR (pT r1 0))) λv19=>
 dA (dE PG (binOp BinOp.sub aR v19 (Value.int IntKind.i64 25))) λv20=>
 bR PG aKh #[t3,v20] h18 λv21 h22=>
 aEV PG 57 v21 #[27,28] nR mU (λh64=>dA (dH PG h64 (loadAt eB (pT r17 0))) λv65=>
 R (Value.tuple #[v65,(Value.int IntKind.i64 0)]) h64) (λh66=>R (Value.tuple #[(Value.slice none 0 0),(Value.int IntKind.i64 0)]) h66) [] [(4,(pT r1 0)),(5,(pT r3 0)),(6,(pT r5 0)),(10,(pT r11 0)),(11,(pT r17 0))] h22)
def yW.ann:kW:={b:=λi=>match i with|17=>#[0,0,2,6,15,31]|_=>#[],ord:=λi=>match i with|17=>[0,1,2,3,4,5]|_=>[],keep:=λi=>match i with|8=>[4,5,6,10,11]|_=>[],n:=57}
def yW.call{t0 t1 t2 t3 h0 R}(H:yW t0 t1 t2 t3 h0 R):bR PG aDn #[t0,t1,t2,t3] h0 R:=eO yW.ann Tryz.func74 H
def uY.eq(kv:dI)(l:Nat)(ρ:lR)(h0:PH):aMv PG yW.ann 200 l nR mU kv ρ h0=uY kv l (ρ 4) (ρ 5) (ρ 6) (ρ 10) (ρ 11) (ρ 27) (ρ 28) h0:=by kernel_rfl
def uY.next{kv:dI}{l:Nat}{f:FuncId}{tmps:Array Value}{h0:PH}(hs:tmps.size=57)(H:uY kv l (tmps.getD 4 undef) (tmps.getD 5 undef) (tmps.getD 6 undef) (tmps.getD 10 undef) (tmps.getD 11 undef) (tmps.getD 27 undef) (tmps.getD 28 undef) h0):tG PG (.round l f tmps nR mU) h0 kv:=
 aOX yW.ann 200 mix hs (by kernel_rfl) (by kernel_rfl) (uY.eq kv l (λt=>tmps.getD t undef) h0) H
def aID(t0:Value)(t1:Value)(h0:PH)(R:dI):Prop:=
 ∀r1,h0 r1=none->fK (PH.set h0 r1 (.cells (Value.cells t0) aT)) λh2=>
 ∀r3,h2 r3=none->fK (PH.set h2 r3 (.cells (Value.cells t1) aR)) λh4=>
 dA (dE PG (Instr.makeFunc (Fn.func aDJ) #[] #[(pT r3 0),(pT r1 0)])) λv5=>
 R v5 h4
def aID.call{t0 t1 h0 R}(H:aID t0 t1 h0 R):bR PG aKh #[t0,t1] h0 R:=eO (jU 6) Tryz.func139 H
def aJF(R:dI)(n1:iC)(t0:Value)(t1:Value)(t2:Value)(t4:Value)(h0:PH):Prop:=
 dA (dH PG h0 (loadAt aR t1)) λv3=>
 dA (dH PG h0 (loadAt aT t2)) λv4=>
 dA (dE PG (Builtin.len_ #[aT] aR #[v4])) λv5=>
 dA (dE PG (Builtin.min_ #[aR,aR] aR #[v3,v5])) λv6=>
 dA (dH PG h0 (loadAt aT t2)) λv7=>
 dA (dE PG (Instr.sliceAt aT v7 none (some v6) none)) λv8=>
 aAK PG t0 #[t4,v8] h0 λv9 h10=>
 dA (dE PG (Op.unary UnOp.not v9)) λv11=>
 gG (yV v11) false (λk14=>k14 v6 h10) h10 λv12 h13=>
 gG (yV v11) false (λk17=>dA (dH PG h13 (loadAt aT t2)) λv18=>k17 v18 h13) h13 λv15 h16=>
 gG (yV v11) false (λk21=>dA (dE PG (Builtin.len_ #[aT] aR #[v15])) λv22=>k21 v22 h16) h16 λv19 h20=>
 gG (yV v11) false (λk25=>dA (dH PG h20 (gV BinOp.eql aR (.tmp 20) (.tmp 22) v12 v19)) λv26=>k25 v26 h20) h20 λv23 h24=>
 dA (gA v11 (Value.bool true) v23) λv27=>
 dW v27
 (R (Value.tuple #[]) h24)
 (dA (dH PG h24 (loadAt aT t2)) λv28=>
 dA (dE PG (Instr.sliceAt aT v28 (some v6) none none)) λv29=>
 dT PG (dX aT t2 v29) h24 λv30 h31=>
 dA (dE PG (binOp BinOp.add aR t4 (Value.int IntKind.i64 1))) λv32=>
 n1 [t0,t1,t2,v32] h31)
def aFu(t0:Value)(t1:Value)(t2:Value)(h0:PH)(R:dI):Prop:=
 iV [0,1,2,4] (λn1 ρ h=>aJF R n1 (ρ 0) (ρ 1) (ρ 2) (ρ 4) h) [t0,t1,t2,(Value.int IntKind.i64 0)] h0
def aFu.call{t0 t1 t2 h0 R}(H:aFu t0 t1 t2 h0 R):bR PG aDJ #[t0,t1,t2] h0 R:=eO (uH 2 [0,1,2,4] 28) Tryz.func184 H
def aEb(e:Value)(b:PH)(R:dI):Prop:=∀a,b a=none->fK (PH.set b a (.cells e.cells cR)) λc=>eN c cR (pT a 0) λf=>pP (build bT #[(0,(.int .i64 1)),(1,f)]) λg=>bR PG aA8 #[g] c λd h=>iD d 0 λi=>iD d 1 λj=>R i h
def aEb.call{t0 h0 R}(H:aEb t0 h0 R):bR PG aCD #[t0] h0 R:=eO (jU 12) Tryz.func31 H
def wW(R:dI)(g c d:Value)(e:PH):Prop:=eN e cR c λh=>bR PG wK #[h] e λi j=>bR PG pX #[d,i] j λf a=>iJ a .neq aR (.tmp 44) (.const (.int .i64 0)) f (.int .i64 0) λk=>dW k (R (.tuple #[.pointer none,f]) a) (eN a cR c λl=>pP (build gC #[(0,d),(1,g),(2,l)]) λm=>∀b,a b=none->fK (PH.set a b (.cells m.cells gC)) λn=>R (.tuple #[pT b 0,.int .i64 0]) n)
def aBf(p b q:Value)(i:PH)(R:dI):Prop:=∀d,i d=none->fK (PH.set i d (.cells q.cells eD)) λe=>eN e eD (pT d 0) λr=>pP (build cR #[(0,r)]) λs=>∀a,e a=none->fK (PH.set e a (.cells (eX PG cR) cR)) λu=>dT PG (dX cR (pT a 0) s) u λE j=>eN j cR (pT a 0) λv=>bR PG qF #[v,b] j λw f=>iJ f .neq aR (.tmp 17) (.const (.int .i64 0)) w (.int .i64 0) λx=>dW x (R (.tuple #[.pointer none,.int .i64 1]) f) (bR PG aCU #[p] f λg c=>iD g 0 λk=>iD g 1 λl=>iD g 2 λm=>iJ c .neq aR (.tmp 25) (.const (.int .i64 0)) m (.int .i64 0) λy=>dW y (R (.tuple #[.pointer none,m]) c) (jH eB aR l λz=>fL .gtr aR z (.int .i64 0) λA=>dW A (bR PG pL #[b,l] c λn B=>iD n 0 λC=>iD n 1 λo=>dT PG (dX cR (pT a 0) C) B λF h=>iJ h .neq aR (.tmp 37) (.const (.int .i64 0)) o (.int .i64 0) λD=>dW D (R (.tuple #[.pointer none,o]) h) (wW R b (pT a 0) k h)) (wW R b (pT a 0) k c)))
def aBf.call{t0 t1 t2 h0 R}(H:aBf t0 t1 t2 h0 R):bR PG yH #[t0,t1,t2] h0 R:=eO (jU 52) Tryz.func26 H
end Go.Proofs.YtiohehjhlghikaaGreatDoor
