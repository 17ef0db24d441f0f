/- The texts of this claim, put together. -/
import Derived.Test.YtiohehjhlghikaaGreatDoorJgNVC1
set_option linter.all false
set_option maxRecDepth 100000
open Go.Instr (loadAt fieldAt indexAt extract buildSlice build)
namespace Go.Proofs.YtiohehjhlghikaaGreatDoor
open Go
def pP(x:Sem Value)(k:Value->Prop):Prop:=bY (cC PG x) k
def pE(h:PH)(x:Sem Value)(k:Value->Prop):Prop:=bY (cD PG h x) k
def dP(t:TypeId)(v:Value)(n:Nat)(k:Value->Prop):Prop:=bY (cC PG (fieldAt t v n)) k
def dU(o:BinOp)(t:TypeId)(x y:Value)(k:Value->Prop):Prop:=bY (cC PG (binOp o t x y)) k
def dJ(h:PH)(t:TypeId)(x:Value)(k:Value->Prop):Prop:=bY (cD PG h (loadAt t x)) k
def lZ(t:TypeId)(x y:Value)(k:Value->Prop):Prop:=bY (cC PG (indexAt t x y)) k
def fX(x:Value)(n:Nat)(k:Value->Prop):Prop:=bY (cC PG (extract x n)) k
def fY(x:Value)(k:Value->Prop):Prop:=bY (cC PG (gF x)) k
def iD(t u:TypeId)(x:Value)(k:Value->Prop):Prop:=bY (cC PG (Builtin.len_ #[t] u #[x])) k
def gI(h:PH)(o:BinOp)(t:TypeId)(x y:Operand)(a b:Value)(k:Value->Prop):Prop:=bY (cD PG h (fK o t x y a b)) k
def hC(c:Value)(w:Bool)(v:Value)(h:PH)(k:cF):Prop:=fA (yV c) w (λj=>j v h) h k
def eX(c:Value)(w:Bool)(x:Sem Value)(h:PH)(k:cF):Prop:=fA (yV c) w (λj=>bY (cC PG x) λv=>j v h) h k
def gC(c:Value)(w:Bool)(x:Sem Value)(h:PH)(k:cF):Prop:=fA (yV c) w (λj=>bY (cD PG h x) λv=>j v h) h k
def yK(h:PH)(x:Sem Value)(k:cF):Prop:=bY (jX PG x) λy=>∀r,h r=none->bY (cC PG (y.2 r)) λv=>dT (PH.set h r y.1) λh'=>k v h'
def zPP:(∀(x:Sem Value) (k:Value->Prop),pP x k=bY (cC PG x) k)∧(∀(h:PH) (x:Sem Value) (k:Value->Prop),pE h x k=bY (cD PG h x) k)∧(∀(t:TypeId) (v:Value) (n:Nat) (k:Value->Prop),dP t v n k=bY (cC PG (fieldAt t v n)) k)∧(∀(o:BinOp) (t:TypeId) (x y:Value) (k:Value->Prop),dU o t x y k=bY (cC PG (binOp o t x y)) k)∧(∀(h:PH) (t:TypeId) (x:Value) (k:Value->Prop),dJ h t x k=bY (cD PG h (loadAt t x)) k)∧(∀(t:TypeId) (x y:Value) (k:Value->Prop),lZ t x y k=bY (cC PG (indexAt t x y)) k)∧(∀(x:Value) (n:Nat) (k:Value->Prop),fX x n k=bY (cC PG (extract x n)) k)∧(∀(x:Value) (k:Value->Prop),fY x k=bY (cC PG (gF x)) k)∧(∀(t u:TypeId) (x:Value) (k:Value->Prop),iD t u x k=bY (cC PG (Builtin.len_ #[t] u #[x])) k)∧(∀(h:PH) (o:BinOp) (t:TypeId) (x y:Operand) (a b:Value) (k:Value->Prop),gI h o t x y a b k=bY (cD PG h (fK o t x y a b)) k)∧(∀(c:Value) (w:Bool) (v:Value) (h:PH) (k:cF),hC c w v h k=fA (yV c) w (λj=>j v h) h k)∧(∀(c:Value) (w:Bool) (x:Sem Value) (h:PH) (k:cF),eX c w x h k=fA (yV c) w (λj=>bY (cC PG x) λv=>j v h) h k)∧(∀(c:Value) (w:Bool) (x:Sem Value) (h:PH) (k:cF),gC c w x h k=fA (yV c) w (λj=>bY (cD PG h x) λv=>j v h) h k)∧(∀(h:PH) (x:Sem Value) (k:cF),yK h x k=bY (jX PG x) λy=>∀r,h r=none->bY (cC PG (y.2 r)) λv=>dT (PH.set h r y.1) λh'=>k v h'):=⟨λ_ _=>(rfl),λ_ _ _=>(rfl),λ_ _ _ _=>(rfl),λ_ _ _ _ _=>(rfl),λ_ _ _ _=>(rfl),λ_ _ _ _=>(rfl),λ_ _ _=>(rfl),λ_ _=>(rfl),λ_ _ _ _=>(rfl),λ_ _ _ _ _ _ _ _=>(rfl),λ_ _ _ _ _=>(rfl),λ_ _ _ _ _=>(rfl),λ_ _ _ _ _=>(rfl),λ_ _ _=>(rfl)⟩
def dE{f:FuncId}{fn:Func}(ann:kC)(hf:PG.funcs[f]? =some fn){args:Array Value}{h:PH}{R:cF}{X:Prop}(H:X)(ha:decide (args.size≤fn.ntmps)=true:=by kernel_rfl)(h1:aCi PG f=true:=by kernel_rfl)(h2:fn.body.isSome=true:=by kernel_rfl)(h3:decide (tY (aBt fn)<200)=true:=by kernel_rfl)(h4:wL PG ann fn.ntmps (aBt fn)=true:=by kernel_rfl)(he:aDj PG ann 200 (aBt fn) (aWz PG fn R) (λt=>args.getD t undef) h=X:=by kernel_rfl):bT PG f args h R:=aSY ann 200 mix hf h1 h2 h3 h4 (of_decide_eq_true ha) he H
def iN(n:Nat):kC:={b:=λi=>#[],ord:=λi=>[],keep:=λi=>[],n:=n}
def sO(k:Nat)(l:List Nat)(n:Nat):kC:={b:=λi=>#[],ord:=λi=>[],keep:=λi=>if i=k then l else [],n:=n}
def aV2:Array UInt8:=((((List.replicate 64 32:List UInt8).append) (List.replicate 64 32:List UInt8)).toArray)
def aWL:Array UInt8:=((((List.replicate 64 45:List UInt8).append) (List.replicate 64 45:List UInt8)).toArray)
def aWC:Array UInt8:=((((List.replicate 64 61:List UInt8).append) (List.replicate 64 61:List UInt8)).toArray)
def qR(q:PH)(R:cF):Prop:=pP (build cG #[(0,(.int .u64 5))]) λr=>pP (build cG #[(0,(.int .u64 5))]) λs=>pP (build cR #[(0,r),(1,s)]) λu=>bT PG wM #[.int .i64 64,.int .i64 20,.int .i64 2,u] q λb m=>gI m .eql oO (.tmp 9) (.const (.pointer none)) b (.pointer none) λi=>hC i false b m λv n=>fA (yV i) false (λw=>bT PG mM #[v] n λx y=>w x y) n λz A=>eX i false (Op.unary .not z) A λB C=>bY (eK i (.bool true) B) λc=>hC c false b C λD E=>eX c false (gF D) E λF G=>eX c false (fieldAt cS F 1) G λH I=>gC c false (loadAt dX H) I λJ K=>gC c false (fK .eql dX (.tmp 20) (.const (.pointer none)) J (.pointer none)) K λL j=>bY (eK c (.bool true) L) λM=>cN M (R (.bool false) j) (pP (build bX #[(1,(.int .u64 1)),(2,(.int .u64 9))]) λN=>∀g,j g=none->dT (PH.set j g (.cells (dF PG bX) bX)) λO=>cM PG (cQ bX (pT g 0) N) O λaS k=>fY b λP=>dP cS P 1 λQ=>dJ k dX Q λS=>pP (build cG #[(0,(.int .u64 6)),(1,(.int .i64 1))]) λU=>dJ k bX (pT g 0) λV=>pP (build cK #[(0,(.int .i64 1)),(1,V)]) λW=>yK k (buildSlice cY 1 #[(0,W)]) λX Y=>bT PG pN #[S,.int .i64 0,U,X] Y λZ a0=>(bT PG mM #[b] a0 λa1 a2=>pP (Op.unary .not a1) λd=>hC d false b a2 λa3 a4=>eX d false (gF a3) a4 λa5 a6=>eX d false (fieldAt cS a5 1) a6 λa7 a8=>gC d false (loadAt dX a7) a8 λa9 aa=>gC d false (fK .eql dX (.tmp 40) (.const (.pointer none)) a9 (.pointer none)) aa λab l=>bY (eK d (.bool true) ab) λac=>cN ac (R (.bool false) l) (fY b λad=>dP cS ad 1 λae=>dJ l dX ae λaf=>bT PG mV #[af] l λag o=>∀e,o e=none->dT (PH.set o e (.cells (dF PG bR) bR)) λah=>cM PG (cQ bR (pT e 0) ag) ah λaU p=>gI p .eql dH (.tmp 48) (.const (.int .i64 0)) Z (.int .i64 0) λh=>eX h true (fieldAt bR (pT e 0) 1) p λai aj=>gC h true (loadAt bZ ai) aj λak al=>eX h true (Builtin.len_ #[bZ] aR #[ak]) al λam an=>gC h true (fK .eql aR (.tmp 53) (.const (.int .i64 1)) am (.int .i64 1)) an λao ap=>bY (eK h ao (.bool false)) λa=>eX a true (fieldAt bR (pT e 0) 1) ap λaq ar=>gC a true (loadAt bZ aq) ar λau av=>eX a true (indexAt bZ au (.int .i64 0)) av λaw ax=>eX a true (fieldAt cE aw 0) ax λay az=>gC a true (loadAt bX ay) az λaA aB=>gC a true (loadAt bX (pT g 0)) aB λaC aD=>gC a true (fK .eql bX (.tmp 61) (.tmp 62) aA aC) aD λaE aF=>bY (eK a aE (.bool false)) λf=>eX f true (fieldAt bR (pT e 0) 0) aF λaG aH=>eX f true (indexAt cR aG (.int .i64 0)) aH λaI aJ=>gC f true (loadAt cG aI) aJ λaK aL=>eX f true (build cG #[(0,(.int .u64 6)),(1,(.int .i64 1))]) aL λaM aN=>gC f true (fK .eql cG (.tmp 68) (.tmp 69) aK aM) aN λaO aP=>bY (eK f aO (.bool false)) λaQ=>R aQ aP)))
def qR.ann:kC:={b:=λi=>match i with|5=>#[0,1,3,7,0,0,32,96,255,511]|9=>#[0,1,3,7,15,31,63,127,255,511,1023,2047,4095,8191,511,32767,65535,131071,262143,524287,1048575,262143,4194303,8388607,16777215]|_=>#[],ord:=λi=>match i with|5=>[0,1,2,3,4,5,6,7,8,9]|9=>[0,1,2,3,4,5,6,7,8,9,10,11,12,13,14,15,16,17,18,19,20,21,22,23,24]|_=>[],keep:=λ_=>[],n:=72}
def qR.call{h0 R}(H:qR h0 R):bT PG aAs #[] h0 R:=dE qR.ann Tryz.func7 H
def sI(f g m n:Value)(h:PH)(R:cF):Prop:=∀a,h a=none->dT (PH.set h a (.cells n.cells cR)) λo=>bT PG aIQ #[f,g] o λi j=>fX i 0 λk=>fX i 1 λp=>gI j .neq dH (.tmp 17) (.const (.int .i64 0)) p (.int .i64 0) λb=>hC b false k j λq r=>gC b false (fK .eql fL (.tmp 20) (.const (.pointer none)) q (.pointer none)) r λs c=>bY (eK b (.bool true) s) λu=>cN u (R (.pointer none) c) (dJ c cR (pT a 0) λl=>bT PG aB7 #[f,g] c λv d=>cD PG d (loadAt cR (pT a 0))=some l∧(pP (build cS #[(0,k),(3,v),(5,m),(6,l)]) λw=>∀e,d e=none->dT (PH.set d e (.cells w.cells cS)) λx=>R (pT e 0) x))
def sI.ann:kC:={b:=λi=>match i with|4=>#[0,0,0,6,0,0,63,127,255]|_=>#[],ord:=λi=>match i with|4=>[0,1,2,4,5,3,6,7,8]|_=>[],keep:=λ_=>[],n:=31}
def sI.call{t0 t1 t2 t3 h0 R}(H:sI t0 t1 t2 t3 h0 R):bT PG wM #[t0,t1,t2,t3] h0 R:=dE sI.ann Tryz.func9 H
def aKY(R:cF)(n38:gB)(t0:Value)(t6:Value)(t33:Value)(t34:Value)(h0:PH):Prop:=
 bY (cC PG (binOp BinOp.lss aR t34 t33)) λv40=>
 cN v40
 (bY (cC PG (gF t6)) λv41=>
 bY (cC PG (fieldAt eB v41 1)) λv42=>
 bY (cD PG h0 (loadAt cU v42)) λv43=>
 bT PG wC #[(Value.string {data:=#[0]}),t0] h0 λv44 h45=>
 cD PG h45 (loadAt cU v42)=some v43∧(bY (cC PG (indexAt cU v43 t34)) λv46=>
 cM PG (cQ aT v46 v44) h45 λv47 h48=>
 (bY (cC PG (binOp BinOp.add aR t34 (Value.int IntKind.i64 1))) λv49=>
 n38 [t0,t6,t33,v49] h48)))
 (R (Value.tuple #[t6,(Value.int IntKind.i64 0)]) h0)
def aFP(t0:Value)(t1:Value)(h0:PH)(R:cF):Prop:=
 bY (cC PG (binOp BinOp.lss aR t0 (Value.int IntKind.i64 64))) λv1=>
 fA (yV v1) false (λk4=>k4 t0 h0) h0 λv2 h3=>
 fA (yV v1) false (λk7=>bY (cC PG (binOp BinOp.gtr aR v2 (Value.int IntKind.i64 512))) λv8=>k7 v8 h3) h3 λv5 h6=>
 bY (eK v1 (Value.bool true) v5) λv9=>
 fA (yV v9) false (λk12=>k12 t1 h6) h6 λv10 h11=>
 fA (yV v9) false (λk15=>bY (cC PG (binOp BinOp.lss aR v10 (Value.int IntKind.i64 1))) λv16=>k15 v16 h11) h11 λv13 h14=>
 bY (eK v9 (Value.bool true) v13) λv17=>
 fA (yV v17) false (λk20=>k20 t1 h14) h14 λv18 h19=>
 fA (yV v17) false (λk23=>bY (cC PG (binOp BinOp.gtr aR v18 (Value.int IntKind.i64 4096))) λv24=>k23 v24 h19) h19 λv21 h22=>
 bY (eK v17 (Value.bool true) v21) λv25=>
 cN v25
 (R (Value.tuple #[(Value.pointer none),(Value.int IntKind.i64 1)]) h22)
 (bY (cC PG (build eA #[(0,t0),(1,t1)])) λv26=>
 bY (jX PG (Instr.makeSlice cU t1 t1)) λx28=>∀r27,h22 r27=none->bY (cC PG (x28.2 r27)) λv29=>dT (PH.set h22 r27 x28.1) λh30=>
 bY (cC PG (build eB #[(0,v26),(1,v29)])) λv31=>
 ∀r32,h30 r32=none->dT (PH.set h30 r32 (.cells (Value.cells v31) eB)) λh33=>
 bY (cC PG (gF (pT r32 0))) λv34=>
 bY (cC PG (fieldAt eB v34 1)) λv35=>
 bY (cD PG h33 (loadAt cU v35)) λv36=>
 bY (cC PG (Builtin.len_ #[cU] aR #[v36])) λv37=>
 gV [0,6,33,34] (λn38 ρ h=>aKY R n38 (ρ 0) (ρ 6) (ρ 33) (ρ 34) h) [t0,(pT r32 0),v37,(Value.int IntKind.i64 0)] h33)
def aFP.ann:kC:={b:=λi=>match i with|7=>#[0,1,3,7,0,0,32,127,255]|_=>#[],ord:=λi=>match i with|7=>[0,1,2,3,4,5,6,7,8]|_=>[],keep:=λi=>match i with|5=>[0,6,33,34]|_=>[],n:=47}
def aFP.call{t0 t1 h0 R}(H:aFP t0 t1 h0 R):bT PG aIQ #[t0,t1] h0 R:=dE aFP.ann Tryz.func24 H
def aFG(R:cF)(e:gB)(b c a:Value)(f:PH):Prop:=bT PG qD #[a] f λg d=>dU .lss aR g b λh=>cN h (bT PG qD #[a] d λi j=>dU .sub aR b i λk=>bT PG qD #[a] j λl m=>pP (Builtin.min_ #[aR,aR,aR] aR #[k,l,c]) λn=>bT PG jH #[a] m λo p=>pP (Instr.sliceAt aT o none (some n) none) λq=>bT PG gW #[a,q] p λv r=>e [b,c,a] r) (bT PG jH #[a] d λs u=>R s u)
def zR(R:cF)(d b e:Value)(c:PH):Prop:=∀a,c a=none->dT (PH.set c a (.cells (dF PG cV) cV)) λf=>bT PG sV #[pT a 0,b] f λk g=>bT PG gW #[pT a 0,d] g λl i=>gV [7,8,9] (λj ρ h=>aFG R j (ρ 7) (ρ 8) (ρ 9) h) [b,e,pT a 0] i
def aF8(R:cF)(a b:Value)(c:PH):Prop:=dU .gtr aR b (.int .i64 8192) λe=>cN e (iD aT aR a λf=>dU .quo aR (.int .i64 8192) f λg=>iD aT aR a λh=>dU .mul aR g h λd=>gI c .eql aR (.tmp 103) (.const (.int .i64 0)) d (.int .i64 0) λi=>cN i (iD aT aR a λj=>zR R a b j c) (zR R a b d c)) (zR R a b b c)
def aCe(R:cF)(a b:Value)(c:PH):Prop:=aF8 R a b c
def qQ(R:cF)(b a s:Value)(h:PH):Prop:=cN s (dU .leq aR a (.int .i64 128) λc=>hC c true b h λu i=>fA (yV c) true (λv=>bT PG sE #[.string {data:=aV2},u] i λw x=>v w x) i λy j=>bY (eK c y (.bool false)) λz=>cN z (pP (Instr.sliceAt aT (.string {data:=aV2}) none (some a) none) λA=>R A j) (dU .leq aR a (.int .i64 128) λd=>hC d true b j λB k=>fA (yV d) true (λC=>bT PG sE #[.string {data:=aWL},B] k λD E=>C D E) k λF l=>bY (eK d F (.bool false)) λG=>cN G (pP (Instr.sliceAt aT (.string {data:=aWL}) none (some a) none) λH=>R H l) (dU .leq aR a (.int .i64 64) λe=>hC e true b l λI m=>fA (yV e) true (λJ=>bT PG sE #[.string ⟨(Array.replicate 64 48)⟩,I] m λK L=>J K L) m λM n=>bY (eK e M (.bool false)) λN=>cN N (pP (Instr.sliceAt aT (.string ⟨(Array.replicate 64 48)⟩) none (some a) none) λO=>R O n) (dU .leq aR a (.int .i64 128) λf=>hC f true b n λP o=>fA (yV f) true (λQ=>bT PG sE #[.string {data:=aWC},P] o λS U=>Q S U) o λV p=>bY (eK f V (.bool false)) λW=>cN W (pP (Instr.sliceAt aT (.string {data:=aWC}) none (some a) none) λX=>R X p) (dU .leq aR a (.int .i64 64) λg=>hC g true b p λY q=>fA (yV g) true (λZ=>bT PG sE #[.string ⟨(Array.replicate 64 9)⟩,Y] q λa0 a1=>Z a0 a1) q λa2 r=>bY (eK g a2 (.bool false)) λa3=>cN a3 (pP (Instr.sliceAt aT (.string ⟨(Array.replicate 64 9)⟩) none (some a) none) λa4=>R a4 r) (aCe R b a r)))))) (aCe R b a h)
def aFy(R:cF)(b i:Value)(a:PH):Prop:=pP (convert aCb aR i) λc=>iD aT aR b λj=>gI a .eql aR (.tmp 39) (.const (.int .i64 0)) j (.int .i64 0) λk=>cN k (R (.string ⟨#[]⟩) a) (pP (Instr.index aT b (.int .i64 0)) λd=>gI a .eql dK (.tmp 42) (.const (.int .u8 32)) d (.int .u8 32) λe=>cN e (qQ R b c e a) (gI a .eql dK (.tmp 42) (.const (.int .u8 45)) d (.int .u8 45) λf=>cN f (qQ R b c f a) (gI a .eql dK (.tmp 42) (.const (.int .u8 48)) d (.int .u8 48) λg=>cN g (qQ R b c g a) (gI a .eql dK (.tmp 42) (.const (.int .u8 61)) d (.int .u8 61) λh=>cN h (qQ R b c h a) (gI a .eql dK (.tmp 42) (.const (.int .u8 9)) d (.int .u8 9) λl=>qQ R b c l a)))))
def aGk(R:cF)(b e:Value)(f:PH):Prop:=iD aT aR b λg=>pP (convert aR aCb g) λh=>pP (convert aR aCb e) λi=>bT PG aD0 #[h,i] f λc j=>fX c 0 λk=>fX c 1 λd=>dU .gtr aCb k (.int .u64 0) λa=>hC a false d j λl m=>eX a false (binOp .gtr aCb l (.int .u64 9223372036854775807)) m λn o=>bY (eK a (.bool true) n) λp=>cN p (pP (Instr.makeInterface aT (.string ⟨#[115,116,114,105,110,103,115,58,32,82,101,112,101,97,116,32,111,117,116,112,117,116,32,108,101,110,103,116,104,32,111,118,101,114,102,108,111,119]⟩)) λq=>False) (aFy R b d o)
def aCl(c b:Value)(a:PH)(R:cF):Prop:=gI a .eql aR (.tmp 11) (.const (.int .i64 0)) b (.int .i64 0) λd=>cN d (R (.string ⟨#[]⟩) a) (gI a .eql aR (.tmp 11) (.const (.int .i64 1)) b (.int .i64 1) λe=>cN e (R c a) (dU .lss aR b (.int .i64 0) λf=>cN f (pP (Instr.makeInterface aT (.string ⟨#[115,116,114,105,110,103,115,58,32,110,101,103,97,116,105,118,101,32,82,101,112,101,97,116,32,99,111,117,110,116]⟩)) λg=>False) (aGk R c b a)))
def aCl.call{t0 t1 h0 R}(H:aCl t0 t1 h0 R):bT PG wC #[t0,t1] h0 R:=dE (sO 38 [7,8,9] 125) Tryz.func47 H
def aC5(R:cF)(b c:Value)(a:PH):Prop:=fY b λd=>dP cV d 1 λe=>dJ a cW e λf=>pP (Builtin.cap_ #[cW] aR #[f]) λg=>fY b λh=>dP cV h 1 λi=>dJ a cW i λj=>iD cW aR j λk=>dU .sub aR g k λl=>dU .lss aR l c λm=>cN m (bT PG aC7 #[b,c] a λo n=>R (.tuple #[]) n) (R (.tuple #[]) a)
def pG(a b:Value)(c:PH)(R:cF):Prop:=bT PG lH #[a] c λf d=>dU .lss aR b (.int .i64 0) λe=>cN e (pP (Instr.makeInterface aT (.string ⟨#[115,116,114,105,110,103,115,46,66,117,105,108,100,101,114,46,71,114,111,119,58,32,110,101,103,97,116,105,118,101,32,99,111,117,110,116]⟩)) λg=>False) (aC5 R a b d)
def pG.ann:kC:={b:=λi=>match i with|3=>#[0,1,3,7,15,0,32,96,224,480,1023,0,4095]|_=>#[],ord:=λi=>match i with|3=>[0,1,2,3,4,5,6,7,8,9,10,11,12]|_=>[],keep:=λ_=>[],n:=25}
def pG.call{t0 t1 h0 R}(H:pG t0 t1 h0 R):bT PG sV #[t0,t1] h0 R:=dE pG.ann Tryz.func94 H
def mI(b:Value)(a:PH)(R:cF):Prop:=fY b λc=>dP cV c 0 λd=>dJ a dM d λe=>gI a .eql dM (.tmp 5) (.const (.pointer none)) e (.pointer none) λf=>cN f (cM PG (convert dM gK b) a λg h=>bT PG xE #[g] h λi j=>cM PG (convert gK dM i) j λk l=>fY b λm=>dP cV m 0 λn=>cM PG (cQ dM n k) l λu o=>R (.tuple #[]) o) (fY b λp=>dP cV p 0 λq=>dJ a dM q λr=>gI a .neq dM (.tmp 17) (.tmp 18) r b λs=>cN s (False) (R (.tuple #[]) a))
def mI.call{t0 h0 R}(H:mI t0 h0 R):bT PG lH #[t0] h0 R:=dE (iN 20) Tryz.func152 H
def oZ(a g:Value)(b:PH)(R:cF):Prop:=fY a λh=>dP cV h 1 λi=>dJ b cW i λj=>pP (Builtin.cap_ #[cW] aR #[j]) λk=>dU .mul aR (.int .i64 2) k λl=>dU .add aR l g λm=>fY a λn=>dP cV n 1 λd=>dJ b cW d λe=>iD cW aR e λo=>bT PG rZ #[m] b λp c=>cD PG c (loadAt cW d)=some e∧(pP (Instr.sliceAt cW p none (some o) none) λf=>fY a λq=>dP cV q 1 λr=>dJ c cW r λs=>cM PG (Builtin.copy_ #[cW,cW] aR #[f,s]) c λy u=>fY a λv=>dP cV v 1 λw=>cM PG (cQ cW w f) u λz x=>R (.tuple #[]) x)
def oZ.ann:kC:={b:=λi=>match i with|0=>#[0,1,3,7,15,31,0,127,255,0,512,1536,3584,7680,16383,32767]|_=>#[],ord:=λi=>match i with|0=>[0,1,2,3,4,5,6,7,9,10,11,12,13,8,14,15]|_=>[],keep:=λ_=>[],n:=30}
def oZ.call{t0 t1 h0 R}(H:oZ t0 t1 h0 R):bT PG aC7 #[t0,t1] h0 R:=dE oZ.ann Tryz.func153 H
def jQ(a b:Value)(d:PH)(R:cF):Prop:=bT PG lH #[a] d λn c=>fY a λe=>dP cV e 1 λf=>dJ c cW f λg=>cM PG (Builtin.append_ #[cW,aT] cW #[g,b]) c λh i=>fY a λj=>dP cV j 1 λk=>cM PG (cQ cW k h) i λo l=>iD aT aR b λm=>R (.tuple #[m,Value.nilIface]) l
def jQ.call{t0 t1 h0 R}(H:jQ t0 t1 h0 R):bT PG gW #[t0,t1] h0 R:=dE (iN 19) Tryz.func95 H
def jR(b:Value)(a:PH)(R:cF):Prop:=fY b λf=>dP cV f 1 λg=>dJ a cW g λh=>fY b λi=>dP cV i 1 λc=>dJ a cW c λd=>iD cW aR d λj=>cM PG (Builtin.unsafeSliceData_ #[cW] oE #[h]) a λk e=>cD PG e (loadAt cW c)=some d∧(cM PG (Builtin.unsafeString_ #[oE,aR] aT #[k,j]) e λl m=>(R l m))
def jR.ann:kC:={b:=λi=>match i with|1=>#[0,1,3,7,15,0,32,96,224,480,1023,2047]|_=>#[],ord:=λi=>match i with|1=>[0,1,2,3,5,6,7,8,9,4,10,11]|_=>[],keep:=λ_=>[],n:=14}
def jR.call{t0 h0 R}(H:jR t0 h0 R):bT PG jH #[t0] h0 R:=dE jR.ann Tryz.func96 H
def aDc(a b:Value)(c:PH)(R:cF):Prop:=cN (.bool false) (pP (convert aCb fE a) λf=>pP (convert aCb fE b) λg=>bT PG aKU #[f,g] c λd h=>fX d 0 λi=>fX d 1 λj=>pP (convert fE aCb i) λk=>pP (convert fE aCb j) λl=>R (.tuple #[k,l]) h) (bT PG aFx #[a,b] c λe m=>fX e 0 λn=>fX e 1 λo=>R (.tuple #[n,o]) m)
def aDc.call{t0 t1 h0 R}(H:aDc t0 t1 h0 R):bT PG aD0 #[t0,t1] h0 R:=dE (iN 30) Tryz.func97 H
def aCP(a b:Value)(h:PH)(R:cF):Prop:=dU .and cI a (.int .u64 4294967295) λc=>dU .shr cI a (.int .u64 32) λd=>dU .and cI b (.int .u64 4294967295) λe=>dU .shr cI b (.int .u64 32) λf=>dU .mul cI c e λi=>dU .mul cI d e λj=>dU .shr cI i (.int .u64 32) λk=>dU .add cI j k λg=>dU .and cI g (.int .u64 4294967295) λl=>dU .shr cI g (.int .u64 32) λm=>dU .mul cI c f λn=>dU .add cI l n λo=>dU .mul cI d f λp=>dU .add cI p m λq=>dU .shr cI o (.int .u64 32) λr=>dU .add cI q r λs=>dU .mul cI a b λu=>R (.tuple #[s,u]) h
def aCP.call{t0 t1 h0 R}(H:aCP t0 t1 h0 R):bT PG aFx #[t0,t1] h0 R:=dE (iN 51) Tryz.func155 H
def yD(b:Value)(a:PH)(R:cF):Prop:=fY b λc=>dP cV c 1 λd=>dJ a cW d λe=>iD cW aR e λf=>R f a
def yD.call{t0 h0 R}(H:yD t0 h0 R):bT PG qD #[t0] h0 R:=dE (iN 8) Tryz.func99 H
def aBd(c d:Value)(f:PH)(R:cF):Prop:=dU .mul aR c d λe=>yK f (Instr.makeSlice cW e e) λg a=>pE a (convert cW aT g) λh=>pP (build dC #[(0,c),(1,d),(2,h)]) λi=>∀b,a b=none->dT (PH.set a b (.cells i.cells dC)) λj=>R (pT b 0) j
def aBd.call{t0 t1 h0 R}(H:aBd t0 t1 h0 R):bT PG aB7 #[t0,t1] h0 R:=dE (iN 14) Tryz.func25 H
def nZ(a:Value)(c:PH)(R:cF):Prop:=fY a λh=>dP cS h 0 λi=>dJ c fL i λj=>fY a λk=>dP cS k 5 λl=>dJ c aR l λm=>fY a λn=>dP cS n 6 λo=>dJ c cR o λp=>bT PG aCB #[j,m,p] c λf q=>(fX f 0 λr=>fX f 1 λs=>fY a λu=>dP cS u 1 λv=>cM PG (cQ dX v r) q λaf w=>(fY a λx=>dP cS x 2 λy=>cM PG (cQ dH y s) w λag d=>(fY a λz=>dP cS z 3 λA=>dJ d fW A λB=>fY a λC=>dP cS C 5 λD=>dJ d aR D λE=>fY a λF=>dP cS F 6 λG=>dJ d cR G λH=>bT PG wE #[B,E,H] d λg I=>(fX g 0 λJ=>fX g 1 λK=>fY a λL=>dP cS L 4 λM=>cM PG (cQ fM M J) I λah e=>(fY a λN=>dP cS N 2 λO=>dJ e dH O λP=>gI e .eql aR (.tmp 48) (.tmp 49) P K λb=>hC b true a e λQ S=>eX b true (gF Q) S λU V=>eX b true (fieldAt cS U 1) V λW X=>gC b true (loadAt dX W) X λY Z=>gC b true (fK .eql dX (.tmp 55) (.const (.pointer none)) Y (.pointer none)) Z λa0 a1=>hC b true a a1 λa2 a3=>eX b true (gF a2) a3 λa4 a5=>eX b true (fieldAt cS a4 4) a5 λa6 a7=>gC b true (loadAt fM a6) a7 λa8 a9=>gC b true (fK .eql fM (.tmp 60) (.const (.pointer none)) a8 (.pointer none)) a9 λaa ab=>gC b true (fK .eql iU (.tmp 56) (.tmp 61) a0 aa) ab λac ad=>bY (eK b ac (.bool false)) λae=>R ae ad)))))
def nZ.ann:kC:={b:=λi=>match i with|2=>#[0,0,0,4,12,28,0,64,192,448,0,1024,3072,7168,16380,32764,65532,65532,131069,393213,917501,2097151,4194303,8388607]|3=>#[0,0,2,6,14,0,32,96,224,0,512,1536,3584,8190,16382,32766,32766,65535,196607,458751,1048575]|4=>#[0,1,3,7,0,31,63,127,255,511,1023,2047,127,4223,12415,28799,61567,131071,262143,524287]|_=>#[],ord:=λi=>match i with|2=>[0,1,2,3,4,5,6,7,8,9,10,11,12,13,14,15,16,17,18,19,20,21,22,23]|3=>[0,1,2,3,4,5,6,7,8,9,10,11,12,13,14,15,16,17,18,19,20]|4=>[0,1,2,3,4,5,6,7,8,9,10,11,12,13,14,15,16,17,18,19]|_=>[],keep:=λ_=>[],n:=64}
def nZ.call{t0 h0 R}(H:nZ t0 h0 R):bT PG mM #[t0] h0 R:=dE nZ.ann Tryz.func10 H
def aBp(R:cF)(g c d:Value)(e:PH):Prop:=dJ e bR c λh=>bT PG aBk #[h] e λi j=>bT PG vA #[d,i] j λf a=>gI a .neq dH (.tmp 47) (.const (.int .i64 0)) f (.int .i64 0) λk=>cN k (R (.tuple #[.pointer none,f]) a) (dJ a bR c λl=>pP (build fP #[(0,d),(1,g),(2,l)]) λm=>∀b,a b=none->dT (PH.set a b (.cells m.cells fP)) λn=>R (.tuple #[pT b 0,.int .i64 0]) n)
def aEx(q b r:Value)(i:PH)(R:cF):Prop:=∀d,i d=none->dT (PH.set i d (.cells r.cells cR)) λe=>dJ e cR (pT d 0) λs=>pP (build bR #[(0,s)]) λu=>∀a,e a=none->dT (PH.set e a (.cells (dF PG bR) bR)) λv=>cM PG (cQ bR (pT a 0) u) v λE j=>dJ j bR (pT a 0) λw=>bT PG uP #[w,b] j λk f=>gI f .neq dH (.tmp 19) (.const (.int .i64 0)) k (.int .i64 0) λx=>cN x (R (.tuple #[.pointer none,k]) f) (bT PG aIT #[q] f λg c=>fX g 0 λl=>fX g 1 λm=>fX g 2 λn=>gI c .neq dH (.tmp 28) (.const (.int .i64 0)) n (.int .i64 0) λy=>cN y (R (.tuple #[.pointer none,n]) c) (iD cU aR m λz=>dU .gtr aR z (.int .i64 0) λA=>cN A (bT PG aDz #[b,m] c λo B=>fX o 0 λC=>fX o 1 λp=>cM PG (cQ bR (pT a 0) C) B λF h=>gI h .neq dH (.tmp 40) (.const (.int .i64 0)) p (.int .i64 0) λD=>cN D (R (.tuple #[.pointer none,p]) h) (aBp R b (pT a 0) l h)) (aBp R b (pT a 0) l c)))
def aEx.call{t0 t1 t2 h0 R}(H:aEx t0 t1 t2 h0 R):bT PG aCB #[t0,t1,t2] h0 R:=dE (iN 55) Tryz.func11 H
def aAt(m n:Value)(d:PH)(R:cF):Prop:=∀a,d a=none->dT (PH.set d a (.cells m.cells bR)) λe=>dP bR (pT a 0) 1 λo=>dJ e bZ o λp=>bT PG aFn #[n,p] e λf q=>fX f 0 λr=>fX f 1 λc=>dP bR (pT a 0) 0 λs=>pP (Instr.sliceAt cR s none none none) λu=>bT PG lY #[u,(.func (Fn.func sJ) #[] #[])] q λv g=>gI g .eql dH (.tmp 19) (.const (.int .i64 1)) c (.int .i64 1) λh=>hC h false v g λw b=>bY (eK h (.bool true) w) λx=>cN x (R (.int .i64 1) b) (gI b .neq dH (.tmp 25) (.const (.int .i64 0)) c (.int .i64 0) λy=>cN y (R c b) (dP bR (pT a 0) 1 λi=>dJ b bZ i λj=>bT PG wD #[r] b λz k=>cD PG k (loadAt bZ i)=some j∧(bT PG oW #[z,j] k λA l=>(pP (Op.unary .not A) λB=>cN B (R (.int .i64 15) l) (R (.int .i64 0) l)))))
def aAt.ann:kC:={b:=λi=>match i with|7=>#[0,1,0,4,15,31,63]|_=>#[],ord:=λi=>match i with|7=>[0,2,3,1,4,5,6]|_=>[],keep:=λ_=>[],n:=35}
def aAt.call{t0 t1 h0 R}(H:aAt t0 t1 h0 R):bT PG uP #[t0,t1] h0 R:=dE aAt.ann Tryz.func27 H
def aLE(R:cF)(u:gB)(n o g j p q k:Value)(b:PH):Prop:=dU .lss aR k q λv=>cN v (lZ bZ p k λw=>dJ b cE w λx=>∀a,b a=none->dT (PH.set b a (.cells (dF PG cE) cE)) λy=>cM PG (cQ cE (pT a 0) x) y λak l=>dP cE (pT a 0) 1 λz=>dJ l aR z λA=>gI l .neq aR (.tmp 29) (.const (.int .i64 1)) A (.int .i64 1) λh=>eX h true (fieldAt cE (pT a 0) 1) l λB C=>gC h true (loadAt aR B) C λD E=>gC h true (fK .neq aR (.tmp 33) (.const (.int .i64 2)) D (.int .i64 2)) E λF G=>bY (eK h F (.bool false)) λc=>eX c false (fieldAt cE (pT a 0) 0) G λH I=>gC c false (loadAt bX H) I λJ r=>fA (yV c) false (λK=>bT PG uN #[J] r λL M=>K L M) r λN O=>gC c false (fK .neq dH (.tmp 39) (.const (.int .i64 0)) N (.int .i64 0)) O λP d=>bY (eK c (.bool true) P) λQ=>cN Q (R (.tuple #[.pointer none,.int .i64 1]) d) (dP cE (pT a 0) 0 λS=>dP bX S 0 λU=>dJ d aR U λV=>dP cE (pT a 0) 0 λW=>dP bX W 1 λX=>dJ d cI X λY=>pP (build fJ #[(0,V),(1,Y)]) λZ=>∀e,d e=none->dT (PH.set d e (.cells (dF PG fJ) fJ)) λa0=>cM PG (cQ fJ (pT e 0) Z) a0 λal f=>fY g λa1=>dP gG a1 0 λa2=>dJ f dL a2 λa3=>dJ f fJ (pT e 0) λa4=>pE f (Instr.lookup dL a3 a4 true) λs=>fX s 0 λa5=>fX s 1 λa6=>∀m,f m=none->dT (PH.set f m (.cells (dF PG cE) cE)) λa7=>cM PG (cQ cE (pT m 0) a5) a7 λam a8=>(hC j false a6 a8 λa9 i=>bY (eK j (.bool true) a9) λaa=>fY g λab=>dP gG ab 0 λac=>dJ i dL ac λad=>dJ i fJ (pT e 0) λae=>dJ i cE (pT a 0) λaf=>cM PG (aIl dL ad ae af) i λan ag=>(dU .add aR k (.int .i64 1) λah=>u [n,o,g,aa,p,q,ah] ag)))) (cN j (R (.tuple #[.pointer none,.int .i64 4]) b) (iD bZ aR o λai=>dU .gtr aR ai n λaj=>cN aj (R (.tuple #[.pointer none,.int .i64 2]) b) (R (.tuple #[g,.int .i64 0]) b)))
def aFg(c a:Value)(f:PH)(R:cF):Prop:=bT PG aHK #[c] f λd b=>fX d 0 λg=>fX d 1 λe=>gI b .neq dH (.tmp 19) (.const (.int .i64 0)) e (.int .i64 0) λi=>cN i (R (.tuple #[.pointer none,e]) b) (iD bZ aR a λj=>gV [0,1,6,8,22,23,24] (λk ρ h=>aLE R k (ρ 0) (ρ 1) (ρ 6) (ρ 8) (ρ 22) (ρ 23) (ρ 24) h) [c,a,g,.bool false,a,j,.int .i64 0] b)
def aFg.ann:kC:={b:=λi=>match i with|11=>#[0,1,3,7,0,31,63,127,127,0,767,2047]|13=>#[0,1,3,7,0,0,63]|_=>#[],ord:=λi=>match i with|11=>[0,1,2,3,4,5,6,7,8,9,10,11]|13=>[0,1,2,3,4,5,6]|_=>[],keep:=λi=>match i with|6=>[0,1,6,8,22,23,24]|_=>[],n:=77}
def aFg.call{t0 t1 h0 R}(H:aFg t0 t1 h0 R):bT PG aFn #[t0,t1] h0 R:=dE aFg.ann Tryz.func52 H
def aH4(a:Value)(f:PH)(R:cF):Prop:=dU .lss aR a (.int .i64 1) λb=>hC b false a f λg h=>eX b false (binOp .gtr aR g (.int .i64 40)) h λi d=>bY (eK b (.bool true) i) λj=>cN j (R (.tuple #[.pointer none,.int .i64 1]) d) (yK d (Instr.makeMap dL none) λk e=>pP (build gG #[(0,k),(1,a)]) λl=>∀c,e c=none->dT (PH.set e c (.cells l.cells gG)) λm=>R (.tuple #[pT c 0,.int .i64 0]) m)
def aH4.call{t0 h0 R}(H:aH4 t0 h0 R):bT PG aHK #[t0] h0 R:=dE (iN 14) Tryz.func112 H
def aEi(i:Value)(f:PH)(R:cF):Prop:=∀a,f a=none->dT (PH.set f a (.cells i.cells bX)) λg=>dP bX (pT a 0) 0 λj=>dJ g aR j λk=>dU .lss aR k (.int .i64 0) λc=>eX c false (fieldAt bX (pT a 0) 0) g λl m=>gC c false (loadAt aR l) m λn o=>eX c false (binOp .gtr aR n (.int .i64 1)) o λp q=>bY (eK c (.bool true) p) λd=>eX d false (fieldAt bX (pT a 0) 1) q λr s=>gC d false (loadAt cI r) s λu v=>gC d false (fK .eql cI (.tmp 13) (.const (.int .u64 0)) u (.int .u64 0)) v λw x=>bY (eK d (.bool true) w) λe=>eX e false (fieldAt bX (pT a 0) 2) x λy z=>gC e false (loadAt cI y) z λA B=>gC e false (fK .eql cI (.tmp 18) (.const (.int .u64 0)) A (.int .u64 0)) B λC D=>bY (eK e (.bool true) C) λb=>eX b false (fieldAt bX (pT a 0) 3) D λE F=>gC b false (loadAt aT E) F λG H=>eX b false (Builtin.len_ #[aT] aR #[G]) H λI J=>eX b false (binOp .gtr aR I (.int .i64 64)) J λK h=>bY (eK b (.bool true) K) λL=>cN L (R (.int .i64 1) h) (R (.int .i64 0) h)
def aEi.call{t0 h0 R}(H:aEi t0 h0 R):bT PG uN #[t0] h0 R:=dE (iN 27) Tryz.func113 H
def kY(a b:Value)(c:PH)(R:cF):Prop:=bT PG rG #[a,b] c λd e=>dU .geq aR d (.int .i64 0) λf=>R f e
def kY.call{t0 t1 h0 R}(H:kY t0 t1 h0 R):bT PG lY #[t0,t1] h0 R:=dE (iN 9) Tryz.func53 H
def qV(R:cF)(g:gB)(c d e a:Value)(b:PH):Prop:=dU .lss aR a e λh=>cN h (lZ xD c a λi=>dJ b cG i λj=>yE PG d #[j] b λk f=>cN k (R a f) (dU .add aR a (.int .i64 1) λl=>g [c,d,e,l] f)) (R (.int .i64 (-1)) b)
def lI(a b:Value)(c:PH)(R:cF):Prop:=iD xD aR a λd=>gV [0,1,7,8] (λe ρ h=>qV R e (ρ 0) (ρ 1) (ρ 7) (ρ 8) h) [a,b,d,.int .i64 0] c
def lI.call{t0 t1 h0 R}(H:lI t0 t1 h0 R):bT PG rG #[t0,t1] h0 R:=dE (sO 2 [0,1,7,8] 19) Tryz.func114 H
def aCn(e:Value)(c:PH)(R:cF):Prop:=∀a,c a=none->dT (PH.set c a (.cells e.cells cG)) λd=>dP cG (pT a 0) 1 λf=>dJ d aR f λg=>dU .lss aR g (.int .i64 0) λb=>eX b false (fieldAt cG (pT a 0) 1) d λh i=>gC b false (loadAt aR h) i λj k=>eX b false (binOp .gtr aR j (.int .i64 65535)) k λl m=>bY (eK b (.bool true) l) λn=>R n m
def aCn.call{t0 h0 R}(H:aCn t0 h0 R):bT PG sJ #[t0] h0 R:=dE (iN 11) Tryz.func54 H
def uI(R:cF)(f:gB)(c d e b:Value)(a:PH):Prop:=dU .lss aR b e λg=>cN g (lZ bZ c b λh=>dJ a cE h λi=>lZ bZ d b λj=>dJ a cE j λk=>gI a .neq cE (.tmp 19) (.tmp 23) i k λl=>cN l (R (.bool false) a) (dU .add aR b (.int .i64 1) λm=>f [c,d,e,m] a)) (R (.bool true) a)
def kD(a c:Value)(b:PH)(R:cF):Prop:=iD bZ aR a λd=>iD bZ aR c λe=>gI b .neq aR (.tmp 7) (.tmp 9) d e λf=>cN f (R (.bool false) b) (iD bZ aR a λg=>gV [0,1,12,13] (λi ρ h=>uI R i (ρ 0) (ρ 1) (ρ 12) (ρ 13) h) [a,c,g,.int .i64 0] b)
def kD.ann:kC:={b:=λi=>match i with|6=>#[0,0,3,7,0,0,48,112,255]|_=>#[],ord:=λi=>match i with|6=>[0,1,2,3,4,5,6,7,8]|_=>[],keep:=λi=>match i with|4=>[0,1,12,13]|_=>[],n:=26}
def kD.call{t0 t1 h0 R}(H:kD t0 t1 h0 R):bT PG oW #[t0,t1] h0 R:=dE kD.ann Tryz.func55 H
def aAa(e:Value)(b:PH)(R:cF):Prop:=fY e λf=>dP gG f 0 λg=>dJ b dL g λh=>bT PG kR #[h] b λi j=>bT PG vS #[i] j λa k=>bT PG nT #[a,(.func (Fn.func qB) #[] #[])] k λo l=>iD bZ aR a λc=>yK l (Instr.makeSlice bZ c c) λd m=>cM PG (Builtin.copy_ #[bZ,bZ] aR #[d,a]) m λp n=>R d n
def aAa.call{t0 h0 R}(H:aAa t0 h0 R):bT PG wD #[t0] h0 R:=dE (iN 20) Tryz.func56 H
def sR(a:Value)(b:PH)(R:cF):Prop:=bT PG nN #[(.slice none 0 0),a] b λc d=>R c d
def sR.call{t0 h0 R}(H:sR t0 h0 R):bT PG vS #[t0] h0 R:=dE (iN 5) Tryz.func115 H
noncomputable def gR:Code:=((xM (aBt Tryz.f166)).getD 0 (.skip,.skip)).1
noncomputable def gO:Code:=((xM (aBt Tryz.f166)).getD 0 (.skip,.skip)).2
def iC(kv:cF)(l:Nat)(c e:Value)(d:PH):Prop:=∀a,d a=none->dT (PH.set d a (.cells (dF PG cE) cE)) λf=>cM PG (cQ cE (pT a 0) e) f λp g=>cM PG (Instr.beginRound l) g λ_ b=>dJ b bZ c λh=>dJ b cE (pT a 0) λi=>yK b (buildSlice bZ 1 #[(0,i)]) λj k=>cM PG (Builtin.append_ #[bZ,bZ] bZ #[h,j]) k λm n=>cM PG (cQ bZ c m) n λq o=>cM PG (Instr.endRound l none) o kv
def lS(d e:Value)(b:PH)(R:cF):Prop:=∀a,b a=none->dT (PH.set b a (.cells d.cells bZ)) λf=>aDO PG 13 e #[7] gR gO (λc=>dJ c bZ (pT a 0) λg=>R g c) (λh=>R (.slice none 0 0) h) [] [(2,(pT a 0))] f
def lS.call{t0 t1 h0 R}(H:lS t0 t1 h0 R):bT PG nN #[t0,t1] h0 R:=dE (sO 3 [2] 13) Tryz.func166 H
def iC.eq(kv:cF)(l:Nat)(ρ:kG)(h0:PH):aMC PG (sO 3 [2] 13) 200 l gR gO kv ρ h0=iC kv l (ρ 2) (ρ 7) h0:=by kernel_rfl
def iC.next{kv:cF}{l:Nat}{f:FuncId}{tmps:Array Value}{h0:PH}(hs:tmps.size=13)(H:iC kv l (tmps.getD 2 undef) (tmps.getD 7 undef) h0):rN PG (.round l f tmps gR gO) h0 kv:=
 aNm (sO 3 [2] 13) 200 mix hs (by kernel_rfl) (by kernel_rfl) (iC.eq kv l (λt=>tmps.getD t undef) h0) H
def jE(c:Value)(b:PH)(R:cF):Prop:=∀a,b a=none->dT (PH.set b a (.cells c.cells dL)) λd=>pP (Instr.makeFunc (Fn.func gN) #[] #[pT a 0]) λe=>R e d
def jE.call{t0 h0 R}(H:jE t0 h0 R):bT PG kR #[t0] h0 R:=dE (iN 4) Tryz.func116 H
def mS(R:cF)(h:gB)(c b:Value)(i:PH):Prop:=cM PG (Instr.next b false T_) i λj d=>fX j 0 λk=>cN k (cM PG (Instr.entry b) d λl e=>fX l 1 λm=>∀a,e a=none->dT (PH.set e a (.cells (dF PG cE) cE)) λn=>cM PG (cQ cE (pT a 0) m) n λr f=>dJ f cE (pT a 0) λo=>yE PG c #[o] f λp g=>pP (Op.unary .not p) λq=>cN q (R (.tuple #[]) g) (h [c,b] g)) (R (.tuple #[]) d)
def iY(b c:Value)(a:PH)(R:cF):Prop:=dJ a dL c λd=>cM PG (Instr.range dL d) a λe f=>gV [0,6] (λg ρ h=>mS R g (ρ 0) (ρ 6) h) [b,e] f
def iY.call{t0 t1 h0 R}(H:iY t0 t1 h0 R):bT PG gN #[t0,t1] h0 R:=dE (sO 1 [0,6] 15) Tryz.func167 H
def pY(k l:Value)(e:PH)(R:cF):Prop:=∀b,e b=none->dT (PH.set e b (.cells k.cells cE)) λf=>∀c,f c=none->dT (PH.set f c (.cells l.cells cE)) λa=>dP cE (pT b 0) 0 λm=>dP bX m 0 λn=>dJ a aR n λo=>dP cE (pT c 0) 0 λp=>dP bX p 0 λq=>dJ a aR q λr=>dP cE (pT b 0) 0 λs=>dP bX s 1 λg=>dJ a cI g λh=>dP cE (pT c 0) 0 λu=>dP bX u 1 λi=>dJ a cI i λj=>bT PG aCU #[o,r] a λv d=>cD PG d (loadAt cI i)=some j∧cD PG d (loadAt cI g)=some h∧(bT PG aBD #[h,j] d λw x=>(yK x (buildSlice lT 2 #[(0,v),(1,w)]) λy z=>bT PG aGZ #[y] z λA B=>(R A B)))
def pY.ann:kC:={b:=λi=>match i with|1=>#[0,1,3,0,8,24,63,0,128,384,0,1024,3072,8191,16383,32767,65535]|_=>#[],ord:=λi=>match i with|1=>[0,1,2,3,4,5,7,8,9,10,11,12,6,13,14,15,16]|_=>[],keep:=λ_=>[],n:=21}
def pY.call{t0 t1 h0 R}(H:pY t0 t1 h0 R):bT PG qB #[t0,t1] h0 R:=dE pY.ann Tryz.func118 H
def aJW(R:cF)(g:gB)(b d e c:Value)(a:PH):Prop:=dU .lss aR c e λh=>cN h (lZ lT d c λi=>dJ a aR i λf=>gI a .neq aR (.tmp 12) (.tmp 13) f b λj=>cN j (R f a) (dU .add aR c (.int .i64 1) λk=>g [b,d,e,k] a)) (R b a)
def aGq(a:Value)(b:PH)(R:cF):Prop:=iD lT aR a λc=>gV [3,6,7,8] (λd ρ h=>aJW R d (ρ 3) (ρ 6) (ρ 7) (ρ 8) h) [(.int .i64 0),a,c,.int .i64 0] b
def aGq.call{t0 h0 R}(H:aGq t0 h0 R):bT PG aGZ #[t0] h0 R:=dE (sO 3 [3,6,7,8] 18) Tryz.func119 H
def aCG(b c:Value)(e:PH)(R:cF):Prop:=bT PG aBb #[b] e λf g=>bT PG aBb #[c] g λd a=>cN f (cN d (R (.int .i64 0) a) (R (.int .i64 (-1)) a)) (cN d (R (.int .i64 1) a) (dU .lss aR b c λh=>cN h (R (.int .i64 (-1)) a) (dU .gtr aR b c λi=>cN i (R (.int .i64 1) a) (R (.int .i64 0) a))))
def aCG.call{t0 t1 h0 R}(H:aCG t0 t1 h0 R):bT PG aCU #[t0,t1] h0 R:=dE (iN 20) Tryz.func120 H
def aDZ(a:Value)(b:PH)(R:cF):Prop:=gI b .neq aR (.tmp 3) (.tmp 4) a a λc=>R c b
def aDZ.call{t0 h0 R}(H:aDZ t0 h0 R):bT PG aBb #[t0] h0 R:=dE (iN 6) Tryz.func170 H
def aAB(b c:Value)(e:PH)(R:cF):Prop:=bT PG xU #[b] e λf g=>bT PG xU #[c] g λd a=>cN f (cN d (R (.int .i64 0) a) (R (.int .i64 (-1)) a)) (cN d (R (.int .i64 1) a) (dU .lss cI b c λh=>cN h (R (.int .i64 (-1)) a) (dU .gtr cI b c λi=>cN i (R (.int .i64 1) a) (R (.int .i64 0) a))))
def aAB.call{t0 t1 h0 R}(H:aAB t0 t1 h0 R):bT PG aBD #[t0,t1] h0 R:=dE (iN 20) Tryz.func121 H
def aBT(a:Value)(b:PH)(R:cF):Prop:=gI b .neq cI (.tmp 3) (.tmp 4) a a λc=>R c b
def aBT.call{t0 h0 R}(H:aBT t0 h0 R):bT PG xU #[t0] h0 R:=dE (iN 6) Tryz.func171 H
def aE3(R:cF)(t0:Value)(t5:Value)(h0:PH):Prop:=
 bY (cC PG (gF t0)) λv84=>
 bY (cC PG (fieldAt eB v84 0)) λv85=>
 bY (cD PG h0 (loadAt eA v85)) λv86=>
 bY (cC PG (gF t5)) λv87=>
 bY (cC PG (fieldAt dO v87 1)) λv88=>
 bY (cC PG (fieldAt cL v88 0)) λv89=>
 bY (cD PG h0 (loadAt cI v89)) λv90=>
 bY (cC PG (gF t5)) λv91=>
 bY (cC PG (fieldAt dO v91 0)) λv92=>
 bY (cD PG h0 (loadAt dW v92)) λv93=>
 bY (cC PG (gF t5)) λv94=>
 bY (cC PG (fieldAt dO v94 0)) λv95=>
 bY (cD PG h0 (loadAt dW v95)) λv96=>
 bY (cC PG (gF t5)) λv97=>
 bY (cC PG (fieldAt dO v97 1)) λv98=>
 bY (cC PG (fieldAt cL v98 1)) λv99=>
 bY (cD PG h0 (loadAt aR v99)) λv100=>
 bY (cC PG (gF t5)) λv101=>
 bY (cC PG (fieldAt dO v101 0)) λv102=>
 bY (cD PG h0 (loadAt dW v102)) λv103=>
 bT PG kA #[v86] h0 λv104 h105=>
 cD PG h105 (loadAt dW v102)=some v103∧cD PG h105 (loadAt aR v99)=some v100∧cD PG h105 (loadAt dW v95)=some v96∧cD PG h105 (loadAt dW v92)=some v93∧cD PG h105 (loadAt cI v89)=some v90∧(bT PG vZ #[v96,v100] h105 λv106 h107=>
 cD PG h107 (loadAt dW v102)=some v103∧cD PG h107 (loadAt dW v92)=some v93∧cD PG h107 (loadAt cI v89)=some v90∧(bT PG pL #[v103] h107 λv108 h109=>
 cD PG h109 (loadAt dW v92)=some v93∧cD PG h109 (loadAt cI v89)=some v90∧(bT PG vY #[v93,v106,v108] h109 λv110 h111=>
 cD PG h111 (loadAt cI v89)=some v90∧(bT PG aGg #[v104,v90,v110] h111 λv112 h113=>
 (bY (cC PG (extract v112 0)) λv114=>
 bY (cC PG (extract v112 1)) λv115=>
 bY (cC PG (Builtin.len_ #[cU] aR #[v114])) λv116=>
 bY (cC PG (convert aR cI v116)) λv117=>
 bY (cC PG (gF t5)) λv118=>
 bY (cC PG (fieldAt dO v118 3)) λv119=>
 cM PG (cQ aR v119 v115) h113 λv120 h121=>
 bY (cC PG (gF t5)) λv122=>
 bY (cC PG (fieldAt dO v122 4)) λv123=>
 cM PG (cQ cI v123 v117) h121 λv124 h125=>
 R (Value.tuple #[t5,v114,(Value.int IntKind.i64 0)]) h125)))))
def aFe(t0:Value)(h0:PH)(R:cF):Prop:=
 bY (cC PG (build dW #[(0,t0)])) λv1=>
 bY (cC PG (build dO #[(0,v1)])) λv2=>
 ∀r3,h0 r3=none->dT (PH.set h0 r3 (.cells (Value.cells v2) dO)) λh4=>
 bY (cC PG (gF t0)) λv5=>
 bY (cC PG (fieldAt eB v5 0)) λv6=>
 bY (cD PG h4 (loadAt eA v6)) λv7=>
 bT PG sD #[v7] h4 λv8 h9=>
 bY (cC PG (binOp BinOp.lss aR v8 (Value.int IntKind.i64 4))) λv10=>
 cN v10
 (R (Value.tuple #[(Value.pointer none),(Value.slice none 0 0),(Value.int IntKind.i64 1)]) h9)
 (bT PG zH #[t0] h9 λv11 h12=>
 bY (cD PG h12 (fK BinOp.neq dH (.tmp 24) (.const (Value.int IntKind.i64 0)) v11 (Value.int IntKind.i64 0))) λv13=>
 cN v13
 (R (Value.tuple #[(Value.pointer none),(Value.slice none 0 0),v11]) h12)
 (bY (cC PG (gF t0)) λv14=>
 bY (cC PG (fieldAt eB v14 0)) λv15=>
 bY (cD PG h12 (loadAt eA v15)) λv16=>
 bY (cC PG (gF (pT r3 0))) λv17=>
 bY (cC PG (fieldAt dO v17 0)) λv18=>
 bY (cD PG h12 (loadAt dW v18)) λv19=>
 bY (cC PG (gF (pT r3 0))) λv20=>
 bY (cC PG (fieldAt dO v20 0)) λv21=>
 bY (cD PG h12 (loadAt dW v21)) λv22=>
 bT PG kA #[v16] h12 λv23 h24=>
 cD PG h24 (loadAt dW v21)=some v22∧cD PG h24 (loadAt dW v18)=some v19∧(bT PG vY #[v19,(Value.int IntKind.i64 0),(Value.int IntKind.i64 1)] h24 λv25 h26=>
 cD PG h26 (loadAt dW v21)=some v22∧(bT PG vY #[v22,(Value.int IntKind.i64 1),(Value.int IntKind.i64 1)] h26 λv27 h28=>
 (bY (jX PG (buildSlice cU 2 #[(0,v25),(1,v27)])) λx30=>∀r29,h28 r29=none->bY (cC PG (x30.2 r29)) λv31=>dT (PH.set h28 r29 x30.1) λh32=>
 bT PG aFh #[v23,v31] h32 λv33 h34=>
 (bY (cC PG (extract v33 0)) λv35=>
 bY (cC PG (extract v33 1)) λv36=>
 bY (cC PG (gF (pT r3 0))) λv37=>
 bY (cC PG (fieldAt dO v37 1)) λv38=>
 cM PG (cQ cL v38 v35) h34 λv39 h40=>
 (bY (cC PG (gF (pT r3 0))) λv41=>
 bY (cC PG (fieldAt dO v41 2)) λv42=>
 cM PG (cQ aR v42 v36) h40 λv43 h44=>
 (bY (cC PG (gF (pT r3 0))) λv45=>
 bY (cC PG (fieldAt dO v45 2)) λv46=>
 bY (cD PG h44 (loadAt aR v46)) λv47=>
 bY (cC PG (binOp BinOp.lss aR v47 (Value.int IntKind.i64 0))) λv48=>
 cN v48
 (bY (cC PG (build cL #[(0,(Value.int IntKind.u64 1))])) λv49=>
 bY (cC PG (gF (pT r3 0))) λv50=>
 bY (cC PG (fieldAt dO v50 1)) λv51=>
 cM PG (cQ cL v51 v49) h44 λv52 h53=>
 bY (cC PG (gF (pT r3 0))) λv54=>
 bY (cC PG (fieldAt dO v54 2)) λv55=>
 cM PG (cQ aR v55 (Value.int IntKind.i64 1)) h53 λv56 h57=>
 bY (cC PG (gF t0)) λv58=>
 bY (cC PG (fieldAt eB v58 0)) λv59=>
 bY (cD PG h57 (loadAt eA v59)) λv60=>
 bY (cC PG (gF (pT r3 0))) λv61=>
 bY (cC PG (fieldAt dO v61 1)) λv62=>
 bY (cD PG h57 (loadAt cL v62)) λv63=>
 bT PG kA #[v60] h57 λv64 h65=>
 cD PG h65 (loadAt cL v62)=some v63∧(bT PG aDI #[v64,v63] h65 λv66 h67=>
 (bY (cC PG (extract v66 0)) λv68=>
 bY (cC PG (extract v66 1)) λv69=>
 bY (cC PG (gF (pT r3 0))) λv70=>
 bY (cC PG (fieldAt dO v70 0)) λv71=>
 bY (cD PG h67 (loadAt dW v71)) λv72=>
 bY (cC PG (gF (pT r3 0))) λv73=>
 bY (cC PG (fieldAt dO v73 2)) λv74=>
 bY (cD PG h67 (loadAt aR v74)) λv75=>
 bY (jX PG (buildSlice cU 1 #[(0,v68)])) λx77=>∀r76,h67 r76=none->bY (cC PG (x77.2 r76)) λv78=>dT (PH.set h67 r76 x77.1) λh79=>
 bT PG tL #[v72,v75,v78] h79 λv80 h81=>
 (bY (cD PG h81 (fK BinOp.neq dH (.tmp 89) (.const (Value.int IntKind.i64 0)) v80 (Value.int IntKind.i64 0))) λv82=>
 cN v82
 (R (Value.tuple #[(Value.pointer none),(Value.slice none 0 0),v80]) h81)
 (aE3 R t0 (pT r3 0) h81)))))
 (aE3 R t0 (pT r3 0) h44)))))))))
def aFe.ann:kC:={b:=λi=>match i with|7=>#[0,0,0,4,12,28,60,0,128,384,896,2044,0,4096,12288,28672,65532,131068,262140,524284,1048572,1048572,2097149,6291453,14680061,33554431,67108863,134217727]|10=>#[0,1,3,7,15,0,32,96,224,511,1023,2047,2047,4095,16383]|11=>#[0,1,3,7,0,16,48,112,0,256,1023,2047]|14=>#[0,1,3,7,15,0,32,96,224,480,0,1024,3072,7168,0,16384,49152,114688,0,262144,786432,1835008,3932160,8372255,0,16777216,50331648,117440512,268419103,536869919,1073741823,2147483647,4294967295,4294967295,8589934591,34359738367]|_=>#[],ord:=λi=>match i with|7=>[0,1,2,3,4,5,7,8,9,10,12,13,14,15,6,11,16,17,18,19,20,21,22,23,24,25,26,27]|10=>[0,1,2,3,5,6,7,8,4,9,10,11,12,13,14]|11=>[0,1,2,3,4,5,6,7,8,9,10,11]|14=>[0,1,2,3,5,6,7,8,9,10,11,12,13,14,15,16,17,18,19,20,21,22,24,25,26,27,4,23,28,29,30,31,32,33,34,35]|_=>[],keep:=λ_=>[],n:=138}
def aFe.call{t0 h0 R}(H:aFe t0 h0 R):bT PG aIT #[t0] h0 R:=dE aFe.ann Tryz.func28 H
def vG(t0:Value)(h0:PH)(R:cF):Prop:=
 ∀r1,h0 r1=none->dT (PH.set h0 r1 (.cells (Value.cells t0) eA)) λh2=>
 bY (cC PG (fieldAt eA (pT r1 0) 1)) λv3=>
 bY (cD PG h2 (loadAt aR v3)) λv4=>
 R v4 h2
def vG.call{t0 h0 R}(H:vG t0 h0 R):bT PG sD #[t0] h0 R:=dE (iN 5) Tryz.func57 H
def aF3(R:cF)(n7:gB)(t0:Value)(t10:Value)(t11:Value)(t12:Value)(h0:PH):Prop:=
 bY (cC PG (binOp BinOp.lss aR t12 t11)) λv9=>
 cN v9
 (bY (cC PG (indexAt eZ t10 t12)) λv10=>
 bY (cD PG h0 (loadAt eR v10)) λv11=>
 ∀r12,h0 r12=none->dT (PH.set h0 r12 (.cells (dF PG eR) eR)) λh13=>
 cM PG (cQ eR (pT r12 0) v11) h13 λv14 h15=>
 bY (cC PG (gF t0)) λv16=>
 bY (cC PG (fieldAt eB v16 1)) λv17=>
 bY (cD PG h15 (loadAt cU v17)) λv18=>
 bY (cC PG (fieldAt eR (pT r12 0) 0)) λv19=>
 bY (cD PG h15 (loadAt aR v19)) λv20=>
 bY (cC PG (fieldAt eR (pT r12 0) 1)) λv21=>
 bY (cD PG h15 (loadAt aT v21)) λv22=>
 bY (cC PG (indexAt cU v18 v20)) λv23=>
 cM PG (cQ aT v23 v22) h15 λv24 h25=>
 (bY (cC PG (binOp BinOp.add aR t12 (Value.int IntKind.i64 1))) λv26=>
 n7 [t0,t10,t11,v26] h25))
 (bY (cC PG (gF t0)) λv27=>
 bY (cC PG (fieldAt eB v27 2)) λv28=>
 cM PG (cQ eZ v28 (Value.slice none 0 0)) h0 λv29 h30=>
 R (Value.int IntKind.i64 0) h30)
def uV(t0:Value)(h0:PH)(R:cF):Prop:=
 bT PG yY #[t0] h0 λv1 h2=>
 cN v1
 (R (Value.int IntKind.i64 13) h2)
 (bY (cC PG (gF t0)) λv3=>
 bY (cC PG (fieldAt eB v3 2)) λv4=>
 bY (cD PG h2 (loadAt eZ v4)) λv5=>
 bY (cC PG (Builtin.len_ #[eZ] aR #[v5])) λv6=>
 gV [0,10,11,12] (λn7 ρ h=>aF3 R n7 (ρ 0) (ρ 10) (ρ 11) (ρ 12) h) [t0,v5,v6,(Value.int IntKind.i64 0)] h2)
def uV.ann:kC:={b:=λi=>match i with|6=>#[0,1,3,7,0,16,0,64,255,511]|_=>#[],ord:=λi=>match i with|6=>[0,1,2,3,4,5,6,7,8,9]|_=>[],keep:=λi=>match i with|4=>[0,10,11,12]|_=>[],n:=29}
def uV.call{t0 h0 R}(H:uV t0 h0 R):bT PG zH #[t0] h0 R:=dE uV.ann Tryz.func58 H
def aCJ(t0:Value)(h0:PH)(R:cF):Prop:=
 bY (cC PG (gF t0)) λv1=>
 bY (cC PG (fieldAt eB v1 3)) λv2=>
 bY (cD PG h0 (loadAt aR v2)) λv3=>
 bY (cD PG h0 (fK BinOp.eql aR (.tmp 6) (.const (Value.int IntKind.i64 0)) v3 (Value.int IntKind.i64 0))) λv4=>
 cN v4
 (R (Value.bool false) h0)
 (bY (cC PG (gF t0)) λv5=>
 bY (cC PG (fieldAt eB v5 3)) λv6=>
 bY (cD PG h0 (loadAt aR v6)) λv7=>
 bY (cC PG (binOp BinOp.sub aR v7 (Value.int IntKind.i64 1))) λv8=>
 bY (cC PG (gF t0)) λv9=>
 bY (cC PG (fieldAt eB v9 3)) λv10=>
 cM PG (cQ aR v10 v8) h0 λv11 h12=>
 bY (cC PG (gF t0)) λv13=>
 bY (cC PG (fieldAt eB v13 3)) λv14=>
 bY (cD PG h12 (loadAt aR v14)) λv15=>
 bY (cD PG h12 (fK BinOp.eql aR (.tmp 18) (.const (Value.int IntKind.i64 0)) v15 (Value.int IntKind.i64 0))) λv16=>
 R v16 h12)
def aCJ.call{t0 h0 R}(H:aCJ t0 h0 R):bT PG yY #[t0] h0 R:=dE (iN 20) Tryz.func122 H
def aCL(R:cF)(n9:gB)(t0:Value)(t4:Value)(t6:Value)(t7:Value)(t13:Value)(t14:Value)(t15:Value)(h0:PH):Prop:=
 bY (cC PG (binOp BinOp.add aR t15 (Value.int IntKind.i64 1))) λv51=>
 n9 [t0,t4,t6,t7,t13,t14,v51] h0
def yZ(R:cF)(n9:gB)(t0:Value)(t4:Value)(t6:Value)(t7:Value)(t13:Value)(t14:Value)(t15:Value)(h0:PH):Prop:=
 aCL R n9 t0 t4 t6 t7 t13 t14 t15 h0
def aH1(R:cF)(n9:gB)(t0:Value)(t4:Value)(t6:Value)(t7:Value)(t13:Value)(t14:Value)(t15:Value)(h0:PH):Prop:=
 bY (cC PG (binOp BinOp.lss aR t15 t14)) λv11=>
 cN v11
 (bY (cC PG (indexAt cU t13 t15)) λv12=>
 bY (cD PG h0 (loadAt aT v12)) λv13=>
 bT PG aIO #[t0,v13] h0 λv14 h15=>
 bY (cC PG (extract v14 0)) λv16=>
 bY (cC PG (extract v14 1)) λv17=>
 ∀r18,h15 r18=none->dT (PH.set h15 r18 (.cells (dF PG cL) cL)) λh19=>
 cM PG (cQ cL (pT r18 0) v16) h19 λv20 h21=>
 bY (cD PG h21 (loadAt cL (pT r18 0))) λv22=>
 bY (cC PG (build cL #[])) λv23=>
 bY (cD PG h21 (fK BinOp.neq cL (.tmp 26) (.tmp 27) v22 v23)) λv24=>
 fA (yV v24) true (λk27=>bY (cC PG (fieldAt cL (pT r18 0) 0)) λv28=>k27 v28 h21) h21 λv25 h26=>
 fA (yV v24) true (λk31=>bY (cD PG h26 (loadAt cI v25)) λv32=>k31 v32 h26) h26 λv29 h30=>
 fA (yV v24) true (λk35=>bY (cC PG (fieldAt cL t6 0)) λv36=>k35 v36 h30) h30 λv33 h34=>
 fA (yV v24) true (λk39=>bY (cD PG h34 (loadAt cI v33)) λv40=>k39 v40 h34) h34 λv37 h38=>
 fA (yV v24) true (λk43=>bY (cC PG (binOp BinOp.gtr cI v29 v37)) λv44=>k43 v44 h38) h38 λv41 h42=>
 bY (eK v24 v41 (Value.bool false)) λv45=>
 cN v45
 (bY (cD PG h42 (loadAt cL (pT r18 0))) λv46=>
 cM PG (cQ cL t6 v46) h42 λv47 h48=>
 yZ R n9 t0 t4 t6 t15 t13 t14 t15 h48)
 (yZ R n9 t0 t4 t6 t7 t13 t14 t15 h42))
 (bY (cD PG h0 (loadAt cL t6)) λv52=>
 cM PG (cQ cL t4 v52) h0 λv53 h54=>
 bY (cD PG h54 (loadAt cL t4)) λv55=>
 R (Value.tuple #[v55,t7]) h54)
def aFk(t0:Value)(t1:Value)(h0:PH)(R:cF):Prop:=
 ∀r1,h0 r1=none->dT (PH.set h0 r1 (.cells (dF PG cL) cL)) λh2=>
 bY (cC PG (build cL #[])) λv3=>
 ∀r4,h2 r4=none->dT (PH.set h2 r4 (.cells (dF PG cL) cL)) λh5=>
 cM PG (cQ cL (pT r4 0) v3) h5 λv6 h7=>
 bY (cC PG (Builtin.len_ #[cU] aR #[t1])) λv8=>
 gV [0,4,6,7,13,14,15] (λn9 ρ h=>aH1 R n9 (ρ 0) (ρ 4) (ρ 6) (ρ 7) (ρ 13) (ρ 14) (ρ 15) h) [t0,(pT r1 0),(pT r4 0),(Value.int IntKind.i64 (-1)),t1,v8,(Value.int IntKind.i64 0)] h7
def aFk.call{t0 t1 h0 R}(H:aFk t0 t1 h0 R):bT PG aFh #[t0,t1] h0 R:=dE (sO 3 [0,4,6,7,13,14,15] 41) Tryz.func59 H
def aIz(t0:Value)(t1:Value)(h0:PH)(R:cF):Prop:=
 ∀r1,h0 r1=none->dT (PH.set h0 r1 (.cells (dF PG cL) cL)) λh2=>
 bT PG aDY #[t0] h2 λv3 h4=>
 bY (cC PG (Op.unary UnOp.not v3)) λv5=>
 cN v5
 (bY (cC PG (build cL #[])) λv6=>
 cM PG (cQ cL (pT r1 0) v6) h4 λv7 h8=>
 bY (cD PG h8 (loadAt cL (pT r1 0))) λv9=>
 R (Value.tuple #[v9,(Value.int IntKind.i64 1)]) h8)
 (bY (cC PG (Builtin.len_ #[aT] aR #[t1])) λv10=>
 bY (cD PG h4 (fK BinOp.neq aR (.tmp 17) (.tmp 18) v10 t0)) λv11=>
 cN v11
 (bY (cC PG (build cL #[])) λv12=>
 cM PG (cQ cL (pT r1 0) v12) h4 λv13 h14=>
 bY (cD PG h14 (loadAt cL (pT r1 0))) λv15=>
 R (Value.tuple #[v15,(Value.int IntKind.i64 6)]) h14)
 (bT PG aEt #[t1] h4 λv16 h17=>
 bY (cC PG (Op.unary UnOp.not v16)) λv18=>
 cN v18
 (bY (cC PG (build cL #[])) λv19=>
 cM PG (cQ cL (pT r1 0) v19) h17 λv20 h21=>
 bY (cD PG h21 (loadAt cL (pT r1 0))) λv22=>
 R (Value.tuple #[v22,(Value.int IntKind.i64 8)]) h21)
 (bY (cC PG (Instr.sliceAt aT t1 (some (Value.int IntKind.i64 1)) none none)) λv23=>
 bT PG vX #[v23] h17 λv24 h25=>
 bT PG kX #[v24] h25 λv26 h27=>
 bT PG jM #[v24] h27 λv28 h29=>
 bY (cC PG (build cL #[(0,v26),(1,v28)])) λv30=>
 ∀r31,h29 r31=none->dT (PH.set h29 r31 (.cells (dF PG cL) cL)) λh32=>
 cM PG (cQ cL (pT r31 0) v30) h32 λv33 h34=>
 bY (cD PG h34 (loadAt cL (pT r31 0))) λv35=>
 bT PG aDI #[t0,v35] h34 λv36 h37=>
 bY (cC PG (extract v36 0)) λv38=>
 bY (cC PG (extract v36 1)) λv39=>
 bY (cD PG h37 (fK BinOp.neq dH (.tmp 40) (.const (Value.int IntKind.i64 0)) v39 (Value.int IntKind.i64 0))) λv40=>
 fA (yV v40) false (λk43=>k43 v38 h37) h37 λv41 h42=>
 fA (yV v40) false (λk46=>k46 t1 h42) h42 λv44 h45=>
 fA (yV v40) false (λk49=>bY (cD PG h45 (fK BinOp.neq aT (.tmp 43) (.tmp 44) v41 v44)) λv50=>k49 v50 h45) h45 λv47 h48=>
 bY (eK v40 (Value.bool true) v47) λv51=>
 cN v51
 (bY (cC PG (build cL #[])) λv52=>
 cM PG (cQ cL (pT r1 0) v52) h48 λv53 h54=>
 bY (cD PG h54 (loadAt cL (pT r1 0))) λv55=>
 R (Value.tuple #[v55,(Value.int IntKind.i64 5)]) h54)
 (bY (cD PG h48 (loadAt cL (pT r31 0))) λv56=>
 cM PG (cQ cL (pT r1 0) v56) h48 λv57 h58=>
 bY (cD PG h58 (loadAt cL (pT r1 0))) λv59=>
 R (Value.tuple #[v59,(Value.int IntKind.i64 0)]) h58))))
def aIz.call{t0 t1 h0 R}(H:aIz t0 t1 h0 R):bT PG aIO #[t0,t1] h0 R:=dE (iN 49) Tryz.func123 H
def aJI(t0:Value)(t1:Value)(h0:PH)(R:cF):Prop:=
 ∀r1,h0 r1=none->dT (PH.set h0 r1 (.cells (Value.cells t1) cL)) λh2=>
 bT PG aDY #[t0] h2 λv3 h4=>
 bY (cC PG (Op.unary UnOp.not v3)) λv5=>
 fA (yV v5) false (λk8=>bY (cC PG (fieldAt cL (pT r1 0) 0)) λv9=>k8 v9 h4) h4 λv6 h7=>
 fA (yV v5) false (λk12=>bY (cD PG h7 (loadAt cI v6)) λv13=>k12 v13 h7) h7 λv10 h11=>
 fA (yV v5) false (λk16=>bY (cD PG h11 (fK BinOp.eql cI (.tmp 14) (.const (Value.int IntKind.u64 0)) v10 (Value.int IntKind.u64 0))) λv17=>k16 v17 h11) h11 λv14 h15=>
 bY (eK v5 (Value.bool true) v14) λv18=>
 fA (yV v18) false (λk21=>bY (cC PG (fieldAt cL (pT r1 0) 1)) λv22=>k21 v22 h15) h15 λv19 h20=>
 fA (yV v18) false (λk25=>bY (cD PG h20 (loadAt aR v19)) λv26=>k25 v26 h20) h20 λv23 h24=>
 fA (yV v18) false (λk29=>bY (cC PG (binOp BinOp.lss aR v23 (Value.int IntKind.i64 0))) λv30=>k29 v30 h24) h24 λv27 h28=>
 bY (eK v18 (Value.bool true) v27) λv31=>
 fA (yV v31) false (λk34=>bY (cC PG (fieldAt cL (pT r1 0) 1)) λv35=>k34 v35 h28) h28 λv32 h33=>
 fA (yV v31) false (λk38=>bY (cD PG h33 (loadAt aR v32)) λv39=>k38 v39 h33) h33 λv36 h37=>
 fA (yV v31) false (λk42=>bY (cC PG (binOp BinOp.gtr aR v36 (Value.int IntKind.i64 1))) λv43=>k42 v43 h37) h37 λv40 h41=>
 bY (eK v31 (Value.bool true) v40) λv44=>
 cN v44
 (R (Value.tuple #[(Value.string {data:=#[]}),(Value.int IntKind.i64 1)]) h41)
 (∀r45,h41 r45=none->dT (PH.set h41 r45 (.cells (dF PG eO) eO)) λh46=>
 bT PG nF #[(pT r45 0),(Value.string {data:=#[72]})] h46 λv47 h48=>
 bY (cC PG (fieldAt cL (pT r1 0) 0)) λv49=>
 bY (cD PG h48 (loadAt cI v49)) λv50=>
 bT PG kE #[(pT r45 0),v50] h48 λv51 h52=>
 bY (cC PG (fieldAt cL (pT r1 0) 1)) λv53=>
 bY (cD PG h52 (loadAt aR v53)) λv54=>
 bT PG iJ #[(pT r45 0),v54] h52 λv55 h56=>
 bY (cC PG (binOp BinOp.sub aR t0 (Value.int IntKind.i64 14))) λv57=>
 bT PG wC #[(Value.string {data:=#[0]}),v57] h56 λv58 h59=>
 bT PG nF #[(pT r45 0),v58] h59 λv60 h61=>
 bT PG nK #[(pT r45 0)] h61 λv62 h63=>
 bY (cC PG (extract v62 0)) λv64=>
 bY (cC PG (extract v62 1)) λv65=>
 bT PG aFm #[v64] h63 λv66 h67=>
 R (Value.tuple #[v66,v65]) h67)
def aJI.call{t0 t1 h0 R}(H:aJI t0 t1 h0 R):bT PG aDI #[t0,t1] h0 R:=dE (iN 45) Tryz.func62 H
def aBa(c a:Value)(e:PH)(R:cF):Prop:=dU .lss aR a (.int .i64 0) λb=>hC b false a e λf g=>eX b false (binOp .gtr aR f (.int .i64 255)) g λh d=>bY (eK b (.bool true) h) λi=>cN i (fY c λj=>dP eO j 0 λk=>bT PG iW #[k,.int .i64 1] d λo l=>R (.tuple #[]) l) (pP (convert aR cI a) λm=>bT PG uH #[c,m,.int .i64 1] d λp n=>R (.tuple #[]) n)
def aBa.call{t0 t1 h0 R}(H:aBa t0 t1 h0 R):bT PG iJ #[t0,t1] h0 R:=dE (iN 18) Tryz.func85 H
def oU(b c:Value)(a:PH)(R:cF):Prop:=fY b λd=>dP mQ d 0 λe=>dJ a dH e λf=>gI a .eql dH (.tmp 7) (.const (.int .i64 0)) f (.int .i64 0) λg=>cN g (fY b λh=>dP mQ h 0 λi=>cM PG (cQ dH i c) a λk j=>R (.tuple #[]) j) (R (.tuple #[]) a)
def oU.call{t0 t1 h0 R}(H:oU t0 t1 h0 R):bT PG iW #[t0,t1] h0 R:=dE (iN 13) Tryz.func137 H
def aGB(R:cF)(e:gB)(b c a:Value)(d:PH):Prop:=dU .geq aR a (.int .i64 0) λf=>cN f (fY b λg=>dP eO g 1 λh=>dU .mul aR (.int .i64 8) a λi=>dU .shr cI c i λj=>pP (convert cI dK j) λk=>bT PG pH #[h,k] d λn l=>(dU .sub aR a (.int .i64 1) λm=>e [b,c,m] l)) (R (.tuple #[]) d)
def uY(a b c:Value)(d:PH)(R:cF):Prop:=dU .sub aR c (.int .i64 1) λe=>gV [0,1,6] (λf ρ h=>aGB R f (ρ 0) (ρ 1) (ρ 6) h) [a,b,e] d
def uY.ann:kC:={b:=λi=>match i with|3=>#[0,1,3,0,0,16,56,120,255]|_=>#[],ord:=λi=>match i with|3=>[0,1,2,3,4,5,6,7,8]|_=>[],keep:=λi=>match i with|1=>[0,1,6]|_=>[],n:=22}
def uY.call{t0 t1 t2 h0 R}(H:uY t0 t1 t2 h0 R):bT PG uH #[t0,t1,t2] h0 R:=dE uY.ann Tryz.func145 H
def mL(a c:Value)(d:PH)(R:cF):Prop:=bT PG lH #[a] d λo b=>fY a λe=>dP cV e 1 λf=>dJ b cW f λg=>yK b (buildSlice cW 1 #[(0,c)]) λh i=>cM PG (Builtin.append_ #[cW,cW] cW #[g,h]) i λj k=>fY a λl=>dP cV l 1 λm=>cM PG (cQ cW m j) k λp n=>R Value.nilIface n
def mL.call{t0 t1 h0 R}(H:mL t0 t1 h0 R):bT PG pH #[t0,t1] h0 R:=dE (iN 17) Tryz.func189 H
def aAi(b:Value)(d:PH)(R:cF):Prop:=fY b λe=>dP eO e 0 λf=>bT PG iI #[f] d λc a=>gI a .neq dH (.tmp 9) (.const (.int .i64 0)) c (.int .i64 0) λg=>cN g (R (.tuple #[(.string ⟨#[]⟩),c]) a) (fY b λh=>dP eO h 1 λi=>bT PG jH #[i] a λj k=>R (.tuple #[j,.int .i64 0]) k)
def aAi.call{t0 h0 R}(H:aAi t0 h0 R):bT PG nK #[t0] h0 R:=dE (iN 16) Tryz.func88 H
def aCC(b:Value)(a:PH)(R:cF):Prop:=fY b λc=>dP mQ c 0 λd=>dJ a dH d λe=>R e a
def aCC.call{t0 h0 R}(H:aCC t0 h0 R):bT PG iI #[t0] h0 R:=dE (iN 7) Tryz.func149 H
def aGp(t0:Value)(h0:PH)(R:cF):Prop:=
 bY (cC PG (binOp BinOp.geq aR t0 (Value.int IntKind.i64 64))) λv1=>
 fA (yV v1) true (λk4=>k4 t0 h0) h0 λv2 h3=>
 fA (yV v1) true (λk7=>bY (cC PG (binOp BinOp.leq aR v2 (Value.int IntKind.i64 512))) λv8=>k7 v8 h3) h3 λv5 h6=>
 bY (eK v1 v5 (Value.bool false)) λv9=>
 R v9 h6
def aGp.call{t0 h0 R}(H:aGp t0 h0 R):bT PG aDY #[t0] h0 R:=dE (iN 9) Tryz.func125 H
def aB9(a b:Value)(c:PH)(R:cF):Prop:=fY a λd=>dP eO d 1 λe=>bT PG gW #[e,b] c λg f=>R (.tuple #[]) f
def aB9.call{t0 t1 h0 R}(H:aB9 t0 t1 h0 R):bT PG nF #[t0,t1] h0 R:=dE (iN 9) Tryz.func126 H
def zU(a b:Value)(c:PH)(R:cF):Prop:=bT PG uH #[a,b,.int .i64 8] c λe d=>R (.tuple #[]) d
def zU.call{t0 t1 h0 R}(H:zU t0 t1 h0 R):bT PG kE #[t0,t1] h0 R:=dE (iN 7) Tryz.func127 H
def aIv(t0:Value)(h0:PH)(R:cF):Prop:=
 bY (jX PG (buildSlice cU 1 #[(0,t0)])) λx2=>∀r1,h0 r1=none->bY (cC PG (x2.2 r1)) λv3=>dT (PH.set h0 r1 x2.1) λh4=>
 bT PG aGx #[v3] h4 λv5 h6=>
 bT PG aE1 #[v5] h6 λv7 h8=>
 bY (cC PG (binOp BinOp.add aT t0 v7)) λv9=>
 R v9 h8
def aIv.call{t0 h0 R}(H:aIv t0 h0 R):bT PG aFm #[t0] h0 R:=dE (iN 9) Tryz.func128 H
def aKT(R:cF)(n3:gB)(t0:Value)(t3:Value)(t5:Value)(h0:PH):Prop:=
 bY (cC PG (binOp BinOp.lss aR t5 (Value.int IntKind.i64 4))) λv5=>
 cN v5
 (bY (cC PG (binOp BinOp.mul aR (Value.int IntKind.i64 8) t5)) λv6=>
 bY (cC PG (binOp BinOp.shr fE t0 v6)) λv7=>
 bY (cC PG (convert fE dK v7)) λv8=>
 bY (cC PG (indexAt nE t3 t5)) λv9=>
 cM PG (cQ dK v9 v8) h0 λv10 h11=>
 bY (cC PG (binOp BinOp.add aR t5 (Value.int IntKind.i64 1))) λv12=>
 n3 [t0,t3,v12] h11)
 (bY (cC PG (Instr.sliceAt nE t3 none none none)) λv13=>
 bY (cD PG h0 (convert cW aT v13)) λv14=>
 R v14 h0)
def aIF(t0:Value)(h0:PH)(R:cF):Prop:=
 ∀r1,h0 r1=none->dT (PH.set h0 r1 (.cells (dF PG nE) nE)) λh2=>
 gV [0,3,5] (λn3 ρ h=>aKT R n3 (ρ 0) (ρ 3) (ρ 5) h) [t0,(pT r1 0),(Value.int IntKind.i64 0)] h2
def aIF.call{t0 h0 R}(H:aIF t0 h0 R):bT PG aE1 #[t0] h0 R:=dE (sO 3 [0,3,5] 18) Tryz.func175 H
def aLf(R:cF)(n2:gB)(t3:Value)(t6:Value)(t7:Value)(t8:Value)(h0:PH):Prop:=
 bY (cC PG (binOp BinOp.lss aR t8 t7)) λv4=>
 cN v4
 (bY (cC PG (indexAt cU t6 t8)) λv5=>
 bY (cD PG h0 (loadAt aT v5)) λv6=>
 bT PG aIV #[t3,v6] h0 λv7 h8=>
 bY (cC PG (binOp BinOp.add aR t8 (Value.int IntKind.i64 1))) λv9=>
 n2 [v7,t6,t7,v9] h8)
 (bY (cC PG (Op.unary UnOp.xor t3)) λv10=>
 R v10 h0)
def aKe(t0:Value)(h0:PH)(R:cF):Prop:=
 bY (cC PG (Builtin.len_ #[cU] aR #[t0])) λv1=>
 gV [3,6,7,8] (λn2 ρ h=>aLf R n2 (ρ 3) (ρ 6) (ρ 7) (ρ 8) h) [(Value.int IntKind.u32 4294967295),t0,v1,(Value.int IntKind.i64 0)] h0
def aKe.call{t0 h0 R}(H:aKe t0 h0 R):bT PG aGx #[t0] h0 R:=dE (sO 3 [3,6,7,8] 18) Tryz.func176 H
def aK8(R:cF)(n8:gB)(t0:Value)(t1:Value)(t5:Value)(t9:Value)(t10:Value)(h0:PH):Prop:=
 bY (cC PG (binOp BinOp.lss aR t10 t9)) λv10=>
 cN v10
 (bY (cC PG (binOp BinOp.shr fE t0 (Value.int IntKind.u64 8))) λv11=>
 bY (cC PG (convert fE dK t0)) λv12=>
 bY (cC PG (Instr.index aT t1 t10)) λv13=>
 bY (cC PG (binOp BinOp.xor dK v12 v13)) λv14=>
 bY (cC PG (indexAt fB t5 v14)) λv15=>
 bY (cD PG h0 (loadAt fE v15)) λv16=>
 bY (cC PG (binOp BinOp.xor fE v11 v16)) λv17=>
 bY (cC PG (binOp BinOp.add aR t10 (Value.int IntKind.i64 1))) λv18=>
 n8 [v17,t1,t5,t9,v18] h0)
 (R t0 h0)
def aIy(t0:Value)(t1:Value)(h0:PH)(R:cF):Prop:=
 bT PG aHW #[] h0 λv1 h2=>
 ∀r3,h2 r3=none->dT (PH.set h2 r3 (.cells (dF PG fB) fB)) λh4=>
 cM PG (cQ fB (pT r3 0) v1) h4 λv5 h6=>
 bY (cC PG (Builtin.len_ #[aT] aR #[t1])) λv7=>
 gV [0,1,5,9,10] (λn8 ρ h=>aK8 R n8 (ρ 0) (ρ 1) (ρ 5) (ρ 9) (ρ 10) h) [t0,t1,(pT r3 0),v7,(Value.int IntKind.i64 0)] h6
def aIy.call{t0 t1 h0 R}(H:aIy t0 t1 h0 R):bT PG aIV #[t0,t1] h0 R:=dE (sO 3 [0,1,5,9,10] 26) Tryz.func211 H
def aGa(R:cF)(n5:gB)(n9:gB)(t0:Value)(t1:Value)(t2:Value)(t3:Value)(t4:Value)(t9:Value)(h0:PH):Prop:=
 bY (cC PG (binOp BinOp.lss aR t9 (Value.int IntKind.i64 8))) λv11=>
 cN v11
 (bY (cC PG (binOp BinOp.shr fE t3 (Value.int IntKind.u64 1))) λv12=>
 bY (cC PG (binOp BinOp.and fE t3 (Value.int IntKind.u32 1))) λv13=>
 bY (cC PG (binOp BinOp.mul fE v13 (Value.int IntKind.u32 3988292384))) λv14=>
 bY (cC PG (binOp BinOp.xor fE v12 v14)) λv15=>
 bY (cC PG (binOp BinOp.add aR t9 (Value.int IntKind.i64 1))) λv16=>
 n9 [t0,t1,t2,v15,t4,v16] h0)
 (bY (cC PG (indexAt fB t1 t2)) λv17=>
 cM PG (cQ fE v17 t3) h0 λv18 h19=>
 bY (cC PG (binOp BinOp.add aR t4 (Value.int IntKind.i64 1))) λv20=>
 n5 [t0,t1,v20] h19)
def aJj(R:cF)(n5:gB)(t0:Value)(t1:Value)(t4:Value)(h0:PH):Prop:=
 bY (cC PG (binOp BinOp.lss aR t4 (Value.int IntKind.i64 256))) λv7=>
 cN v7
 (bY (cC PG (convert aR fE t4)) λv8=>
 gV [0,1,2,3,4,9] (λn9 ρ h=>aGa R n5 n9 (ρ 0) (ρ 1) (ρ 2) (ρ 3) (ρ 4) (ρ 9) h) [t0,t1,t4,v8,t4,(Value.int IntKind.i64 0)] h0)
 (bY (cD PG h0 (loadAt fB t1)) λv21=>
 cM PG (cQ fB t0 v21) h0 λv22 h23=>
 bY (cD PG h23 (loadAt fB t0)) λv24=>
 R v24 h23)
def aEG(h0:PH)(R:cF):Prop:=
 ∀r1,h0 r1=none->dT (PH.set h0 r1 (.cells (dF PG fB) fB)) λh2=>
 ∀r3,h2 r3=none->dT (PH.set h2 r3 (.cells (dF PG fB) fB)) λh4=>
 gV [0,1,4] (λn5 ρ h=>aJj R n5 (ρ 0) (ρ 1) (ρ 4) h) [(pT r1 0),(pT r3 0),(Value.int IntKind.i64 0)] h4
def aEG.ann:kC:={b:=λ_=>#[],ord:=λ_=>[],keep:=λi=>match i with|3=>[0,1,4]|7=>[0,1,2,3,4,9]|_=>[],n:=23}
def aEG.call{h0 R}(H:aEG h0 R):bT PG aHW #[] h0 R:=dE aEG.ann Tryz.func225 H
def aCt(c:Value)(b:PH)(R:cF):Prop:=pP (build eM #[(1,c)]) λd=>∀a,b a=none->dT (PH.set b a (.cells d.cells eM)) λe=>R (pT a 0) e
def aCt.call{t0 h0 R}(H:aCt t0 h0 R):bT PG vX #[t0] h0 R:=dE (iN 6) Tryz.func132 H
def aBH(a:Value)(b:PH)(R:cF):Prop:=bT PG tZ #[a,.int .i64 1] b λc d=>pP (convert cI aR c) λe=>R e d
def aBH.call{t0 h0 R}(H:aBH t0 h0 R):bT PG jM #[t0] h0 R:=dE (iN 6) Tryz.func133 H
def aGM(R:cF)(f:gB)(c d e a:Value)(b:PH):Prop:=dU .lss aR a e λg=>cN g (lZ cW d a λh=>dJ b dK h λi=>dU .shl cI c (.int .u64 8) λj=>pP (convert dK cI i) λk=>dU .or cI j k λl=>dU .add aR a (.int .i64 1) λm=>f [l,d,e,m] b) (R c b)
def aCM(b c:Value)(d:PH)(R:cF):Prop:=bT PG qW #[b,c] d λe f=>cM PG (convert aT cW e) f λa g=>iD cW aR a λi=>gV [5,11,12,13] (λj ρ h=>aGM R j (ρ 5) (ρ 11) (ρ 12) (ρ 13) h) [(.int .u64 0),a,i,.int .i64 0] g
def aCM.call{t0 t1 h0 R}(H:aCM t0 t1 h0 R):bT PG tZ #[t0,t1] h0 R:=dE (sO 3 [5,11,12,13] 24) Tryz.func178 H
def sY(R:cF)(b c:Value)(d:PH):Prop:=fY b λe=>dP eM e 0 λf=>bT PG iI #[f] d λg a=>gI a .neq dH (.tmp 24) (.const (.int .i64 0)) g (.int .i64 0) λh=>cN h (R (.string ⟨#[]⟩) a) (fY b λi=>dP eM i 1 λj=>dJ a aT j λk=>pP (Instr.sliceAt aT k none (some c) none) λl=>fY b λm=>dP eM m 1 λn=>dJ a aT n λo=>pP (Instr.sliceAt aT o (some c) none none) λp=>fY b λq=>dP eM q 1 λr=>cM PG (cQ aT r p) a λu s=>R l s)
def aCI(b c:Value)(e:PH)(R:cF):Prop:=dU .lss aR c (.int .i64 0) λa=>hC a false c e λf g=>hC a false b g λh i=>eX a false (gF h) i λj k=>eX a false (fieldAt eM j 1) k λl m=>gC a false (loadAt aT l) m λn o=>eX a false (Builtin.len_ #[aT] aR #[n]) o λp q=>eX a false (binOp .gtr aR f p) q λr d=>bY (eK a (.bool true) r) λs=>cN s (fY b λu=>dP eM u 0 λv=>bT PG iW #[v,.int .i64 6] d λx w=>sY R b c w) (sY R b c d)
def aCI.call{t0 t1 h0 R}(H:aCI t0 t1 h0 R):bT PG qW #[t0,t1] h0 R:=dE (iN 42) Tryz.func212 H
def aD9(t0:Value)(h0:PH)(R:cF):Prop:=
 bY (cC PG (Builtin.len_ #[aT] aR #[t0])) λv1=>
 bY (cC PG (binOp BinOp.sub aR v1 (Value.int IntKind.i64 4))) λv2=>
 bY (cC PG (binOp BinOp.geq aR v2 (Value.int IntKind.i64 0))) λv3=>
 fA (yV v3) true (λk6=>k6 t0 h0) h0 λv4 h5=>
 fA (yV v3) true (λk9=>k9 v2 h5) h5 λv7 h8=>
 fA (yV v3) true (λk12=>bY (cC PG (Instr.sliceAt aT v4 none (some v7) none)) λv13=>k12 v13 h8) h8 λv10 h11=>
 fA (yV v3) true (λk16=>k16 t0 h11) h11 λv14 h15=>
 fA (yV v3) true (λk19=>k19 v2 h15) h15 λv17 h18=>
 fA (yV v3) true (λk22=>bY (cC PG (Instr.sliceAt aT v14 (some v17) none none)) λv23=>k22 v23 h18) h18 λv20 h21=>
 fA (yV v3) true (λk26=>bY (jX PG (buildSlice cU 1 #[(0,v10)])) λx28=>∀r27,h21 r27=none->bY (cC PG (x28.2 r27)) λv29=>dT (PH.set h21 r27 x28.1) λh30=>k26 v29 h30) h21 λv24 h25=>
 fA (yV v3) true (λk33=>bT PG aGx #[v24] h25 λv34 h35=>k33 v34 h35) h25 λv31 h32=>
 (fA (yV v3) true (λk38=>bT PG aE1 #[v31] h32 λv39 h40=>k38 v39 h40) h32 λv36 h37=>
 (fA (yV v3) true (λk43=>bY (cD PG h37 (fK BinOp.eql aT (.tmp 15) (.tmp 18) v36 v20)) λv44=>k43 v44 h37) h37 λv41 h42=>
 bY (eK v3 v41 (Value.bool false)) λv45=>
 R v45 h42))
def aD9.ann:kC:={b:=λi=>match i with|2=>#[0,1,3,7,7,31,63,127,255,7,7,1543,4095,8191,16383]|_=>#[],ord:=λi=>match i with|2=>[0,1,2,3,4,5,9,10,11,6,7,8,12,13,14]|_=>[],keep:=λ_=>[],n:=21}
def aD9.call{t0 h0 R}(H:aD9 t0 h0 R):bT PG aEt #[t0] h0 R:=dE aD9.ann Tryz.func172 H
def zM(a:Value)(b:PH)(R:cF):Prop:=bT PG tZ #[a,.int .i64 8] b λc d=>R c d
def zM.call{t0 h0 R}(H:zM t0 h0 R):bT PG kX #[t0] h0 R:=dE (iN 5) Tryz.func173 H
def yW(t0:Value)(h0:PH)(R:cF):Prop:=
 ∀r1,h0 r1=none->dT (PH.set h0 r1 (.cells (Value.cells t0) eA)) λh2=>
 bY (cC PG (fieldAt eA (pT r1 0) 0)) λv3=>
 bY (cD PG h2 (loadAt aR v3)) λv4=>
 R v4 h2
def yW.call{t0 h0 R}(H:yW t0 h0 R):bT PG kA #[t0] h0 R:=dE (iN 5) Tryz.func60 H
def aGo(R:cF)(n5:gB)(t1:Value)(t3:Value)(t7:Value)(t11:Value)(t12:Value)(h0:PH):Prop:=
 bY (cC PG (binOp BinOp.lss aR t12 t11)) λv7=>
 cN v7
 (bY (cC PG (fieldAt dW t3 0)) λv8=>
 bY (cD PG h0 (loadAt fL v8)) λv9=>
 bY (cC PG (binOp BinOp.add aR t1 t12)) λv10=>
 bT PG aDC #[v9,v10] h0 λv11 h12=>
 bY (cC PG (extract v11 0)) λv13=>
 bY (cC PG (extract v11 1)) λv14=>
 bT PG gW #[t7,v13] h12 λv15 h16=>
 bY (cC PG (binOp BinOp.add aR t12 (Value.int IntKind.i64 1))) λv17=>
 n5 [t1,t3,t7,t11,v17] h16)
 (bT PG jH #[t7] h0 λv18 h19=>
 R v18 h19)
def aCx(t0:Value)(t1:Value)(t2:Value)(h0:PH)(R:cF):Prop:=
 ∀r1,h0 r1=none->dT (PH.set h0 r1 (.cells (Value.cells t0) dW)) λh2=>
 ∀r3,h2 r3=none->dT (PH.set h2 r3 (.cells (dF PG cV) cV)) λh4=>
 gV [1,3,7,11,12] (λn5 ρ h=>aGo R n5 (ρ 1) (ρ 3) (ρ 7) (ρ 11) (ρ 12) h) [t1,(pT r1 0),(pT r3 0),t2,(Value.int IntKind.i64 0)] h4
def aCx.call{t0 t1 t2 h0 R}(H:aCx t0 t1 t2 h0 R):bT PG vY #[t0,t1,t2] h0 R:=dE (sO 3 [1,3,7,11,12] 28) Tryz.func61 H
def aCa(R:cF)(n16:gB)(t1:Value)(t6:Value)(t26:Value)(t27:Value)(t28:Value)(h0:PH):Prop:=
 bY (cC PG (binOp BinOp.add aR t28 (Value.int IntKind.i64 1))) λv32=>
 n16 [t1,t6,t26,t27,v32] h0
def aAF(R:cF)(n16:gB)(t1:Value)(t6:Value)(t26:Value)(t27:Value)(t28:Value)(h0:PH):Prop:=
 aCa R n16 t1 t6 t26 t27 t28 h0
def aGA(R:cF)(n16:gB)(t1:Value)(t6:Value)(t26:Value)(t27:Value)(t28:Value)(h0:PH):Prop:=
 bY (cC PG (binOp BinOp.lss aR t28 t27)) λv18=>
 cN v18
 (bY (cC PG (indexAt eZ t26 t28)) λv19=>
 bY (cD PG h0 (loadAt eR v19)) λv20=>
 ∀r21,h0 r21=none->dT (PH.set h0 r21 (.cells (dF PG eR) eR)) λh22=>
 cM PG (cQ eR (pT r21 0) v20) h22 λv23 h24=>
 bY (cC PG (fieldAt eR (pT r21 0) 0)) λv25=>
 bY (cD PG h24 (loadAt aR v25)) λv26=>
 bY (cD PG h24 (fK BinOp.eql aR (.tmp 33) (.tmp 34) v26 t1)) λv27=>
 cN v27
 (bY (cC PG (fieldAt eR (pT r21 0) 1)) λv28=>
 bY (cD PG h24 (loadAt aT v28)) λv29=>
 aAF R n16 t1 v29 t26 t27 t28 h24)
 (aAF R n16 t1 t6 t26 t27 t28 h24))
 (R (Value.tuple #[t6,(Value.int IntKind.i64 0)]) h0)
def aCp(t0:Value)(t1:Value)(h0:PH)(R:cF):Prop:=
 bY (cC PG (gF t0)) λv1=>
 bY (cC PG (fieldAt eB v1 0)) λv2=>
 bY (cD PG h0 (loadAt eA v2)) λv3=>
 bT PG tS #[v3,t1] h0 λv4 h5=>
 bY (cC PG (Op.unary UnOp.not v4)) λv6=>
 cN v6
 (R (Value.tuple #[(Value.string {data:=#[]}),(Value.int IntKind.i64 1)]) h5)
 (bY (cC PG (gF t0)) λv7=>
 bY (cC PG (fieldAt eB v7 1)) λv8=>
 bY (cD PG h5 (loadAt cU v8)) λv9=>
 bY (cC PG (indexAt cU v9 t1)) λv10=>
 bY (cD PG h5 (loadAt aT v10)) λv11=>
 bY (cC PG (gF t0)) λv12=>
 bY (cC PG (fieldAt eB v12 2)) λv13=>
 bY (cD PG h5 (loadAt eZ v13)) λv14=>
 bY (cC PG (Builtin.len_ #[eZ] aR #[v14])) λv15=>
 gV [1,6,26,27,28] (λn16 ρ h=>aGA R n16 (ρ 1) (ρ 6) (ρ 26) (ρ 27) (ρ 28) h) [t1,v11,v14,v15,(Value.int IntKind.i64 0)] h5)
def aCp.call{t0 t1 h0 R}(H:aCp t0 t1 h0 R):bT PG aDC #[t0,t1] h0 R:=dE (sO 5 [1,6,26,27,28] 40) Tryz.func124 H
def yH(t0:Value)(t1:Value)(h0:PH)(R:cF):Prop:=
 ∀r1,h0 r1=none->dT (PH.set h0 r1 (.cells (Value.cells t0) eA)) λh2=>
 bY (cC PG (binOp BinOp.geq aR t1 (Value.int IntKind.i64 0))) λv3=>
 fA (yV v3) true (λk6=>k6 t1 h2) h2 λv4 h5=>
 fA (yV v3) true (λk9=>bY (cC PG (fieldAt eA (pT r1 0) 1)) λv10=>k9 v10 h5) h5 λv7 h8=>
 fA (yV v3) true (λk13=>bY (cD PG h8 (loadAt aR v7)) λv14=>k13 v14 h8) h8 λv11 h12=>
 fA (yV v3) true (λk17=>bY (cC PG (binOp BinOp.lss aR v4 v11)) λv18=>k17 v18 h12) h12 λv15 h16=>
 bY (eK v3 v15 (Value.bool false)) λv19=>
 R v19 h16
def yH.call{t0 t1 h0 R}(H:yH t0 t1 h0 R):bT PG tS #[t0,t1] h0 R:=dE (iN 13) Tryz.func174 H
def aHo(R:cF)(n4:gB)(t1:Value)(t3:Value)(t10:Value)(t11:Value)(t12:Value)(h0:PH):Prop:=
 bY (cC PG (binOp BinOp.lss aR t12 t11)) λv6=>
 cN v6
 (bY (cC PG (indexAt cU t10 t12)) λv7=>
 bY (cD PG h0 (loadAt aT v7)) λv8=>
 bY (cC PG (fieldAt dW t3 0)) λv9=>
 bY (cD PG h0 (loadAt fL v9)) λv10=>
 bY (cC PG (binOp BinOp.add aR t1 t12)) λv11=>
 bT PG aCY #[v10,v11,v8] h0 λv12 h13=>
 bY (cD PG h13 (fK BinOp.neq dH (.tmp 24) (.const (Value.int IntKind.i64 0)) v12 (Value.int IntKind.i64 0))) λv14=>
 cN v14
 (R v12 h13)
 (bY (cC PG (binOp BinOp.add aR t12 (Value.int IntKind.i64 1))) λv15=>
 n4 [t1,t3,t10,t11,v15] h13))
 (bY (cC PG (fieldAt dW t3 0)) λv16=>
 bY (cD PG h0 (loadAt fL v16)) λv17=>
 bT PG zH #[v17] h0 λv18 h19=>
 R v18 h19)
def aDa(t0:Value)(t1:Value)(t2:Value)(h0:PH)(R:cF):Prop:=
 ∀r1,h0 r1=none->dT (PH.set h0 r1 (.cells (Value.cells t0) dW)) λh2=>
 bY (cC PG (Builtin.len_ #[cU] aR #[t2])) λv3=>
 gV [1,3,10,11,12] (λn4 ρ h=>aHo R n4 (ρ 1) (ρ 3) (ρ 10) (ρ 11) (ρ 12) h) [t1,(pT r1 0),t2,v3,(Value.int IntKind.i64 0)] h2
def aDa.call{t0 t1 t2 h0 R}(H:aDa t0 t1 t2 h0 R):bT PG tL #[t0,t1,t2] h0 R:=dE (sO 2 [1,3,10,11,12] 31) Tryz.func63 H
def aCD(t0:Value)(t1:Value)(t2:Value)(h0:PH)(R:cF):Prop:=
 bY (cC PG (gF t0)) λv1=>
 bY (cC PG (fieldAt eB v1 0)) λv2=>
 bY (cD PG h0 (loadAt eA v2)) λv3=>
 bT PG tS #[v3,t1] h0 λv4 h5=>
 bY (cC PG (Op.unary UnOp.not v4)) λv6=>
 fA (yV v6) false (λk9=>k9 t2 h5) h5 λv7 h8=>
 fA (yV v6) false (λk12=>bY (cC PG (Builtin.len_ #[aT] aR #[v7])) λv13=>k12 v13 h8) h8 λv10 h11=>
 fA (yV v6) false (λk16=>k16 t0 h11) h11 λv14 h15=>
 fA (yV v6) false (λk19=>bY (cC PG (gF v14)) λv20=>k19 v20 h15) h15 λv17 h18=>
 fA (yV v6) false (λk23=>bY (cC PG (fieldAt eB v17 0)) λv24=>k23 v24 h18) h18 λv21 h22=>
 fA (yV v6) false (λk27=>bY (cC PG (fieldAt eA v21 0)) λv28=>k27 v28 h22) h22 λv25 h26=>
 fA (yV v6) false (λk31=>bY (cD PG h26 (loadAt aR v25)) λv32=>k31 v32 h26) h26 λv29 h30=>
 fA (yV v6) false (λk35=>bY (cD PG h30 (fK BinOp.neq aR (.tmp 17) (.tmp 22) v10 v29)) λv36=>k35 v36 h30) h30 λv33 h34=>
 bY (eK v6 (Value.bool true) v33) λv37=>
 cN v37
 (R (Value.int IntKind.i64 1) h34)
 (bT PG yY #[t0] h34 λv38 h39=>
 cN v38
 (R (Value.int IntKind.i64 13) h39)
 (bY (cC PG (gF t0)) λv40=>
 bY (cC PG (fieldAt eB v40 2)) λv41=>
 bY (cD PG h39 (loadAt eZ v41)) λv42=>
 bY (cC PG (build eR #[(0,t1),(1,t2)])) λv43=>
 bY (jX PG (buildSlice eZ 1 #[(0,v43)])) λx45=>∀r44,h39 r44=none->bY (cC PG (x45.2 r44)) λv46=>dT (PH.set h39 r44 x45.1) λh47=>
 cM PG (Builtin.append_ #[eZ,eZ] eZ #[v42,v46]) h47 λv48 h49=>
 bY (cC PG (gF t0)) λv50=>
 bY (cC PG (fieldAt eB v50 2)) λv51=>
 cM PG (cQ eZ v51 v48) h49 λv52 h53=>
 R (Value.int IntKind.i64 0) h53))
def aCD.call{t0 t1 t2 h0 R}(H:aCD t0 t1 t2 h0 R):bT PG aCY #[t0,t1,t2] h0 R:=dE (iN 40) Tryz.func129 H
def aJd(R:cF)(n4:gB)(t0:Value)(t1:Value)(t2:Value)(t8:Value)(t9:Value)(t10:Value)(h0:PH):Prop:=
 bY (cC PG (binOp BinOp.mul aR t9 t0)) λv6=>
 bY (cC PG (Instr.sliceAt aT t2 (some v6) none none)) λv7=>
 bT PG aEg #[t0,t1,t10,v7] h0 λv8 h9=>
 bY (cC PG (extract v8 0)) λv10=>
 bY (cC PG (extract v8 1)) λv11=>
 bY (cD PG h9 (fK BinOp.eql aR (.tmp 30) (.const (Value.int IntKind.i64 0)) v11 (Value.int IntKind.i64 0))) λv12=>
 cN v12
 (R (Value.tuple #[t8,t9]) h9)
 (bY (jX PG (buildSlice cU 1 #[(0,v10)])) λx14=>∀r13,h9 r13=none->bY (cC PG (x14.2 r13)) λv15=>dT (PH.set h9 r13 x14.1) λh16=>
 cM PG (Builtin.append_ #[cU,cU] cU #[t8,v15]) h16 λv17 h18=>
 bY (cC PG (binOp BinOp.add aR t9 v11)) λv19=>
 bY (cC PG (binOp BinOp.add cI t10 (Value.int IntKind.u64 1))) λv20=>
 n4 [t0,t1,t2,v17,v19,v20] h18)
def aHC(t0:Value)(t1:Value)(t2:Value)(h0:PH)(R:cF):Prop:=
 bT PG aA5 #[t0] h0 λv1 h2=>
 bY (cC PG (Op.unary UnOp.not v1)) λv3=>
 cN v3
 (R (Value.tuple #[(Value.slice none 0 0),(Value.int IntKind.i64 0)]) h2)
 (gV [0,1,2,8,9,10] (λn4 ρ h=>aJd R n4 (ρ 0) (ρ 1) (ρ 2) (ρ 8) (ρ 9) (ρ 10) h) [t0,t1,t2,(Value.slice none 0 0),(Value.int IntKind.i64 0),(Value.int IntKind.u64 0)] h2)
def aHC.call{t0 t1 t2 h0 R}(H:aHC t0 t1 t2 h0 R):bT PG aGg #[t0,t1,t2] h0 R:=dE (sO 7 [0,1,2,8,9,10] 41) Tryz.func64 H
def aFp(t0:Value)(h0:PH)(R:cF):Prop:=
 bY (cC PG (binOp BinOp.geq aR t0 (Value.int IntKind.i64 64))) λv1=>
 fA (yV v1) true (λk4=>k4 t0 h0) h0 λv2 h3=>
 fA (yV v1) true (λk7=>bY (cC PG (binOp BinOp.leq aR v2 (Value.int IntKind.i64 512))) λv8=>k7 v8 h3) h3 λv5 h6=>
 bY (eK v1 v5 (Value.bool false)) λv9=>
 R v9 h6
def aFp.call{t0 h0 R}(H:aFp t0 h0 R):bT PG aA5 #[t0] h0 R:=dE (iN 9) Tryz.func130 H
def aBU(R:cF)(n1:gB)(t0:Value)(t1:Value)(t2:Value)(t3:Value)(t10:Value)(t11:Value)(t12:Value)(t13:Value)(t14:Value)(h0:PH):Prop:=
 bY (cD PG h0 (fK BinOp.neq dH (.tmp 42) (.const (Value.int IntKind.i64 0)) t14 (Value.int IntKind.i64 0))) λv23=>
 fA (yV v23) false (λk26=>bY (cC PG (fieldAt cP t13 0)) λv27=>k26 v27 h0) h0 λv24 h25=>
 fA (yV v23) false (λk30=>bY (cD PG h25 (loadAt cI v24)) λv31=>k30 v31 h25) h25 λv28 h29=>
 fA (yV v23) false (λk34=>k34 t1 h29) h29 λv32 h33=>
 fA (yV v23) false (λk37=>bY (cD PG h33 (fK BinOp.neq cI (.tmp 46) (.tmp 47) v28 v32)) λv38=>k37 v38 h33) h33 λv35 h36=>
 bY (eK v23 (Value.bool true) v35) λv39=>
 fA (yV v39) false (λk42=>bY (cC PG (fieldAt cP t13 1)) λv43=>k42 v43 h36) h36 λv40 h41=>
 fA (yV v39) false (λk46=>bY (cD PG h41 (loadAt cI v40)) λv47=>k46 v47 h41) h41 λv44 h45=>
 fA (yV v39) false (λk50=>k50 t2 h45) h45 λv48 h49=>
 fA (yV v39) false (λk53=>bY (cD PG h49 (fK BinOp.neq cI (.tmp 52) (.tmp 53) v44 v48)) λv54=>k53 v54 h49) h49 λv51 h52=>
 bY (eK v39 (Value.bool true) v51) λv55=>
 fA (yV v55) false (λk58=>bY (cC PG (fieldAt cP t13 2)) λv59=>k58 v59 h52) h52 λv56 h57=>
 fA (yV v55) false (λk62=>bY (cD PG h57 (loadAt aR v56)) λv63=>k62 v63 h57) h57 λv60 h61=>
 fA (yV v55) false (λk66=>k66 t12 h61) h61 λv64 h65=>
 fA (yV v55) false (λk69=>bY (cD PG h65 (fK BinOp.neq aR (.tmp 58) (.tmp 59) v60 v64)) λv70=>k69 v70 h65) h65 λv67 h68=>
 bY (eK v55 (Value.bool true) v67) λv71=>
 fA (yV v71) false (λk74=>bY (cC PG (fieldAt cP t13 3)) λv75=>k74 v75 h68) h68 λv72 h73=>
 fA (yV v71) false (λk78=>bY (cD PG h73 (loadAt aR v72)) λv79=>k78 v79 h73) h73 λv76 h77=>
 fA (yV v71) false (λk82=>k82 t11 h77) h77 λv80 h81=>
 fA (yV v71) false (λk85=>bY (cD PG h81 (fK BinOp.neq aR (.tmp 64) (.tmp 65) v76 v80)) λv86=>k85 v86 h81) h81 λv83 h84=>
 bY (eK v71 (Value.bool true) v83) λv87=>
 cN v87
 (R (Value.tuple #[(Value.string {data:=#[]}),(Value.int IntKind.i64 0)]) h84)
 (bY (cC PG (fieldAt cP t13 4)) λv88=>
 bY (cD PG h84 (loadAt aT v88)) λv89=>
 bY (cC PG (binOp BinOp.add aT t10 v89)) λv90=>
 bY (cC PG (fieldAt cP t13 3)) λv91=>
 bY (cD PG h84 (loadAt aR v91)) λv92=>
 bY (cC PG (binOp BinOp.sub aR v92 (Value.int IntKind.i64 1))) λv93=>
 bY (cD PG h84 (fK BinOp.eql aR (.tmp 72) (.tmp 75) t12 v93)) λv94=>
 cN v94
 (bY (cC PG (fieldAt cP t13 3)) λv95=>
 bY (cD PG h84 (loadAt aR v95)) λv96=>
 R (Value.tuple #[v90,v96]) h84)
 (bY (cC PG (binOp BinOp.add aR t12 (Value.int IntKind.i64 1))) λv97=>
 n1 [t0,t1,t2,t3,v90,t11,v97] h84))
def aHt(R:cF)(n1:gB)(t0:Value)(t1:Value)(t2:Value)(t3:Value)(t10:Value)(t11:Value)(t12:Value)(h0:PH):Prop:=
 bY (cC PG (binOp BinOp.add aR t12 (Value.int IntKind.i64 1))) λv3=>
 bY (cC PG (binOp BinOp.mul aR v3 t0)) λv4=>
 bY (cC PG (Builtin.len_ #[aT] aR #[t3])) λv5=>
 bY (cC PG (binOp BinOp.leq aR v4 v5)) λv6=>
 cN v6
 (bY (cC PG (binOp BinOp.mul aR t12 t0)) λv7=>
 bY (cC PG (binOp BinOp.add aR t12 (Value.int IntKind.i64 1))) λv8=>
 bY (cC PG (binOp BinOp.mul aR v8 t0)) λv9=>
 bY (cC PG (Instr.sliceAt aT t3 (some v7) (some v9) none)) λv10=>
 bT PG aGd #[t0,v10] h0 λv11 h12=>
 bY (cC PG (extract v11 0)) λv13=>
 bY (cC PG (extract v11 1)) λv14=>
 ∀r15,h12 r15=none->dT (PH.set h12 r15 (.cells (dF PG cP) cP)) λh16=>
 cM PG (cQ cP (pT r15 0) v13) h16 λv17 h18=>
 bY (cD PG h18 (fK BinOp.eql aR (.tmp 38) (.const (Value.int IntKind.i64 0)) t12 (Value.int IntKind.i64 0))) λv19=>
 cN v19
 (bY (cC PG (fieldAt cP (pT r15 0) 3)) λv20=>
 bY (cD PG h18 (loadAt aR v20)) λv21=>
 aBU R n1 t0 t1 t2 t3 t10 v21 t12 (pT r15 0) v14 h18)
 (aBU R n1 t0 t1 t2 t3 t10 t11 t12 (pT r15 0) v14 h18))
 (R (Value.tuple #[(Value.string {data:=#[]}),(Value.int IntKind.i64 0)]) h0)
def aA3(t0:Value)(t1:Value)(t2:Value)(t3:Value)(h0:PH)(R:cF):Prop:=
 gV [0,1,2,3,10,11,12] (λn1 ρ h=>aHt R n1 (ρ 0) (ρ 1) (ρ 2) (ρ 3) (ρ 10) (ρ 11) (ρ 12) h) [t0,t1,t2,t3,(Value.string {data:=#[]}),(Value.int IntKind.i64 0),(Value.int IntKind.i64 0)] h0
def aA3.ann:kC:={b:=λi=>match i with|12=>#[0,0,2,1,15]|_=>#[],ord:=λi=>match i with|12=>[0,1,2,3,4]|_=>[],keep:=λi=>match i with|3=>[0,1,2,3,10,11,12]|_=>[],n:=80}
def aA3.call{t0 t1 t2 t3 h0 R}(H:aA3 t0 t1 t2 t3 h0 R):bT PG aEg #[t0,t1,t2,t3] h0 R:=dE aA3.ann Tryz.func131 H
def aCu(t0:Value)(t1:Value)(h0:PH)(R:cF):Prop:=
 ∀r1,h0 r1=none->dT (PH.set h0 r1 (.cells (dF PG cP) cP)) λh2=>
 bT PG aA5 #[t0] h2 λv3 h4=>
 bY (cC PG (Op.unary UnOp.not v3)) λv5=>
 cN v5
 (bY (cC PG (build cP #[])) λv6=>
 cM PG (cQ cP (pT r1 0) v6) h4 λv7 h8=>
 bY (cD PG h8 (loadAt cP (pT r1 0))) λv9=>
 R (Value.tuple #[v9,(Value.int IntKind.i64 1)]) h8)
 (bY (cC PG (Builtin.len_ #[aT] aR #[t1])) λv10=>
 bY (cD PG h4 (fK BinOp.neq aR (.tmp 19) (.tmp 20) v10 t0)) λv11=>
 cN v11
 (bY (cC PG (build cP #[])) λv12=>
 cM PG (cQ cP (pT r1 0) v12) h4 λv13 h14=>
 bY (cD PG h14 (loadAt cP (pT r1 0))) λv15=>
 R (Value.tuple #[v15,(Value.int IntKind.i64 6)]) h14)
 (bT PG aEt #[t1] h4 λv16 h17=>
 bY (cC PG (Op.unary UnOp.not v16)) λv18=>
 cN v18
 (bY (cC PG (build cP #[])) λv19=>
 cM PG (cQ cP (pT r1 0) v19) h17 λv20 h21=>
 bY (cD PG h21 (loadAt cP (pT r1 0))) λv22=>
 R (Value.tuple #[v22,(Value.int IntKind.i64 8)]) h21)
 (bY (cC PG (binOp BinOp.sub aR t0 (Value.int IntKind.i64 4))) λv23=>
 bY (cC PG (Instr.sliceAt aT t1 none (some v23) none)) λv24=>
 bT PG vX #[v24] h17 λv25 h26=>
 bT PG qW #[v25,(Value.int IntKind.i64 1)] h26 λv27 h28=>
 bT PG kX #[v25] h28 λv29 h30=>
 bT PG kX #[v25] h30 λv31 h32=>
 bT PG jM #[v25] h32 λv33 h34=>
 bT PG jM #[v25] h34 λv35 h36=>
 bT PG xZ #[v25] h36 λv37 h38=>
 bY (cC PG (build cP #[(0,v29),(1,v31),(2,v33),(3,v35),(4,v37)])) λv39=>
 ∀r40,h38 r40=none->dT (PH.set h38 r40 (.cells (dF PG cP) cP)) λh41=>
 cM PG (cQ cP (pT r40 0) v39) h41 λv42 h43=>
 bT PG xW #[v25] h43 λv44 h45=>
 bT PG qW #[v25,v44] h45 λv46 h47=>
 bY (cC PG (fieldAt cP (pT r40 0) 2)) λv48=>
 bY (cD PG h47 (loadAt aR v48)) λv49=>
 bY (cC PG (fieldAt cP (pT r40 0) 3)) λv50=>
 bY (cD PG h47 (loadAt aR v50)) λv51=>
 bY (cC PG (binOp BinOp.sub aR v51 (Value.int IntKind.i64 1))) λv52=>
 bY (cD PG h47 (fK BinOp.eql aR (.tmp 51) (.tmp 54) v49 v52)) λv53=>
 bY (cC PG (binOp BinOp.sub aR t0 (Value.int IntKind.i64 25))) λv54=>
 bY (cC PG (gF v25)) λv55=>
 bY (cC PG (fieldAt eM v55 0)) λv56=>
 bT PG iI #[v56] h47 λv57 h58=>
 bY (cD PG h58 (fK BinOp.neq dH (.tmp 62) (.const (Value.int IntKind.i64 0)) v57 (Value.int IntKind.i64 0))) λv59=>
 fA (yV v59) false (λk62=>k62 v27 h58) h58 λv60 h61=>
 fA (yV v59) false (λk65=>bY (cD PG h61 (fK BinOp.neq aT (.tmp 65) (.const (Value.string {data:=#[82]})) v60 (Value.string {data:=#[82]}))) λv66=>k65 v66 h61) h61 λv63 h64=>
 bY (eK v59 (Value.bool true) v63) λv67=>
 fA (yV v67) false (λk70=>k70 v46 h64) h64 λv68 h69=>
 fA (yV v67) false (λk73=>bT PG aEz #[v68,(Value.string {data:=#[0]})] h69 λv74 h75=>k73 v74 h75) h69 λv71 h72=>
 fA (yV v67) false (λk78=>bY (cD PG h72 (fK BinOp.neq aT (.tmp 70) (.const (Value.string {data:=#[]})) v71 (Value.string {data:=#[]}))) λv79=>k78 v79 h72) h72 λv76 h77=>
 bY (eK v67 (Value.bool true) v76) λv80=>
 fA (yV v80) false (λk83=>bY (cC PG (fieldAt cP (pT r40 0) 2)) λv84=>k83 v84 h77) h77 λv81 h82=>
 fA (yV v80) false (λk87=>bY (cD PG h82 (loadAt aR v81)) λv88=>k87 v88 h82) h82 λv85 h86=>
 fA (yV v80) false (λk91=>bY (cC PG (fieldAt cP (pT r40 0) 3)) λv92=>k91 v92 h86) h86 λv89 h90=>
 fA (yV v80) false (λk95=>bY (cD PG h90 (loadAt aR v89)) λv96=>k95 v96 h90) h90 λv93 h94=>
 fA (yV v80) false (λk99=>bY (cC PG (binOp BinOp.geq aR v85 v93)) λv100=>k99 v100 h94) h94 λv97 h98=>
 bY (eK v80 (Value.bool true) v97) λv101=>
 cN v101
 (bY (cC PG (build cP #[])) λv102=>
 cM PG (cQ cP (pT r1 0) v102) h98 λv103 h104=>
 bY (cD PG h104 (loadAt cP (pT r1 0))) λv105=>
 R (Value.tuple #[v105,(Value.int IntKind.i64 5)]) h104)
 (bY (cC PG (Op.unary UnOp.not v53)) λv106=>
 fA (yV v106) true (λk109=>bY (cC PG (fieldAt cP (pT r40 0) 4)) λv110=>k109 v110 h98) h98 λv107 h108=>
 fA (yV v106) true (λk113=>bY (cD PG h108 (loadAt aT v107)) λv114=>k113 v114 h108) h108 λv111 h112=>
 fA (yV v106) true (λk117=>bY (cC PG (Builtin.len_ #[aT] aR #[v111])) λv118=>k117 v118 h112) h112 λv115 h116=>
 fA (yV v106) true (λk121=>k121 v54 h116) h116 λv119 h120=>
 fA (yV v106) true (λk124=>bY (cD PG h120 (fK BinOp.neq aR (.tmp 87) (.tmp 88) v115 v119)) λv125=>k124 v125 h120) h120 λv122 h123=>
 bY (eK v106 v122 (Value.bool false)) λv126=>
 fA (yV v126) false (λk129=>k129 v53 h123) h123 λv127 h128=>
 fA (yV v126) false (λk132=>k132 v127 h128) h128 λv130 h131=>
 fA (yV v130) true (λk135=>bY (cC PG (fieldAt cP (pT r40 0) 3)) λv136=>k135 v136 h131) h131 λv133 h134=>
 fA (yV v130) true (λk139=>bY (cD PG h134 (loadAt aR v133)) λv140=>k139 v140 h134) h134 λv137 h138=>
 fA (yV v130) true (λk143=>bY (cC PG (binOp BinOp.gtr aR v137 (Value.int IntKind.i64 1))) λv144=>k143 v144 h138) h138 λv141 h142=>
 fA (yV v126) false (λk147=>bY (eK v130 v141 (Value.bool false)) λv148=>k147 v148 h142) h142 λv145 h146=>
 fA (yV v126) false (λk151=>k151 v145 h146) h146 λv149 h150=>
 fA (yV v149) true (λk154=>bY (cC PG (fieldAt cP (pT r40 0) 4)) λv155=>k154 v155 h150) h150 λv152 h153=>
 fA (yV v149) true (λk158=>bY (cD PG h153 (loadAt aT v152)) λv159=>k158 v159 h153) h153 λv156 h157=>
 fA (yV v149) true (λk162=>bY (cD PG h157 (fK BinOp.eql aT (.tmp 100) (.const (Value.string {data:=#[]})) v156 (Value.string {data:=#[]}))) λv163=>k162 v163 h157) h157 λv160 h161=>
 fA (yV v126) false (λk166=>bY (eK v149 v160 (Value.bool false)) λv167=>k166 v167 h161) h161 λv164 h165=>
 bY (eK v126 (Value.bool true) v164) λv168=>
 cN v168
 (bY (cC PG (build cP #[])) λv169=>
 cM PG (cQ cP (pT r1 0) v169) h165 λv170 h171=>
 bY (cD PG h171 (loadAt cP (pT r1 0))) λv172=>
 R (Value.tuple #[v172,(Value.int IntKind.i64 5)]) h171)
 (bY (cC PG (fieldAt cP (pT r40 0) 2)) λv173=>
 bY (cD PG h165 (loadAt aR v173)) λv174=>
 bY (cC PG (binOp BinOp.mul aR v174 v54)) λv175=>
 bY (cC PG (fieldAt cP (pT r40 0) 4)) λv176=>
 bY (cD PG h165 (loadAt aT v176)) λv177=>
 bY (cC PG (Builtin.len_ #[aT] aR #[v177])) λv178=>
 bY (cC PG (binOp BinOp.add aR v175 v178)) λv179=>
 bT PG tM #[t0,v179] h165 λv180 h181=>
 (bY (cD PG h181 (fK BinOp.eql aR (.tmp 115) (.const (Value.int IntKind.i64 0)) v180 (Value.int IntKind.i64 0))) λv182=>
 fA (yV v182) false (λk185=>bY (cC PG (fieldAt cP (pT r40 0) 3)) λv186=>k185 v186 h181) h181 λv183 h184=>
 fA (yV v182) false (λk189=>bY (cD PG h184 (loadAt aR v183)) λv190=>k189 v190 h184) h184 λv187 h188=>
 fA (yV v182) false (λk193=>k193 t0 h188) h188 λv191 h192=>
 fA (yV v182) false (λk196=>bT PG tM #[v191,(Value.int IntKind.i64 4096)] h192 λv197 h198=>k196 v197 h198) h192 λv194 h195=>
 ((yV v182==some false)=true->cD PG h195 (loadAt aR v183)=some v187)∧(fA (yV v182) false (λk201=>bY (cC PG (binOp BinOp.gtr aR v187 v194)) λv202=>k201 v202 h195) h195 λv199 h200=>
 bY (eK v182 (Value.bool true) v199) λv203=>
 cN v203
 (bY (cC PG (build cP #[])) λv204=>
 cM PG (cQ cP (pT r1 0) v204) h200 λv205 h206=>
 bY (cD PG h206 (loadAt cP (pT r1 0))) λv207=>
 R (Value.tuple #[v207,(Value.int IntKind.i64 5)]) h206)
 (bY (cD PG h200 (loadAt cP (pT r40 0))) λv208=>
 cM PG (cQ cP (pT r1 0) v208) h200 λv209 h210=>
 bY (cD PG h210 (loadAt cP (pT r1 0))) λv211=>
 R (Value.tuple #[v211,(Value.int IntKind.i64 0)]) h210))))))))
def aCu.ann:kC:={b:=λi=>match i with|16=>#[0,0,2,0,14,0,32,96,254,511,1023,2047,4095,8191,4095,20479,65535,131071,262143]|_=>#[],ord:=λi=>match i with|16=>[0,1,2,3,4,5,6,7,8,9,10,11,12,13,14,15,16,17,18]|_=>[],keep:=λ_=>[],n:=126}
def aCu.call{t0 t1 h0 R}(H:aCu t0 t1 h0 R):bT PG aGd #[t0,t1] h0 R:=dE aCu.ann Tryz.func177 H
def aFq(t0:Value)(t1:Value)(h0:PH)(R:cF):Prop:=
 bT PG aA5 #[t0] h0 λv1 h2=>
 bY (cC PG (Op.unary UnOp.not v1)) λv3=>
 fA (yV v3) false (λk6=>k6 t1 h2) h2 λv4 h5=>
 fA (yV v3) false (λk9=>bY (cC PG (binOp BinOp.lss aR v4 (Value.int IntKind.i64 0))) λv10=>k9 v10 h5) h5 λv7 h8=>
 bY (eK v3 (Value.bool true) v7) λv11=>
 fA (yV v11) false (λk14=>k14 t1 h8) h8 λv12 h13=>
 fA (yV v11) false (λk17=>bY (cC PG (binOp BinOp.gtr aR v12 (Value.int IntKind.i64 4096))) λv18=>k17 v18 h13) h13 λv15 h16=>
 bY (eK v11 (Value.bool true) v15) λv19=>
 cN v19
 (R (Value.int IntKind.i64 0) h16)
 (bY (cC PG (binOp BinOp.sub aR t0 (Value.int IntKind.i64 25))) λv20=>
 bY (cC PG (binOp BinOp.add aR t1 v20)) λv21=>
 bY (cC PG (binOp BinOp.sub aR v21 (Value.int IntKind.i64 1))) λv22=>
 bY (cC PG (binOp BinOp.quo aR v22 v20)) λv23=>
 bY (cC PG (Builtin.max_ #[aR,aR] aR #[(Value.int IntKind.i64 1),v23])) λv24=>
 R v24 h16)
def aFq.call{t0 t1 h0 R}(H:aFq t0 t1 h0 R):bT PG tM #[t0,t1] h0 R:=dE (iN 26) Tryz.func72 H
def aBK(b:Value)(c:PH)(R:cF):Prop:=fY b λd=>dP eM d 0 λe=>bT PG iI #[e] c λf a=>gI a .neq dH (.tmp 6) (.const (.int .i64 0)) f (.int .i64 0) λg=>cN g (R (.int .i64 0) a) (fY b λh=>dP eM h 1 λi=>dJ a aT i λj=>iD aT aR j λk=>R k a)
def aBK.call{t0 h0 R}(H:aBK t0 h0 R):bT PG xW #[t0] h0 R:=dE (iN 13) Tryz.func183 H
def aBh(a:Value)(b:PH)(R:cF):Prop:=bT PG tZ #[a,.int .i64 2] b λc d=>pP (convert cI aR c) λe=>bT PG qW #[a,e] d λf g=>R f g
def aBh.call{t0 h0 R}(H:aBh t0 h0 R):bT PG xZ #[t0] h0 R:=dE (iN 8) Tryz.func213 H
def aBC(b a:Value)(g:PH)(R:cF):Prop:=gI g .eql aT (.tmp 7) (.const (.string ⟨#[]⟩)) b (.string ⟨#[]⟩) λe=>hC e false a g λl m=>gC e false (fK .eql aT (.tmp 10) (.const (.string ⟨#[]⟩)) l (.string ⟨#[]⟩)) m λn f=>bY (eK e (.bool true) n) λo=>cN o (R b f) (iD aT aR a λp=>gI f .eql aR (.tmp 15) (.const (.int .i64 1)) p (.int .i64 1) λd=>hC d true a f λq r=>eX d true (Instr.index aT q (.int .i64 0)) r λs u=>eX d true (binOp .lss dK s (.int .u8 128)) u λv h=>bY (eK d v (.bool false)) λw=>cN w (pP (Instr.index aT a (.int .i64 0)) λx=>pP (Instr.index aT a (.int .i64 0)) λy=>bT PG xI #[b,x] h λz A=>(bT PG yQ #[z,y] A λB C=>(R B C))) (bT PG aHs #[a] h λi j=>fX i 0 λD=>fX i 1 λE=>∀c,j c=none->dT (PH.set j c (.cells (dF PG aCk) aCk)) λF=>cM PG (cQ aCk (pT c 0) D) F λO k=>cN E (bT PG aGs #[b,pT c 0] k λG H=>bT PG aHJ #[G,pT c 0] H λI J=>R I J) (bT PG aF5 #[b,a] k λK L=>bT PG aGb #[K,a] L λM N=>R M N)))
def aBC.ann:kC:={b:=λi=>match i with|4=>#[0,0,2,7,0,16,63,127]|_=>#[],ord:=λi=>match i with|4=>[0,1,2,4,5,3,6,7]|_=>[],keep:=λ_=>[],n:=43}
def aBC.call{t0 t1 h0 R}(H:aBC t0 t1 h0 R):bT PG aEz #[t0,t1] h0 R:=dE aBC.ann Tryz.func214 H
def aC9(R:cF)(e:gB)(b c:Value)(f:PH):Prop:=iD aT aR b λg=>dU .gtr aR g (.int .i64 0) λa=>hC a true b f λh i=>eX a true (Instr.index aT h (.int .i64 0)) i λj k=>hC a true c k λl m=>gC a true (fK .eql dK (.tmp 10) (.tmp 11) j l) m λn d=>bY (eK a n (.bool false)) λo=>cN o (pP (Instr.sliceAt aT b (some (.int .i64 1)) none none) λp=>e [p,c] d) (R b d)
def wI(a b:Value)(c:PH)(R:cF):Prop:=gV [0,1] (λd ρ h=>aC9 R d (ρ 0) (ρ 1) h) [a,b] c
def wI.call{t0 t1 h0 R}(H:wI t0 t1 h0 R):bT PG yQ #[t0,t1] h0 R:=dE (sO 1 [0,1] 17) Tryz.func226 H
def aCj(R:cF)(e:gB)(b c:Value)(f:PH):Prop:=iD aT aR b λg=>dU .gtr aR g (.int .i64 0) λa=>hC a true b f λh i=>hC a true b i λj k=>eX a true (Builtin.len_ #[aT] aR #[j]) k λl m=>eX a true (binOp .sub aR l (.int .i64 1)) m λn o=>eX a true (Instr.index aT h n) o λp q=>hC a true c q λr s=>gC a true (fK .eql dK (.tmp 13) (.tmp 14) p r) s λu d=>bY (eK a u (.bool false)) λv=>cN v (iD aT aR b λw=>dU .sub aR w (.int .i64 1) λx=>pP (Instr.sliceAt aT b none (some x) none) λy=>e [y,c] d) (R b d)
def uZ(a b:Value)(c:PH)(R:cF):Prop:=gV [0,1] (λd ρ h=>aCj R d (ρ 0) (ρ 1) h) [a,b] c
def uZ.call{t0 t1 h0 R}(H:uZ t0 t1 h0 R):bT PG xI #[t0,t1] h0 R:=dE (sO 1 [0,1] 23) Tryz.func227 H
def aC1(t0:Value)(t1:Value)(h0:PH)(R:cF):Prop:=
 ∀r1,h0 r1=none->dT (PH.set h0 r1 (.cells (Value.cells t0) dW)) λh2=>
 bY (cD PG h2 (loadAt dW (pT r1 0))) λv3=>
 bT PG pL #[v3] h2 λv4 h5=>
 bY (cC PG (binOp BinOp.mul aR t1 v4)) λv6=>
 bY (cC PG (binOp BinOp.add aR (Value.int IntKind.i64 2) v6)) λv7=>
 R v7 h5
def aC1.call{t0 t1 h0 R}(H:aC1 t0 t1 h0 R):bT PG vZ #[t0,t1] h0 R:=dE (iN 10) Tryz.func65 H
def aAh(t0:Value)(h0:PH)(R:cF):Prop:=
 ∀r1,h0 r1=none->dT (PH.set h0 r1 (.cells (Value.cells t0) dW)) λh2=>
 bY (cC PG (fieldAt dW (pT r1 0) 0)) λv3=>
 bY (cD PG h2 (loadAt fL v3)) λv4=>
 bY (cC PG (gF v4)) λv5=>
 bY (cC PG (fieldAt eB v5 0)) λv6=>
 bY (cD PG h2 (loadAt eA v6)) λv7=>
 bT PG sD #[v7] h2 λv8 h9=>
 bY (cC PG (binOp BinOp.sub aR v8 (Value.int IntKind.i64 2))) λv10=>
 bY (cC PG (binOp BinOp.quo aR v10 (Value.int IntKind.i64 2))) λv11=>
 R v11 h9
def aAh.call{t0 h0 R}(H:aAh t0 h0 R):bT PG pL #[t0] h0 R:=dE (iN 11) Tryz.func66 H
def aGm(R:cF)(l:gB)(b f c g h i d:Value)(a:PH):Prop:=dU .lss aR d i λm=>cN m (lZ cU h d λn=>dJ a aT n λo=>yE PG g #[o] a λy p=>dU .add aR d (.int .i64 1) λq=>l [b,f,c,g,h,i,q] p) (dJ a dH c λr=>gI a .neq dH (.tmp 35) (.const (.int .i64 0)) r (.int .i64 0) λs=>cN s (pP (build bR #[]) λu=>dJ a dH c λj=>cM PG (cQ bR b u) a λz e=>cD PG e (loadAt dH c)=some j∧(dJ e bR b λv=>R (.tuple #[v,j]) e)) (dJ a bR f λw=>cM PG (cQ bR b w) a λA k=>dJ k bR b λx=>R (.tuple #[x,.int .i64 0]) k))
def yS(o f:Value)(g:PH)(R:cF):Prop:=∀e,g e=none->dT (PH.set g e (.cells o.cells aR)) λi=>∀a,i a=none->dT (PH.set i a (.cells (dF PG bR) bR)) λb=>iD cU aR f λp=>gI b .eql aR (.tmp 12) (.const (.int .i64 0)) p (.int .i64 0) λq=>cN q (pP (build bR #[]) λr=>cM PG (cQ bR (pT a 0) r) b λF j=>dJ j bR (pT a 0) λs=>R (.tuple #[s,.int .i64 3]) j) (dJ b aR (pT e 0) λu=>lZ cU f (.int .i64 0) λv=>dJ b aT v λw=>bT PG aFA #[u,w] b λk l=>(fX k 0 λx=>fX k 1 λy=>∀c,l c=none->dT (PH.set l c (.cells (dF PG bR) bR)) λm=>∀d,m d=none->dT (PH.set m d (.cells (dF PG dH) dH)) λz=>cM PG (cQ bR (pT c 0) x) z λG A=>(cM PG (cQ dH (pT d 0) y) A λH B=>(pP (Instr.makeFunc (Fn.func uM) #[] #[pT d 0,pT c 0,pT e 0]) λC=>pP (Instr.sliceAt cU f (some (.int .i64 1)) none none) λn=>iD cU aR n λD=>gV [4,6,7,8,25,26,27] (λE ρ h=>aGm R E (ρ 4) (ρ 6) (ρ 7) (ρ 8) (ρ 25) (ρ 26) (ρ 27) h) [(pT a 0),pT c 0,pT d 0,C,n,D,.int .i64 0] B))))
def yS.ann:kC:={b:=λi=>match i with|3=>#[0,0,2,6,15,31,63,63,0,0,895,2047]|11=>#[0,0,1,7]|_=>#[],ord:=λi=>match i with|3=>[0,1,2,3,4,5,6,7,8,9,10,11]|11=>[0,1,2,3]|_=>[],keep:=λi=>match i with|6=>[4,6,7,8,25,26,27]|_=>[],n:=40}
def yS.call{t0 t1 h0 R}(H:yS t0 t1 h0 R):bT PG aDz #[t0,t1] h0 R:=dE yS.ann Tryz.func29 H
def aE9(n o:Value)(e:PH)(R:cF):Prop:=∀a,e a=none->dT (PH.set e a (.cells (dF PG bR) bR)) λp=>bT PG aCE #[o] p λf g=>fX f 0 λq=>fX f 1 λh=>∀c,g c=none->dT (PH.set g c (.cells (dF PG bW) bW)) λr=>cM PG (cQ bW (pT c 0) q) r λJ b=>gI b .neq dH (.tmp 15) (.const (.int .i64 0)) h (.int .i64 0) λs=>cN s (pP (build bR #[]) λu=>cM PG (cQ bR (pT a 0) u) b λK i=>dJ i bR (pT a 0) λv=>R (.tuple #[v,h]) i) (dP bW (pT c 0) 0 λw=>dJ b aR w λx=>gI b .neq aR (.tmp 21) (.const (.int .i64 1)) x (.int .i64 1) λy=>cN y (pP (build bR #[]) λz=>cM PG (cQ bR (pT a 0) z) b λL j=>dJ j bR (pT a 0) λA=>R (.tuple #[A,.int .i64 5]) j) (dP bW (pT c 0) 1 λB=>dJ b bR B λC=>bT PG uP #[C,n] b λk d=>gI d .neq dH (.tmp 28) (.const (.int .i64 0)) k (.int .i64 0) λD=>cN D (pP (build bR #[]) λE=>cM PG (cQ bR (pT a 0) E) d λM l=>dJ l bR (pT a 0) λF=>R (.tuple #[F,k]) l) (dP bW (pT c 0) 1 λG=>dJ d bR G λH=>cM PG (cQ bR (pT a 0) H) d λN m=>dJ m bR (pT a 0) λI=>R (.tuple #[I,.int .i64 0]) m)))
def aE9.call{t0 t1 h0 R}(H:aE9 t0 t1 h0 R):bT PG aFA #[t0,t1] h0 R:=dE (iN 34) Tryz.func67 H
def aBe(R:cF)(a f g:Value)(h:PH):Prop:=bT PG aCh #[f] h λc b=>gI b .neq dH (.tmp 51) (.const (.int .i64 0)) c (.int .i64 0) λi=>cN i (pP (build bW #[]) λj=>cM PG (cQ bW a j) b λn d=>dJ d bW a λk=>R (.tuple #[k,c]) d) (dJ b bW g λl=>cM PG (cQ bW a l) b λo e=>dJ e bW a λm=>R (.tuple #[m,.int .i64 0]) e)
def aDt(R:cF)(c a b:Value)(d:PH):Prop:=dJ d bW b λf=>bT PG aCK #[f] d λg e=>pP (Op.unary .not g) λh=>cN h (fY a λi=>dP eM i 0 λj=>bT PG iW #[j,.int .i64 5] e λl k=>aBe R c a b k) (aBe R c a b e)
def tF(R:cF)(a b c:Value)(d:PH):Prop:=aDt R a b c d
def aHT(R:cF)(f:gB)(d a b c:Value)(e:PH):Prop:=dU .lss aR c (.int .i64 2) λg=>cN g (bT PG aDm #[a] e λh i=>dP bW b 1 λj=>dP bR j 0 λk=>lZ cR k c λl=>cM PG (cQ cG l h) i λu m=>dU .add aR c (.int .i64 1) λn=>f [d,a,b,n] m) (bT PG aGR #[a] e λo p=>dP bW b 1 λq=>dP bR q 1 λr=>cM PG (cQ bZ r o) p λv s=>tF R d a b s)
def aE6(i:Value)(e:PH)(R:cF):Prop:=∀d,e d=none->dT (PH.set e d (.cells (dF PG bW) bW)) λj=>bT PG vX #[i] j λb k=>bT PG jM #[b] k λl f=>pP (build bW #[(0,l)]) λm=>∀a,f a=none->dT (PH.set f a (.cells (dF PG bW) bW)) λn=>cM PG (cQ bW (pT a 0) m) n λF c=>dP bW (pT a 0) 0 λo=>dJ c aR o λg=>gI c .eql aR (.tmp 14) (.const (.int .i64 1)) g (.int .i64 1) λp=>cN p (gV [2,4,5,17] (λq ρ h=>aHT R q (ρ 2) (ρ 4) (ρ 5) (ρ 17) h) [(pT d 0),b,pT a 0,.int .i64 0] c) (gI c .eql aR (.tmp 14) (.const (.int .i64 2)) g (.int .i64 2) λr=>cN r (bT PG jM #[b] c λs u=>dP bW (pT a 0) 2 λv=>cM PG (cQ aR v s) u λG w=>bT PG aDm #[b] w λx y=>dP bW (pT a 0) 3 λz=>cM PG (cQ cG z x) y λH A=>bT PG aGY #[b] A λB C=>dP bW (pT a 0) 4 λD=>cM PG (cQ cY D B) C λI E=>tF R (pT d 0) b (pT a 0) E) (tF R (pT d 0) b (pT a 0) c))
def aE6.call{t0 h0 R}(H:aE6 t0 h0 R):bT PG aCE #[t0] h0 R:=dE (sO 6 [2,4,5,17] 56) Tryz.func69 H
def aEn(m:Value)(j:PH)(R:cF):Prop:=∀a,j a=none->dT (PH.set j a (.cells m.cells bW)) λb=>dP bW (pT a 0) 0 λn=>dJ b aR n λk=>gI b .eql aR (.tmp 4) (.const (.int .i64 1)) k (.int .i64 1) λo=>cN o (dP bW (pT a 0) 2 λp=>dJ b aR p λq=>gI b .eql aR (.tmp 8) (.const (.int .i64 0)) q (.int .i64 0) λf=>eX f true (fieldAt bW (pT a 0) 3) b λr s=>gC f true (loadAt cG r) s λu v=>eX f true (build cG #[]) v λw x=>gC f true (fK .eql cG (.tmp 12) (.tmp 13) u w) x λy z=>bY (eK f y (.bool false)) λg=>eX g true (fieldAt bW (pT a 0) 4) z λA B=>gC g true (loadAt cY A) B λC D=>eX g true (Builtin.len_ #[cY] aR #[C]) D λE F=>gC g true (fK .eql aR (.tmp 19) (.const (.int .i64 0)) E (.int .i64 0)) F λG H=>bY (eK g G (.bool false)) λc=>eX c true (fieldAt bW (pT a 0) 1) H λI J=>eX c true (fieldAt bR I 1) J λK L=>gC c true (loadAt bZ K) L λM N=>eX c true (Builtin.len_ #[bZ] aR #[M]) N λO P=>eX c true (binOp .leq aR O (.int .i64 40)) P λQ S=>bY (eK c Q (.bool false)) λU=>R U S) (gI b .eql aR (.tmp 4) (.const (.int .i64 2)) k (.int .i64 2) λV=>cN V (dP bW (pT a 0) 1 λW=>dP bR W 0 λX=>dJ b cR X λY=>pP (build cR #[]) λZ=>gI b .eql cR (.tmp 33) (.tmp 34) Y Z λd=>eX d true (fieldAt bW (pT a 0) 1) b λa0 a1=>eX d true (fieldAt bR a0 1) a1 λa2 a3=>gC d true (loadAt bZ a2) a3 λa4 a5=>eX d true (Builtin.len_ #[bZ] aR #[a4]) a5 λa6 a7=>gC d true (fK .eql aR (.tmp 40) (.const (.int .i64 0)) a6 (.int .i64 0)) a7 λa8 a9=>bY (eK d a8 (.bool false)) λe=>eX e true (fieldAt bW (pT a 0) 2) a9 λaa ab=>gC e true (loadAt aR aa) ab λac ad=>gC e true (fK .eql aR (.tmp 45) (.const (.int .i64 0)) ac (.int .i64 0)) ad λae af=>hC e true ae af λi ag=>eX i false (fieldAt bW (pT a 0) 2) ag λah ai=>gC i false (loadAt aR ah) ai λaj ak=>gC i false (fK .eql aR (.tmp 49) (.const (.int .i64 1)) aj (.int .i64 1)) ak λal l=>fA (yV e) true (λam=>bY (eK i (.bool true) al) λan=>am an l) l λao ap=>bY (eK e ao (.bool false)) λh=>eX h true (fieldAt bW (pT a 0) 4) ap λaq ar=>gC h true (loadAt cY aq) ar λau av=>eX h true (Builtin.len_ #[cY] aR #[au]) av λaw ax=>eX h true (binOp .leq aR aw (.int .i64 16)) ax λay az=>bY (eK h ay (.bool false)) λaA=>R aA az) (R (.bool false) b))
def aEn.call{t0 h0 R}(H:aEn t0 h0 R):bT PG aCK #[t0] h0 R:=dE (iN 59) Tryz.func84 H
def aCq(R:cF)(e a f g:Value)(h:PH):Prop:=fY e λi=>dP eM i 0 λj=>bT PG iI #[j] h λk b=>gI b .neq dH (.tmp 18) (.const (.int .i64 0)) k (.int .i64 0) λl=>cN l (pP (build cG #[]) λm=>cM PG (cQ cG a m) b λr c=>dJ c cG a λn=>R n c) (pP (convert cI aR g) λo=>pP (build cG #[(0,f),(1,o)]) λp=>cM PG (cQ cG a p) b λs d=>dJ d cG a λq=>R q d)
def aGv(a:Value)(d:PH)(R:cF):Prop:=∀b,d b=none->dT (PH.set d b (.cells (dF PG cG) cG)) λg=>bT PG kX #[a] g λe h=>bT PG kX #[a] h λc f=>dU .gtr cI c (.int .u64 65535) λi=>cN i (fY a λj=>dP eM j 0 λk=>bT PG iW #[k,.int .i64 5] f λm l=>aCq R a (pT b 0) e c l) (aCq R a (pT b 0) e c f)
def aGv.call{t0 h0 R}(H:aGv t0 h0 R):bT PG aDm #[t0] h0 R:=dE (iN 25) Tryz.func134 H
def aG1(a:Value)(b:PH)(R:cF):Prop:=bT PG aER #[a,.int .i64 2,(.func (Fn.func mF) #[] #[])] b λc d=>R c d
def aG1.call{t0 h0 R}(H:aG1 t0 h0 R):bT PG aGR #[t0] h0 R:=dE (iN 5) Tryz.func135 H
def uT(R:cF)(c:gB)(d e a f g h i:Value)(b:PH):Prop:=dJ b bX i λj=>yE PG a #[h,j] b λk l=>yK l (buildSlice bZ 1 #[(0,k)]) λm n=>cM PG (Builtin.append_ #[bZ,bZ] bZ #[f,m]) n λo p=>dU .sub aR g (.int .i64 1) λq=>c [d,e,a,o,q] p
def aEr(R:cF)(j:gB)(a f k g h:Value)(p:PH):Prop:=dU .gtr aR h (.int .i64 0) λb=>hC b true a p λq r=>eX b true (gF q) r λs u=>eX b true (fieldAt eM s 0) u λv l=>fA (yV b) true (λw=>bT PG iI #[v] l λx y=>w x y) l λz A=>gC b true (fK .eql dH (.tmp 19) (.const (.int .i64 0)) z (.int .i64 0)) A λB m=>bY (eK b B (.bool false)) λC=>cN C (bT PG jM #[a] m λd D=>bT PG aDX #[a] D λE n=>∀c,n c=none->dT (PH.set n c (.cells (dF PG bX) bX)) λF=>cM PG (cQ bX (pT c 0) E) F λW G=>dU .lss aR d (.int .i64 1) λe=>hC e false d G λH I=>hC e false f I λJ K=>eX e false (binOp .gtr aR H J) K λL o=>bY (eK e (.bool true) L) λM=>cN M (fY a λN=>dP eM N 0 λO=>bT PG iW #[O,.int .i64 5] o λX P=>uT R j a f k g h d (pT c 0) P) (uT R j a f k g h d (pT c 0) o)) (fY a λQ=>dP eM Q 0 λS=>bT PG iI #[S] m λU i=>gI i .neq dH (.tmp 49) (.const (.int .i64 0)) U (.int .i64 0) λV=>cN V (R (.slice none 0 0) i) (R g i))
def aAW(a b c:Value)(d:PH)(R:cF):Prop:=bT PG jM #[a] d λe f=>gV [0,1,2,7,8] (λg ρ h=>aEr R g (ρ 0) (ρ 1) (ρ 2) (ρ 7) (ρ 8) h) [a,b,c,(.slice none 0 0),e] f
def aAW.call{t0 t1 t2 h0 R}(H:aAW t0 t1 t2 h0 R):bT PG aER #[t0,t1,t2] h0 R:=dE (sO 3 [0,1,2,7,8] 52) Tryz.func179 H
def aC2(R:cF)(e a f:Value)(g:PH):Prop:=fY e λh=>dP eM h 0 λi=>bT PG iI #[i] g λj b=>gI b .neq dH (.tmp 23) (.const (.int .i64 0)) j (.int .i64 0) λk=>cN k (pP (build bX #[]) λl=>cM PG (cQ bX a l) b λp c=>dJ c bX a λm=>R m c) (dJ b bX f λn=>cM PG (cQ bX a n) b λq d=>dJ d bX a λo=>R o d)
def aGw(a:Value)(e:PH)(R:cF):Prop:=∀c,e c=none->dT (PH.set e c (.cells (dF PG bX) bX)) λh=>bT PG jM #[a] h λi j=>bT PG kX #[a] j λk l=>bT PG kX #[a] l λm n=>bT PG xZ #[a] n λo f=>pP (build bX #[(0,i),(1,k),(2,m),(3,o)]) λp=>∀b,f b=none->dT (PH.set f b (.cells (dF PG bX) bX)) λq=>cM PG (cQ bX (pT b 0) p) q λy g=>dJ g bX (pT b 0) λr=>bT PG uN #[r] g λs d=>gI d .neq dH (.tmp 14) (.const (.int .i64 0)) s (.int .i64 0) λu=>cN u (fY a λv=>dP eM v 0 λw=>bT PG iW #[w,.int .i64 5] d λz x=>aC2 R a (pT c 0) (pT b 0) x) (aC2 R a (pT c 0) (pT b 0) d)
def aGw.call{t0 h0 R}(H:aGw t0 h0 R):bT PG aDX #[t0] h0 R:=dE (iN 27) Tryz.func215 H
def aEm(g h:Value)(c:PH)(R:cF):Prop:=∀b,c b=none->dT (PH.set c b (.cells h.cells bX)) λd=>∀a,d a=none->dT (PH.set d a (.cells (dF PG cE) cE)) λe=>dJ e bX (pT b 0) λi=>pP (build cE #[(0,i),(1,g)]) λj=>cM PG (cQ cE (pT a 0) j) e λl f=>dJ f cE (pT a 0) λk=>R k f
def aEm.call{t0 t1 h0 R}(H:aEm t0 t1 h0 R):bT PG mF #[t0,t1] h0 R:=dE (iN 8) Tryz.func180 H
def aG7(a:Value)(b:PH)(R:cF):Prop:=bT PG aFC #[a,.int .i64 4,(.func (Fn.func mC) #[] #[])] b λc d=>R c d
def aG7.call{t0 h0 R}(H:aG7 t0 h0 R):bT PG aGY #[t0] h0 R:=dE (iN 5) Tryz.func136 H
def vH(R:cF)(c:gB)(d e a f g h i:Value)(b:PH):Prop:=dJ b bX i λj=>yE PG a #[h,j] b λk l=>yK l (buildSlice cY 1 #[(0,k)]) λm n=>cM PG (Builtin.append_ #[cY,cY] cY #[f,m]) n λo p=>dU .sub aR g (.int .i64 1) λq=>c [d,e,a,o,q] p
def aEy(R:cF)(j:gB)(a f k g h:Value)(p:PH):Prop:=dU .gtr aR h (.int .i64 0) λb=>hC b true a p λq r=>eX b true (gF q) r λs u=>eX b true (fieldAt eM s 0) u λv l=>fA (yV b) true (λw=>bT PG iI #[v] l λx y=>w x y) l λz A=>gC b true (fK .eql dH (.tmp 19) (.const (.int .i64 0)) z (.int .i64 0)) A λB m=>bY (eK b B (.bool false)) λC=>cN C (bT PG jM #[a] m λd D=>bT PG aDX #[a] D λE n=>∀c,n c=none->dT (PH.set n c (.cells (dF PG bX) bX)) λF=>cM PG (cQ bX (pT c 0) E) F λW G=>dU .lss aR d (.int .i64 1) λe=>hC e false d G λH I=>hC e false f I λJ K=>eX e false (binOp .gtr aR H J) K λL o=>bY (eK e (.bool true) L) λM=>cN M (fY a λN=>dP eM N 0 λO=>bT PG iW #[O,.int .i64 5] o λX P=>vH R j a f k g h d (pT c 0) P) (vH R j a f k g h d (pT c 0) o)) (fY a λQ=>dP eM Q 0 λS=>bT PG iI #[S] m λU i=>gI i .neq dH (.tmp 49) (.const (.int .i64 0)) U (.int .i64 0) λV=>cN V (R (.slice none 0 0) i) (R g i))
def aAX(a b c:Value)(d:PH)(R:cF):Prop:=bT PG jM #[a] d λe f=>gV [0,1,2,7,8] (λg ρ h=>aEy R g (ρ 0) (ρ 1) (ρ 2) (ρ 7) (ρ 8) h) [a,b,c,(.slice none 0 0),e] f
def aAX.call{t0 t1 t2 h0 R}(H:aAX t0 t1 t2 h0 R):bT PG aFC #[t0,t1,t2] h0 R:=dE (sO 3 [0,1,2,7,8] 52) Tryz.func181 H
def aEq(g h:Value)(c:PH)(R:cF):Prop:=∀b,c b=none->dT (PH.set c b (.cells h.cells bX)) λd=>∀a,d a=none->dT (PH.set d a (.cells (dF PG cK) cK)) λe=>dJ e bX (pT b 0) λi=>pP (build cK #[(0,g),(1,i)]) λj=>cM PG (cQ cK (pT a 0) j) e λl f=>dJ f cK (pT a 0) λk=>R k f
def aEq.call{t0 t1 h0 R}(H:aEq t0 t1 h0 R):bT PG mC #[t0,t1] h0 R:=dE (iN 8) Tryz.func182 H
def aCF(a:Value)(c:PH)(R:cF):Prop:=bT PG xW #[a] c λd b=>dU .gtr aR d (.int .i64 0) λe=>cN e (R (.int .i64 7) b) (fY a λf=>dP eM f 0 λg=>bT PG iI #[g] b λh i=>R h i)
def aCF.call{t0 h0 R}(H:aCF t0 h0 R):bT PG aCh #[t0] h0 R:=dE (iN 10) Tryz.func138 H
def xY(R:cF)(a b:Value)(c:PH):Prop:=cM PG (cQ dH a b) c λe d=>R (.tuple #[]) d
def yB(R:cF)(b c f g d:Value)(a:PH):Prop:=gI a .eql dH (.tmp 16) (.const (.int .i64 0)) d (.int .i64 0) λh=>cN h (dJ a bR c λi=>dJ a aR f λj=>dJ a bW g λk=>bT PG aC3 #[i,j,k] a λe l=>fX e 0 λm=>fX e 1 λn=>cM PG (cQ bR c m) l λp o=>xY R b n o) (xY R b d a)
def vC(i b e f:Value)(d:PH)(R:cF):Prop:=pP (build bW #[]) λj=>dJ d dH b λg=>∀a,d a=none->dT (PH.set d a (.cells (dF PG bW) bW)) λk=>cM PG (cQ bW (pT a 0) j) k λr c=>cD PG c (loadAt dH b)=some g∧(dJ c dH b λl=>gI c .eql dH (.tmp 9) (.const (.int .i64 0)) l (.int .i64 0) λm=>cN m (bT PG aCE #[i] c λh n=>fX h 0 λo=>fX h 1 λp=>cM PG (cQ bW (pT a 0) o) n λs q=>yB R b e f (pT a 0) p q) (yB R b e f (pT a 0) g c))
def vC.ann:kC:={b:=λi=>match i with|0=>#[0,0,0,5,15]|_=>#[],ord:=λi=>match i with|0=>[0,1,2,3,4]|_=>[],keep:=λ_=>[],n:=26}
def vC.call{t0 t1 t2 t3 h0 R}(H:vC t0 t1 t2 t3 h0 R):bT PG uM #[t0,t1,t2,t3] h0 R:=dE vC.ann Tryz.func68 H
def aFs(F g G:Value)(j:PH)(R:cF):Prop:=∀d,j d=none->dT (PH.set j d (.cells F.cells bR)) λk=>∀b,k b=none->dT (PH.set k b (.cells G.cells bW)) λl=>∀a,l a=none->dT (PH.set l a (.cells (dF PG bR) bR)) λm=>dJ m bR (pT d 0) λH=>bT PG uP #[H,g] m λn e=>gI e .neq dH (.tmp 19) (.const (.int .i64 0)) n (.int .i64 0) λI=>cN I (pP (build bR #[]) λJ=>cM PG (cQ bR (pT a 0) J) e λar o=>dJ o bR (pT a 0) λK=>R (.tuple #[K,n]) o) (dJ e bW (pT b 0) λL=>bT PG zY #[L] e λp c=>fX p 0 λau=>fX p 1 λq=>gI c .neq dH (.tmp 28) (.const (.int .i64 0)) q (.int .i64 0) λM=>cN M (pP (build bR #[]) λN=>cM PG (cQ bR (pT a 0) N) c λav r=>dJ r bR (pT a 0) λO=>R (.tuple #[O,q]) r) (dP bW (pT b 0) 0 λP=>dJ c aR P λQ=>gI c .eql aR (.tmp 33) (.const (.int .i64 1)) Q (.int .i64 1) λS=>cN S (dP bW (pT b 0) 1 λU=>dJ c bR U λV=>bT PG uP #[V,g] c λs f=>gI f .neq dH (.tmp 39) (.const (.int .i64 0)) s (.int .i64 0) λW=>cN W (pP (build bR #[]) λX=>cM PG (cQ bR (pT a 0) X) f λaw u=>dJ u bR (pT a 0) λY=>R (.tuple #[Y,s]) u) (dP bW (pT b 0) 1 λZ=>dP bR Z 1 λa0=>dJ f bZ a0 λa1=>bT PG mE #[a1] f λa2 a3=>dP bW (pT b 0) 1 λa4=>dP bR a4 1 λa5=>cM PG (cQ bZ a5 a2) a3 λax v=>dP bW (pT b 0) 1 λa6=>dJ v bR a6 λa7=>cM PG (cQ bR (pT a 0) a7) v λay w=>dJ w bR (pT a 0) λa8=>R (.tuple #[a8,.int .i64 0]) w)) (dP bR (pT d 0) 1 λa9=>dJ c bZ a9 λaa=>bT PG aFn #[g,aa] c λx y=>fX x 0 λz=>fX x 1 λaz=>dP bW (pT b 0) 4 λab=>dJ y cY ab λac=>bT PG aGT #[z,ac] y λA h=>fX A 0 λaA=>fX A 1 λB=>gI h .neq dH (.tmp 65) (.const (.int .i64 0)) B (.int .i64 0) λad=>cN ad (pP (build bR #[]) λae=>cM PG (cQ bR (pT a 0) ae) h λaB C=>dJ C bR (pT a 0) λaf=>R (.tuple #[af,B]) C) (bT PG wD #[z] h λag ah=>dP bR (pT d 0) 1 λai=>cM PG (cQ bZ ai ag) ah λaC i=>dP bW (pT b 0) 2 λaj=>dJ i aR aj λak=>dP bW (pT b 0) 3 λal=>dJ i cG al λam=>dP bR (pT d 0) 0 λan=>lZ cR an ak λao=>cM PG (cQ cG ao am) i λaD D=>dJ D bR (pT d 0) λap=>cM PG (cQ bR (pT a 0) ap) D λaE E=>dJ E bR (pT a 0) λaq=>R (.tuple #[aq,.int .i64 0]) E))))
def aFs.call{t0 t1 t2 h0 R}(H:aFs t0 t1 t2 h0 R):bT PG aC3 #[t0,t1,t2] h0 R:=dE (iN 79) Tryz.func38 H
def mY(b:Value)(a:PH)(R:cF):Prop:=gI a .eql bZ (.tmp 3) (.const (.slice none 0 0)) b (.slice none 0 0) λc=>cN c (R (.slice none 0 0) a) (yK a (buildSlice bZ 0 #[]) λd e=>cM PG (Builtin.append_ #[bZ,bZ] bZ #[d,b]) e λf g=>R f g)
def mY.call{t0 h0 R}(H:mY t0 h0 R):bT PG mE #[t0] h0 R:=dE (iN 8) Tryz.func33 H
def aHR(R:cF)(i:gB)(e a f d:Value)(b:PH):Prop:=dU .lss aR d (.int .i64 2) λj=>cN j (pP (Instr.index cR f d) λk=>∀c,b c=none->dT (PH.set b c (.cells (dF PG cG) cG)) λl=>cM PG (cQ cG (pT c 0) k) l λx g=>dJ g cG (pT c 0) λm=>bT PG aBR #[a,m] g λy n=>dU .add aR d (.int .i64 1) λo=>i [e,a,f,o] n) (dP bW e 1 λp=>dP bR p 1 λq=>dJ b bZ q λr=>bT PG aDs #[a,r] b λz s=>bT PG nK #[a] s λh u=>fX h 0 λv=>fX h 1 λw=>R (.tuple #[v,w]) u)
def aEO(l:Value)(e:PH)(R:cF):Prop:=∀a,e a=none->dT (PH.set e a (.cells l.cells bW)) λf=>dJ f bW (pT a 0) λm=>bT PG aCK #[m] f λn d=>pP (Op.unary .not n) λo=>cN o (R (.tuple #[(.string ⟨#[]⟩),.int .i64 1]) d) (∀b,d b=none->dT (PH.set d b (.cells (dF PG eO) eO)) λg=>dP bW (pT a 0) 0 λp=>dJ g aR p λq=>bT PG iJ #[pT b 0,q] g λJ c=>dP bW (pT a 0) 0 λr=>dJ c aR r λs=>gI c .eql aR (.tmp 14) (.const (.int .i64 1)) s (.int .i64 1) λu=>cN u (dP bW (pT a 0) 1 λv=>dP bR v 0 λw=>dJ c cR w λx=>gV [1,4,18,19] (λy ρ h=>aHR R y (ρ 1) (ρ 4) (ρ 18) (ρ 19) h) [(pT a 0),pT b 0,x,.int .i64 0] c) (dP bW (pT a 0) 2 λz=>dJ c aR z λA=>bT PG iJ #[pT b 0,A] c λK i=>dP bW (pT a 0) 3 λB=>dJ i cG B λC=>bT PG aBR #[pT b 0,C] i λL j=>dP bW (pT a 0) 4 λD=>dJ j cY D λE=>bT PG aD3 #[pT b 0,E] j λM F=>bT PG nK #[pT b 0] F λk G=>fX k 0 λH=>fX k 1 λI=>R (.tuple #[H,I]) G))
def aEO.call{t0 h0 R}(H:aEO t0 h0 R):bT PG zY #[t0] h0 R:=dE (sO 7 [1,4,18,19] 44) Tryz.func39 H
def aAc(R:cF)(a b:Value)(c:PH):Prop:=dP cG b 0 λe=>dJ c cI e λf=>bT PG kE #[a,f] c λk d=>dP cG b 1 λg=>dJ d aR g λh=>pP (convert aR cI h) λi=>bT PG kE #[a,i] d λl j=>R (.tuple #[]) j
def aDg(c g:Value)(d:PH)(R:cF):Prop:=∀a,d a=none->dT (PH.set d a (.cells g.cells cG)) λe=>dP cG (pT a 0) 1 λh=>dJ e aR h λi=>dU .lss aR i (.int .i64 0) λb=>eX b false (fieldAt cG (pT a 0) 1) e λj k=>gC b false (loadAt aR j) k λl m=>eX b false (binOp .gtr aR l (.int .i64 65535)) m λn f=>bY (eK b (.bool true) n) λo=>cN o (bT PG iJ #[c,.int .i64 (-1)] f λq p=>aAc R c (pT a 0) p) (aAc R c (pT a 0) f)
def aDg.call{t0 t1 h0 R}(H:aDg t0 t1 h0 R):bT PG aBR #[t0,t1] h0 R:=dE (iN 23) Tryz.func86 H
def aDh(a b:Value)(c:PH)(R:cF):Prop:=bT PG aE0 #[a,(.func (Fn.func uF) #[] #[]),b] c λe d=>R (.tuple #[]) d
def aDh.call{t0 t1 h0 R}(H:aDh t0 t1 h0 R):bT PG aDs #[t0,t1] h0 R:=dE (iN 7) Tryz.func87 H
def aEb(R:cF)(m:gB)(d f g h e:Value)(a:PH):Prop:=dU .lss aR e h λn=>cN n (lZ bZ g e λo=>dJ a cE o λp=>∀b,a b=none->dT (PH.set a b (.cells (dF PG cE) cE)) λq=>cM PG (cQ cE (pT b 0) p) q λA i=>dJ i cE (pT b 0) λr=>yE PG f #[r] i λj k=>fX j 0 λs=>fX j 1 λu=>∀c,k c=none->dT (PH.set k c (.cells (dF PG bX) bX)) λv=>cM PG (cQ bX (pT c 0) u) v λB w=>bT PG iJ #[d,s] w λC l=>dJ l bX (pT c 0) λx=>bT PG aDi #[d,x] l λD y=>dU .add aR e (.int .i64 1) λz=>m [d,f,g,h,z] y) (R (.tuple #[]) a)
def aAm(b c a:Value)(d:PH)(R:cF):Prop:=iD bZ aR a λe=>bT PG iJ #[b,e] d λj f=>iD bZ aR a λg=>gV [0,1,14,15,16] (λi ρ h=>aEb R i (ρ 0) (ρ 1) (ρ 14) (ρ 15) (ρ 16) h) [b,c,a,g,.int .i64 0] f
def aAm.call{t0 t1 t2 h0 R}(H:aAm t0 t1 t2 h0 R):bT PG aE0 #[t0,t1,t2] h0 R:=dE (sO 2 [0,1,14,15,16] 33) Tryz.func146 H
def aG0(b i:Value)(d:PH)(R:cF):Prop:=∀a,d a=none->dT (PH.set d a (.cells i.cells bX)) λe=>dJ e bX (pT a 0) λj=>bT PG uN #[j] e λk c=>gI c .neq dH (.tmp 5) (.const (.int .i64 0)) k (.int .i64 0) λl=>cN l (bT PG iJ #[b,.int .i64 (-1)] c λx m=>R (.tuple #[]) m) (dP bX (pT a 0) 0 λn=>dJ c aR n λo=>bT PG iJ #[b,o] c λy f=>dP bX (pT a 0) 1 λp=>dJ f cI p λq=>bT PG kE #[b,q] f λz g=>dP bX (pT a 0) 2 λr=>dJ g cI r λs=>bT PG kE #[b,s] g λA h=>dP bX (pT a 0) 3 λu=>dJ h aT u λv=>bT PG tB #[b,v] h λB w=>R (.tuple #[]) w)
def aG0.call{t0 t1 h0 R}(H:aG0 t0 t1 h0 R):bT PG aDi #[t0,t1] h0 R:=dE (iN 25) Tryz.func190 H
def aBf(a b:Value)(c:PH)(R:cF):Prop:=iD aT aR b λd=>dU .gtr aR d (.int .i64 65535) λe=>cN e (fY a λf=>dP eO f 0 λg=>bT PG iW #[g,.int .i64 1] c λm h=>R (.tuple #[]) h) (iD aT aR b λi=>pP (convert aR cI i) λj=>bT PG uH #[a,j,.int .i64 2] c λn k=>bT PG nF #[a,b] k λo l=>R (.tuple #[]) l)
def aBf.call{t0 t1 h0 R}(H:aBf t0 t1 h0 R):bT PG tB #[t0,t1] h0 R:=dE (iN 19) Tryz.func140 H
def uX(j:Value)(d:PH)(R:cF):Prop:=∀a,d a=none->dT (PH.set d a (.cells j.cells cE)) λe=>∀b,e b=none->dT (PH.set e b (.cells (dF PG bX) bX)) λc=>dP cE (pT a 0) 1 λk=>dJ c aR k λl=>dP cE (pT a 0) 0 λf=>dJ c bX f λg=>bT PG aEs #[l,.int .i64 2] c λm h=>cD PG h (loadAt bX f)=some g∧(cM PG (cQ bX (pT b 0) g) h λo i=>(dJ i bX (pT b 0) λn=>R (.tuple #[m,n]) i))
def uX.ann:kC:={b:=λi=>match i with|1=>#[0,1,3,0,8,7,63]|_=>#[],ord:=λi=>match i with|1=>[0,1,3,4,2,5,6]|_=>[],keep:=λ_=>[],n:=9}
def uX.call{t0 h0 R}(H:uX t0 h0 R):bT PG uF #[t0] h0 R:=dE uX.ann Tryz.func147 H
def aID(b d:Value)(e:PH)(R:cF):Prop:=dU .lss aR b (.int .i64 1) λa=>hC a false b e λf g=>hC a false d g λh i=>eX a false (binOp .gtr aR f h) i λj c=>bY (eK a (.bool true) j) λk=>cN k (R (.int .i64 (-1)) c) (R b c)
def aID.call{t0 t1 h0 R}(H:aID t0 t1 h0 R):bT PG aEs #[t0,t1] h0 R:=dE (iN 13) Tryz.func148 H
def aDb(a b:Value)(c:PH)(R:cF):Prop:=bT PG aEW #[a,(.func (Fn.func uL) #[] #[]),b] c λe d=>R (.tuple #[]) d
def aDb.call{t0 t1 h0 R}(H:aDb t0 t1 h0 R):bT PG aD3 #[t0,t1] h0 R:=dE (iN 7) Tryz.func89 H
def aE2(R:cF)(m:gB)(d f g h e:Value)(a:PH):Prop:=dU .lss aR e h λn=>cN n (lZ cY g e λo=>dJ a cK o λp=>∀b,a b=none->dT (PH.set a b (.cells (dF PG cK) cK)) λq=>cM PG (cQ cK (pT b 0) p) q λA i=>dJ i cK (pT b 0) λr=>yE PG f #[r] i λj k=>fX j 0 λs=>fX j 1 λu=>∀c,k c=none->dT (PH.set k c (.cells (dF PG bX) bX)) λv=>cM PG (cQ bX (pT c 0) u) v λB w=>bT PG iJ #[d,s] w λC l=>dJ l bX (pT c 0) λx=>bT PG aDi #[d,x] l λD y=>dU .add aR e (.int .i64 1) λz=>m [d,f,g,h,z] y) (R (.tuple #[]) a)
def aAY(b c a:Value)(d:PH)(R:cF):Prop:=iD cY aR a λe=>bT PG iJ #[b,e] d λj f=>iD cY aR a λg=>gV [0,1,14,15,16] (λi ρ h=>aE2 R i (ρ 0) (ρ 1) (ρ 14) (ρ 15) (ρ 16) h) [b,c,a,g,.int .i64 0] f
def aAY.call{t0 t1 t2 h0 R}(H:aAY t0 t1 t2 h0 R):bT PG aEW #[t0,t1,t2] h0 R:=dE (sO 2 [0,1,14,15,16] 33) Tryz.func150 H
def vO(j:Value)(d:PH)(R:cF):Prop:=∀a,d a=none->dT (PH.set d a (.cells j.cells cK)) λe=>∀b,e b=none->dT (PH.set e b (.cells (dF PG bX) bX)) λc=>dP cK (pT a 0) 0 λk=>dJ c aR k λl=>dP cK (pT a 0) 1 λf=>dJ c bX f λg=>bT PG aEs #[l,.int .i64 4] c λm h=>cD PG h (loadAt bX f)=some g∧(cM PG (cQ bX (pT b 0) g) h λo i=>(dJ i bX (pT b 0) λn=>R (.tuple #[m,n]) i))
def vO.ann:kC:={b:=λi=>match i with|1=>#[0,1,3,0,8,7,63]|_=>#[],ord:=λi=>match i with|1=>[0,1,3,4,2,5,6]|_=>[],keep:=λ_=>[],n:=9}
def vO.call{t0 h0 R}(H:vO t0 h0 R):bT PG uL #[t0] h0 R:=dE vO.ann Tryz.func151 H
def aJe(R:cF)(k:gB)(e f g h a:Value)(b:PH):Prop:=dU .lss aR a h λl=>cN l (lZ cY g a λm=>dJ b cK m λn=>∀c,b c=none->dT (PH.set b c (.cells (dF PG cK) cK)) λo=>cM PG (cQ cK (pT c 0) n) o λu i=>dJ i cK (pT c 0) λp=>bT PG aBO #[e,p] i λj d=>gI d .neq dH (.tmp 19) (.const (.int .i64 0)) j (.int .i64 0) λq=>cN q (R (.tuple #[a,j]) d) (dU .add aR a (.int .i64 1) λr=>k [e,f,g,h,r] d)) (iD cY aR f λs=>R (.tuple #[s,.int .i64 0]) b)
def aG9(b a:Value)(c:PH)(R:cF):Prop:=iD cY aR a λd=>gV [0,1,9,10,11] (λe ρ h=>aJe R e (ρ 0) (ρ 1) (ρ 9) (ρ 10) (ρ 11) h) [b,a,a,d,.int .i64 0] c
def aG9.call{t0 t1 h0 R}(H:aG9 t0 t1 h0 R):bT PG aGT #[t0,t1] h0 R:=dE (sO 2 [0,1,9,10,11] 26) Tryz.func83 H
def sF(h i:Value)(e:PH)(R:cF):Prop:=∀a,e a=none->dT (PH.set e a (.cells i.cells cK)) λf=>dJ f cK (pT a 0) λj=>bT PG aGW #[j] f λg c=>gI c .neq dH (.tmp 9) (.const (.int .i64 0)) g (.int .i64 0) λk=>cN k (R g c) (pP (build dN #[(1,(.func (Fn.func kH) #[] #[])),(2,(.func (Fn.func iT) #[] #[])),(3,(.func (Fn.func gQ) #[] #[])),(4,(.func (Fn.func gQ) #[] #[]))]) λl=>∀d,c d=none->dT (PH.set c d (.cells (dF PG dN) dN)) λm=>cM PG (cQ dN (pT d 0) l) m λD b=>dP cK (pT a 0) 0 λn=>dJ b aR n λo=>lZ dN (pT d 0) o λp=>dJ b eV p λq=>dP cK (pT a 0) 1 λr=>dP bX r 0 λs=>dJ b aR s λu=>dP cK (pT a 0) 1 λv=>dP bX v 1 λw=>dJ b cI w λx=>pP (build fJ #[(0,u),(1,x)]) λy=>dP cK (pT a 0) 1 λz=>dJ b bX z λA=>yE PG q #[h,y,A] b λB C=>(R B C))
def sF.ann:kC:={b:=λi=>match i with|5=>#[0,1,3,7,0,0,32,96,0,256,768,2016,0,4096,16383,32767]|_=>#[],ord:=λi=>match i with|5=>[0,1,2,3,4,5,6,7,8,9,10,11,12,13,14,15]|_=>[],keep:=λ_=>[],n:=28}
def sF.call{t0 t1 h0 R}(H:sF t0 t1 h0 R):bT PG aBO #[t0,t1] h0 R:=dE sF.ann Tryz.func144 H
def aGz(f:Value)(d:PH)(R:cF):Prop:=∀a,d a=none->dT (PH.set d a (.cells f.cells cK)) λe=>dP cK (pT a 0) 0 λg=>dJ e aR g λh=>dU .lss aR h (.int .i64 1) λb=>eX b false (fieldAt cK (pT a 0) 0) e λi j=>gC b false (loadAt aR i) j λk l=>eX b false (binOp .gtr aR k (.int .i64 4)) l λm c=>bY (eK b (.bool true) m) λn=>cN n (R (.int .i64 1) c) (dP cK (pT a 0) 1 λo=>dJ c bX o λp=>bT PG uN #[p] c λq r=>R q r)
def aGz.call{t0 h0 R}(H:aGz t0 h0 R):bT PG aGW #[t0] h0 R:=dE (iN 14) Tryz.func185 H
def tD(f j k:Value)(g:PH)(R:cF):Prop:=∀b,g b=none->dT (PH.set g b (.cells j.cells fJ)) λh=>∀d,h d=none->dT (PH.set h d (.cells k.cells bX)) λa=>fY f λl=>dP gG l 0 λm=>dJ a dL m λn=>dJ a fJ (pT b 0) λo=>pE a (Instr.lookup dL n o true) λi=>fX i 0 λp=>fX i 1 λq=>∀e,a e=none->dT (PH.set a e (.cells (dF PG cE) cE)) λr=>cM PG (cQ cE (pT e 0) p) r λy c=>(cN q (R (.int .i64 0) c) (dJ c fJ (pT b 0) λs=>dJ c bX (pT d 0) λu=>pP (build cE #[(0,u),(1,(.int .i64 1))]) λv=>bT PG zG #[f,s,v] c λw x=>R w x))
def tD.ann:kC:={b:=λi=>match i with|1=>#[0,1,3,7,0,31,63,127,127,0,767,2047]|_=>#[],ord:=λi=>match i with|1=>[0,1,2,3,4,5,6,7,8,9,10,11]|_=>[],keep:=λ_=>[],n:=24}
def tD.call{t0 t1 t2 h0 R}(H:tD t0 t1 t2 h0 R):bT PG kH #[t0,t1,t2] h0 R:=dE tD.ann Tryz.func186 H
def vJ(d k l:Value)(h:PH)(R:cF):Prop:=∀e,h e=none->dT (PH.set h e (.cells k.cells fJ)) λi=>∀f,i f=none->dT (PH.set i f (.cells l.cells cE)) λb=>fY d λm=>dP gG m 0 λn=>dJ b dL n λo=>dJ b fJ (pT e 0) λp=>pE b (Instr.lookup dL o p true) λj=>fX j 0 λq=>fX j 1 λr=>∀g,b g=none->dT (PH.set b g (.cells (dF PG cE) cE)) λs=>cM PG (cQ cE (pT g 0) q) s λX u=>(pP (Op.unary .not r) λa=>hC a true d u λv w=>eX a true (gF v) w λx y=>eX a true (fieldAt gG x 0) y λz A=>gC a true (loadAt dL z) A λB C=>gC a true (Builtin.len_ #[dL] aR #[B]) C λD E=>hC a true d E λF G=>eX a true (gF F) G λH I=>eX a true (fieldAt gG H 1) I λJ K=>gC a true (loadAt aR J) K λL M=>eX a true (binOp .geq aR D L) M λN c=>bY (eK a N (.bool false)) λO=>cN O (R (.int .i64 2) c) (fY d λP=>dP gG P 0 λQ=>dJ c dL Q λS=>dJ c fJ (pT e 0) λU=>dJ c cE (pT f 0) λV=>cM PG (aIl dL S U V) c λY W=>(R (.int .i64 0) W)))
def vJ.ann:kC:={b:=λi=>match i with|1=>#[0,1,3,7,0,31,63,127,127,0,767,2047]|2=>#[0,1,3,7,15,31,63,127,7,263,775,1799,4095,8191]|4=>#[0,1,3,7,0,0,63]|_=>#[],ord:=λi=>match i with|1=>[0,1,2,3,4,5,6,7,8,9,10,11]|2=>[0,1,2,3,4,5,6,7,8,9,10,11,12,13]|4=>[0,1,2,3,4,5,6]|_=>[],keep:=λ_=>[],n:=38}
def vJ.call{t0 t1 t2 h0 R}(H:vJ t0 t1 t2 h0 R):bT PG zG #[t0,t1,t2] h0 R:=dE vJ.ann Tryz.func216 H
def rU(R:cF)(b c d:Value)(a:PH):Prop:=dJ a fJ c λe=>dJ a bX d λf=>pP (build cE #[(0,f),(1,(.int .i64 2))]) λg=>bT PG zG #[b,e,g] a λh i=>R h i
def pK(e j k:Value)(g:PH)(R:cF):Prop:=∀a,g a=none->dT (PH.set g a (.cells j.cells fJ)) λh=>∀b,h b=none->dT (PH.set h b (.cells k.cells bX)) λc=>fY e λl=>dP gG l 0 λm=>dJ c dL m λn=>dJ c fJ (pT a 0) λo=>pE c (Instr.lookup dL n o true) λi=>fX i 0 λp=>fX i 1 λq=>∀d,c d=none->dT (PH.set c d (.cells (dF PG cE) cE)) λr=>cM PG (cQ cE (pT d 0) p) r λw f=>(cN q (dP cE (pT d 0) 0 λs=>dJ f bX s λu=>cM PG (cQ bX (pT b 0) u) f λx v=>rU R e (pT a 0) (pT b 0) v) (rU R e (pT a 0) (pT b 0) f))
def pK.ann:kC:={b:=λi=>match i with|1=>#[0,1,3,7,0,31,63,127,127,0,767,2047]|_=>#[],ord:=λi=>match i with|1=>[0,1,2,3,4,5,6,7,8,9,10,11]|_=>[],keep:=λ_=>[],n:=26}
def pK.call{t0 t1 t2 h0 R}(H:pK t0 t1 t2 h0 R):bT PG iT #[t0,t1,t2] h0 R:=dE pK.ann Tryz.func187 H
def tI(f g h:Value)(c:PH)(R:cF):Prop:=∀a,c a=none->dT (PH.set c a (.cells g.cells fJ)) λd=>∀e,d e=none->dT (PH.set d e (.cells h.cells bX)) λb=>fY f λi=>dP gG i 0 λj=>dJ b dL j λk=>dJ b fJ (pT a 0) λl=>cM PG (Builtin.delete_ #[dL,fJ] T_ #[k,l]) b λn m=>(R (.int .i64 0) m)
def tI.ann:kC:={b:=λi=>match i with|1=>#[0,1,3,7,0,31]|_=>#[],ord:=λi=>match i with|1=>[0,1,2,3,4,5]|_=>[],keep:=λ_=>[],n:=12}
def tI.call{t0 t1 t2 h0 R}(H:tI t0 t1 t2 h0 R):bT PG gQ #[t0,t1,t2] h0 R:=dE tI.ann Tryz.func188 H
def zS(t0:Value)(t1:Value)(h0:PH)(R:cF):Prop:=
 ∀r1,h0 r1=none->dT (PH.set h0 r1 (.cells (Value.cells t0) eH)) λh2=>
 ∀r3,h2 r3=none->dT (PH.set h2 r3 (.cells (Value.cells t1) aT)) λh4=>
 bY (cD PG h4 (loadAt eH (pT r1 0))) λv5=>
 bY (cC PG (Instr.makeFunc (Fn.func yO) #[] #[(pT r1 0),(pT r3 0)])) λv6=>
 bT PG aCv #[v5,v6] h4 λv7 h8=>
 R v7 h8
def zS.call{t0 t1 h0 R}(H:zS t0 t1 h0 R):bT PG vA #[t0,t1] h0 R:=dE (iN 8) Tryz.func30 H
def aFl(t0:Value)(t1:Value)(h0:PH)(R:cF):Prop:=
 bY (cC PG (gF t0)) λv1=>
 bY (cC PG (fieldAt dO v1 6)) λv2=>
 bY (cD PG h0 (loadAt iU v2)) λv3=>
 cN v3
 (R (Value.int IntKind.i64 14) h0)
 (yE PG t1 #[] h0 λv4 h5=>
 bY (cD PG h5 (fK BinOp.eql dH (.tmp 13) (.const (Value.int IntKind.i64 13)) v4 (Value.int IntKind.i64 13))) λv6=>
 bY (cC PG (gF t0)) λv7=>
 bY (cC PG (fieldAt dO v7 6)) λv8=>
 cM PG (cQ iU v8 v6) h5 λv9 h10=>
 R v4 h10)
def aFl.call{t0 t1 h0 R}(H:aFl t0 t1 h0 R):bT PG aCv #[t0,t1] h0 R:=dE (iN 18) Tryz.func70 H
def pJ(t0:Value)(t1:Value)(h0:PH)(R:cF):Prop:=
 bY (cD PG h0 (loadAt eH t0)) λv1=>
 bY (cC PG (gF v1)) λv2=>
 bY (cC PG (fieldAt dO v2 0)) λv3=>
 bY (cC PG (fieldAt dW v3 0)) λv4=>
 bY (cD PG h0 (loadAt fL v4)) λv5=>
 bY (cC PG (gF v5)) λv6=>
 bY (cC PG (fieldAt eB v6 0)) λv7=>
 bY (cD PG h0 (loadAt eA v7)) λv8=>
 bY (cD PG h0 (loadAt aT t1)) λv9=>
 bY (cC PG (Builtin.len_ #[aT] aR #[v9])) λv10=>
 bT PG kA #[v8] h0 λv11 h12=>
 cD PG h12 (loadAt aT t1)=some v9∧(bT PG tM #[v11,v10] h12 λv13 h14=>
 (bY (cD PG h14 (fK BinOp.eql aR (.tmp 25) (.const (Value.int IntKind.i64 0)) v13 (Value.int IntKind.i64 0))) λv15=>
 cN v15
 (R (Value.int IntKind.i64 1) h14)
 (bY (cD PG h14 (loadAt eH t0)) λv16=>
 bY (cC PG (gF v16)) λv17=>
 bY (cC PG (fieldAt dO v17 0)) λv18=>
 bY (cD PG h14 (loadAt dW v18)) λv19=>
 bT PG pL #[v19] h14 λv20 h21=>
 bY (cC PG (binOp BinOp.gtr aR v13 v20)) λv22=>
 cN v22
 (R (Value.int IntKind.i64 2) h21)
 (bY (cD PG h21 (loadAt eH t0)) λv23=>
 bY (cC PG (gF v23)) λv24=>
 bY (cC PG (fieldAt dO v24 1)) λv25=>
 bY (cD PG h21 (loadAt cL v25)) λv26=>
 bT PG aHY #[v26] h21 λv27 h28=>
 bY (cC PG (extract v27 0)) λv29=>
 bY (cC PG (extract v27 1)) λv30=>
 ∀r31,h28 r31=none->dT (PH.set h28 r31 (.cells (dF PG cL) cL)) λh32=>
 cM PG (cQ cL (pT r31 0) v29) h32 λv33 h34=>
 bY (cD PG h34 (fK BinOp.neq dH (.tmp 43) (.const (Value.int IntKind.i64 0)) v30 (Value.int IntKind.i64 0))) λv35=>
 cN v35
 (R v30 h34)
 (bY (cD PG h34 (loadAt eH t0)) λv36=>
 bY (cC PG (gF v36)) λv37=>
 bY (cC PG (fieldAt dO v37 0)) λv38=>
 bY (cC PG (fieldAt dW v38 0)) λv39=>
 bY (cD PG h34 (loadAt fL v39)) λv40=>
 bY (cC PG (gF v40)) λv41=>
 bY (cC PG (fieldAt eB v41 0)) λv42=>
 bY (cD PG h34 (loadAt eA v42)) λv43=>
 bY (cC PG (fieldAt cL (pT r31 0) 0)) λv44=>
 bY (cD PG h34 (loadAt cI v44)) λv45=>
 bY (cD PG h34 (loadAt aT t1)) λv46=>
 bT PG kA #[v43] h34 λv47 h48=>
 cD PG h48 (loadAt aT t1)=some v46∧cD PG h48 (loadAt cI v44)=some v45∧(bT PG aC4 #[v47,v45,(Value.int IntKind.u64 0),v46] h48 λv49 h50=>
 (bY (cC PG (extract v49 0)) λv51=>
 bY (cC PG (extract v49 1)) λv52=>
 bY (cD PG h50 (loadAt eH t0)) λv53=>
 bY (cC PG (gF v53)) λv54=>
 bY (cC PG (fieldAt dO v54 0)) λv55=>
 bY (cD PG h50 (loadAt dW v55)) λv56=>
 bY (cD PG h50 (loadAt eH t0)) λv57=>
 bY (cC PG (gF v57)) λv58=>
 bY (cC PG (fieldAt dO v58 0)) λv59=>
 bY (cD PG h50 (loadAt dW v59)) λv60=>
 bY (cC PG (fieldAt cL (pT r31 0) 1)) λv61=>
 bY (cD PG h50 (loadAt aR v61)) λv62=>
 bT PG vZ #[v60,v62] h50 λv63 h64=>
 cD PG h64 (loadAt dW v55)=some v56∧cD PG h64 (loadAt eH t0)=some v53∧(bT PG tL #[v56,v63,v51] h64 λv65 h66=>
 (bY (cD PG h66 (fK BinOp.neq dH (.tmp 75) (.const (Value.int IntKind.i64 0)) v65 (Value.int IntKind.i64 0))) λv67=>
 cN v67
 (R v65 h66)
 (bY (cD PG h66 (loadAt eH t0)) λv68=>
 bY (cC PG (gF v68)) λv69=>
 bY (cC PG (fieldAt dO v69 0)) λv70=>
 bY (cC PG (fieldAt dW v70 0)) λv71=>
 bY (cD PG h66 (loadAt fL v71)) λv72=>
 bY (cC PG (gF v72)) λv73=>
 bY (cC PG (fieldAt eB v73 0)) λv74=>
 bY (cD PG h66 (loadAt eA v74)) λv75=>
 bY (cD PG h66 (loadAt cL (pT r31 0))) λv76=>
 bT PG kA #[v75] h66 λv77 h78=>
 cD PG h78 (loadAt cL (pT r31 0))=some v76∧(bT PG aDI #[v77,v76] h78 λv79 h80=>
 (bY (cC PG (extract v79 0)) λv81=>
 bY (cC PG (extract v79 1)) λv82=>
 bY (cD PG h80 (loadAt eH t0)) λv83=>
 bY (cC PG (gF v83)) λv84=>
 bY (cC PG (fieldAt dO v84 0)) λv85=>
 bY (cD PG h80 (loadAt dW v85)) λv86=>
 bY (cD PG h80 (loadAt eH t0)) λv87=>
 bY (cC PG (gF v87)) λv88=>
 bY (cC PG (fieldAt dO v88 2)) λv89=>
 bY (cD PG h80 (loadAt aR v89)) λv90=>
 bY (cC PG (binOp BinOp.sub aR (Value.int IntKind.i64 1) v90)) λv91=>
 bY (jX PG (buildSlice cU 1 #[(0,v81)])) λx93=>∀r92,h80 r92=none->bY (cC PG (x93.2 r92)) λv94=>dT (PH.set h80 r92 x93.1) λh95=>
 bT PG tL #[v86,v91,v94] h95 λv96 h97=>
 (bY (cD PG h97 (fK BinOp.neq dH (.tmp 104) (.const (Value.int IntKind.i64 0)) v96 (Value.int IntKind.i64 0))) λv98=>
 cN v98
 (R v96 h97)
 (bY (cD PG h97 (loadAt eH t0)) λv99=>
 bY (cD PG h97 (loadAt eH t0)) λv100=>
 bY (cD PG h97 (loadAt eH t0)) λv101=>
 bY (cD PG h97 (loadAt eH t0)) λv102=>
 bY (cD PG h97 (loadAt eH t0)) λv103=>
 bY (cD PG h97 (loadAt cL (pT r31 0))) λv104=>
 bY (cD PG h97 (loadAt eH t0)) λv105=>
 bY (cC PG (gF v105)) λv106=>
 bY (cC PG (fieldAt dO v106 2)) λv107=>
 bY (cD PG h97 (loadAt aR v107)) λv108=>
 bY (cC PG (binOp BinOp.sub aR (Value.int IntKind.i64 1) v108)) λv109=>
 bY (cC PG (gF v99)) λv110=>
 bY (cC PG (fieldAt dO v110 1)) λv111=>
 cM PG (cQ cL v111 v104) h97 λv112 h113=>
 cD PG h113 (loadAt eH t0)=some v103∧cD PG h113 (loadAt eH t0)=some v102∧cD PG h113 (loadAt eH t0)=some v101∧cD PG h113 (loadAt eH t0)=some v100∧(bY (cC PG (gF v100)) λv114=>
 bY (cC PG (fieldAt dO v114 2)) λv115=>
 cM PG (cQ aR v115 v109) h113 λv116 h117=>
 cD PG h117 (loadAt eH t0)=some v103∧cD PG h117 (loadAt eH t0)=some v102∧cD PG h117 (loadAt eH t0)=some v101∧(bY (cC PG (gF v101)) λv118=>
 bY (cC PG (fieldAt dO v118 3)) λv119=>
 cM PG (cQ aR v119 v13) h117 λv120 h121=>
 cD PG h121 (loadAt eH t0)=some v103∧cD PG h121 (loadAt eH t0)=some v102∧(bY (cC PG (gF v102)) λv122=>
 bY (cC PG (fieldAt dO v122 4)) λv123=>
 cM PG (cQ cI v123 (Value.int IntKind.u64 1)) h121 λv124 h125=>
 cD PG h125 (loadAt eH t0)=some v103∧(bY (cC PG (gF v103)) λv126=>
 bY (cC PG (fieldAt dO v126 5)) λv127=>
 cM PG (cQ iU v127 (Value.bool true)) h125 λv128 h129=>
 (R (Value.int IntKind.i64 0) h129)))))))))))))))))))
def pJ.ann:kC:={b:=λi=>match i with|1=>#[0,1,3,7,15,31,63,127,255,0,512,2047,4095]|9=>#[0,1,3,7,15,31,63,127,255,0,512,0,4095,8191,16383,16383,32767,131071]|10=>#[0,1,3,7,0,16,48,112,0,256,1008,0,4095,8191]|13=>#[0,1,3,7,15,31,63,127,255,0,1023,2047,4095,4095,8191,32767]|14=>#[0,1,3,7,0,16,48,112,240,0,512,2047,4095]|17=>#[0,0,0,0,0,0,0,64,192,448,960,0,993,5089,13281,30691,63459,128995,262119,524263,1048551,2097135,4194287,8388591,16777215,33554431,67108863]|_=>#[],ord:=λi=>match i with|1=>[0,1,2,3,4,5,6,7,9,10,8,11,12]|9=>[0,1,2,3,4,5,6,7,9,10,11,8,12,13,14,15,16,17]|10=>[0,1,2,3,4,5,6,7,8,9,11,10,12,13]|13=>[0,1,2,3,4,5,6,7,9,8,10,11,12,13,14,15]|14=>[0,1,2,3,4,5,6,7,8,9,10,11,12]|17=>[0,1,2,3,4,5,6,7,8,9,10,11,12,13,14,15,16,17,18,19,20,21,22,23,24,25,26]|_=>[],keep:=λ_=>[],n:=129}
def pJ.call{t0 t1 h0 R}(H:pJ t0 t1 h0 R):bT PG yO #[t0,t1] h0 R:=dE pJ.ann Tryz.func71 H
def aDl(R:cF)(t2:Value)(t4:Value)(h0:PH):Prop:=
 bY (cD PG h0 (loadAt cL t4)) λv27=>
 cM PG (cQ cL t2 v27) h0 λv28 h29=>
 bY (cD PG h29 (loadAt cL t2)) λv30=>
 R (Value.tuple #[v30,(Value.int IntKind.i64 0)]) h29
def aH7(t0:Value)(h0:PH)(R:cF):Prop:=
 ∀r1,h0 r1=none->dT (PH.set h0 r1 (.cells (Value.cells t0) cL)) λh2=>
 ∀r3,h2 r3=none->dT (PH.set h2 r3 (.cells (dF PG cL) cL)) λh4=>
 bY (cC PG (fieldAt cL (pT r1 0) 0)) λv5=>
 bY (cD PG h4 (loadAt cI v5)) λv6=>
 bY (cD PG h4 (fK BinOp.eql cI (.tmp 6) (.const (Value.int IntKind.u64 18446744073709551615)) v6 (Value.int IntKind.u64 18446744073709551615))) λv7=>
 cN v7
 (bY (cC PG (build cL #[])) λv8=>
 cM PG (cQ cL (pT r3 0) v8) h4 λv9 h10=>
 bY (cD PG h10 (loadAt cL (pT r3 0))) λv11=>
 R (Value.tuple #[v11,(Value.int IntKind.i64 12)]) h10)
 (bY (cC PG (fieldAt cL (pT r1 0) 0)) λv12=>
 bY (cD PG h4 (loadAt cI v12)) λv13=>
 bY (cC PG (binOp BinOp.add cI v13 (Value.int IntKind.u64 1))) λv14=>
 bY (cC PG (build cL #[(0,v14)])) λv15=>
 ∀r16,h4 r16=none->dT (PH.set h4 r16 (.cells (dF PG cL) cL)) λh17=>
 cM PG (cQ cL (pT r16 0) v15) h17 λv18 h19=>
 bY (cC PG (fieldAt cL (pT r1 0) 1)) λv20=>
 bY (cD PG h19 (loadAt aR v20)) λv21=>
 bY (cD PG h19 (fK BinOp.eql aR (.tmp 14) (.const (Value.int IntKind.i64 0)) v21 (Value.int IntKind.i64 0))) λv22=>
 cN v22
 (bY (cC PG (fieldAt cL (pT r16 0) 1)) λv23=>
 cM PG (cQ aR v23 (Value.int IntKind.i64 1)) h19 λv24 h25=>
 aDl R (pT r3 0) (pT r16 0) h25)
 (aDl R (pT r3 0) (pT r16 0) h19))
def aH7.call{t0 h0 R}(H:aH7 t0 h0 R):bT PG aHY #[t0] h0 R:=dE (iN 18) Tryz.func73 H
noncomputable def mH:Code:=((xM (aBt Tryz.f74)).getD 0 (.skip,.skip)).1
noncomputable def lO:Code:=((xM (aBt Tryz.f74)).getD 0 (.skip,.skip)).2
def tE(kv:cF)(l:Nat)(t4:Value)(t5:Value)(t6:Value)(t10:Value)(t11:Value)(t27:Value)(t28:Value)(h0:PH):Prop:=
 cM PG (Instr.beginRound l) h0 λ_ h23=>
 ∀r24,h23 r24=none->dT (PH.set h23 r24 (.cells (dF PG eO) eO)) λh25=>
 bT PG nF #[(pT r24 0),(Value.string {data:=#[82]})] h25 λv26 h27=>
 bY (cD PG h27 (loadAt cI t5)) λv28=>
 bT PG kE #[(pT r24 0),v28] h27 λv29 h30=>
 bY (cD PG h30 (loadAt cI t6)) λv31=>
 bT PG kE #[(pT r24 0),v31] h30 λv32 h33=>
 bT PG iJ #[(pT r24 0),t27] h33 λv34 h35=>
 bY (cD PG h35 (loadAt aR t10)) λv36=>
 bT PG iJ #[(pT r24 0),v36] h35 λv37 h38=>
 bT PG tB #[(pT r24 0),t28] h38 λv39 h40=>
 bY (cD PG h40 (loadAt aR t4)) λv41=>
 bY (cC PG (binOp BinOp.sub aR v41 (Value.int IntKind.i64 25))) λv42=>
 bY (cC PG (Builtin.len_ #[aT] aR #[t28])) λv43=>
 bY (cC PG (binOp BinOp.sub aR v42 v43)) λv44=>
 bT PG wC #[(Value.string {data:=#[0]}),v44] h40 λv45 h46=>
 bT PG nF #[(pT r24 0),v45] h46 λv47 h48=>
 bT PG nK #[(pT r24 0)] h48 λv49 h50=>
 bY (cC PG (extract v49 0)) λv51=>
 bY (cC PG (extract v49 1)) λv52=>
 bY (cD PG h50 (loadAt cU t11)) λv53=>
 bT PG aFm #[v51] h50 λv54 h55=>
 cD PG h55 (loadAt cU t11)=some v53∧(bY (jX PG (buildSlice cU 1 #[(0,v54)])) λx57=>∀r56,h55 r56=none->bY (cC PG (x57.2 r56)) λv58=>dT (PH.set h55 r56 x57.1) λh59=>
 cM PG (Builtin.append_ #[cU,cU] cU #[v53,v58]) h59 λv60 h61=>
 (cM PG (cQ cU t11 v60) h61 λv62 h63=>
 (cM PG (Instr.endRound l none) h63 kv)))
def wR(t0:Value)(t1:Value)(t2:Value)(t3:Value)(h0:PH)(R:cF):Prop:=
 ∀r1,h0 r1=none->dT (PH.set h0 r1 (.cells (Value.cells t0) aR)) λh2=>
 ∀r3,h2 r3=none->dT (PH.set h2 r3 (.cells (Value.cells t1) cI)) λh4=>
 ∀r5,h4 r5=none->dT (PH.set h4 r5 (.cells (Value.cells t2) cI)) λh6=>
 bY (cD PG h6 (loadAt aR (pT r1 0))) λv7=>
 bY (cC PG (Builtin.len_ #[aT] aR #[t3])) λv8=>
 bT PG tM #[v7,v8] h6 λv9 h10=>
 ∀r11,h10 r11=none->dT (PH.set h10 r11 (.cells (dF PG aR) aR)) λh12=>
 cM PG (cQ aR (pT r11 0) v9) h12 λv13 h14=>
 bY (cD PG h14 (loadAt aR (pT r11 0))) λv15=>
 bY (cD PG h14 (fK BinOp.eql aR (.tmp 21) (.const (Value.int IntKind.i64 0)) v15 (Value.int IntKind.i64 0))) λv16=>
 cN v16
 (R (Value.tuple #[(Value.slice none 0 0),(Value.int IntKind.i64 1)]) h14)
 (∀r17,h14 r17=none->dT (PH.set h14 r17 (.cells (dF PG cU) cU)) λh18=>
 bY (cD PG h18 (loadAt aR (pT r1 0))) λv19=>
 bY (cC PG (binOp BinOp.sub aR v19 (Value.int IntKind.i64 25))) λv20=>
 bT PG aJY #[t3,v20] h18 λv21 h22=>
 aDO PG 57 v21 #[27,28] mH lO (λh64=>bY (cD PG h64 (loadAt cU (pT r17 0))) λv65=>
 R (Value.tuple #[v65,(Value.int IntKind.i64 0)]) h64) (λh66=>R (Value.tuple #[(Value.slice none 0 0),(Value.int IntKind.i64 0)]) h66) [] [(4,(pT r1 0)),(5,(pT r3 0)),(6,(pT r5 0)),(10,(pT r11 0)),(11,(pT r17 0))] h22)
def wR.ann:kC:={b:=λi=>match i with|17=>#[0,0,2,6,15,31]|_=>#[],ord:=λi=>match i with|17=>[0,1,2,3,4,5]|_=>[],keep:=λi=>match i with|8=>[4,5,6,10,11]|_=>[],n:=57}
def wR.call{t0 t1 t2 t3 h0 R}(H:wR t0 t1 t2 t3 h0 R):bT PG aC4 #[t0,t1,t2,t3] h0 R:=dE wR.ann Tryz.func74 H
def tE.eq(kv:cF)(l:Nat)(ρ:kG)(h0:PH):aMC PG wR.ann 200 l mH lO kv ρ h0=tE kv l (ρ 4) (ρ 5) (ρ 6) (ρ 10) (ρ 11) (ρ 27) (ρ 28) h0:=by kernel_rfl
def tE.next{kv:cF}{l:Nat}{f:FuncId}{tmps:Array Value}{h0:PH}(hs:tmps.size=57)(H:tE kv l (tmps.getD 4 undef) (tmps.getD 5 undef) (tmps.getD 6 undef) (tmps.getD 10 undef) (tmps.getD 11 undef) (tmps.getD 27 undef) (tmps.getD 28 undef) h0):rN PG (.round l f tmps mH lO) h0 kv:=
 aNm wR.ann 200 mix hs (by kernel_rfl) (by kernel_rfl) (tE.eq kv l (λt=>tmps.getD t undef) h0) H
def aGy(t0:Value)(t1:Value)(h0:PH)(R:cF):Prop:=
 ∀r1,h0 r1=none->dT (PH.set h0 r1 (.cells (Value.cells t0) aT)) λh2=>
 ∀r3,h2 r3=none->dT (PH.set h2 r3 (.cells (Value.cells t1) aR)) λh4=>
 bY (cC PG (Instr.makeFunc (Fn.func aCH) #[] #[(pT r3 0),(pT r1 0)])) λv5=>
 R v5 h4
def aGy.call{t0 t1 h0 R}(H:aGy t0 t1 h0 R):bT PG aJY #[t0,t1] h0 R:=dE (iN 6) Tryz.func139 H
def aH6(R:cF)(n1:gB)(t0:Value)(t1:Value)(t2:Value)(t4:Value)(h0:PH):Prop:=
 bY (cD PG h0 (loadAt aR t1)) λv3=>
 bY (cD PG h0 (loadAt aT t2)) λv4=>
 bY (cC PG (Builtin.len_ #[aT] aR #[v4])) λv5=>
 bY (cC PG (Builtin.min_ #[aR,aR] aR #[v3,v5])) λv6=>
 bY (cD PG h0 (loadAt aT t2)) λv7=>
 bY (cC PG (Instr.sliceAt aT v7 none (some v6) none)) λv8=>
 yE PG t0 #[t4,v8] h0 λv9 h10=>
 bY (cC PG (Op.unary UnOp.not v9)) λv11=>
 fA (yV v11) false (λk14=>k14 v6 h10) h10 λv12 h13=>
 fA (yV v11) false (λk17=>bY (cD PG h13 (loadAt aT t2)) λv18=>k17 v18 h13) h13 λv15 h16=>
 fA (yV v11) false (λk21=>bY (cC PG (Builtin.len_ #[aT] aR #[v15])) λv22=>k21 v22 h16) h16 λv19 h20=>
 fA (yV v11) false (λk25=>bY (cD PG h20 (fK BinOp.eql aR (.tmp 20) (.tmp 22) v12 v19)) λv26=>k25 v26 h20) h20 λv23 h24=>
 bY (eK v11 (Value.bool true) v23) λv27=>
 cN v27
 (R (Value.tuple #[]) h24)
 (bY (cD PG h24 (loadAt aT t2)) λv28=>
 bY (cC PG (Instr.sliceAt aT v28 (some v6) none none)) λv29=>
 cM PG (cQ aT t2 v29) h24 λv30 h31=>
 bY (cC PG (binOp BinOp.add aR t4 (Value.int IntKind.i64 1))) λv32=>
 n1 [t0,t1,t2,v32] h31)
def aEe(t0:Value)(t1:Value)(t2:Value)(h0:PH)(R:cF):Prop:=
 gV [0,1,2,4] (λn1 ρ h=>aH6 R n1 (ρ 0) (ρ 1) (ρ 2) (ρ 4) h) [t0,t1,t2,(Value.int IntKind.i64 0)] h0
def aEe.call{t0 t1 t2 h0 R}(H:aEe t0 t1 t2 h0 R):bT PG aCH #[t0,t1,t2] h0 R:=dE (sO 2 [0,1,2,4] 28) Tryz.func184 H
def aDd(e:Value)(b:PH)(R:cF):Prop:=∀a,b a=none->dT (PH.set b a (.cells e.cells bR)) λc=>dJ c bR (pT a 0) λf=>pP (build bW #[(0,(.int .i64 1)),(1,f)]) λg=>bT PG zY #[g] c λd h=>fX d 0 λi=>fX d 1 λj=>R i h
def aDd.call{t0 h0 R}(H:aDd t0 h0 R):bT PG aBk #[t0] h0 R:=dE (iN 12) Tryz.func31 H
def uW(R:cF)(g c d:Value)(e:PH):Prop:=dJ e bR c λh=>bT PG aA9 #[h] e λi j=>bT PG rW #[d,i] j λf a=>gI a .neq aR (.tmp 44) (.const (.int .i64 0)) f (.int .i64 0) λk=>cN k (R (.tuple #[.pointer none,f]) a) (dJ a bR c λl=>pP (build nY #[(0,d),(1,g),(2,l)]) λm=>∀b,a b=none->dT (PH.set a b (.cells m.cells nY)) λn=>R (.tuple #[pT b 0,.int .i64 0]) n)
def aAf(p b q:Value)(i:PH)(R:cF):Prop:=∀d,i d=none->dT (PH.set i d (.cells q.cells cR)) λe=>dJ e cR (pT d 0) λr=>pP (build bR #[(0,r)]) λs=>∀a,e a=none->dT (PH.set e a (.cells (dF PG bR) bR)) λu=>cM PG (cQ bR (pT a 0) s) u λE j=>dJ j bR (pT a 0) λv=>bT PG oM #[v,b] j λw f=>gI f .neq aR (.tmp 17) (.const (.int .i64 0)) w (.int .i64 0) λx=>cN x (R (.tuple #[.pointer none,.int .i64 1]) f) (bT PG aBo #[p] f λg c=>fX g 0 λk=>fX g 1 λl=>fX g 2 λm=>gI c .neq aR (.tmp 25) (.const (.int .i64 0)) m (.int .i64 0) λy=>cN y (R (.tuple #[.pointer none,m]) c) (iD cU aR l λz=>dU .gtr aR z (.int .i64 0) λA=>cN A (bT PG nV #[b,l] c λn B=>fX n 0 λC=>fX n 1 λo=>cM PG (cQ bR (pT a 0) C) B λF h=>gI h .neq aR (.tmp 37) (.const (.int .i64 0)) o (.int .i64 0) λD=>cN D (R (.tuple #[.pointer none,o]) h) (uW R b (pT a 0) k h)) (uW R b (pT a 0) k c)))
def aAf.call{t0 t1 t2 h0 R}(H:aAf t0 t1 t2 h0 R):bT PG wE #[t0,t1,t2] h0 R:=dE (iN 52) Tryz.func26 H
end Go.Proofs.YtiohehjhlghikaaGreatDoor
