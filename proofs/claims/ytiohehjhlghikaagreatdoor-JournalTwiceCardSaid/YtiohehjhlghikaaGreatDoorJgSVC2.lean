/- The texts of this claim, put together. -/
import Derived.Test.YtiohehjhlghikaaGreatDoorJgSVC1
set_option linter.all false
set_option maxRecDepth 100000
open Go.Instr (loadAt fieldAt indexAt extract buildSlice build)
namespace Go.Proofs.YtiohehjhlghikaaGreatDoor
open Go
def pP(x:Sem Value)(k:Value->Prop):Prop:=bY (cB PG x) k
def pE(h:PH)(x:Sem Value)(k:Value->Prop):Prop:=bY (cD PG h x) k
def dN(t:TypeId)(v:Value)(n:Nat)(k:Value->Prop):Prop:=bY (cB PG (fieldAt t v n)) k
def dV(o:BinOp)(t:TypeId)(x y:Value)(k:Value->Prop):Prop:=bY (cB PG (binOp o t x y)) k
def dC(h:PH)(t:TypeId)(x:Value)(k:Value->Prop):Prop:=bY (cD PG h (loadAt t x)) k
def nO(t:TypeId)(x y:Value)(k:Value->Prop):Prop:=bY (cB PG (indexAt t x y)) k
def gC(x:Value)(n:Nat)(k:Value->Prop):Prop:=bY (cB PG (extract x n)) k
def fS(x:Value)(k:Value->Prop):Prop:=bY (cB PG (gI x)) k
def iS(t u:TypeId)(x:Value)(k:Value->Prop):Prop:=bY (cB PG (Builtin.len_ #[t] u #[x])) k
def gL(h:PH)(o:BinOp)(t:TypeId)(x y:Operand)(a b:Value)(k:Value->Prop):Prop:=bY (cD PG h (fV o t x y a b)) k
def iD(c:Value)(w:Bool)(v:Value)(h:PH)(k:cE):Prop:=eZ (yV c) w (λj=>j v h) h k
def eY(c:Value)(w:Bool)(x:Sem Value)(h:PH)(k:cE):Prop:=eZ (yV c) w (λj=>bY (cB PG x) λv=>j v h) h k
def gJ(c:Value)(w:Bool)(x:Sem Value)(h:PH)(k:cE):Prop:=eZ (yV c) w (λj=>bY (cD PG h x) λv=>j v h) h k
def yY(h:PH)(x:Sem Value)(k:cE):Prop:=bY (kC PG x) λy=>∀r,h r=none->bY (cB PG (y.2 r)) λv=>dU (PH.set h r y.1) λh'=>k v h'
def zPP:(∀(x:Sem Value) (k:Value->Prop),pP x k=bY (cB PG x) k)∧(∀(h:PH) (x:Sem Value) (k:Value->Prop),pE h x k=bY (cD PG h x) k)∧(∀(t:TypeId) (v:Value) (n:Nat) (k:Value->Prop),dN t v n k=bY (cB PG (fieldAt t v n)) k)∧(∀(o:BinOp) (t:TypeId) (x y:Value) (k:Value->Prop),dV o t x y k=bY (cB PG (binOp o t x y)) k)∧(∀(h:PH) (t:TypeId) (x:Value) (k:Value->Prop),dC h t x k=bY (cD PG h (loadAt t x)) k)∧(∀(t:TypeId) (x y:Value) (k:Value->Prop),nO t x y k=bY (cB PG (indexAt t x y)) k)∧(∀(x:Value) (n:Nat) (k:Value->Prop),gC x n k=bY (cB PG (extract x n)) k)∧(∀(x:Value) (k:Value->Prop),fS x k=bY (cB PG (gI x)) k)∧(∀(t u:TypeId) (x:Value) (k:Value->Prop),iS t u x k=bY (cB PG (Builtin.len_ #[t] u #[x])) k)∧(∀(h:PH) (o:BinOp) (t:TypeId) (x y:Operand) (a b:Value) (k:Value->Prop),gL h o t x y a b k=bY (cD PG h (fV o t x y a b)) k)∧(∀(c:Value) (w:Bool) (v:Value) (h:PH) (k:cE),iD c w v h k=eZ (yV c) w (λj=>j v h) h k)∧(∀(c:Value) (w:Bool) (x:Sem Value) (h:PH) (k:cE),eY c w x h k=eZ (yV c) w (λj=>bY (cB PG x) λv=>j v h) h k)∧(∀(c:Value) (w:Bool) (x:Sem Value) (h:PH) (k:cE),gJ c w x h k=eZ (yV c) w (λj=>bY (cD PG h x) λv=>j v h) h k)∧(∀(h:PH) (x:Sem Value) (k:cE),yY h x k=bY (kC PG x) λy=>∀r,h r=none->bY (cB PG (y.2 r)) λv=>dU (PH.set h r y.1) λh'=>k v h'):=⟨λ_ _=>(rfl),λ_ _ _=>(rfl),λ_ _ _ _=>(rfl),λ_ _ _ _ _=>(rfl),λ_ _ _ _=>(rfl),λ_ _ _ _=>(rfl),λ_ _ _=>(rfl),λ_ _=>(rfl),λ_ _ _ _=>(rfl),λ_ _ _ _ _ _ _ _=>(rfl),λ_ _ _ _ _=>(rfl),λ_ _ _ _ _=>(rfl),λ_ _ _ _ _=>(rfl),λ_ _ _=>(rfl)⟩
def dF{f:FuncId}{fn:Func}(ann:jY)(hf:PG.funcs[f]? =some fn){args:Array Value}{h:PH}{R:cE}{X:Prop}(H:X)(ha:decide (args.size≤fn.ntmps)=true:=by kernel_rfl)(h1:aDF PG f=true:=by kernel_rfl)(h2:fn.body.isSome=true:=by kernel_rfl)(h3:decide (vD (aCH fn)<200)=true:=by kernel_rfl)(h4:xU PG ann fn.ntmps (aCH fn)=true:=by kernel_rfl)(he:aEA PG ann 200 (aCH fn) (aYI PG fn R) (λt=>args.getD t undef) h=X:=by kernel_rfl):bT PG f args h R:=aUC ann 200 mix hf h1 h2 h3 h4 (of_decide_eq_true ha) he H
def iX(n:Nat):jY:={b:=λi=>#[],ord:=λi=>[],keep:=λi=>[],n:=n}
def tI(k:Nat)(l:List Nat)(n:Nat):jY:={b:=λi=>#[],ord:=λi=>[],keep:=λi=>if i=k then l else [],n:=n}
def aXM:Array UInt8:=((((List.replicate 64 32:List UInt8).append) (List.replicate 64 32:List UInt8)).toArray)
def aXC:Array UInt8:=((((List.replicate 64 45:List UInt8).append) (List.replicate 64 45:List UInt8)).toArray)
def aXN:Array UInt8:=((((List.replicate 64 61:List UInt8).append) (List.replicate 64 61:List UInt8)).toArray)
def rP(q:PH)(R:cE):Prop:=pP (build cG #[(0,(.int .u64 5))]) λr=>pP (build cG #[(0,(.int .u64 5))]) λs=>pP (build cU #[(0,r),(1,s)]) λu=>bT PG xW #[.int .i64 64,.int .i64 20,.int .i64 2,u] q λb m=>gL m .eql oZ (.tmp 9) (.const (.pointer none)) b (.pointer none) λi=>iD i false b m λv n=>eZ (yV i) false (λw=>bT PG jR #[v] n λx y=>w x y) n λz A=>eY i false (Op.unary .not z) A λB C=>bY (eM i (.bool true) B) λc=>iD c false b C λD E=>eY c false (gI D) E λF G=>eY c false (fieldAt cW F 1) G λH I=>gJ c false (loadAt eR H) I λJ K=>gJ c false (fV .eql eR (.tmp 20) (.const (.pointer none)) J (.pointer none)) K λL j=>bY (eM c (.bool true) L) λM=>cQ M (R (.bool false) j) (pP (build bX #[(1,(.int .u64 1)),(2,(.int .u64 9))]) λN=>∀g,j g=none->dU (PH.set j g (.cells (dJ PG bX) bX)) λO=>cN PG (cP bX (pT g 0) N) O λaS k=>fS b λP=>dN cW P 1 λQ=>dC k eR Q λS=>pP (build cG #[(0,(.int .u64 6)),(1,(.int .i64 1))]) λU=>dC k bX (pT g 0) λV=>pP (build cL #[(0,(.int .i64 1)),(1,V)]) λW=>yY k (buildSlice cZ 1 #[(0,W)]) λX Y=>bT PG qI #[S,.int .i64 0,U,X] Y λZ a0=>(bT PG jR #[b] a0 λa1 a2=>pP (Op.unary .not a1) λd=>iD d false b a2 λa3 a4=>eY d false (gI a3) a4 λa5 a6=>eY d false (fieldAt cW a5 1) a6 λa7 a8=>gJ d false (loadAt eR a7) a8 λa9 aa=>gJ d false (fV .eql eR (.tmp 40) (.const (.pointer none)) a9 (.pointer none)) aa λab l=>bY (eM d (.bool true) ab) λac=>cQ ac (R (.bool false) l) (fS b λad=>dN cW ad 1 λae=>dC l eR ae λaf=>bT PG nD #[af] l λag o=>∀e,o e=none->dU (PH.set o e (.cells (dJ PG bR) bR)) λah=>cN PG (cP bR (pT e 0) ag) ah λaU p=>gL p .eql dK (.tmp 48) (.const (.int .i64 0)) Z (.int .i64 0) λh=>eY h true (fieldAt bR (pT e 0) 1) p λai aj=>gJ h true (loadAt bZ ai) aj λak al=>eY h true (Builtin.len_ #[bZ] aR #[ak]) al λam an=>gJ h true (fV .eql aR (.tmp 53) (.const (.int .i64 1)) am (.int .i64 1)) an λao ap=>bY (eM h ao (.bool false)) λa=>eY a true (fieldAt bR (pT e 0) 1) ap λaq ar=>gJ a true (loadAt bZ aq) ar λau av=>eY a true (indexAt bZ au (.int .i64 0)) av λaw ax=>eY a true (fieldAt cF aw 0) ax λay az=>gJ a true (loadAt bX ay) az λaA aB=>gJ a true (loadAt bX (pT g 0)) aB λaC aD=>gJ a true (fV .eql bX (.tmp 61) (.tmp 62) aA aC) aD λaE aF=>bY (eM a aE (.bool false)) λf=>eY f true (fieldAt bR (pT e 0) 0) aF λaG aH=>eY f true (indexAt cU aG (.int .i64 0)) aH λaI aJ=>gJ f true (loadAt cG aI) aJ λaK aL=>eY f true (build cG #[(0,(.int .u64 6)),(1,(.int .i64 1))]) aL λaM aN=>gJ f true (fV .eql cG (.tmp 68) (.tmp 69) aK aM) aN λaO aP=>bY (eM f aO (.bool false)) λaQ=>R aQ aP)))
def rP.ann:jY:={b:=λi=>match i with|5=>#[0,1,3,7,0,0,32,96,255,511]|9=>#[0,1,3,7,15,31,63,127,255,511,1023,2047,4095,8191,511,32767,65535,131071,262143,524287,1048575,262143,4194303,8388607,16777215]|_=>#[],ord:=λi=>match i with|5=>[0,1,2,3,4,5,6,7,8,9]|9=>[0,1,2,3,4,5,6,7,8,9,10,11,12,13,14,15,16,17,18,19,20,21,22,23,24]|_=>[],keep:=λ_=>[],n:=72}
def rP.call{h0 R}(H:rP h0 R):bT PG aBb #[] h0 R:=dF rP.ann Tryz.func7 H
def tH(f g m n:Value)(h:PH)(R:cE):Prop:=∀a,h a=none->dU (PH.set h a (.cells n.cells cU)) λo=>bT PG aIy #[f,g] o λi j=>gC i 0 λk=>gC i 1 λp=>gL j .neq dK (.tmp 17) (.const (.int .i64 0)) p (.int .i64 0) λb=>iD b false k j λq r=>gJ b false (fV .eql fY (.tmp 20) (.const (.pointer none)) q (.pointer none)) r λs c=>bY (eM b (.bool true) s) λu=>cQ u (R (.pointer none) c) (dC c cU (pT a 0) λl=>bT PG aCX #[f,g] c λv d=>cD PG d (loadAt cU (pT a 0))=some l∧(pP (build cW #[(0,k),(3,v),(5,m),(6,l)]) λw=>∀e,d e=none->dU (PH.set d e (.cells w.cells cW)) λx=>R (pT e 0) x))
def tH.ann:jY:={b:=λi=>match i with|4=>#[0,0,0,6,0,0,63,127,255]|_=>#[],ord:=λi=>match i with|4=>[0,1,2,4,5,3,6,7,8]|_=>[],keep:=λ_=>[],n:=31}
def tH.call{t0 t1 t2 t3 h0 R}(H:tH t0 t1 t2 t3 h0 R):bT PG xW #[t0,t1,t2,t3] h0 R:=dF tH.ann Tryz.func9 H
def aKx(R:cE)(n38:gH)(t0:Value)(t6:Value)(t33:Value)(t34:Value)(h0:PH):Prop:=
 bY (cB PG (binOp BinOp.lss aR t34 t33)) λv40=>
 cQ v40
 (bY (cB PG (gI t6)) λv41=>
 bY (cB PG (fieldAt dW v41 1)) λv42=>
 bY (cD PG h0 (loadAt dD v42)) λv43=>
 bT PG xI #[(Value.string {data:=#[0]}),t0] h0 λv44 h45=>
 cD PG h45 (loadAt dD v42)=some v43∧(bY (cB PG (indexAt dD v43 t34)) λv46=>
 cN PG (cP aT v46 v44) h45 λv47 h48=>
 (bY (cB PG (binOp BinOp.add aR t34 (Value.int IntKind.i64 1))) λv49=>
 n38 [t0,t6,t33,v49] h48)))
 (R (Value.tuple #[t6,(Value.int IntKind.i64 0)]) h0)
def aF6(t0:Value)(t1:Value)(h0:PH)(R:cE):Prop:=
 bY (cB PG (binOp BinOp.lss aR t0 (Value.int IntKind.i64 64))) λv1=>
 eZ (yV v1) false (λk4=>k4 t0 h0) h0 λv2 h3=>
 eZ (yV v1) false (λk7=>bY (cB PG (binOp BinOp.gtr aR v2 (Value.int IntKind.i64 512))) λv8=>k7 v8 h3) h3 λv5 h6=>
 bY (eM v1 (Value.bool true) v5) λv9=>
 eZ (yV v9) false (λk12=>k12 t1 h6) h6 λv10 h11=>
 eZ (yV v9) false (λk15=>bY (cB PG (binOp BinOp.lss aR v10 (Value.int IntKind.i64 1))) λv16=>k15 v16 h11) h11 λv13 h14=>
 bY (eM v9 (Value.bool true) v13) λv17=>
 eZ (yV v17) false (λk20=>k20 t1 h14) h14 λv18 h19=>
 eZ (yV v17) false (λk23=>bY (cB PG (binOp BinOp.gtr aR v18 (Value.int IntKind.i64 4096))) λv24=>k23 v24 h19) h19 λv21 h22=>
 bY (eM v17 (Value.bool true) v21) λv25=>
 cQ v25
 (R (Value.tuple #[(Value.pointer none),(Value.int IntKind.i64 1)]) h22)
 (bY (cB PG (build dZ #[(0,t0),(1,t1)])) λv26=>
 bY (kC PG (Instr.makeSlice dD t1 t1)) λx28=>∀r27,h22 r27=none->bY (cB PG (x28.2 r27)) λv29=>dU (PH.set h22 r27 x28.1) λh30=>
 bY (cB PG (build dW #[(0,v26),(1,v29)])) λv31=>
 ∀r32,h30 r32=none->dU (PH.set h30 r32 (.cells (Value.cells v31) dW)) λh33=>
 bY (cB PG (gI (pT r32 0))) λv34=>
 bY (cB PG (fieldAt dW v34 1)) λv35=>
 bY (cD PG h33 (loadAt dD v35)) λv36=>
 bY (cB PG (Builtin.len_ #[dD] aR #[v36])) λv37=>
 hC [0,6,33,34] (λn38 ρ h=>aKx R n38 (ρ 0) (ρ 6) (ρ 33) (ρ 34) h) [t0,(pT r32 0),v37,(Value.int IntKind.i64 0)] h33)
def aF6.ann:jY:={b:=λi=>match i with|7=>#[0,1,3,7,0,0,32,127,255]|_=>#[],ord:=λi=>match i with|7=>[0,1,2,3,4,5,6,7,8]|_=>[],keep:=λi=>match i with|5=>[0,6,33,34]|_=>[],n:=47}
def aF6.call{t0 t1 h0 R}(H:aF6 t0 t1 h0 R):bT PG aIy #[t0,t1] h0 R:=dF aF6.ann Tryz.func24 H
def aFx(R:cE)(e:gH)(b c a:Value)(f:PH):Prop:=bT PG qS #[a] f λg d=>dV .lss aR g b λh=>cQ h (bT PG qS #[a] d λi j=>dV .sub aR b i λk=>bT PG qS #[a] j λl m=>pP (Builtin.min_ #[aR,aR,aR] aR #[k,l,c]) λn=>bT PG kX #[a] m λo p=>pP (Instr.sliceAt aT o none (some n) none) λq=>bT PG jF #[a,q] p λv r=>e [b,c,a] r) (bT PG kX #[a] d λs u=>R s u)
def aAj(R:cE)(d b e:Value)(c:PH):Prop:=∀a,c a=none->dU (PH.set c a (.cells (dJ PG dH) dH)) λf=>bT PG zT #[pT a 0,b] f λk g=>bT PG jF #[pT a 0,d] g λl i=>hC [7,8,9] (λj ρ h=>aFx R j (ρ 7) (ρ 8) (ρ 9) h) [b,e,pT a 0] i
def aGj(R:cE)(a b:Value)(c:PH):Prop:=dV .gtr aR b (.int .i64 8192) λe=>cQ e (iS aT aR a λf=>dV .quo aR (.int .i64 8192) f λg=>iS aT aR a λh=>dV .mul aR g h λd=>gL c .eql aR (.tmp 103) (.const (.int .i64 0)) d (.int .i64 0) λi=>cQ i (iS aT aR a λj=>aAj R a b j c) (aAj R a b d c)) (aAj R a b b c)
def aC4(R:cE)(a b:Value)(c:PH):Prop:=aGj R a b c
def rN(R:cE)(b a s:Value)(h:PH):Prop:=cQ s (dV .leq aR a (.int .i64 128) λc=>iD c true b h λu i=>eZ (yV c) true (λv=>bT PG sN #[.string {data:=aXM},u] i λw x=>v w x) i λy j=>bY (eM c y (.bool false)) λz=>cQ z (pP (Instr.sliceAt aT (.string {data:=aXM}) none (some a) none) λA=>R A j) (dV .leq aR a (.int .i64 128) λd=>iD d true b j λB k=>eZ (yV d) true (λC=>bT PG sN #[.string {data:=aXC},B] k λD E=>C D E) k λF l=>bY (eM d F (.bool false)) λG=>cQ G (pP (Instr.sliceAt aT (.string {data:=aXC}) none (some a) none) λH=>R H l) (dV .leq aR a (.int .i64 64) λe=>iD e true b l λI m=>eZ (yV e) true (λJ=>bT PG sN #[.string ⟨(Array.replicate 64 48)⟩,I] m λK L=>J K L) m λM n=>bY (eM e M (.bool false)) λN=>cQ N (pP (Instr.sliceAt aT (.string ⟨(Array.replicate 64 48)⟩) none (some a) none) λO=>R O n) (dV .leq aR a (.int .i64 128) λf=>iD f true b n λP o=>eZ (yV f) true (λQ=>bT PG sN #[.string {data:=aXN},P] o λS U=>Q S U) o λV p=>bY (eM f V (.bool false)) λW=>cQ W (pP (Instr.sliceAt aT (.string {data:=aXN}) none (some a) none) λX=>R X p) (dV .leq aR a (.int .i64 64) λg=>iD g true b p λY q=>eZ (yV g) true (λZ=>bT PG sN #[.string ⟨(Array.replicate 64 9)⟩,Y] q λa0 a1=>Z a0 a1) q λa2 r=>bY (eM g a2 (.bool false)) λa3=>cQ a3 (pP (Instr.sliceAt aT (.string ⟨(Array.replicate 64 9)⟩) none (some a) none) λa4=>R a4 r) (aC4 R b a r)))))) (aC4 R b a h)
def aG1(R:cE)(b i:Value)(a:PH):Prop:=pP (convert aC9 aR i) λc=>iS aT aR b λj=>gL a .eql aR (.tmp 39) (.const (.int .i64 0)) j (.int .i64 0) λk=>cQ k (R (.string ⟨#[]⟩) a) (pP (Instr.index aT b (.int .i64 0)) λd=>gL a .eql dM (.tmp 42) (.const (.int .u8 32)) d (.int .u8 32) λe=>cQ e (rN R b c e a) (gL a .eql dM (.tmp 42) (.const (.int .u8 45)) d (.int .u8 45) λf=>cQ f (rN R b c f a) (gL a .eql dM (.tmp 42) (.const (.int .u8 48)) d (.int .u8 48) λg=>cQ g (rN R b c g a) (gL a .eql dM (.tmp 42) (.const (.int .u8 61)) d (.int .u8 61) λh=>cQ h (rN R b c h a) (gL a .eql dM (.tmp 42) (.const (.int .u8 9)) d (.int .u8 9) λl=>rN R b c l a)))))
def aHR(R:cE)(b e:Value)(f:PH):Prop:=iS aT aR b λg=>pP (convert aR aC9 g) λh=>pP (convert aR aC9 e) λi=>bT PG aET #[h,i] f λc j=>gC c 0 λk=>gC c 1 λd=>dV .gtr aC9 k (.int .u64 0) λa=>iD a false d j λl m=>eY a false (binOp .gtr aC9 l (.int .u64 9223372036854775807)) m λn o=>bY (eM a (.bool true) n) λp=>cQ p (pP (Instr.makeInterface aT (.string ⟨#[115,116,114,105,110,103,115,58,32,82,101,112,101,97,116,32,111,117,116,112,117,116,32,108,101,110,103,116,104,32,111,118,101,114,102,108,111,119]⟩)) λq=>False) (aG1 R b d o)
def aDX(c b:Value)(a:PH)(R:cE):Prop:=gL a .eql aR (.tmp 11) (.const (.int .i64 0)) b (.int .i64 0) λd=>cQ d (R (.string ⟨#[]⟩) a) (gL a .eql aR (.tmp 11) (.const (.int .i64 1)) b (.int .i64 1) λe=>cQ e (R c a) (dV .lss aR b (.int .i64 0) λf=>cQ f (pP (Instr.makeInterface aT (.string ⟨#[115,116,114,105,110,103,115,58,32,110,101,103,97,116,105,118,101,32,82,101,112,101,97,116,32,99,111,117,110,116]⟩)) λg=>False) (aHR R c b a)))
def aDX.call{t0 t1 h0 R}(H:aDX t0 t1 h0 R):bT PG xI #[t0,t1] h0 R:=dF (tI 38 [7,8,9] 125) Tryz.func47 H
def aDe(R:cE)(b c:Value)(a:PH):Prop:=fS b λd=>dN dH d 1 λe=>dC a cY e λf=>pP (Builtin.cap_ #[cY] aR #[f]) λg=>fS b λh=>dN dH h 1 λi=>dC a cY i λj=>iS cY aR j λk=>dV .sub aR g k λl=>dV .lss aR l c λm=>cQ m (bT PG aDd #[b,c] a λo n=>R (.tuple #[]) n) (R (.tuple #[]) a)
def qH(a b:Value)(c:PH)(R:cE):Prop:=bT PG lP #[a] c λf d=>dV .lss aR b (.int .i64 0) λe=>cQ e (pP (Instr.makeInterface aT (.string ⟨#[115,116,114,105,110,103,115,46,66,117,105,108,100,101,114,46,71,114,111,119,58,32,110,101,103,97,116,105,118,101,32,99,111,117,110,116]⟩)) λg=>False) (aDe R a b d)
def qH.ann:jY:={b:=λi=>match i with|3=>#[0,1,3,7,15,0,32,96,224,480,1023,0,4095]|_=>#[],ord:=λi=>match i with|3=>[0,1,2,3,4,5,6,7,8,9,10,11,12]|_=>[],keep:=λ_=>[],n:=25}
def qH.call{t0 t1 h0 R}(H:qH t0 t1 h0 R):bT PG zT #[t0,t1] h0 R:=dF qH.ann Tryz.func94 H
def mS(b:Value)(a:PH)(R:cE):Prop:=fS b λc=>dN dH c 0 λd=>dC a dP d λe=>gL a .eql dP (.tmp 5) (.const (.pointer none)) e (.pointer none) λf=>cQ f (cN PG (convert dP gP b) a λg h=>bT PG yP #[g] h λi j=>cN PG (convert gP dP i) j λk l=>fS b λm=>dN dH m 0 λn=>cN PG (cP dP n k) l λu o=>R (.tuple #[]) o) (fS b λp=>dN dH p 0 λq=>dC a dP q λr=>gL a .neq dP (.tmp 17) (.tmp 18) r b λs=>cQ s (False) (R (.tuple #[]) a))
def mS.call{t0 h0 R}(H:mS t0 h0 R):bT PG lP #[t0] h0 R:=dF (iX 20) Tryz.func152 H
def qF(a g:Value)(b:PH)(R:cE):Prop:=fS a λh=>dN dH h 1 λi=>dC b cY i λj=>pP (Builtin.cap_ #[cY] aR #[j]) λk=>dV .mul aR (.int .i64 2) k λl=>dV .add aR l g λm=>fS a λn=>dN dH n 1 λd=>dC b cY d λe=>iS cY aR e λo=>bT PG sY #[m] b λp c=>cD PG c (loadAt cY d)=some e∧(pP (Instr.sliceAt cY p none (some o) none) λf=>fS a λq=>dN dH q 1 λr=>dC c cY r λs=>cN PG (Builtin.copy_ #[cY,cY] aR #[f,s]) c λy u=>fS a λv=>dN dH v 1 λw=>cN PG (cP cY w f) u λz x=>R (.tuple #[]) x)
def qF.ann:jY:={b:=λi=>match i with|0=>#[0,1,3,7,15,31,0,127,255,0,512,1536,3584,7680,16383,32767]|_=>#[],ord:=λi=>match i with|0=>[0,1,2,3,4,5,6,7,9,10,11,12,13,8,14,15]|_=>[],keep:=λ_=>[],n:=30}
def qF.call{t0 t1 h0 R}(H:qF t0 t1 h0 R):bT PG aDd #[t0,t1] h0 R:=dF qF.ann Tryz.func153 H
def kA(a b:Value)(d:PH)(R:cE):Prop:=bT PG lP #[a] d λn c=>fS a λe=>dN dH e 1 λf=>dC c cY f λg=>cN PG (Builtin.append_ #[cY,aT] cY #[g,b]) c λh i=>fS a λj=>dN dH j 1 λk=>cN PG (cP cY k h) i λo l=>iS aT aR b λm=>R (.tuple #[m,Value.nilIface]) l
def kA.call{t0 t1 h0 R}(H:kA t0 t1 h0 R):bT PG jF #[t0,t1] h0 R:=dF (iX 19) Tryz.func95 H
def kB(b:Value)(a:PH)(R:cE):Prop:=fS b λf=>dN dH f 1 λg=>dC a cY g λh=>fS b λi=>dN dH i 1 λc=>dC a cY c λd=>iS cY aR d λj=>cN PG (Builtin.unsafeSliceData_ #[cY] oO #[h]) a λk e=>cD PG e (loadAt cY c)=some d∧(cN PG (Builtin.unsafeString_ #[oO,aR] aT #[k,j]) e λl m=>(R l m))
def kB.ann:jY:={b:=λi=>match i with|1=>#[0,1,3,7,15,0,32,96,224,480,1023,2047]|_=>#[],ord:=λi=>match i with|1=>[0,1,2,3,5,6,7,8,9,4,10,11]|_=>[],keep:=λ_=>[],n:=14}
def kB.call{t0 h0 R}(H:kB t0 h0 R):bT PG kX #[t0] h0 R:=dF kB.ann Tryz.func96 H
def aEL(a b:Value)(c:PH)(R:cE):Prop:=cQ (.bool false) (pP (convert aC9 fM a) λf=>pP (convert aC9 fM b) λg=>bT PG aKm #[f,g] c λd h=>gC d 0 λi=>gC d 1 λj=>pP (convert fM aC9 i) λk=>pP (convert fM aC9 j) λl=>R (.tuple #[k,l]) h) (bT PG aGl #[a,b] c λe m=>gC e 0 λn=>gC e 1 λo=>R (.tuple #[n,o]) m)
def aEL.call{t0 t1 h0 R}(H:aEL t0 t1 h0 R):bT PG aET #[t0,t1] h0 R:=dF (iX 30) Tryz.func97 H
def aCe(a b:Value)(h:PH)(R:cE):Prop:=dV .and cJ a (.int .u64 4294967295) λc=>dV .shr cJ a (.int .u64 32) λd=>dV .and cJ b (.int .u64 4294967295) λe=>dV .shr cJ b (.int .u64 32) λf=>dV .mul cJ c e λi=>dV .mul cJ d e λj=>dV .shr cJ i (.int .u64 32) λk=>dV .add cJ j k λg=>dV .and cJ g (.int .u64 4294967295) λl=>dV .shr cJ g (.int .u64 32) λm=>dV .mul cJ c f λn=>dV .add cJ l n λo=>dV .mul cJ d f λp=>dV .add cJ p m λq=>dV .shr cJ o (.int .u64 32) λr=>dV .add cJ q r λs=>dV .mul cJ a b λu=>R (.tuple #[s,u]) h
def aCe.call{t0 t1 h0 R}(H:aCe t0 t1 h0 R):bT PG aGl #[t0,t1] h0 R:=dF (iX 51) Tryz.func155 H
def zF(b:Value)(a:PH)(R:cE):Prop:=fS b λc=>dN dH c 1 λd=>dC a cY d λe=>iS cY aR e λf=>R f a
def zF.call{t0 h0 R}(H:zF t0 h0 R):bT PG qS #[t0] h0 R:=dF (iX 8) Tryz.func99 H
def aBq(c d:Value)(f:PH)(R:cE):Prop:=dV .mul aR c d λe=>yY f (Instr.makeSlice cY e e) λg a=>pE a (convert cY aT g) λh=>pP (build cO #[(0,c),(1,d),(2,h)]) λi=>∀b,a b=none->dU (PH.set a b (.cells i.cells cO)) λj=>R (pT b 0) j
def aBq.call{t0 t1 h0 R}(H:aBq t0 t1 h0 R):bT PG aCX #[t0,t1] h0 R:=dF (iX 14) Tryz.func25 H
def oN(a:Value)(c:PH)(R:cE):Prop:=fS a λh=>dN cW h 0 λi=>dC c fY i λj=>fS a λk=>dN cW k 5 λl=>dC c aR l λm=>fS a λn=>dN cW n 6 λo=>dC c cU o λp=>bT PG wT #[j,m,p] c λf q=>(gC f 0 λr=>gC f 1 λs=>fS a λu=>dN cW u 1 λv=>cN PG (cP eR v r) q λaf w=>(fS a λx=>dN cW x 2 λy=>cN PG (cP dK y s) w λag d=>(fS a λz=>dN cW z 3 λA=>dC d eJ A λB=>fS a λC=>dN cW C 5 λD=>dC d aR D λE=>fS a λF=>dN cW F 6 λG=>dC d cU G λH=>bT PG xN #[B,E,H] d λg I=>(gC g 0 λJ=>gC g 1 λK=>fS a λL=>dN cW L 4 λM=>cN PG (cP fE M J) I λah e=>(fS a λN=>dN cW N 2 λO=>dC e dK O λP=>gL e .eql aR (.tmp 48) (.tmp 49) P K λb=>iD b true a e λQ S=>eY b true (gI Q) S λU V=>eY b true (fieldAt cW U 1) V λW X=>gJ b true (loadAt eR W) X λY Z=>gJ b true (fV .eql eR (.tmp 55) (.const (.pointer none)) Y (.pointer none)) Z λa0 a1=>iD b true a a1 λa2 a3=>eY b true (gI a2) a3 λa4 a5=>eY b true (fieldAt cW a4 4) a5 λa6 a7=>gJ b true (loadAt fE a6) a7 λa8 a9=>gJ b true (fV .eql fE (.tmp 60) (.const (.pointer none)) a8 (.pointer none)) a9 λaa ab=>gJ b true (fV .eql gR (.tmp 56) (.tmp 61) a0 aa) ab λac ad=>bY (eM b ac (.bool false)) λae=>R ae ad)))))
def oN.ann:jY:={b:=λi=>match i with|2=>#[0,0,0,4,12,28,0,64,192,448,0,1024,3072,7168,16380,32764,65532,65532,131069,393213,917501,2097151,4194303,8388607]|3=>#[0,0,2,6,14,0,32,96,224,0,512,1536,3584,8190,16382,32766,32766,65535,196607,458751,1048575]|4=>#[0,1,3,7,0,31,63,127,255,511,1023,2047,127,4223,12415,28799,61567,131071,262143,524287]|_=>#[],ord:=λi=>match i with|2=>[0,1,2,3,4,5,6,7,8,9,10,11,12,13,14,15,16,17,18,19,20,21,22,23]|3=>[0,1,2,3,4,5,6,7,8,9,10,11,12,13,14,15,16,17,18,19,20]|4=>[0,1,2,3,4,5,6,7,8,9,10,11,12,13,14,15,16,17,18,19]|_=>[],keep:=λ_=>[],n:=64}
def oN.call{t0 h0 R}(H:oN t0 h0 R):bT PG jR #[t0] h0 R:=dF oN.ann Tryz.func10 H
def aB6(R:cE)(g c d:Value)(e:PH):Prop:=dC e bR c λh=>bT PG aB0 #[h] e λi j=>bT PG wS #[d,i] j λf a=>gL a .neq dK (.tmp 47) (.const (.int .i64 0)) f (.int .i64 0) λk=>cQ k (R (.tuple #[.pointer none,f]) a) (dC a bR c λl=>pP (build fX #[(0,d),(1,g),(2,l)]) λm=>∀b,a b=none->dU (PH.set a b (.cells m.cells fX)) λn=>R (.tuple #[pT b 0,.int .i64 0]) n)
def aFk(q b r:Value)(i:PH)(R:cE):Prop:=∀d,i d=none->dU (PH.set i d (.cells r.cells cU)) λe=>dC e cU (pT d 0) λs=>pP (build bR #[(0,s)]) λu=>∀a,e a=none->dU (PH.set e a (.cells (dJ PG bR) bR)) λv=>cN PG (cP bR (pT a 0) u) v λE j=>dC j bR (pT a 0) λw=>bT PG wJ #[w,b] j λk f=>gL f .neq dK (.tmp 19) (.const (.int .i64 0)) k (.int .i64 0) λx=>cQ x (R (.tuple #[.pointer none,k]) f) (bT PG aI1 #[q] f λg c=>gC g 0 λl=>gC g 1 λm=>gC g 2 λn=>gL c .neq dK (.tmp 28) (.const (.int .i64 0)) n (.int .i64 0) λy=>cQ y (R (.tuple #[.pointer none,n]) c) (iS dD aR m λz=>dV .gtr aR z (.int .i64 0) λA=>cQ A (bT PG aEX #[b,m] c λo B=>gC o 0 λC=>gC o 1 λp=>cN PG (cP bR (pT a 0) C) B λF h=>gL h .neq dK (.tmp 40) (.const (.int .i64 0)) p (.int .i64 0) λD=>cQ D (R (.tuple #[.pointer none,p]) h) (aB6 R b (pT a 0) l h)) (aB6 R b (pT a 0) l c)))
def aFk.call{t0 t1 t2 h0 R}(H:aFk t0 t1 t2 h0 R):bT PG wT #[t0,t1,t2] h0 R:=dF (iX 55) Tryz.func11 H
def aBa(m n:Value)(d:PH)(R:cE):Prop:=∀a,d a=none->dU (PH.set d a (.cells m.cells bR)) λe=>dN bR (pT a 0) 1 λo=>dC e bZ o λp=>bT PG aGU #[n,p] e λf q=>gC f 0 λr=>gC f 1 λc=>dN bR (pT a 0) 0 λs=>pP (Instr.sliceAt cU s none none none) λu=>bT PG mG #[u,(.func (Fn.func tA) #[] #[])] q λv g=>gL g .eql dK (.tmp 19) (.const (.int .i64 1)) c (.int .i64 1) λh=>iD h false v g λw b=>bY (eM h (.bool true) w) λx=>cQ x (R (.int .i64 1) b) (gL b .neq dK (.tmp 25) (.const (.int .i64 0)) c (.int .i64 0) λy=>cQ y (R c b) (dN bR (pT a 0) 1 λi=>dC b bZ i λj=>bT PG xV #[r] b λz k=>cD PG k (loadAt bZ i)=some j∧(bT PG pO #[z,j] k λA l=>(pP (Op.unary .not A) λB=>cQ B (R (.int .i64 15) l) (R (.int .i64 0) l)))))
def aBa.ann:jY:={b:=λi=>match i with|7=>#[0,1,0,4,15,31,63]|_=>#[],ord:=λi=>match i with|7=>[0,2,3,1,4,5,6]|_=>[],keep:=λ_=>[],n:=35}
def aBa.call{t0 t1 h0 R}(H:aBa t0 t1 h0 R):bT PG wJ #[t0,t1] h0 R:=dF aBa.ann Tryz.func27 H
def aLv(R:cE)(u:gH)(n o g j p q k:Value)(b:PH):Prop:=dV .lss aR k q λv=>cQ v (nO bZ p k λw=>dC b cF w λx=>∀a,b a=none->dU (PH.set b a (.cells (dJ PG cF) cF)) λy=>cN PG (cP cF (pT a 0) x) y λak l=>dN cF (pT a 0) 1 λz=>dC l aR z λA=>gL l .neq aR (.tmp 29) (.const (.int .i64 1)) A (.int .i64 1) λh=>eY h true (fieldAt cF (pT a 0) 1) l λB C=>gJ h true (loadAt aR B) C λD E=>gJ h true (fV .neq aR (.tmp 33) (.const (.int .i64 2)) D (.int .i64 2)) E λF G=>bY (eM h F (.bool false)) λc=>eY c false (fieldAt cF (pT a 0) 0) G λH I=>gJ c false (loadAt bX H) I λJ r=>eZ (yV c) false (λK=>bT PG vR #[J] r λL M=>K L M) r λN O=>gJ c false (fV .neq dK (.tmp 39) (.const (.int .i64 0)) N (.int .i64 0)) O λP d=>bY (eM c (.bool true) P) λQ=>cQ Q (R (.tuple #[.pointer none,.int .i64 1]) d) (dN cF (pT a 0) 0 λS=>dN bX S 0 λU=>dC d aR U λV=>dN cF (pT a 0) 0 λW=>dN bX W 1 λX=>dC d cJ X λY=>pP (build fQ #[(0,V),(1,Y)]) λZ=>∀e,d e=none->dU (PH.set d e (.cells (dJ PG fQ) fQ)) λa0=>cN PG (cP fQ (pT e 0) Z) a0 λal f=>fS g λa1=>dN gK a1 0 λa2=>dC f dO a2 λa3=>dC f fQ (pT e 0) λa4=>pE f (Instr.lookup dO a3 a4 true) λs=>gC s 0 λa5=>gC s 1 λa6=>∀m,f m=none->dU (PH.set f m (.cells (dJ PG cF) cF)) λa7=>cN PG (cP cF (pT m 0) a5) a7 λam a8=>(iD j false a6 a8 λa9 i=>bY (eM j (.bool true) a9) λaa=>fS g λab=>dN gK ab 0 λac=>dC i dO ac λad=>dC i fQ (pT e 0) λae=>dC i cF (pT a 0) λaf=>cN PG (aJM dO ad ae af) i λan ag=>(dV .add aR k (.int .i64 1) λah=>u [n,o,g,aa,p,q,ah] ag)))) (cQ j (R (.tuple #[.pointer none,.int .i64 4]) b) (iS bZ aR o λai=>dV .gtr aR ai n λaj=>cQ aj (R (.tuple #[.pointer none,.int .i64 2]) b) (R (.tuple #[g,.int .i64 0]) b)))
def aF5(c a:Value)(f:PH)(R:cE):Prop:=bT PG aIL #[c] f λd b=>gC d 0 λg=>gC d 1 λe=>gL b .neq dK (.tmp 19) (.const (.int .i64 0)) e (.int .i64 0) λi=>cQ i (R (.tuple #[.pointer none,e]) b) (iS bZ aR a λj=>hC [0,1,6,8,22,23,24] (λk ρ h=>aLv R k (ρ 0) (ρ 1) (ρ 6) (ρ 8) (ρ 22) (ρ 23) (ρ 24) h) [c,a,g,.bool false,a,j,.int .i64 0] b)
def aF5.ann:jY:={b:=λi=>match i with|11=>#[0,1,3,7,0,31,63,127,127,0,767,2047]|13=>#[0,1,3,7,0,0,63]|_=>#[],ord:=λi=>match i with|11=>[0,1,2,3,4,5,6,7,8,9,10,11]|13=>[0,1,2,3,4,5,6]|_=>[],keep:=λi=>match i with|6=>[0,1,6,8,22,23,24]|_=>[],n:=77}
def aF5.call{t0 t1 h0 R}(H:aF5 t0 t1 h0 R):bT PG aGU #[t0,t1] h0 R:=dF aF5.ann Tryz.func52 H
def aIi(a:Value)(f:PH)(R:cE):Prop:=dV .lss aR a (.int .i64 1) λb=>iD b false a f λg h=>eY b false (binOp .gtr aR g (.int .i64 40)) h λi d=>bY (eM b (.bool true) i) λj=>cQ j (R (.tuple #[.pointer none,.int .i64 1]) d) (yY d (Instr.makeMap dO none) λk e=>pP (build gK #[(0,k),(1,a)]) λl=>∀c,e c=none->dU (PH.set e c (.cells l.cells gK)) λm=>R (.tuple #[pT c 0,.int .i64 0]) m)
def aIi.call{t0 h0 R}(H:aIi t0 h0 R):bT PG aIL #[t0] h0 R:=dF (iX 14) Tryz.func112 H
def aFn(i:Value)(f:PH)(R:cE):Prop:=∀a,f a=none->dU (PH.set f a (.cells i.cells bX)) λg=>dN bX (pT a 0) 0 λj=>dC g aR j λk=>dV .lss aR k (.int .i64 0) λc=>eY c false (fieldAt bX (pT a 0) 0) g λl m=>gJ c false (loadAt aR l) m λn o=>eY c false (binOp .gtr aR n (.int .i64 1)) o λp q=>bY (eM c (.bool true) p) λd=>eY d false (fieldAt bX (pT a 0) 1) q λr s=>gJ d false (loadAt cJ r) s λu v=>gJ d false (fV .eql cJ (.tmp 13) (.const (.int .u64 0)) u (.int .u64 0)) v λw x=>bY (eM d (.bool true) w) λe=>eY e false (fieldAt bX (pT a 0) 2) x λy z=>gJ e false (loadAt cJ y) z λA B=>gJ e false (fV .eql cJ (.tmp 18) (.const (.int .u64 0)) A (.int .u64 0)) B λC D=>bY (eM e (.bool true) C) λb=>eY b false (fieldAt bX (pT a 0) 3) D λE F=>gJ b false (loadAt aT E) F λG H=>eY b false (Builtin.len_ #[aT] aR #[G]) H λI J=>eY b false (binOp .gtr aR I (.int .i64 64)) J λK h=>bY (eM b (.bool true) K) λL=>cQ L (R (.int .i64 1) h) (R (.int .i64 0) h)
def aFn.call{t0 h0 R}(H:aFn t0 h0 R):bT PG vR #[t0] h0 R:=dF (iX 27) Tryz.func113 H
def lK(a b:Value)(c:PH)(R:cE):Prop:=bT PG rY #[a,b] c λd e=>dV .geq aR d (.int .i64 0) λf=>R f e
def lK.call{t0 t1 h0 R}(H:lK t0 t1 h0 R):bT PG mG #[t0,t1] h0 R:=dF (iX 9) Tryz.func53 H
def sD(R:cE)(g:gH)(c d e a:Value)(b:PH):Prop:=dV .lss aR a e λh=>cQ h (nO yH c a λi=>dC b cG i λj=>zI PG d #[j] b λk f=>cQ k (R a f) (dV .add aR a (.int .i64 1) λl=>g [c,d,e,l] f)) (R (.int .i64 (-1)) b)
def lR(a b:Value)(c:PH)(R:cE):Prop:=iS yH aR a λd=>hC [0,1,7,8] (λe ρ h=>sD R e (ρ 0) (ρ 1) (ρ 7) (ρ 8) h) [a,b,d,.int .i64 0] c
def lR.call{t0 t1 h0 R}(H:lR t0 t1 h0 R):bT PG rY #[t0,t1] h0 R:=dF (tI 2 [0,1,7,8] 19) Tryz.func114 H
def aDJ(e:Value)(c:PH)(R:cE):Prop:=∀a,c a=none->dU (PH.set c a (.cells e.cells cG)) λd=>dN cG (pT a 0) 1 λf=>dC d aR f λg=>dV .lss aR g (.int .i64 0) λb=>eY b false (fieldAt cG (pT a 0) 1) d λh i=>gJ b false (loadAt aR h) i λj k=>eY b false (binOp .gtr aR j (.int .i64 65535)) k λl m=>bY (eM b (.bool true) l) λn=>R n m
def aDJ.call{t0 h0 R}(H:aDJ t0 h0 R):bT PG tA #[t0] h0 R:=dF (iX 11) Tryz.func54 H
def vK(R:cE)(f:gH)(c d e b:Value)(a:PH):Prop:=dV .lss aR b e λg=>cQ g (nO bZ c b λh=>dC a cF h λi=>nO bZ d b λj=>dC a cF j λk=>gL a .neq cF (.tmp 19) (.tmp 23) i k λl=>cQ l (R (.bool false) a) (dV .add aR b (.int .i64 1) λm=>f [c,d,e,m] a)) (R (.bool true) a)
def kO(a c:Value)(b:PH)(R:cE):Prop:=iS bZ aR a λd=>iS bZ aR c λe=>gL b .neq aR (.tmp 7) (.tmp 9) d e λf=>cQ f (R (.bool false) b) (iS bZ aR a λg=>hC [0,1,12,13] (λi ρ h=>vK R i (ρ 0) (ρ 1) (ρ 12) (ρ 13) h) [a,c,g,.int .i64 0] b)
def kO.ann:jY:={b:=λi=>match i with|6=>#[0,0,3,7,0,0,48,112,255]|_=>#[],ord:=λi=>match i with|6=>[0,1,2,3,4,5,6,7,8]|_=>[],keep:=λi=>match i with|4=>[0,1,12,13]|_=>[],n:=26}
def kO.call{t0 t1 h0 R}(H:kO t0 t1 h0 R):bT PG pO #[t0,t1] h0 R:=dF kO.ann Tryz.func55 H
def aA3(e:Value)(b:PH)(R:cE):Prop:=fS e λf=>dN gK f 0 λg=>dC b dO g λh=>bT PG lE #[h] b λi j=>bT PG xA #[i] j λa k=>bT PG oD #[a,(.func (Fn.func qU) #[] #[])] k λo l=>iS bZ aR a λc=>yY l (Instr.makeSlice bZ c c) λd m=>cN PG (Builtin.copy_ #[bZ,bZ] aR #[d,a]) m λp n=>R d n
def aA3.call{t0 h0 R}(H:aA3 t0 h0 R):bT PG xV #[t0] h0 R:=dF (iX 20) Tryz.func56 H
def tR(a:Value)(b:PH)(R:cE):Prop:=bT PG oA #[(.slice none 0 0),a] b λc d=>R c d
def tR.call{t0 h0 R}(H:tR t0 h0 R):bT PG xA #[t0] h0 R:=dF (iX 5) Tryz.func115 H
noncomputable def gX:Code:=((yR (aCH Tryz.f166)).getD 0 (.skip,.skip)).1
noncomputable def gS:Code:=((yR (aCH Tryz.f166)).getD 0 (.skip,.skip)).2
def iK(kv:cE)(l:Nat)(c e:Value)(d:PH):Prop:=∀a,d a=none->dU (PH.set d a (.cells (dJ PG cF) cF)) λf=>cN PG (cP cF (pT a 0) e) f λp g=>cN PG (Instr.beginRound l) g λ_ b=>dC b bZ c λh=>dC b cF (pT a 0) λi=>yY b (buildSlice bZ 1 #[(0,i)]) λj k=>cN PG (Builtin.append_ #[bZ,bZ] bZ #[h,j]) k λm n=>cN PG (cP bZ c m) n λq o=>cN PG (Instr.endRound l none) o kv
def lZ(d e:Value)(b:PH)(R:cE):Prop:=∀a,b a=none->dU (PH.set b a (.cells d.cells bZ)) λf=>aDv PG 13 e #[7] gX gS (λc=>dC c bZ (pT a 0) λg=>R g c) (λh=>R (.slice none 0 0) h) [] [(2,(pT a 0))] f
def lZ.call{t0 t1 h0 R}(H:lZ t0 t1 h0 R):bT PG oA #[t0,t1] h0 R:=dF (tI 3 [2] 13) Tryz.func166 H
def iK.eq(kv:cE)(l:Nat)(ρ:kS)(h0:PH):aNI PG (tI 3 [2] 13) 200 l gX gS kv ρ h0=iK kv l (ρ 2) (ρ 7) h0:=by kernel_rfl
def iK.next{kv:cE}{l:Nat}{f:FuncId}{tmps:Array Value}{h0:PH}(hs:tmps.size=13)(H:iK kv l (tmps.getD 2 undef) (tmps.getD 7 undef) h0):sH PG (.round l f tmps gX gS) h0 kv:=
 aOh (tI 3 [2] 13) 200 mix hs (by kernel_rfl) (by kernel_rfl) (iK.eq kv l (λt=>tmps.getD t undef) h0) H
def jP(c:Value)(b:PH)(R:cE):Prop:=∀a,b a=none->dU (PH.set b a (.cells c.cells dO)) λd=>pP (Instr.makeFunc (Fn.func gQ) #[] #[pT a 0]) λe=>R e d
def jP.call{t0 h0 R}(H:jP t0 h0 R):bT PG lE #[t0] h0 R:=dF (iX 4) Tryz.func116 H
def nJ(R:cE)(h:gH)(c b:Value)(i:PH):Prop:=cN PG (Instr.next b false T_) i λj d=>gC j 0 λk=>cQ k (cN PG (Instr.entry b) d λl e=>gC l 1 λm=>∀a,e a=none->dU (PH.set e a (.cells (dJ PG cF) cF)) λn=>cN PG (cP cF (pT a 0) m) n λr f=>dC f cF (pT a 0) λo=>zI PG c #[o] f λp g=>pP (Op.unary .not p) λq=>cQ q (R (.tuple #[]) g) (h [c,b] g)) (R (.tuple #[]) d)
def jH(b c:Value)(a:PH)(R:cE):Prop:=dC a dO c λd=>cN PG (Instr.range dO d) a λe f=>hC [0,6] (λg ρ h=>nJ R g (ρ 0) (ρ 6) h) [b,e] f
def jH.call{t0 t1 h0 R}(H:jH t0 t1 h0 R):bT PG gQ #[t0,t1] h0 R:=dF (tI 1 [0,6] 15) Tryz.func167 H
def qQ(k l:Value)(e:PH)(R:cE):Prop:=∀b,e b=none->dU (PH.set e b (.cells k.cells cF)) λf=>∀c,f c=none->dU (PH.set f c (.cells l.cells cF)) λa=>dN cF (pT b 0) 0 λm=>dN bX m 0 λn=>dC a aR n λo=>dN cF (pT c 0) 0 λp=>dN bX p 0 λq=>dC a aR q λr=>dN cF (pT b 0) 0 λs=>dN bX s 1 λg=>dC a cJ g λh=>dN cF (pT c 0) 0 λu=>dN bX u 1 λi=>dC a cJ i λj=>bT PG aC8 #[o,r] a λv d=>cD PG d (loadAt cJ i)=some j∧cD PG d (loadAt cJ g)=some h∧(bT PG aBU #[h,j] d λw x=>(yY x (buildSlice mD 2 #[(0,v),(1,w)]) λy z=>bT PG aHI #[y] z λA B=>(R A B)))
def qQ.ann:jY:={b:=λi=>match i with|1=>#[0,1,3,0,8,24,63,0,128,384,0,1024,3072,8191,16383,32767,65535]|_=>#[],ord:=λi=>match i with|1=>[0,1,2,3,4,5,7,8,9,10,11,12,6,13,14,15,16]|_=>[],keep:=λ_=>[],n:=21}
def qQ.call{t0 t1 h0 R}(H:qQ t0 t1 h0 R):bT PG qU #[t0,t1] h0 R:=dF qQ.ann Tryz.func118 H
def aKL(R:cE)(g:gH)(b d e c:Value)(a:PH):Prop:=dV .lss aR c e λh=>cQ h (nO mD d c λi=>dC a aR i λf=>gL a .neq aR (.tmp 12) (.tmp 13) f b λj=>cQ j (R f a) (dV .add aR c (.int .i64 1) λk=>g [b,d,e,k] a)) (R b a)
def aHc(a:Value)(b:PH)(R:cE):Prop:=iS mD aR a λc=>hC [3,6,7,8] (λd ρ h=>aKL R d (ρ 3) (ρ 6) (ρ 7) (ρ 8) h) [(.int .i64 0),a,c,.int .i64 0] b
def aHc.call{t0 h0 R}(H:aHc t0 h0 R):bT PG aHI #[t0] h0 R:=dF (tI 3 [3,6,7,8] 18) Tryz.func119 H
def aCx(b c:Value)(e:PH)(R:cE):Prop:=bT PG aCC #[b] e λf g=>bT PG aCC #[c] g λd a=>cQ f (cQ d (R (.int .i64 0) a) (R (.int .i64 (-1)) a)) (cQ d (R (.int .i64 1) a) (dV .lss aR b c λh=>cQ h (R (.int .i64 (-1)) a) (dV .gtr aR b c λi=>cQ i (R (.int .i64 1) a) (R (.int .i64 0) a))))
def aCx.call{t0 t1 h0 R}(H:aCx t0 t1 h0 R):bT PG aC8 #[t0,t1] h0 R:=dF (iX 20) Tryz.func120 H
def aED(a:Value)(b:PH)(R:cE):Prop:=gL b .neq aR (.tmp 3) (.tmp 4) a a λc=>R c b
def aED.call{t0 h0 R}(H:aED t0 h0 R):bT PG aCC #[t0] h0 R:=dF (iX 6) Tryz.func170 H
def aAk(b c:Value)(e:PH)(R:cE):Prop:=bT PG zO #[b] e λf g=>bT PG zO #[c] g λd a=>cQ f (cQ d (R (.int .i64 0) a) (R (.int .i64 (-1)) a)) (cQ d (R (.int .i64 1) a) (dV .lss cJ b c λh=>cQ h (R (.int .i64 (-1)) a) (dV .gtr cJ b c λi=>cQ i (R (.int .i64 1) a) (R (.int .i64 0) a))))
def aAk.call{t0 t1 h0 R}(H:aAk t0 t1 h0 R):bT PG aBU #[t0,t1] h0 R:=dF (iX 20) Tryz.func121 H
def aBl(a:Value)(b:PH)(R:cE):Prop:=gL b .neq cJ (.tmp 3) (.tmp 4) a a λc=>R c b
def aBl.call{t0 h0 R}(H:aBl t0 h0 R):bT PG zO #[t0] h0 R:=dF (iX 6) Tryz.func171 H
def aFl(R:cE)(t0:Value)(t5:Value)(h0:PH):Prop:=
 bY (cB PG (gI t0)) λv84=>
 bY (cB PG (fieldAt dW v84 0)) λv85=>
 bY (cD PG h0 (loadAt dZ v85)) λv86=>
 bY (cB PG (gI t5)) λv87=>
 bY (cB PG (fieldAt dT v87 1)) λv88=>
 bY (cB PG (fieldAt cM v88 0)) λv89=>
 bY (cD PG h0 (loadAt cJ v89)) λv90=>
 bY (cB PG (gI t5)) λv91=>
 bY (cB PG (fieldAt dT v91 0)) λv92=>
 bY (cD PG h0 (loadAt dY v92)) λv93=>
 bY (cB PG (gI t5)) λv94=>
 bY (cB PG (fieldAt dT v94 0)) λv95=>
 bY (cD PG h0 (loadAt dY v95)) λv96=>
 bY (cB PG (gI t5)) λv97=>
 bY (cB PG (fieldAt dT v97 1)) λv98=>
 bY (cB PG (fieldAt cM v98 1)) λv99=>
 bY (cD PG h0 (loadAt aR v99)) λv100=>
 bY (cB PG (gI t5)) λv101=>
 bY (cB PG (fieldAt dT v101 0)) λv102=>
 bY (cD PG h0 (loadAt dY v102)) λv103=>
 bT PG kP #[v86] h0 λv104 h105=>
 cD PG h105 (loadAt dY v102)=some v103∧cD PG h105 (loadAt aR v99)=some v100∧cD PG h105 (loadAt dY v95)=some v96∧cD PG h105 (loadAt dY v92)=some v93∧cD PG h105 (loadAt cJ v89)=some v90∧(bT PG xL #[v96,v100] h105 λv106 h107=>
 cD PG h107 (loadAt dY v102)=some v103∧cD PG h107 (loadAt dY v92)=some v93∧cD PG h107 (loadAt cJ v89)=some v90∧(bT PG qD #[v103] h107 λv108 h109=>
 cD PG h109 (loadAt dY v92)=some v93∧cD PG h109 (loadAt cJ v89)=some v90∧(bT PG xH #[v93,v106,v108] h109 λv110 h111=>
 cD PG h111 (loadAt cJ v89)=some v90∧(bT PG aHG #[v104,v90,v110] h111 λv112 h113=>
 (bY (cB PG (extract v112 0)) λv114=>
 bY (cB PG (extract v112 1)) λv115=>
 bY (cB PG (Builtin.len_ #[dD] aR #[v114])) λv116=>
 bY (cB PG (convert aR cJ v116)) λv117=>
 bY (cB PG (gI t5)) λv118=>
 bY (cB PG (fieldAt dT v118 3)) λv119=>
 cN PG (cP aR v119 v115) h113 λv120 h121=>
 bY (cB PG (gI t5)) λv122=>
 bY (cB PG (fieldAt dT v122 4)) λv123=>
 cN PG (cP cJ v123 v117) h121 λv124 h125=>
 R (Value.tuple #[t5,v114,(Value.int IntKind.i64 0)]) h125)))))
def aGH(t0:Value)(h0:PH)(R:cE):Prop:=
 bY (cB PG (build dY #[(0,t0)])) λv1=>
 bY (cB PG (build dT #[(0,v1)])) λv2=>
 ∀r3,h0 r3=none->dU (PH.set h0 r3 (.cells (Value.cells v2) dT)) λh4=>
 bY (cB PG (gI t0)) λv5=>
 bY (cB PG (fieldAt dW v5 0)) λv6=>
 bY (cD PG h4 (loadAt dZ v6)) λv7=>
 bT PG sX #[v7] h4 λv8 h9=>
 bY (cB PG (binOp BinOp.lss aR v8 (Value.int IntKind.i64 4))) λv10=>
 cQ v10
 (R (Value.tuple #[(Value.pointer none),(Value.slice none 0 0),(Value.int IntKind.i64 1)]) h9)
 (bT PG aAH #[t0] h9 λv11 h12=>
 bY (cD PG h12 (fV BinOp.neq dK (.tmp 24) (.const (Value.int IntKind.i64 0)) v11 (Value.int IntKind.i64 0))) λv13=>
 cQ v13
 (R (Value.tuple #[(Value.pointer none),(Value.slice none 0 0),v11]) h12)
 (bY (cB PG (gI t0)) λv14=>
 bY (cB PG (fieldAt dW v14 0)) λv15=>
 bY (cD PG h12 (loadAt dZ v15)) λv16=>
 bY (cB PG (gI (pT r3 0))) λv17=>
 bY (cB PG (fieldAt dT v17 0)) λv18=>
 bY (cD PG h12 (loadAt dY v18)) λv19=>
 bY (cB PG (gI (pT r3 0))) λv20=>
 bY (cB PG (fieldAt dT v20 0)) λv21=>
 bY (cD PG h12 (loadAt dY v21)) λv22=>
 bT PG kP #[v16] h12 λv23 h24=>
 cD PG h24 (loadAt dY v21)=some v22∧cD PG h24 (loadAt dY v18)=some v19∧(bT PG xH #[v19,(Value.int IntKind.i64 0),(Value.int IntKind.i64 1)] h24 λv25 h26=>
 cD PG h26 (loadAt dY v21)=some v22∧(bT PG xH #[v22,(Value.int IntKind.i64 1),(Value.int IntKind.i64 1)] h26 λv27 h28=>
 (bY (kC PG (buildSlice dD 2 #[(0,v25),(1,v27)])) λx30=>∀r29,h28 r29=none->bY (cB PG (x30.2 r29)) λv31=>dU (PH.set h28 r29 x30.1) λh32=>
 bT PG aGM #[v23,v31] h32 λv33 h34=>
 (bY (cB PG (extract v33 0)) λv35=>
 bY (cB PG (extract v33 1)) λv36=>
 bY (cB PG (gI (pT r3 0))) λv37=>
 bY (cB PG (fieldAt dT v37 1)) λv38=>
 cN PG (cP cM v38 v35) h34 λv39 h40=>
 (bY (cB PG (gI (pT r3 0))) λv41=>
 bY (cB PG (fieldAt dT v41 2)) λv42=>
 cN PG (cP aR v42 v36) h40 λv43 h44=>
 (bY (cB PG (gI (pT r3 0))) λv45=>
 bY (cB PG (fieldAt dT v45 2)) λv46=>
 bY (cD PG h44 (loadAt aR v46)) λv47=>
 bY (cB PG (binOp BinOp.lss aR v47 (Value.int IntKind.i64 0))) λv48=>
 cQ v48
 (bY (cB PG (build cM #[(0,(Value.int IntKind.u64 1))])) λv49=>
 bY (cB PG (gI (pT r3 0))) λv50=>
 bY (cB PG (fieldAt dT v50 1)) λv51=>
 cN PG (cP cM v51 v49) h44 λv52 h53=>
 bY (cB PG (gI (pT r3 0))) λv54=>
 bY (cB PG (fieldAt dT v54 2)) λv55=>
 cN PG (cP aR v55 (Value.int IntKind.i64 1)) h53 λv56 h57=>
 bY (cB PG (gI t0)) λv58=>
 bY (cB PG (fieldAt dW v58 0)) λv59=>
 bY (cD PG h57 (loadAt dZ v59)) λv60=>
 bY (cB PG (gI (pT r3 0))) λv61=>
 bY (cB PG (fieldAt dT v61 1)) λv62=>
 bY (cD PG h57 (loadAt cM v62)) λv63=>
 bT PG kP #[v60] h57 λv64 h65=>
 cD PG h65 (loadAt cM v62)=some v63∧(bT PG aDx #[v64,v63] h65 λv66 h67=>
 (bY (cB PG (extract v66 0)) λv68=>
 bY (cB PG (extract v66 1)) λv69=>
 bY (cB PG (gI (pT r3 0))) λv70=>
 bY (cB PG (fieldAt dT v70 0)) λv71=>
 bY (cD PG h67 (loadAt dY v71)) λv72=>
 bY (cB PG (gI (pT r3 0))) λv73=>
 bY (cB PG (fieldAt dT v73 2)) λv74=>
 bY (cD PG h67 (loadAt aR v74)) λv75=>
 bY (kC PG (buildSlice dD 1 #[(0,v68)])) λx77=>∀r76,h67 r76=none->bY (cB PG (x77.2 r76)) λv78=>dU (PH.set h67 r76 x77.1) λh79=>
 bT PG uI #[v72,v75,v78] h79 λv80 h81=>
 (bY (cD PG h81 (fV BinOp.neq dK (.tmp 89) (.const (Value.int IntKind.i64 0)) v80 (Value.int IntKind.i64 0))) λv82=>
 cQ v82
 (R (Value.tuple #[(Value.pointer none),(Value.slice none 0 0),v80]) h81)
 (aFl R t0 (pT r3 0) h81)))))
 (aFl R t0 (pT r3 0) h44)))))))))
def aGH.ann:jY:={b:=λi=>match i with|7=>#[0,0,0,4,12,28,60,0,128,384,896,2044,0,4096,12288,28672,65532,131068,262140,524284,1048572,1048572,2097149,6291453,14680061,33554431,67108863,134217727]|10=>#[0,1,3,7,15,0,32,96,224,511,1023,2047,2047,4095,16383]|11=>#[0,1,3,7,0,16,48,112,0,256,1023,2047]|14=>#[0,1,3,7,15,0,32,96,224,480,0,1024,3072,7168,0,16384,49152,114688,0,262144,786432,1835008,3932160,8372255,0,16777216,50331648,117440512,268419103,536869919,1073741823,2147483647,4294967295,4294967295,8589934591,34359738367]|_=>#[],ord:=λi=>match i with|7=>[0,1,2,3,4,5,7,8,9,10,12,13,14,15,6,11,16,17,18,19,20,21,22,23,24,25,26,27]|10=>[0,1,2,3,5,6,7,8,4,9,10,11,12,13,14]|11=>[0,1,2,3,4,5,6,7,8,9,10,11]|14=>[0,1,2,3,5,6,7,8,9,10,11,12,13,14,15,16,17,18,19,20,21,22,24,25,26,27,4,23,28,29,30,31,32,33,34,35]|_=>[],keep:=λ_=>[],n:=138}
def aGH.call{t0 h0 R}(H:aGH t0 h0 R):bT PG aI1 #[t0] h0 R:=dF aGH.ann Tryz.func28 H
def wI(t0:Value)(h0:PH)(R:cE):Prop:=
 ∀r1,h0 r1=none->dU (PH.set h0 r1 (.cells (Value.cells t0) dZ)) λh2=>
 bY (cB PG (fieldAt dZ (pT r1 0) 1)) λv3=>
 bY (cD PG h2 (loadAt aR v3)) λv4=>
 R v4 h2
def wI.call{t0 h0 R}(H:wI t0 h0 R):bT PG sX #[t0] h0 R:=dF (iX 5) Tryz.func57 H
def aGw(R:cE)(n7:gH)(t0:Value)(t10:Value)(t11:Value)(t12:Value)(h0:PH):Prop:=
 bY (cB PG (binOp BinOp.lss aR t12 t11)) λv9=>
 cQ v9
 (bY (cB PG (indexAt eK t10 t12)) λv10=>
 bY (cD PG h0 (loadAt dX v10)) λv11=>
 ∀r12,h0 r12=none->dU (PH.set h0 r12 (.cells (dJ PG dX) dX)) λh13=>
 cN PG (cP dX (pT r12 0) v11) h13 λv14 h15=>
 bY (cB PG (gI t0)) λv16=>
 bY (cB PG (fieldAt dW v16 1)) λv17=>
 bY (cD PG h15 (loadAt dD v17)) λv18=>
 bY (cB PG (fieldAt dX (pT r12 0) 0)) λv19=>
 bY (cD PG h15 (loadAt aR v19)) λv20=>
 bY (cB PG (fieldAt dX (pT r12 0) 1)) λv21=>
 bY (cD PG h15 (loadAt aT v21)) λv22=>
 bY (cB PG (indexAt dD v18 v20)) λv23=>
 cN PG (cP aT v23 v22) h15 λv24 h25=>
 (bY (cB PG (binOp BinOp.add aR t12 (Value.int IntKind.i64 1))) λv26=>
 n7 [t0,t10,t11,v26] h25))
 (bY (cB PG (gI t0)) λv27=>
 bY (cB PG (fieldAt dW v27 2)) λv28=>
 cN PG (cP eK v28 (Value.slice none 0 0)) h0 λv29 h30=>
 R (Value.int IntKind.i64 0) h30)
def vS(t0:Value)(h0:PH)(R:cE):Prop:=
 bT PG aAS #[t0] h0 λv1 h2=>
 cQ v1
 (R (Value.int IntKind.i64 13) h2)
 (bY (cB PG (gI t0)) λv3=>
 bY (cB PG (fieldAt dW v3 2)) λv4=>
 bY (cD PG h2 (loadAt eK v4)) λv5=>
 bY (cB PG (Builtin.len_ #[eK] aR #[v5])) λv6=>
 hC [0,10,11,12] (λn7 ρ h=>aGw R n7 (ρ 0) (ρ 10) (ρ 11) (ρ 12) h) [t0,v5,v6,(Value.int IntKind.i64 0)] h2)
def vS.ann:jY:={b:=λi=>match i with|6=>#[0,1,3,7,0,16,0,64,255,511]|_=>#[],ord:=λi=>match i with|6=>[0,1,2,3,4,5,6,7,8,9]|_=>[],keep:=λi=>match i with|4=>[0,10,11,12]|_=>[],n:=29}
def vS.call{t0 h0 R}(H:vS t0 h0 R):bT PG aAH #[t0] h0 R:=dF vS.ann Tryz.func58 H
def aCc(t0:Value)(h0:PH)(R:cE):Prop:=
 bY (cB PG (gI t0)) λv1=>
 bY (cB PG (fieldAt dW v1 3)) λv2=>
 bY (cD PG h0 (loadAt aR v2)) λv3=>
 bY (cD PG h0 (fV BinOp.eql aR (.tmp 6) (.const (Value.int IntKind.i64 0)) v3 (Value.int IntKind.i64 0))) λv4=>
 cQ v4
 (R (Value.bool false) h0)
 (bY (cB PG (gI t0)) λv5=>
 bY (cB PG (fieldAt dW v5 3)) λv6=>
 bY (cD PG h0 (loadAt aR v6)) λv7=>
 bY (cB PG (binOp BinOp.sub aR v7 (Value.int IntKind.i64 1))) λv8=>
 bY (cB PG (gI t0)) λv9=>
 bY (cB PG (fieldAt dW v9 3)) λv10=>
 cN PG (cP aR v10 v8) h0 λv11 h12=>
 bY (cB PG (gI t0)) λv13=>
 bY (cB PG (fieldAt dW v13 3)) λv14=>
 bY (cD PG h12 (loadAt aR v14)) λv15=>
 bY (cD PG h12 (fV BinOp.eql aR (.tmp 18) (.const (Value.int IntKind.i64 0)) v15 (Value.int IntKind.i64 0))) λv16=>
 R v16 h12)
def aCc.call{t0 h0 R}(H:aCc t0 h0 R):bT PG aAS #[t0] h0 R:=dF (iX 20) Tryz.func122 H
def aCt(R:cE)(n9:gH)(t0:Value)(t4:Value)(t6:Value)(t7:Value)(t13:Value)(t14:Value)(t15:Value)(h0:PH):Prop:=
 bY (cB PG (binOp BinOp.add aR t15 (Value.int IntKind.i64 1))) λv51=>
 n9 [t0,t4,t6,t7,t13,t14,v51] h0
def aAX(R:cE)(n9:gH)(t0:Value)(t4:Value)(t6:Value)(t7:Value)(t13:Value)(t14:Value)(t15:Value)(h0:PH):Prop:=
 aCt R n9 t0 t4 t6 t7 t13 t14 t15 h0
def aIV(R:cE)(n9:gH)(t0:Value)(t4:Value)(t6:Value)(t7:Value)(t13:Value)(t14:Value)(t15:Value)(h0:PH):Prop:=
 bY (cB PG (binOp BinOp.lss aR t15 t14)) λv11=>
 cQ v11
 (bY (cB PG (indexAt dD t13 t15)) λv12=>
 bY (cD PG h0 (loadAt aT v12)) λv13=>
 bT PG aIz #[t0,v13] h0 λv14 h15=>
 bY (cB PG (extract v14 0)) λv16=>
 bY (cB PG (extract v14 1)) λv17=>
 ∀r18,h15 r18=none->dU (PH.set h15 r18 (.cells (dJ PG cM) cM)) λh19=>
 cN PG (cP cM (pT r18 0) v16) h19 λv20 h21=>
 bY (cD PG h21 (loadAt cM (pT r18 0))) λv22=>
 bY (cB PG (build cM #[])) λv23=>
 bY (cD PG h21 (fV BinOp.neq cM (.tmp 26) (.tmp 27) v22 v23)) λv24=>
 eZ (yV v24) true (λk27=>bY (cB PG (fieldAt cM (pT r18 0) 0)) λv28=>k27 v28 h21) h21 λv25 h26=>
 eZ (yV v24) true (λk31=>bY (cD PG h26 (loadAt cJ v25)) λv32=>k31 v32 h26) h26 λv29 h30=>
 eZ (yV v24) true (λk35=>bY (cB PG (fieldAt cM t6 0)) λv36=>k35 v36 h30) h30 λv33 h34=>
 eZ (yV v24) true (λk39=>bY (cD PG h34 (loadAt cJ v33)) λv40=>k39 v40 h34) h34 λv37 h38=>
 eZ (yV v24) true (λk43=>bY (cB PG (binOp BinOp.gtr cJ v29 v37)) λv44=>k43 v44 h38) h38 λv41 h42=>
 bY (eM v24 v41 (Value.bool false)) λv45=>
 cQ v45
 (bY (cD PG h42 (loadAt cM (pT r18 0))) λv46=>
 cN PG (cP cM t6 v46) h42 λv47 h48=>
 aAX R n9 t0 t4 t6 t15 t13 t14 t15 h48)
 (aAX R n9 t0 t4 t6 t7 t13 t14 t15 h42))
 (bY (cD PG h0 (loadAt cM t6)) λv52=>
 cN PG (cP cM t4 v52) h0 λv53 h54=>
 bY (cD PG h54 (loadAt cM t4)) λv55=>
 R (Value.tuple #[v55,t7]) h54)
def aGV(t0:Value)(t1:Value)(h0:PH)(R:cE):Prop:=
 ∀r1,h0 r1=none->dU (PH.set h0 r1 (.cells (dJ PG cM) cM)) λh2=>
 bY (cB PG (build cM #[])) λv3=>
 ∀r4,h2 r4=none->dU (PH.set h2 r4 (.cells (dJ PG cM) cM)) λh5=>
 cN PG (cP cM (pT r4 0) v3) h5 λv6 h7=>
 bY (cB PG (Builtin.len_ #[dD] aR #[t1])) λv8=>
 hC [0,4,6,7,13,14,15] (λn9 ρ h=>aIV R n9 (ρ 0) (ρ 4) (ρ 6) (ρ 7) (ρ 13) (ρ 14) (ρ 15) h) [t0,(pT r1 0),(pT r4 0),(Value.int IntKind.i64 (-1)),t1,v8,(Value.int IntKind.i64 0)] h7
def aGV.call{t0 t1 h0 R}(H:aGV t0 t1 h0 R):bT PG aGM #[t0,t1] h0 R:=dF (tI 3 [0,4,6,7,13,14,15] 41) Tryz.func59 H
def aJ0(t0:Value)(t1:Value)(h0:PH)(R:cE):Prop:=
 ∀r1,h0 r1=none->dU (PH.set h0 r1 (.cells (dJ PG cM) cM)) λh2=>
 bT PG aEF #[t0] h2 λv3 h4=>
 bY (cB PG (Op.unary UnOp.not v3)) λv5=>
 cQ v5
 (bY (cB PG (build cM #[])) λv6=>
 cN PG (cP cM (pT r1 0) v6) h4 λv7 h8=>
 bY (cD PG h8 (loadAt cM (pT r1 0))) λv9=>
 R (Value.tuple #[v9,(Value.int IntKind.i64 1)]) h8)
 (bY (cB PG (Builtin.len_ #[aT] aR #[t1])) λv10=>
 bY (cD PG h4 (fV BinOp.neq aR (.tmp 17) (.tmp 18) v10 t0)) λv11=>
 cQ v11
 (bY (cB PG (build cM #[])) λv12=>
 cN PG (cP cM (pT r1 0) v12) h4 λv13 h14=>
 bY (cD PG h14 (loadAt cM (pT r1 0))) λv15=>
 R (Value.tuple #[v15,(Value.int IntKind.i64 6)]) h14)
 (bT PG aFG #[t1] h4 λv16 h17=>
 bY (cB PG (Op.unary UnOp.not v16)) λv18=>
 cQ v18
 (bY (cB PG (build cM #[])) λv19=>
 cN PG (cP cM (pT r1 0) v19) h17 λv20 h21=>
 bY (cD PG h21 (loadAt cM (pT r1 0))) λv22=>
 R (Value.tuple #[v22,(Value.int IntKind.i64 8)]) h21)
 (bY (cB PG (Instr.sliceAt aT t1 (some (Value.int IntKind.i64 1)) none none)) λv23=>
 bT PG xG #[v23] h17 λv24 h25=>
 bT PG lH #[v24] h25 λv26 h27=>
 bT PG jV #[v24] h27 λv28 h29=>
 bY (cB PG (build cM #[(0,v26),(1,v28)])) λv30=>
 ∀r31,h29 r31=none->dU (PH.set h29 r31 (.cells (dJ PG cM) cM)) λh32=>
 cN PG (cP cM (pT r31 0) v30) h32 λv33 h34=>
 bY (cD PG h34 (loadAt cM (pT r31 0))) λv35=>
 bT PG aDx #[t0,v35] h34 λv36 h37=>
 bY (cB PG (extract v36 0)) λv38=>
 bY (cB PG (extract v36 1)) λv39=>
 bY (cD PG h37 (fV BinOp.neq dK (.tmp 40) (.const (Value.int IntKind.i64 0)) v39 (Value.int IntKind.i64 0))) λv40=>
 eZ (yV v40) false (λk43=>k43 v38 h37) h37 λv41 h42=>
 eZ (yV v40) false (λk46=>k46 t1 h42) h42 λv44 h45=>
 eZ (yV v40) false (λk49=>bY (cD PG h45 (fV BinOp.neq aT (.tmp 43) (.tmp 44) v41 v44)) λv50=>k49 v50 h45) h45 λv47 h48=>
 bY (eM v40 (Value.bool true) v47) λv51=>
 cQ v51
 (bY (cB PG (build cM #[])) λv52=>
 cN PG (cP cM (pT r1 0) v52) h48 λv53 h54=>
 bY (cD PG h54 (loadAt cM (pT r1 0))) λv55=>
 R (Value.tuple #[v55,(Value.int IntKind.i64 5)]) h54)
 (bY (cD PG h48 (loadAt cM (pT r31 0))) λv56=>
 cN PG (cP cM (pT r1 0) v56) h48 λv57 h58=>
 bY (cD PG h58 (loadAt cM (pT r1 0))) λv59=>
 R (Value.tuple #[v59,(Value.int IntKind.i64 0)]) h58))))
def aJ0.call{t0 t1 h0 R}(H:aJ0 t0 t1 h0 R):bT PG aIz #[t0,t1] h0 R:=dF (iX 49) Tryz.func123 H
def aJ8(t0:Value)(t1:Value)(h0:PH)(R:cE):Prop:=
 ∀r1,h0 r1=none->dU (PH.set h0 r1 (.cells (Value.cells t1) cM)) λh2=>
 bT PG aEF #[t0] h2 λv3 h4=>
 bY (cB PG (Op.unary UnOp.not v3)) λv5=>
 eZ (yV v5) false (λk8=>bY (cB PG (fieldAt cM (pT r1 0) 0)) λv9=>k8 v9 h4) h4 λv6 h7=>
 eZ (yV v5) false (λk12=>bY (cD PG h7 (loadAt cJ v6)) λv13=>k12 v13 h7) h7 λv10 h11=>
 eZ (yV v5) false (λk16=>bY (cD PG h11 (fV BinOp.eql cJ (.tmp 14) (.const (Value.int IntKind.u64 0)) v10 (Value.int IntKind.u64 0))) λv17=>k16 v17 h11) h11 λv14 h15=>
 bY (eM v5 (Value.bool true) v14) λv18=>
 eZ (yV v18) false (λk21=>bY (cB PG (fieldAt cM (pT r1 0) 1)) λv22=>k21 v22 h15) h15 λv19 h20=>
 eZ (yV v18) false (λk25=>bY (cD PG h20 (loadAt aR v19)) λv26=>k25 v26 h20) h20 λv23 h24=>
 eZ (yV v18) false (λk29=>bY (cB PG (binOp BinOp.lss aR v23 (Value.int IntKind.i64 0))) λv30=>k29 v30 h24) h24 λv27 h28=>
 bY (eM v18 (Value.bool true) v27) λv31=>
 eZ (yV v31) false (λk34=>bY (cB PG (fieldAt cM (pT r1 0) 1)) λv35=>k34 v35 h28) h28 λv32 h33=>
 eZ (yV v31) false (λk38=>bY (cD PG h33 (loadAt aR v32)) λv39=>k38 v39 h33) h33 λv36 h37=>
 eZ (yV v31) false (λk42=>bY (cB PG (binOp BinOp.gtr aR v36 (Value.int IntKind.i64 1))) λv43=>k42 v43 h37) h37 λv40 h41=>
 bY (eM v31 (Value.bool true) v40) λv44=>
 cQ v44
 (R (Value.tuple #[(Value.string {data:=#[]}),(Value.int IntKind.i64 1)]) h41)
 (∀r45,h41 r45=none->dU (PH.set h41 r45 (.cells (dJ PG fB) fB)) λh46=>
 bT PG nQ #[(pT r45 0),(Value.string {data:=#[72]})] h46 λv47 h48=>
 bY (cB PG (fieldAt cM (pT r1 0) 0)) λv49=>
 bY (cD PG h48 (loadAt cJ v49)) λv50=>
 bT PG kL #[(pT r45 0),v50] h48 λv51 h52=>
 bY (cB PG (fieldAt cM (pT r1 0) 1)) λv53=>
 bY (cD PG h52 (loadAt aR v53)) λv54=>
 bT PG iR #[(pT r45 0),v54] h52 λv55 h56=>
 bY (cB PG (binOp BinOp.sub aR t0 (Value.int IntKind.i64 14))) λv57=>
 bT PG xI #[(Value.string {data:=#[0]}),v57] h56 λv58 h59=>
 bT PG nQ #[(pT r45 0),v58] h59 λv60 h61=>
 bT PG nZ #[(pT r45 0)] h61 λv62 h63=>
 bY (cB PG (extract v62 0)) λv64=>
 bY (cB PG (extract v62 1)) λv65=>
 bT PG aGT #[v64] h63 λv66 h67=>
 R (Value.tuple #[v66,v65]) h67)
def aJ8.call{t0 t1 h0 R}(H:aJ8 t0 t1 h0 R):bT PG aDx #[t0,t1] h0 R:=dF (iX 45) Tryz.func62 H
def aBs(c a:Value)(e:PH)(R:cE):Prop:=dV .lss aR a (.int .i64 0) λb=>iD b false a e λf g=>eY b false (binOp .gtr aR f (.int .i64 255)) g λh d=>bY (eM b (.bool true) h) λi=>cQ i (fS c λj=>dN fB j 0 λk=>bT PG jG #[k,.int .i64 1] d λo l=>R (.tuple #[]) l) (pP (convert aR cJ a) λm=>bT PG vE #[c,m,.int .i64 1] d λp n=>R (.tuple #[]) n)
def aBs.call{t0 t1 h0 R}(H:aBs t0 t1 h0 R):bT PG iR #[t0,t1] h0 R:=dF (iX 18) Tryz.func85 H
def pR(b c:Value)(a:PH)(R:cE):Prop:=fS b λd=>dN mY d 0 λe=>dC a dK e λf=>gL a .eql dK (.tmp 7) (.const (.int .i64 0)) f (.int .i64 0) λg=>cQ g (fS b λh=>dN mY h 0 λi=>cN PG (cP dK i c) a λk j=>R (.tuple #[]) j) (R (.tuple #[]) a)
def pR.call{t0 t1 h0 R}(H:pR t0 t1 h0 R):bT PG jG #[t0,t1] h0 R:=dF (iX 13) Tryz.func137 H
def aGr(R:cE)(e:gH)(b c a:Value)(d:PH):Prop:=dV .geq aR a (.int .i64 0) λf=>cQ f (fS b λg=>dN fB g 1 λh=>dV .mul aR (.int .i64 8) a λi=>dV .shr cJ c i λj=>pP (convert cJ dM j) λk=>bT PG pY #[h,k] d λn l=>(dV .sub aR a (.int .i64 1) λm=>e [b,c,m] l)) (R (.tuple #[]) d)
def wE(a b c:Value)(d:PH)(R:cE):Prop:=dV .sub aR c (.int .i64 1) λe=>hC [0,1,6] (λf ρ h=>aGr R f (ρ 0) (ρ 1) (ρ 6) h) [a,b,e] d
def wE.ann:jY:={b:=λi=>match i with|3=>#[0,1,3,0,0,16,56,120,255]|_=>#[],ord:=λi=>match i with|3=>[0,1,2,3,4,5,6,7,8]|_=>[],keep:=λi=>match i with|1=>[0,1,6]|_=>[],n:=22}
def wE.call{t0 t1 t2 h0 R}(H:wE t0 t1 t2 h0 R):bT PG vE #[t0,t1,t2] h0 R:=dF wE.ann Tryz.func145 H
def mU(a c:Value)(d:PH)(R:cE):Prop:=bT PG lP #[a] d λo b=>fS a λe=>dN dH e 1 λf=>dC b cY f λg=>yY b (buildSlice cY 1 #[(0,c)]) λh i=>cN PG (Builtin.append_ #[cY,cY] cY #[g,h]) i λj k=>fS a λl=>dN dH l 1 λm=>cN PG (cP cY m j) k λp n=>R Value.nilIface n
def mU.call{t0 t1 h0 R}(H:mU t0 t1 h0 R):bT PG pY #[t0,t1] h0 R:=dF (iX 17) Tryz.func189 H
def aA9(b:Value)(d:PH)(R:cE):Prop:=fS b λe=>dN fB e 0 λf=>bT PG iP #[f] d λc a=>gL a .neq dK (.tmp 9) (.const (.int .i64 0)) c (.int .i64 0) λg=>cQ g (R (.tuple #[(.string ⟨#[]⟩),c]) a) (fS b λh=>dN fB h 1 λi=>bT PG kX #[i] a λj k=>R (.tuple #[j,.int .i64 0]) k)
def aA9.call{t0 h0 R}(H:aA9 t0 h0 R):bT PG nZ #[t0] h0 R:=dF (iX 16) Tryz.func88 H
def aCs(b:Value)(a:PH)(R:cE):Prop:=fS b λc=>dN mY c 0 λd=>dC a dK d λe=>R e a
def aCs.call{t0 h0 R}(H:aCs t0 h0 R):bT PG iP #[t0] h0 R:=dF (iX 7) Tryz.func149 H
def aHt(t0:Value)(h0:PH)(R:cE):Prop:=
 bY (cB PG (binOp BinOp.geq aR t0 (Value.int IntKind.i64 64))) λv1=>
 eZ (yV v1) true (λk4=>k4 t0 h0) h0 λv2 h3=>
 eZ (yV v1) true (λk7=>bY (cB PG (binOp BinOp.leq aR v2 (Value.int IntKind.i64 512))) λv8=>k7 v8 h3) h3 λv5 h6=>
 bY (eM v1 v5 (Value.bool false)) λv9=>
 R v9 h6
def aHt.call{t0 h0 R}(H:aHt t0 h0 R):bT PG aEF #[t0] h0 R:=dF (iX 9) Tryz.func125 H
def aCy(a b:Value)(c:PH)(R:cE):Prop:=fS a λd=>dN fB d 1 λe=>bT PG jF #[e,b] c λg f=>R (.tuple #[]) f
def aCy.call{t0 t1 h0 R}(H:aCy t0 t1 h0 R):bT PG nQ #[t0,t1] h0 R:=dF (iX 9) Tryz.func126 H
def aAR(a b:Value)(c:PH)(R:cE):Prop:=bT PG vE #[a,b,.int .i64 8] c λe d=>R (.tuple #[]) d
def aAR.call{t0 t1 h0 R}(H:aAR t0 t1 h0 R):bT PG kL #[t0,t1] h0 R:=dF (iX 7) Tryz.func127 H
def aJk(t0:Value)(h0:PH)(R:cE):Prop:=
 bY (kC PG (buildSlice dD 1 #[(0,t0)])) λx2=>∀r1,h0 r1=none->bY (cB PG (x2.2 r1)) λv3=>dU (PH.set h0 r1 x2.1) λh4=>
 bT PG aHl #[v3] h4 λv5 h6=>
 bT PG aFq #[v5] h6 λv7 h8=>
 bY (cB PG (binOp BinOp.add aT t0 v7)) λv9=>
 R v9 h8
def aJk.call{t0 h0 R}(H:aJk t0 h0 R):bT PG aGT #[t0] h0 R:=dF (iX 9) Tryz.func128 H
def aK8(R:cE)(n3:gH)(t0:Value)(t3:Value)(t5:Value)(h0:PH):Prop:=
 bY (cB PG (binOp BinOp.lss aR t5 (Value.int IntKind.i64 4))) λv5=>
 cQ v5
 (bY (cB PG (binOp BinOp.mul aR (Value.int IntKind.i64 8) t5)) λv6=>
 bY (cB PG (binOp BinOp.shr fM t0 v6)) λv7=>
 bY (cB PG (convert fM dM v7)) λv8=>
 bY (cB PG (indexAt nS t3 t5)) λv9=>
 cN PG (cP dM v9 v8) h0 λv10 h11=>
 bY (cB PG (binOp BinOp.add aR t5 (Value.int IntKind.i64 1))) λv12=>
 n3 [t0,t3,v12] h11)
 (bY (cB PG (Instr.sliceAt nS t3 none none none)) λv13=>
 bY (cD PG h0 (convert cY aT v13)) λv14=>
 R v14 h0)
def aIs(t0:Value)(h0:PH)(R:cE):Prop:=
 ∀r1,h0 r1=none->dU (PH.set h0 r1 (.cells (dJ PG nS) nS)) λh2=>
 hC [0,3,5] (λn3 ρ h=>aK8 R n3 (ρ 0) (ρ 3) (ρ 5) h) [t0,(pT r1 0),(Value.int IntKind.i64 0)] h2
def aIs.call{t0 h0 R}(H:aIs t0 h0 R):bT PG aFq #[t0] h0 R:=dF (tI 3 [0,3,5] 18) Tryz.func175 H
def aNE(R:cE)(n2:gH)(t3:Value)(t6:Value)(t7:Value)(t8:Value)(h0:PH):Prop:=
 bY (cB PG (binOp BinOp.lss aR t8 t7)) λv4=>
 cQ v4
 (bY (cB PG (indexAt dD t6 t8)) λv5=>
 bY (cD PG h0 (loadAt aT v5)) λv6=>
 bT PG aJA #[t3,v6] h0 λv7 h8=>
 bY (cB PG (binOp BinOp.add aR t8 (Value.int IntKind.i64 1))) λv9=>
 n2 [v7,t6,t7,v9] h8)
 (bY (cB PG (Op.unary UnOp.xor t3)) λv10=>
 R v10 h0)
def aLg(t0:Value)(h0:PH)(R:cE):Prop:=
 bY (cB PG (Builtin.len_ #[dD] aR #[t0])) λv1=>
 hC [3,6,7,8] (λn2 ρ h=>aNE R n2 (ρ 3) (ρ 6) (ρ 7) (ρ 8) h) [(Value.int IntKind.u32 4294967295),t0,v1,(Value.int IntKind.i64 0)] h0
def aLg.call{t0 h0 R}(H:aLg t0 h0 R):bT PG aHl #[t0] h0 R:=dF (tI 3 [3,6,7,8] 18) Tryz.func176 H
def aLn(R:cE)(n8:gH)(t0:Value)(t1:Value)(t5:Value)(t9:Value)(t10:Value)(h0:PH):Prop:=
 bY (cB PG (binOp BinOp.lss aR t10 t9)) λv10=>
 cQ v10
 (bY (cB PG (binOp BinOp.shr fM t0 (Value.int IntKind.u64 8))) λv11=>
 bY (cB PG (convert fM dM t0)) λv12=>
 bY (cB PG (Instr.index aT t1 t10)) λv13=>
 bY (cB PG (binOp BinOp.xor dM v12 v13)) λv14=>
 bY (cB PG (indexAt fH t5 v14)) λv15=>
 bY (cD PG h0 (loadAt fM v15)) λv16=>
 bY (cB PG (binOp BinOp.xor fM v11 v16)) λv17=>
 bY (cB PG (binOp BinOp.add aR t10 (Value.int IntKind.i64 1))) λv18=>
 n8 [v17,t1,t5,t9,v18] h0)
 (R t0 h0)
def aJ9(t0:Value)(t1:Value)(h0:PH)(R:cE):Prop:=
 bT PG aIG #[] h0 λv1 h2=>
 ∀r3,h2 r3=none->dU (PH.set h2 r3 (.cells (dJ PG fH) fH)) λh4=>
 cN PG (cP fH (pT r3 0) v1) h4 λv5 h6=>
 bY (cB PG (Builtin.len_ #[aT] aR #[t1])) λv7=>
 hC [0,1,5,9,10] (λn8 ρ h=>aLn R n8 (ρ 0) (ρ 1) (ρ 5) (ρ 9) (ρ 10) h) [t0,t1,(pT r3 0),v7,(Value.int IntKind.i64 0)] h6
def aJ9.call{t0 t1 h0 R}(H:aJ9 t0 t1 h0 R):bT PG aJA #[t0,t1] h0 R:=dF (tI 3 [0,1,5,9,10] 26) Tryz.func211 H
def aHM(R:cE)(n5:gH)(n9:gH)(t0:Value)(t1:Value)(t2:Value)(t3:Value)(t4:Value)(t9:Value)(h0:PH):Prop:=
 bY (cB PG (binOp BinOp.lss aR t9 (Value.int IntKind.i64 8))) λv11=>
 cQ v11
 (bY (cB PG (binOp BinOp.shr fM t3 (Value.int IntKind.u64 1))) λv12=>
 bY (cB PG (binOp BinOp.and fM t3 (Value.int IntKind.u32 1))) λv13=>
 bY (cB PG (binOp BinOp.mul fM v13 (Value.int IntKind.u32 3988292384))) λv14=>
 bY (cB PG (binOp BinOp.xor fM v12 v14)) λv15=>
 bY (cB PG (binOp BinOp.add aR t9 (Value.int IntKind.i64 1))) λv16=>
 n9 [t0,t1,t2,v15,t4,v16] h0)
 (bY (cB PG (indexAt fH t1 t2)) λv17=>
 cN PG (cP fM v17 t3) h0 λv18 h19=>
 bY (cB PG (binOp BinOp.add aR t4 (Value.int IntKind.i64 1))) λv20=>
 n5 [t0,t1,v20] h19)
def aKe(R:cE)(n5:gH)(t0:Value)(t1:Value)(t4:Value)(h0:PH):Prop:=
 bY (cB PG (binOp BinOp.lss aR t4 (Value.int IntKind.i64 256))) λv7=>
 cQ v7
 (bY (cB PG (convert aR fM t4)) λv8=>
 hC [0,1,2,3,4,9] (λn9 ρ h=>aHM R n5 n9 (ρ 0) (ρ 1) (ρ 2) (ρ 3) (ρ 4) (ρ 9) h) [t0,t1,t4,v8,t4,(Value.int IntKind.i64 0)] h0)
 (bY (cD PG h0 (loadAt fH t1)) λv21=>
 cN PG (cP fH t0 v21) h0 λv22 h23=>
 bY (cD PG h23 (loadAt fH t0)) λv24=>
 R v24 h23)
def aEc(h0:PH)(R:cE):Prop:=
 ∀r1,h0 r1=none->dU (PH.set h0 r1 (.cells (dJ PG fH) fH)) λh2=>
 ∀r3,h2 r3=none->dU (PH.set h2 r3 (.cells (dJ PG fH) fH)) λh4=>
 hC [0,1,4] (λn5 ρ h=>aKe R n5 (ρ 0) (ρ 1) (ρ 4) h) [(pT r1 0),(pT r3 0),(Value.int IntKind.i64 0)] h4
def aEc.ann:jY:={b:=λ_=>#[],ord:=λ_=>[],keep:=λi=>match i with|3=>[0,1,4]|7=>[0,1,2,3,4,9]|_=>[],n:=23}
def aEc.call{h0 R}(H:aEc h0 R):bT PG aIG #[] h0 R:=dF aEc.ann Tryz.func225 H
def aDP(c:Value)(b:PH)(R:cE):Prop:=pP (build eV #[(1,c)]) λd=>∀a,b a=none->dU (PH.set b a (.cells d.cells eV)) λe=>R (pT a 0) e
def aDP.call{t0 h0 R}(H:aDP t0 h0 R):bT PG xG #[t0] h0 R:=dF (iX 6) Tryz.func132 H
def aBt(a:Value)(b:PH)(R:cE):Prop:=bT PG vL #[a,.int .i64 1] b λc d=>pP (convert cJ aR c) λe=>R e d
def aBt.call{t0 h0 R}(H:aBt t0 h0 R):bT PG jV #[t0] h0 R:=dF (iX 6) Tryz.func133 H
def aGf(R:cE)(f:gH)(c d e a:Value)(b:PH):Prop:=dV .lss aR a e λg=>cQ g (nO cY d a λh=>dC b dM h λi=>dV .shl cJ c (.int .u64 8) λj=>pP (convert dM cJ i) λk=>dV .or cJ j k λl=>dV .add aR a (.int .i64 1) λm=>f [l,d,e,m] b) (R c b)
def aCi(b c:Value)(d:PH)(R:cE):Prop:=bT PG sA #[b,c] d λe f=>cN PG (convert aT cY e) f λa g=>iS cY aR a λi=>hC [5,11,12,13] (λj ρ h=>aGf R j (ρ 5) (ρ 11) (ρ 12) (ρ 13) h) [(.int .u64 0),a,i,.int .i64 0] g
def aCi.call{t0 t1 h0 R}(H:aCi t0 t1 h0 R):bT PG vL #[t0,t1] h0 R:=dF (tI 3 [5,11,12,13] 24) Tryz.func178 H
def tV(R:cE)(b c:Value)(d:PH):Prop:=fS b λe=>dN eV e 0 λf=>bT PG iP #[f] d λg a=>gL a .neq dK (.tmp 24) (.const (.int .i64 0)) g (.int .i64 0) λh=>cQ h (R (.string ⟨#[]⟩) a) (fS b λi=>dN eV i 1 λj=>dC a aT j λk=>pP (Instr.sliceAt aT k none (some c) none) λl=>fS b λm=>dN eV m 1 λn=>dC a aT n λo=>pP (Instr.sliceAt aT o (some c) none none) λp=>fS b λq=>dN eV q 1 λr=>cN PG (cP aT r p) a λu s=>R l s)
def aCp(b c:Value)(e:PH)(R:cE):Prop:=dV .lss aR c (.int .i64 0) λa=>iD a false c e λf g=>iD a false b g λh i=>eY a false (gI h) i λj k=>eY a false (fieldAt eV j 1) k λl m=>gJ a false (loadAt aT l) m λn o=>eY a false (Builtin.len_ #[aT] aR #[n]) o λp q=>eY a false (binOp .gtr aR f p) q λr d=>bY (eM a (.bool true) r) λs=>cQ s (fS b λu=>dN eV u 0 λv=>bT PG jG #[v,.int .i64 6] d λx w=>tV R b c w) (tV R b c d)
def aCp.call{t0 t1 h0 R}(H:aCp t0 t1 h0 R):bT PG sA #[t0,t1] h0 R:=dF (iX 42) Tryz.func212 H
def aEf(t0:Value)(h0:PH)(R:cE):Prop:=
 bY (cB PG (Builtin.len_ #[aT] aR #[t0])) λv1=>
 bY (cB PG (binOp BinOp.sub aR v1 (Value.int IntKind.i64 4))) λv2=>
 bY (cB PG (binOp BinOp.geq aR v2 (Value.int IntKind.i64 0))) λv3=>
 eZ (yV v3) true (λk6=>k6 t0 h0) h0 λv4 h5=>
 eZ (yV v3) true (λk9=>k9 v2 h5) h5 λv7 h8=>
 eZ (yV v3) true (λk12=>bY (cB PG (Instr.sliceAt aT v4 none (some v7) none)) λv13=>k12 v13 h8) h8 λv10 h11=>
 eZ (yV v3) true (λk16=>k16 t0 h11) h11 λv14 h15=>
 eZ (yV v3) true (λk19=>k19 v2 h15) h15 λv17 h18=>
 eZ (yV v3) true (λk22=>bY (cB PG (Instr.sliceAt aT v14 (some v17) none none)) λv23=>k22 v23 h18) h18 λv20 h21=>
 eZ (yV v3) true (λk26=>bY (kC PG (buildSlice dD 1 #[(0,v10)])) λx28=>∀r27,h21 r27=none->bY (cB PG (x28.2 r27)) λv29=>dU (PH.set h21 r27 x28.1) λh30=>k26 v29 h30) h21 λv24 h25=>
 eZ (yV v3) true (λk33=>bT PG aHl #[v24] h25 λv34 h35=>k33 v34 h35) h25 λv31 h32=>
 (eZ (yV v3) true (λk38=>bT PG aFq #[v31] h32 λv39 h40=>k38 v39 h40) h32 λv36 h37=>
 (eZ (yV v3) true (λk43=>bY (cD PG h37 (fV BinOp.eql aT (.tmp 15) (.tmp 18) v36 v20)) λv44=>k43 v44 h37) h37 λv41 h42=>
 bY (eM v3 v41 (Value.bool false)) λv45=>
 R v45 h42))
def aEf.ann:jY:={b:=λi=>match i with|2=>#[0,1,3,7,7,31,63,127,255,7,7,1543,4095,8191,16383]|_=>#[],ord:=λi=>match i with|2=>[0,1,2,3,4,5,9,10,11,6,7,8,12,13,14]|_=>[],keep:=λ_=>[],n:=21}
def aEf.call{t0 h0 R}(H:aEf t0 h0 R):bT PG aFG #[t0] h0 R:=dF aEf.ann Tryz.func172 H
def aAC(a:Value)(b:PH)(R:cE):Prop:=bT PG vL #[a,.int .i64 8] b λc d=>R c d
def aAC.call{t0 h0 R}(H:aAC t0 h0 R):bT PG lH #[t0] h0 R:=dF (iX 5) Tryz.func173 H
def aAU(t0:Value)(h0:PH)(R:cE):Prop:=
 ∀r1,h0 r1=none->dU (PH.set h0 r1 (.cells (Value.cells t0) dZ)) λh2=>
 bY (cB PG (fieldAt dZ (pT r1 0) 0)) λv3=>
 bY (cD PG h2 (loadAt aR v3)) λv4=>
 R v4 h2
def aAU.call{t0 h0 R}(H:aAU t0 h0 R):bT PG kP #[t0] h0 R:=dF (iX 5) Tryz.func60 H
def aHV(R:cE)(n5:gH)(t1:Value)(t3:Value)(t7:Value)(t11:Value)(t12:Value)(h0:PH):Prop:=
 bY (cB PG (binOp BinOp.lss aR t12 t11)) λv7=>
 cQ v7
 (bY (cB PG (fieldAt dY t3 0)) λv8=>
 bY (cD PG h0 (loadAt fY v8)) λv9=>
 bY (cB PG (binOp BinOp.add aR t1 t12)) λv10=>
 bT PG aDm #[v9,v10] h0 λv11 h12=>
 bY (cB PG (extract v11 0)) λv13=>
 bY (cB PG (extract v11 1)) λv14=>
 bT PG jF #[t7,v13] h12 λv15 h16=>
 bY (cB PG (binOp BinOp.add aR t12 (Value.int IntKind.i64 1))) λv17=>
 n5 [t1,t3,t7,t11,v17] h16)
 (bT PG kX #[t7] h0 λv18 h19=>
 R v18 h19)
def aDI(t0:Value)(t1:Value)(t2:Value)(h0:PH)(R:cE):Prop:=
 ∀r1,h0 r1=none->dU (PH.set h0 r1 (.cells (Value.cells t0) dY)) λh2=>
 ∀r3,h2 r3=none->dU (PH.set h2 r3 (.cells (dJ PG dH) dH)) λh4=>
 hC [1,3,7,11,12] (λn5 ρ h=>aHV R n5 (ρ 1) (ρ 3) (ρ 7) (ρ 11) (ρ 12) h) [t1,(pT r1 0),(pT r3 0),t2,(Value.int IntKind.i64 0)] h4
def aDI.call{t0 t1 t2 h0 R}(H:aDI t0 t1 t2 h0 R):bT PG xH #[t0,t1,t2] h0 R:=dF (tI 3 [1,3,7,11,12] 28) Tryz.func61 H
def aCz(R:cE)(n16:gH)(t1:Value)(t6:Value)(t26:Value)(t27:Value)(t28:Value)(h0:PH):Prop:=
 bY (cB PG (binOp BinOp.add aR t28 (Value.int IntKind.i64 1))) λv32=>
 n16 [t1,t6,t26,t27,v32] h0
def aAI(R:cE)(n16:gH)(t1:Value)(t6:Value)(t26:Value)(t27:Value)(t28:Value)(h0:PH):Prop:=
 aCz R n16 t1 t6 t26 t27 t28 h0
def aGa(R:cE)(n16:gH)(t1:Value)(t6:Value)(t26:Value)(t27:Value)(t28:Value)(h0:PH):Prop:=
 bY (cB PG (binOp BinOp.lss aR t28 t27)) λv18=>
 cQ v18
 (bY (cB PG (indexAt eK t26 t28)) λv19=>
 bY (cD PG h0 (loadAt dX v19)) λv20=>
 ∀r21,h0 r21=none->dU (PH.set h0 r21 (.cells (dJ PG dX) dX)) λh22=>
 cN PG (cP dX (pT r21 0) v20) h22 λv23 h24=>
 bY (cB PG (fieldAt dX (pT r21 0) 0)) λv25=>
 bY (cD PG h24 (loadAt aR v25)) λv26=>
 bY (cD PG h24 (fV BinOp.eql aR (.tmp 33) (.tmp 34) v26 t1)) λv27=>
 cQ v27
 (bY (cB PG (fieldAt dX (pT r21 0) 1)) λv28=>
 bY (cD PG h24 (loadAt aT v28)) λv29=>
 aAI R n16 t1 v29 t26 t27 t28 h24)
 (aAI R n16 t1 t6 t26 t27 t28 h24))
 (R (Value.tuple #[t6,(Value.int IntKind.i64 0)]) h0)
def aDK(t0:Value)(t1:Value)(h0:PH)(R:cE):Prop:=
 bY (cB PG (gI t0)) λv1=>
 bY (cB PG (fieldAt dW v1 0)) λv2=>
 bY (cD PG h0 (loadAt dZ v2)) λv3=>
 bT PG uV #[v3,t1] h0 λv4 h5=>
 bY (cB PG (Op.unary UnOp.not v4)) λv6=>
 cQ v6
 (R (Value.tuple #[(Value.string {data:=#[]}),(Value.int IntKind.i64 1)]) h5)
 (bY (cB PG (gI t0)) λv7=>
 bY (cB PG (fieldAt dW v7 1)) λv8=>
 bY (cD PG h5 (loadAt dD v8)) λv9=>
 bY (cB PG (indexAt dD v9 t1)) λv10=>
 bY (cD PG h5 (loadAt aT v10)) λv11=>
 bY (cB PG (gI t0)) λv12=>
 bY (cB PG (fieldAt dW v12 2)) λv13=>
 bY (cD PG h5 (loadAt eK v13)) λv14=>
 bY (cB PG (Builtin.len_ #[eK] aR #[v14])) λv15=>
 hC [1,6,26,27,28] (λn16 ρ h=>aGa R n16 (ρ 1) (ρ 6) (ρ 26) (ρ 27) (ρ 28) h) [t1,v11,v14,v15,(Value.int IntKind.i64 0)] h5)
def aDK.call{t0 t1 h0 R}(H:aDK t0 t1 h0 R):bT PG aDm #[t0,t1] h0 R:=dF (tI 5 [1,6,26,27,28] 40) Tryz.func124 H
def zH(t0:Value)(t1:Value)(h0:PH)(R:cE):Prop:=
 ∀r1,h0 r1=none->dU (PH.set h0 r1 (.cells (Value.cells t0) dZ)) λh2=>
 bY (cB PG (binOp BinOp.geq aR t1 (Value.int IntKind.i64 0))) λv3=>
 eZ (yV v3) true (λk6=>k6 t1 h2) h2 λv4 h5=>
 eZ (yV v3) true (λk9=>bY (cB PG (fieldAt dZ (pT r1 0) 1)) λv10=>k9 v10 h5) h5 λv7 h8=>
 eZ (yV v3) true (λk13=>bY (cD PG h8 (loadAt aR v7)) λv14=>k13 v14 h8) h8 λv11 h12=>
 eZ (yV v3) true (λk17=>bY (cB PG (binOp BinOp.lss aR v4 v11)) λv18=>k17 v18 h12) h12 λv15 h16=>
 bY (eM v3 v15 (Value.bool false)) λv19=>
 R v19 h16
def zH.call{t0 t1 h0 R}(H:zH t0 t1 h0 R):bT PG uV #[t0,t1] h0 R:=dF (iX 13) Tryz.func174 H
def aIB(R:cE)(n4:gH)(t1:Value)(t3:Value)(t10:Value)(t11:Value)(t12:Value)(h0:PH):Prop:=
 bY (cB PG (binOp BinOp.lss aR t12 t11)) λv6=>
 cQ v6
 (bY (cB PG (indexAt dD t10 t12)) λv7=>
 bY (cD PG h0 (loadAt aT v7)) λv8=>
 bY (cB PG (fieldAt dY t3 0)) λv9=>
 bY (cD PG h0 (loadAt fY v9)) λv10=>
 bY (cB PG (binOp BinOp.add aR t1 t12)) λv11=>
 bT PG aDD #[v10,v11,v8] h0 λv12 h13=>
 bY (cD PG h13 (fV BinOp.neq dK (.tmp 24) (.const (Value.int IntKind.i64 0)) v12 (Value.int IntKind.i64 0))) λv14=>
 cQ v14
 (R v12 h13)
 (bY (cB PG (binOp BinOp.add aR t12 (Value.int IntKind.i64 1))) λv15=>
 n4 [t1,t3,t10,t11,v15] h13))
 (bY (cB PG (fieldAt dY t3 0)) λv16=>
 bY (cD PG h0 (loadAt fY v16)) λv17=>
 bT PG aAH #[v17] h0 λv18 h19=>
 R v18 h19)
def aEM(t0:Value)(t1:Value)(t2:Value)(h0:PH)(R:cE):Prop:=
 ∀r1,h0 r1=none->dU (PH.set h0 r1 (.cells (Value.cells t0) dY)) λh2=>
 bY (cB PG (Builtin.len_ #[dD] aR #[t2])) λv3=>
 hC [1,3,10,11,12] (λn4 ρ h=>aIB R n4 (ρ 1) (ρ 3) (ρ 10) (ρ 11) (ρ 12) h) [t1,(pT r1 0),t2,v3,(Value.int IntKind.i64 0)] h2
def aEM.call{t0 t1 t2 h0 R}(H:aEM t0 t1 t2 h0 R):bT PG uI #[t0,t1,t2] h0 R:=dF (tI 2 [1,3,10,11,12] 31) Tryz.func63 H
def aCj(t0:Value)(t1:Value)(t2:Value)(h0:PH)(R:cE):Prop:=
 bY (cB PG (gI t0)) λv1=>
 bY (cB PG (fieldAt dW v1 0)) λv2=>
 bY (cD PG h0 (loadAt dZ v2)) λv3=>
 bT PG uV #[v3,t1] h0 λv4 h5=>
 bY (cB PG (Op.unary UnOp.not v4)) λv6=>
 eZ (yV v6) false (λk9=>k9 t2 h5) h5 λv7 h8=>
 eZ (yV v6) false (λk12=>bY (cB PG (Builtin.len_ #[aT] aR #[v7])) λv13=>k12 v13 h8) h8 λv10 h11=>
 eZ (yV v6) false (λk16=>k16 t0 h11) h11 λv14 h15=>
 eZ (yV v6) false (λk19=>bY (cB PG (gI v14)) λv20=>k19 v20 h15) h15 λv17 h18=>
 eZ (yV v6) false (λk23=>bY (cB PG (fieldAt dW v17 0)) λv24=>k23 v24 h18) h18 λv21 h22=>
 eZ (yV v6) false (λk27=>bY (cB PG (fieldAt dZ v21 0)) λv28=>k27 v28 h22) h22 λv25 h26=>
 eZ (yV v6) false (λk31=>bY (cD PG h26 (loadAt aR v25)) λv32=>k31 v32 h26) h26 λv29 h30=>
 eZ (yV v6) false (λk35=>bY (cD PG h30 (fV BinOp.neq aR (.tmp 17) (.tmp 22) v10 v29)) λv36=>k35 v36 h30) h30 λv33 h34=>
 bY (eM v6 (Value.bool true) v33) λv37=>
 cQ v37
 (R (Value.int IntKind.i64 1) h34)
 (bT PG aAS #[t0] h34 λv38 h39=>
 cQ v38
 (R (Value.int IntKind.i64 13) h39)
 (bY (cB PG (gI t0)) λv40=>
 bY (cB PG (fieldAt dW v40 2)) λv41=>
 bY (cD PG h39 (loadAt eK v41)) λv42=>
 bY (cB PG (build dX #[(0,t1),(1,t2)])) λv43=>
 bY (kC PG (buildSlice eK 1 #[(0,v43)])) λx45=>∀r44,h39 r44=none->bY (cB PG (x45.2 r44)) λv46=>dU (PH.set h39 r44 x45.1) λh47=>
 cN PG (Builtin.append_ #[eK,eK] eK #[v42,v46]) h47 λv48 h49=>
 bY (cB PG (gI t0)) λv50=>
 bY (cB PG (fieldAt dW v50 2)) λv51=>
 cN PG (cP eK v51 v48) h49 λv52 h53=>
 R (Value.int IntKind.i64 0) h53))
def aCj.call{t0 t1 t2 h0 R}(H:aCj t0 t1 t2 h0 R):bT PG aDD #[t0,t1,t2] h0 R:=dF (iX 40) Tryz.func129 H
def aKS(R:cE)(n4:gH)(t0:Value)(t1:Value)(t2:Value)(t8:Value)(t9:Value)(t10:Value)(h0:PH):Prop:=
 bY (cB PG (binOp BinOp.mul aR t9 t0)) λv6=>
 bY (cB PG (Instr.sliceAt aT t2 (some v6) none none)) λv7=>
 bT PG aE2 #[t0,t1,t10,v7] h0 λv8 h9=>
 bY (cB PG (extract v8 0)) λv10=>
 bY (cB PG (extract v8 1)) λv11=>
 bY (cD PG h9 (fV BinOp.eql aR (.tmp 30) (.const (Value.int IntKind.i64 0)) v11 (Value.int IntKind.i64 0))) λv12=>
 cQ v12
 (R (Value.tuple #[t8,t9]) h9)
 (bY (kC PG (buildSlice dD 1 #[(0,v10)])) λx14=>∀r13,h9 r13=none->bY (cB PG (x14.2 r13)) λv15=>dU (PH.set h9 r13 x14.1) λh16=>
 cN PG (Builtin.append_ #[dD,dD] dD #[t8,v15]) h16 λv17 h18=>
 bY (cB PG (binOp BinOp.add aR t9 v11)) λv19=>
 bY (cB PG (binOp BinOp.add cJ t10 (Value.int IntKind.u64 1))) λv20=>
 n4 [t0,t1,t2,v17,v19,v20] h18)
def aHr(t0:Value)(t1:Value)(t2:Value)(h0:PH)(R:cE):Prop:=
 bT PG aBM #[t0] h0 λv1 h2=>
 bY (cB PG (Op.unary UnOp.not v1)) λv3=>
 cQ v3
 (R (Value.tuple #[(Value.slice none 0 0),(Value.int IntKind.i64 0)]) h2)
 (hC [0,1,2,8,9,10] (λn4 ρ h=>aKS R n4 (ρ 0) (ρ 1) (ρ 2) (ρ 8) (ρ 9) (ρ 10) h) [t0,t1,t2,(Value.slice none 0 0),(Value.int IntKind.i64 0),(Value.int IntKind.u64 0)] h2)
def aHr.call{t0 t1 t2 h0 R}(H:aHr t0 t1 t2 h0 R):bT PG aHG #[t0,t1,t2] h0 R:=dF (tI 7 [0,1,2,8,9,10] 41) Tryz.func64 H
def aGW(t0:Value)(h0:PH)(R:cE):Prop:=
 bY (cB PG (binOp BinOp.geq aR t0 (Value.int IntKind.i64 64))) λv1=>
 eZ (yV v1) true (λk4=>k4 t0 h0) h0 λv2 h3=>
 eZ (yV v1) true (λk7=>bY (cB PG (binOp BinOp.leq aR v2 (Value.int IntKind.i64 512))) λv8=>k7 v8 h3) h3 λv5 h6=>
 bY (eM v1 v5 (Value.bool false)) λv9=>
 R v9 h6
def aGW.call{t0 h0 R}(H:aGW t0 h0 R):bT PG aBM #[t0] h0 R:=dF (iX 9) Tryz.func130 H
def aBm(R:cE)(n1:gH)(t0:Value)(t1:Value)(t2:Value)(t3:Value)(t10:Value)(t11:Value)(t12:Value)(t13:Value)(t14:Value)(h0:PH):Prop:=
 bY (cD PG h0 (fV BinOp.neq dK (.tmp 42) (.const (Value.int IntKind.i64 0)) t14 (Value.int IntKind.i64 0))) λv23=>
 eZ (yV v23) false (λk26=>bY (cB PG (fieldAt cS t13 0)) λv27=>k26 v27 h0) h0 λv24 h25=>
 eZ (yV v23) false (λk30=>bY (cD PG h25 (loadAt cJ v24)) λv31=>k30 v31 h25) h25 λv28 h29=>
 eZ (yV v23) false (λk34=>k34 t1 h29) h29 λv32 h33=>
 eZ (yV v23) false (λk37=>bY (cD PG h33 (fV BinOp.neq cJ (.tmp 46) (.tmp 47) v28 v32)) λv38=>k37 v38 h33) h33 λv35 h36=>
 bY (eM v23 (Value.bool true) v35) λv39=>
 eZ (yV v39) false (λk42=>bY (cB PG (fieldAt cS t13 1)) λv43=>k42 v43 h36) h36 λv40 h41=>
 eZ (yV v39) false (λk46=>bY (cD PG h41 (loadAt cJ v40)) λv47=>k46 v47 h41) h41 λv44 h45=>
 eZ (yV v39) false (λk50=>k50 t2 h45) h45 λv48 h49=>
 eZ (yV v39) false (λk53=>bY (cD PG h49 (fV BinOp.neq cJ (.tmp 52) (.tmp 53) v44 v48)) λv54=>k53 v54 h49) h49 λv51 h52=>
 bY (eM v39 (Value.bool true) v51) λv55=>
 eZ (yV v55) false (λk58=>bY (cB PG (fieldAt cS t13 2)) λv59=>k58 v59 h52) h52 λv56 h57=>
 eZ (yV v55) false (λk62=>bY (cD PG h57 (loadAt aR v56)) λv63=>k62 v63 h57) h57 λv60 h61=>
 eZ (yV v55) false (λk66=>k66 t12 h61) h61 λv64 h65=>
 eZ (yV v55) false (λk69=>bY (cD PG h65 (fV BinOp.neq aR (.tmp 58) (.tmp 59) v60 v64)) λv70=>k69 v70 h65) h65 λv67 h68=>
 bY (eM v55 (Value.bool true) v67) λv71=>
 eZ (yV v71) false (λk74=>bY (cB PG (fieldAt cS t13 3)) λv75=>k74 v75 h68) h68 λv72 h73=>
 eZ (yV v71) false (λk78=>bY (cD PG h73 (loadAt aR v72)) λv79=>k78 v79 h73) h73 λv76 h77=>
 eZ (yV v71) false (λk82=>k82 t11 h77) h77 λv80 h81=>
 eZ (yV v71) false (λk85=>bY (cD PG h81 (fV BinOp.neq aR (.tmp 64) (.tmp 65) v76 v80)) λv86=>k85 v86 h81) h81 λv83 h84=>
 bY (eM v71 (Value.bool true) v83) λv87=>
 cQ v87
 (R (Value.tuple #[(Value.string {data:=#[]}),(Value.int IntKind.i64 0)]) h84)
 (bY (cB PG (fieldAt cS t13 4)) λv88=>
 bY (cD PG h84 (loadAt aT v88)) λv89=>
 bY (cB PG (binOp BinOp.add aT t10 v89)) λv90=>
 bY (cB PG (fieldAt cS t13 3)) λv91=>
 bY (cD PG h84 (loadAt aR v91)) λv92=>
 bY (cB PG (binOp BinOp.sub aR v92 (Value.int IntKind.i64 1))) λv93=>
 bY (cD PG h84 (fV BinOp.eql aR (.tmp 72) (.tmp 75) t12 v93)) λv94=>
 cQ v94
 (bY (cB PG (fieldAt cS t13 3)) λv95=>
 bY (cD PG h84 (loadAt aR v95)) λv96=>
 R (Value.tuple #[v90,v96]) h84)
 (bY (cB PG (binOp BinOp.add aR t12 (Value.int IntKind.i64 1))) λv97=>
 n1 [t0,t1,t2,t3,v90,t11,v97] h84))
def aIh(R:cE)(n1:gH)(t0:Value)(t1:Value)(t2:Value)(t3:Value)(t10:Value)(t11:Value)(t12:Value)(h0:PH):Prop:=
 bY (cB PG (binOp BinOp.add aR t12 (Value.int IntKind.i64 1))) λv3=>
 bY (cB PG (binOp BinOp.mul aR v3 t0)) λv4=>
 bY (cB PG (Builtin.len_ #[aT] aR #[t3])) λv5=>
 bY (cB PG (binOp BinOp.leq aR v4 v5)) λv6=>
 cQ v6
 (bY (cB PG (binOp BinOp.mul aR t12 t0)) λv7=>
 bY (cB PG (binOp BinOp.add aR t12 (Value.int IntKind.i64 1))) λv8=>
 bY (cB PG (binOp BinOp.mul aR v8 t0)) λv9=>
 bY (cB PG (Instr.sliceAt aT t3 (some v7) (some v9) none)) λv10=>
 bT PG aHN #[t0,v10] h0 λv11 h12=>
 bY (cB PG (extract v11 0)) λv13=>
 bY (cB PG (extract v11 1)) λv14=>
 ∀r15,h12 r15=none->dU (PH.set h12 r15 (.cells (dJ PG cS) cS)) λh16=>
 cN PG (cP cS (pT r15 0) v13) h16 λv17 h18=>
 bY (cD PG h18 (fV BinOp.eql aR (.tmp 38) (.const (Value.int IntKind.i64 0)) t12 (Value.int IntKind.i64 0))) λv19=>
 cQ v19
 (bY (cB PG (fieldAt cS (pT r15 0) 3)) λv20=>
 bY (cD PG h18 (loadAt aR v20)) λv21=>
 aBm R n1 t0 t1 t2 t3 t10 v21 t12 (pT r15 0) v14 h18)
 (aBm R n1 t0 t1 t2 t3 t10 t11 t12 (pT r15 0) v14 h18))
 (R (Value.tuple #[(Value.string {data:=#[]}),(Value.int IntKind.i64 0)]) h0)
def aBK(t0:Value)(t1:Value)(t2:Value)(t3:Value)(h0:PH)(R:cE):Prop:=
 hC [0,1,2,3,10,11,12] (λn1 ρ h=>aIh R n1 (ρ 0) (ρ 1) (ρ 2) (ρ 3) (ρ 10) (ρ 11) (ρ 12) h) [t0,t1,t2,t3,(Value.string {data:=#[]}),(Value.int IntKind.i64 0),(Value.int IntKind.i64 0)] h0
def aBK.ann:jY:={b:=λi=>match i with|12=>#[0,0,2,1,15]|_=>#[],ord:=λi=>match i with|12=>[0,1,2,3,4]|_=>[],keep:=λi=>match i with|3=>[0,1,2,3,10,11,12]|_=>[],n:=80}
def aBK.call{t0 t1 t2 t3 h0 R}(H:aBK t0 t1 t2 t3 h0 R):bT PG aE2 #[t0,t1,t2,t3] h0 R:=dF aBK.ann Tryz.func131 H
def aDM(t0:Value)(t1:Value)(h0:PH)(R:cE):Prop:=
 ∀r1,h0 r1=none->dU (PH.set h0 r1 (.cells (dJ PG cS) cS)) λh2=>
 bT PG aBM #[t0] h2 λv3 h4=>
 bY (cB PG (Op.unary UnOp.not v3)) λv5=>
 cQ v5
 (bY (cB PG (build cS #[])) λv6=>
 cN PG (cP cS (pT r1 0) v6) h4 λv7 h8=>
 bY (cD PG h8 (loadAt cS (pT r1 0))) λv9=>
 R (Value.tuple #[v9,(Value.int IntKind.i64 1)]) h8)
 (bY (cB PG (Builtin.len_ #[aT] aR #[t1])) λv10=>
 bY (cD PG h4 (fV BinOp.neq aR (.tmp 19) (.tmp 20) v10 t0)) λv11=>
 cQ v11
 (bY (cB PG (build cS #[])) λv12=>
 cN PG (cP cS (pT r1 0) v12) h4 λv13 h14=>
 bY (cD PG h14 (loadAt cS (pT r1 0))) λv15=>
 R (Value.tuple #[v15,(Value.int IntKind.i64 6)]) h14)
 (bT PG aFG #[t1] h4 λv16 h17=>
 bY (cB PG (Op.unary UnOp.not v16)) λv18=>
 cQ v18
 (bY (cB PG (build cS #[])) λv19=>
 cN PG (cP cS (pT r1 0) v19) h17 λv20 h21=>
 bY (cD PG h21 (loadAt cS (pT r1 0))) λv22=>
 R (Value.tuple #[v22,(Value.int IntKind.i64 8)]) h21)
 (bY (cB PG (binOp BinOp.sub aR t0 (Value.int IntKind.i64 4))) λv23=>
 bY (cB PG (Instr.sliceAt aT t1 none (some v23) none)) λv24=>
 bT PG xG #[v24] h17 λv25 h26=>
 bT PG sA #[v25,(Value.int IntKind.i64 1)] h26 λv27 h28=>
 bT PG lH #[v25] h28 λv29 h30=>
 bT PG lH #[v25] h30 λv31 h32=>
 bT PG jV #[v25] h32 λv33 h34=>
 bT PG jV #[v25] h34 λv35 h36=>
 bT PG zJ #[v25] h36 λv37 h38=>
 bY (cB PG (build cS #[(0,v29),(1,v31),(2,v33),(3,v35),(4,v37)])) λv39=>
 ∀r40,h38 r40=none->dU (PH.set h38 r40 (.cells (dJ PG cS) cS)) λh41=>
 cN PG (cP cS (pT r40 0) v39) h41 λv42 h43=>
 bT PG zR #[v25] h43 λv44 h45=>
 bT PG sA #[v25,v44] h45 λv46 h47=>
 bY (cB PG (fieldAt cS (pT r40 0) 2)) λv48=>
 bY (cD PG h47 (loadAt aR v48)) λv49=>
 bY (cB PG (fieldAt cS (pT r40 0) 3)) λv50=>
 bY (cD PG h47 (loadAt aR v50)) λv51=>
 bY (cB PG (binOp BinOp.sub aR v51 (Value.int IntKind.i64 1))) λv52=>
 bY (cD PG h47 (fV BinOp.eql aR (.tmp 51) (.tmp 54) v49 v52)) λv53=>
 bY (cB PG (binOp BinOp.sub aR t0 (Value.int IntKind.i64 25))) λv54=>
 bY (cB PG (gI v25)) λv55=>
 bY (cB PG (fieldAt eV v55 0)) λv56=>
 bT PG iP #[v56] h47 λv57 h58=>
 bY (cD PG h58 (fV BinOp.neq dK (.tmp 62) (.const (Value.int IntKind.i64 0)) v57 (Value.int IntKind.i64 0))) λv59=>
 eZ (yV v59) false (λk62=>k62 v27 h58) h58 λv60 h61=>
 eZ (yV v59) false (λk65=>bY (cD PG h61 (fV BinOp.neq aT (.tmp 65) (.const (Value.string {data:=#[82]})) v60 (Value.string {data:=#[82]}))) λv66=>k65 v66 h61) h61 λv63 h64=>
 bY (eM v59 (Value.bool true) v63) λv67=>
 eZ (yV v67) false (λk70=>k70 v46 h64) h64 λv68 h69=>
 eZ (yV v67) false (λk73=>bT PG aE0 #[v68,(Value.string {data:=#[0]})] h69 λv74 h75=>k73 v74 h75) h69 λv71 h72=>
 eZ (yV v67) false (λk78=>bY (cD PG h72 (fV BinOp.neq aT (.tmp 70) (.const (Value.string {data:=#[]})) v71 (Value.string {data:=#[]}))) λv79=>k78 v79 h72) h72 λv76 h77=>
 bY (eM v67 (Value.bool true) v76) λv80=>
 eZ (yV v80) false (λk83=>bY (cB PG (fieldAt cS (pT r40 0) 2)) λv84=>k83 v84 h77) h77 λv81 h82=>
 eZ (yV v80) false (λk87=>bY (cD PG h82 (loadAt aR v81)) λv88=>k87 v88 h82) h82 λv85 h86=>
 eZ (yV v80) false (λk91=>bY (cB PG (fieldAt cS (pT r40 0) 3)) λv92=>k91 v92 h86) h86 λv89 h90=>
 eZ (yV v80) false (λk95=>bY (cD PG h90 (loadAt aR v89)) λv96=>k95 v96 h90) h90 λv93 h94=>
 eZ (yV v80) false (λk99=>bY (cB PG (binOp BinOp.geq aR v85 v93)) λv100=>k99 v100 h94) h94 λv97 h98=>
 bY (eM v80 (Value.bool true) v97) λv101=>
 cQ v101
 (bY (cB PG (build cS #[])) λv102=>
 cN PG (cP cS (pT r1 0) v102) h98 λv103 h104=>
 bY (cD PG h104 (loadAt cS (pT r1 0))) λv105=>
 R (Value.tuple #[v105,(Value.int IntKind.i64 5)]) h104)
 (bY (cB PG (Op.unary UnOp.not v53)) λv106=>
 eZ (yV v106) true (λk109=>bY (cB PG (fieldAt cS (pT r40 0) 4)) λv110=>k109 v110 h98) h98 λv107 h108=>
 eZ (yV v106) true (λk113=>bY (cD PG h108 (loadAt aT v107)) λv114=>k113 v114 h108) h108 λv111 h112=>
 eZ (yV v106) true (λk117=>bY (cB PG (Builtin.len_ #[aT] aR #[v111])) λv118=>k117 v118 h112) h112 λv115 h116=>
 eZ (yV v106) true (λk121=>k121 v54 h116) h116 λv119 h120=>
 eZ (yV v106) true (λk124=>bY (cD PG h120 (fV BinOp.neq aR (.tmp 87) (.tmp 88) v115 v119)) λv125=>k124 v125 h120) h120 λv122 h123=>
 bY (eM v106 v122 (Value.bool false)) λv126=>
 eZ (yV v126) false (λk129=>k129 v53 h123) h123 λv127 h128=>
 eZ (yV v126) false (λk132=>k132 v127 h128) h128 λv130 h131=>
 eZ (yV v130) true (λk135=>bY (cB PG (fieldAt cS (pT r40 0) 3)) λv136=>k135 v136 h131) h131 λv133 h134=>
 eZ (yV v130) true (λk139=>bY (cD PG h134 (loadAt aR v133)) λv140=>k139 v140 h134) h134 λv137 h138=>
 eZ (yV v130) true (λk143=>bY (cB PG (binOp BinOp.gtr aR v137 (Value.int IntKind.i64 1))) λv144=>k143 v144 h138) h138 λv141 h142=>
 eZ (yV v126) false (λk147=>bY (eM v130 v141 (Value.bool false)) λv148=>k147 v148 h142) h142 λv145 h146=>
 eZ (yV v126) false (λk151=>k151 v145 h146) h146 λv149 h150=>
 eZ (yV v149) true (λk154=>bY (cB PG (fieldAt cS (pT r40 0) 4)) λv155=>k154 v155 h150) h150 λv152 h153=>
 eZ (yV v149) true (λk158=>bY (cD PG h153 (loadAt aT v152)) λv159=>k158 v159 h153) h153 λv156 h157=>
 eZ (yV v149) true (λk162=>bY (cD PG h157 (fV BinOp.eql aT (.tmp 100) (.const (Value.string {data:=#[]})) v156 (Value.string {data:=#[]}))) λv163=>k162 v163 h157) h157 λv160 h161=>
 eZ (yV v126) false (λk166=>bY (eM v149 v160 (Value.bool false)) λv167=>k166 v167 h161) h161 λv164 h165=>
 bY (eM v126 (Value.bool true) v164) λv168=>
 cQ v168
 (bY (cB PG (build cS #[])) λv169=>
 cN PG (cP cS (pT r1 0) v169) h165 λv170 h171=>
 bY (cD PG h171 (loadAt cS (pT r1 0))) λv172=>
 R (Value.tuple #[v172,(Value.int IntKind.i64 5)]) h171)
 (bY (cB PG (fieldAt cS (pT r40 0) 2)) λv173=>
 bY (cD PG h165 (loadAt aR v173)) λv174=>
 bY (cB PG (binOp BinOp.mul aR v174 v54)) λv175=>
 bY (cB PG (fieldAt cS (pT r40 0) 4)) λv176=>
 bY (cD PG h165 (loadAt aT v176)) λv177=>
 bY (cB PG (Builtin.len_ #[aT] aR #[v177])) λv178=>
 bY (cB PG (binOp BinOp.add aR v175 v178)) λv179=>
 bT PG uC #[t0,v179] h165 λv180 h181=>
 (bY (cD PG h181 (fV BinOp.eql aR (.tmp 115) (.const (Value.int IntKind.i64 0)) v180 (Value.int IntKind.i64 0))) λv182=>
 eZ (yV v182) false (λk185=>bY (cB PG (fieldAt cS (pT r40 0) 3)) λv186=>k185 v186 h181) h181 λv183 h184=>
 eZ (yV v182) false (λk189=>bY (cD PG h184 (loadAt aR v183)) λv190=>k189 v190 h184) h184 λv187 h188=>
 eZ (yV v182) false (λk193=>k193 t0 h188) h188 λv191 h192=>
 eZ (yV v182) false (λk196=>bT PG uC #[v191,(Value.int IntKind.i64 4096)] h192 λv197 h198=>k196 v197 h198) h192 λv194 h195=>
 ((yV v182==some false)=true->cD PG h195 (loadAt aR v183)=some v187)∧(eZ (yV v182) false (λk201=>bY (cB PG (binOp BinOp.gtr aR v187 v194)) λv202=>k201 v202 h195) h195 λv199 h200=>
 bY (eM v182 (Value.bool true) v199) λv203=>
 cQ v203
 (bY (cB PG (build cS #[])) λv204=>
 cN PG (cP cS (pT r1 0) v204) h200 λv205 h206=>
 bY (cD PG h206 (loadAt cS (pT r1 0))) λv207=>
 R (Value.tuple #[v207,(Value.int IntKind.i64 5)]) h206)
 (bY (cD PG h200 (loadAt cS (pT r40 0))) λv208=>
 cN PG (cP cS (pT r1 0) v208) h200 λv209 h210=>
 bY (cD PG h210 (loadAt cS (pT r1 0))) λv211=>
 R (Value.tuple #[v211,(Value.int IntKind.i64 0)]) h210))))))))
def aDM.ann:jY:={b:=λi=>match i with|16=>#[0,0,2,0,14,0,32,96,254,511,1023,2047,4095,8191,4095,20479,65535,131071,262143]|_=>#[],ord:=λi=>match i with|16=>[0,1,2,3,4,5,6,7,8,9,10,11,12,13,14,15,16,17,18]|_=>[],keep:=λ_=>[],n:=126}
def aDM.call{t0 t1 h0 R}(H:aDM t0 t1 h0 R):bT PG aHN #[t0,t1] h0 R:=dF aDM.ann Tryz.func177 H
def aGO(t0:Value)(t1:Value)(h0:PH)(R:cE):Prop:=
 bT PG aBM #[t0] h0 λv1 h2=>
 bY (cB PG (Op.unary UnOp.not v1)) λv3=>
 eZ (yV v3) false (λk6=>k6 t1 h2) h2 λv4 h5=>
 eZ (yV v3) false (λk9=>bY (cB PG (binOp BinOp.lss aR v4 (Value.int IntKind.i64 0))) λv10=>k9 v10 h5) h5 λv7 h8=>
 bY (eM v3 (Value.bool true) v7) λv11=>
 eZ (yV v11) false (λk14=>k14 t1 h8) h8 λv12 h13=>
 eZ (yV v11) false (λk17=>bY (cB PG (binOp BinOp.gtr aR v12 (Value.int IntKind.i64 4096))) λv18=>k17 v18 h13) h13 λv15 h16=>
 bY (eM v11 (Value.bool true) v15) λv19=>
 cQ v19
 (R (Value.int IntKind.i64 0) h16)
 (bY (cB PG (binOp BinOp.sub aR t0 (Value.int IntKind.i64 25))) λv20=>
 bY (cB PG (binOp BinOp.add aR t1 v20)) λv21=>
 bY (cB PG (binOp BinOp.sub aR v21 (Value.int IntKind.i64 1))) λv22=>
 bY (cB PG (binOp BinOp.quo aR v22 v20)) λv23=>
 bY (cB PG (Builtin.max_ #[aR,aR] aR #[(Value.int IntKind.i64 1),v23])) λv24=>
 R v24 h16)
def aGO.call{t0 t1 h0 R}(H:aGO t0 t1 h0 R):bT PG uC #[t0,t1] h0 R:=dF (iX 26) Tryz.func72 H
def aB3(b:Value)(c:PH)(R:cE):Prop:=fS b λd=>dN eV d 0 λe=>bT PG iP #[e] c λf a=>gL a .neq dK (.tmp 6) (.const (.int .i64 0)) f (.int .i64 0) λg=>cQ g (R (.int .i64 0) a) (fS b λh=>dN eV h 1 λi=>dC a aT i λj=>iS aT aR j λk=>R k a)
def aB3.call{t0 h0 R}(H:aB3 t0 h0 R):bT PG zR #[t0] h0 R:=dF (iX 13) Tryz.func183 H
def aB4(a:Value)(b:PH)(R:cE):Prop:=bT PG vL #[a,.int .i64 2] b λc d=>pP (convert cJ aR c) λe=>bT PG sA #[a,e] d λf g=>R f g
def aB4.call{t0 h0 R}(H:aB4 t0 h0 R):bT PG zJ #[t0] h0 R:=dF (iX 8) Tryz.func213 H
def aBc(b a:Value)(g:PH)(R:cE):Prop:=gL g .eql aT (.tmp 7) (.const (.string ⟨#[]⟩)) b (.string ⟨#[]⟩) λe=>iD e false a g λl m=>gJ e false (fV .eql aT (.tmp 10) (.const (.string ⟨#[]⟩)) l (.string ⟨#[]⟩)) m λn f=>bY (eM e (.bool true) n) λo=>cQ o (R b f) (iS aT aR a λp=>gL f .eql aR (.tmp 15) (.const (.int .i64 1)) p (.int .i64 1) λd=>iD d true a f λq r=>eY d true (Instr.index aT q (.int .i64 0)) r λs u=>eY d true (binOp .lss dM s (.int .u8 128)) u λv h=>bY (eM d v (.bool false)) λw=>cQ w (pP (Instr.index aT a (.int .i64 0)) λx=>pP (Instr.index aT a (.int .i64 0)) λy=>bT PG yT #[b,x] h λz A=>(bT PG zU #[z,y] A λB C=>(R B C))) (bT PG aIT #[a] h λi j=>gC i 0 λD=>gC i 1 λE=>∀c,j c=none->dU (PH.set j c (.cells (dJ PG aC3) aC3)) λF=>cN PG (cP aC3 (pT c 0) D) F λO k=>cQ E (bT PG aHd #[b,pT c 0] k λG H=>bT PG aIN #[G,pT c 0] H λI J=>R I J) (bT PG aGy #[b,a] k λK L=>bT PG aHL #[K,a] L λM N=>R M N)))
def aBc.ann:jY:={b:=λi=>match i with|4=>#[0,0,2,7,0,16,63,127]|_=>#[],ord:=λi=>match i with|4=>[0,1,2,4,5,3,6,7]|_=>[],keep:=λ_=>[],n:=43}
def aBc.call{t0 t1 h0 R}(H:aBc t0 t1 h0 R):bT PG aE0 #[t0,t1] h0 R:=dF aBc.ann Tryz.func214 H
def aDf(R:cE)(e:gH)(b c:Value)(f:PH):Prop:=iS aT aR b λg=>dV .gtr aR g (.int .i64 0) λa=>iD a true b f λh i=>eY a true (Instr.index aT h (.int .i64 0)) i λj k=>iD a true c k λl m=>gJ a true (fV .eql dM (.tmp 10) (.tmp 11) j l) m λn d=>bY (eM a n (.bool false)) λo=>cQ o (pP (Instr.sliceAt aT b (some (.int .i64 1)) none none) λp=>e [p,c] d) (R b d)
def xP(a b:Value)(c:PH)(R:cE):Prop:=hC [0,1] (λd ρ h=>aDf R d (ρ 0) (ρ 1) h) [a,b] c
def xP.call{t0 t1 h0 R}(H:xP t0 t1 h0 R):bT PG zU #[t0,t1] h0 R:=dF (tI 1 [0,1] 17) Tryz.func226 H
def aC0(R:cE)(e:gH)(b c:Value)(f:PH):Prop:=iS aT aR b λg=>dV .gtr aR g (.int .i64 0) λa=>iD a true b f λh i=>iD a true b i λj k=>eY a true (Builtin.len_ #[aT] aR #[j]) k λl m=>eY a true (binOp .sub aR l (.int .i64 1)) m λn o=>eY a true (Instr.index aT h n) o λp q=>iD a true c q λr s=>gJ a true (fV .eql dM (.tmp 13) (.tmp 14) p r) s λu d=>bY (eM a u (.bool false)) λv=>cQ v (iS aT aR b λw=>dV .sub aR w (.int .i64 1) λx=>pP (Instr.sliceAt aT b none (some x) none) λy=>e [y,c] d) (R b d)
def vU(a b:Value)(c:PH)(R:cE):Prop:=hC [0,1] (λd ρ h=>aC0 R d (ρ 0) (ρ 1) h) [a,b] c
def vU.call{t0 t1 h0 R}(H:vU t0 t1 h0 R):bT PG yT #[t0,t1] h0 R:=dF (tI 1 [0,1] 23) Tryz.func227 H
def aDL(t0:Value)(t1:Value)(h0:PH)(R:cE):Prop:=
 ∀r1,h0 r1=none->dU (PH.set h0 r1 (.cells (Value.cells t0) dY)) λh2=>
 bY (cD PG h2 (loadAt dY (pT r1 0))) λv3=>
 bT PG qD #[v3] h2 λv4 h5=>
 bY (cB PG (binOp BinOp.mul aR t1 v4)) λv6=>
 bY (cB PG (binOp BinOp.add aR (Value.int IntKind.i64 2) v6)) λv7=>
 R v7 h5
def aDL.call{t0 t1 h0 R}(H:aDL t0 t1 h0 R):bT PG xL #[t0,t1] h0 R:=dF (iX 10) Tryz.func65 H
def aA1(t0:Value)(h0:PH)(R:cE):Prop:=
 ∀r1,h0 r1=none->dU (PH.set h0 r1 (.cells (Value.cells t0) dY)) λh2=>
 bY (cB PG (fieldAt dY (pT r1 0) 0)) λv3=>
 bY (cD PG h2 (loadAt fY v3)) λv4=>
 bY (cB PG (gI v4)) λv5=>
 bY (cB PG (fieldAt dW v5 0)) λv6=>
 bY (cD PG h2 (loadAt dZ v6)) λv7=>
 bT PG sX #[v7] h2 λv8 h9=>
 bY (cB PG (binOp BinOp.sub aR v8 (Value.int IntKind.i64 2))) λv10=>
 bY (cB PG (binOp BinOp.quo aR v10 (Value.int IntKind.i64 2))) λv11=>
 R v11 h9
def aA1.call{t0 h0 R}(H:aA1 t0 h0 R):bT PG qD #[t0] h0 R:=dF (iX 11) Tryz.func66 H
def aHU(R:cE)(l:gH)(b f c g h i d:Value)(a:PH):Prop:=dV .lss aR d i λm=>cQ m (nO dD h d λn=>dC a aT n λo=>zI PG g #[o] a λy p=>dV .add aR d (.int .i64 1) λq=>l [b,f,c,g,h,i,q] p) (dC a dK c λr=>gL a .neq dK (.tmp 35) (.const (.int .i64 0)) r (.int .i64 0) λs=>cQ s (pP (build bR #[]) λu=>dC a dK c λj=>cN PG (cP bR b u) a λz e=>cD PG e (loadAt dK c)=some j∧(dC e bR b λv=>R (.tuple #[v,j]) e)) (dC a bR f λw=>cN PG (cP bR b w) a λA k=>dC k bR b λx=>R (.tuple #[x,.int .i64 0]) k))
def aAB(o f:Value)(g:PH)(R:cE):Prop:=∀e,g e=none->dU (PH.set g e (.cells o.cells aR)) λi=>∀a,i a=none->dU (PH.set i a (.cells (dJ PG bR) bR)) λb=>iS dD aR f λp=>gL b .eql aR (.tmp 12) (.const (.int .i64 0)) p (.int .i64 0) λq=>cQ q (pP (build bR #[]) λr=>cN PG (cP bR (pT a 0) r) b λF j=>dC j bR (pT a 0) λs=>R (.tuple #[s,.int .i64 3]) j) (dC b aR (pT e 0) λu=>nO dD f (.int .i64 0) λv=>dC b aT v λw=>bT PG aE3 #[u,w] b λk l=>(gC k 0 λx=>gC k 1 λy=>∀c,l c=none->dU (PH.set l c (.cells (dJ PG bR) bR)) λm=>∀d,m d=none->dU (PH.set m d (.cells (dJ PG dK) dK)) λz=>cN PG (cP bR (pT c 0) x) z λG A=>(cN PG (cP dK (pT d 0) y) A λH B=>(pP (Instr.makeFunc (Fn.func vM) #[] #[pT d 0,pT c 0,pT e 0]) λC=>pP (Instr.sliceAt dD f (some (.int .i64 1)) none none) λn=>iS dD aR n λD=>hC [4,6,7,8,25,26,27] (λE ρ h=>aHU R E (ρ 4) (ρ 6) (ρ 7) (ρ 8) (ρ 25) (ρ 26) (ρ 27) h) [(pT a 0),pT c 0,pT d 0,C,n,D,.int .i64 0] B))))
def aAB.ann:jY:={b:=λi=>match i with|3=>#[0,0,2,6,15,31,63,63,0,0,895,2047]|11=>#[0,0,1,7]|_=>#[],ord:=λi=>match i with|3=>[0,1,2,3,4,5,6,7,8,9,10,11]|11=>[0,1,2,3]|_=>[],keep:=λi=>match i with|6=>[4,6,7,8,25,26,27]|_=>[],n:=40}
def aAB.call{t0 t1 h0 R}(H:aAB t0 t1 h0 R):bT PG aEX #[t0,t1] h0 R:=dF aAB.ann Tryz.func29 H
def aFa(n o:Value)(e:PH)(R:cE):Prop:=∀a,e a=none->dU (PH.set e a (.cells (dJ PG bR) bR)) λp=>bT PG aCq #[o] p λf g=>gC f 0 λq=>gC f 1 λh=>∀c,g c=none->dU (PH.set g c (.cells (dJ PG bW) bW)) λr=>cN PG (cP bW (pT c 0) q) r λJ b=>gL b .neq dK (.tmp 15) (.const (.int .i64 0)) h (.int .i64 0) λs=>cQ s (pP (build bR #[]) λu=>cN PG (cP bR (pT a 0) u) b λK i=>dC i bR (pT a 0) λv=>R (.tuple #[v,h]) i) (dN bW (pT c 0) 0 λw=>dC b aR w λx=>gL b .neq aR (.tmp 21) (.const (.int .i64 1)) x (.int .i64 1) λy=>cQ y (pP (build bR #[]) λz=>cN PG (cP bR (pT a 0) z) b λL j=>dC j bR (pT a 0) λA=>R (.tuple #[A,.int .i64 5]) j) (dN bW (pT c 0) 1 λB=>dC b bR B λC=>bT PG wJ #[C,n] b λk d=>gL d .neq dK (.tmp 28) (.const (.int .i64 0)) k (.int .i64 0) λD=>cQ D (pP (build bR #[]) λE=>cN PG (cP bR (pT a 0) E) d λM l=>dC l bR (pT a 0) λF=>R (.tuple #[F,k]) l) (dN bW (pT c 0) 1 λG=>dC d bR G λH=>cN PG (cP bR (pT a 0) H) d λN m=>dC m bR (pT a 0) λI=>R (.tuple #[I,.int .i64 0]) m)))
def aFa.call{t0 t1 h0 R}(H:aFa t0 t1 h0 R):bT PG aE3 #[t0,t1] h0 R:=dF (iX 34) Tryz.func67 H
def aCE(R:cE)(a f g:Value)(h:PH):Prop:=bT PG aDA #[f] h λc b=>gL b .neq dK (.tmp 51) (.const (.int .i64 0)) c (.int .i64 0) λi=>cQ i (pP (build bW #[]) λj=>cN PG (cP bW a j) b λn d=>dC d bW a λk=>R (.tuple #[k,c]) d) (dC b bW g λl=>cN PG (cP bW a l) b λo e=>dC e bW a λm=>R (.tuple #[m,.int .i64 0]) e)
def aEW(R:cE)(c a b:Value)(d:PH):Prop:=dC d bW b λf=>bT PG aCm #[f] d λg e=>pP (Op.unary .not g) λh=>cQ h (fS a λi=>dN eV i 0 λj=>bT PG jG #[j,.int .i64 5] e λl k=>aCE R c a b k) (aCE R c a b e)
def uR(R:cE)(a b c:Value)(d:PH):Prop:=aEW R a b c d
def aIO(R:cE)(f:gH)(d a b c:Value)(e:PH):Prop:=dV .lss aR c (.int .i64 2) λg=>cQ g (bT PG aEE #[a] e λh i=>dN bW b 1 λj=>dN bR j 0 λk=>nO cU k c λl=>cN PG (cP cG l h) i λu m=>dV .add aR c (.int .i64 1) λn=>f [d,a,b,n] m) (bT PG aHB #[a] e λo p=>dN bW b 1 λq=>dN bR q 1 λr=>cN PG (cP bZ r o) p λv s=>uR R d a b s)
def aFb(i:Value)(e:PH)(R:cE):Prop:=∀d,e d=none->dU (PH.set e d (.cells (dJ PG bW) bW)) λj=>bT PG xG #[i] j λb k=>bT PG jV #[b] k λl f=>pP (build bW #[(0,l)]) λm=>∀a,f a=none->dU (PH.set f a (.cells (dJ PG bW) bW)) λn=>cN PG (cP bW (pT a 0) m) n λF c=>dN bW (pT a 0) 0 λo=>dC c aR o λg=>gL c .eql aR (.tmp 14) (.const (.int .i64 1)) g (.int .i64 1) λp=>cQ p (hC [2,4,5,17] (λq ρ h=>aIO R q (ρ 2) (ρ 4) (ρ 5) (ρ 17) h) [(pT d 0),b,pT a 0,.int .i64 0] c) (gL c .eql aR (.tmp 14) (.const (.int .i64 2)) g (.int .i64 2) λr=>cQ r (bT PG jV #[b] c λs u=>dN bW (pT a 0) 2 λv=>cN PG (cP aR v s) u λG w=>bT PG aEE #[b] w λx y=>dN bW (pT a 0) 3 λz=>cN PG (cP cG z x) y λH A=>bT PG aHD #[b] A λB C=>dN bW (pT a 0) 4 λD=>cN PG (cP cZ D B) C λI E=>uR R (pT d 0) b (pT a 0) E) (uR R (pT d 0) b (pT a 0) c))
def aFb.call{t0 h0 R}(H:aFb t0 h0 R):bT PG aCq #[t0] h0 R:=dF (tI 6 [2,4,5,17] 56) Tryz.func69 H
def aFC(m:Value)(j:PH)(R:cE):Prop:=∀a,j a=none->dU (PH.set j a (.cells m.cells bW)) λb=>dN bW (pT a 0) 0 λn=>dC b aR n λk=>gL b .eql aR (.tmp 4) (.const (.int .i64 1)) k (.int .i64 1) λo=>cQ o (dN bW (pT a 0) 2 λp=>dC b aR p λq=>gL b .eql aR (.tmp 8) (.const (.int .i64 0)) q (.int .i64 0) λf=>eY f true (fieldAt bW (pT a 0) 3) b λr s=>gJ f true (loadAt cG r) s λu v=>eY f true (build cG #[]) v λw x=>gJ f true (fV .eql cG (.tmp 12) (.tmp 13) u w) x λy z=>bY (eM f y (.bool false)) λg=>eY g true (fieldAt bW (pT a 0) 4) z λA B=>gJ g true (loadAt cZ A) B λC D=>eY g true (Builtin.len_ #[cZ] aR #[C]) D λE F=>gJ g true (fV .eql aR (.tmp 19) (.const (.int .i64 0)) E (.int .i64 0)) F λG H=>bY (eM g G (.bool false)) λc=>eY c true (fieldAt bW (pT a 0) 1) H λI J=>eY c true (fieldAt bR I 1) J λK L=>gJ c true (loadAt bZ K) L λM N=>eY c true (Builtin.len_ #[bZ] aR #[M]) N λO P=>eY c true (binOp .leq aR O (.int .i64 40)) P λQ S=>bY (eM c Q (.bool false)) λU=>R U S) (gL b .eql aR (.tmp 4) (.const (.int .i64 2)) k (.int .i64 2) λV=>cQ V (dN bW (pT a 0) 1 λW=>dN bR W 0 λX=>dC b cU X λY=>pP (build cU #[]) λZ=>gL b .eql cU (.tmp 33) (.tmp 34) Y Z λd=>eY d true (fieldAt bW (pT a 0) 1) b λa0 a1=>eY d true (fieldAt bR a0 1) a1 λa2 a3=>gJ d true (loadAt bZ a2) a3 λa4 a5=>eY d true (Builtin.len_ #[bZ] aR #[a4]) a5 λa6 a7=>gJ d true (fV .eql aR (.tmp 40) (.const (.int .i64 0)) a6 (.int .i64 0)) a7 λa8 a9=>bY (eM d a8 (.bool false)) λe=>eY e true (fieldAt bW (pT a 0) 2) a9 λaa ab=>gJ e true (loadAt aR aa) ab λac ad=>gJ e true (fV .eql aR (.tmp 45) (.const (.int .i64 0)) ac (.int .i64 0)) ad λae af=>iD e true ae af λi ag=>eY i false (fieldAt bW (pT a 0) 2) ag λah ai=>gJ i false (loadAt aR ah) ai λaj ak=>gJ i false (fV .eql aR (.tmp 49) (.const (.int .i64 1)) aj (.int .i64 1)) ak λal l=>eZ (yV e) true (λam=>bY (eM i (.bool true) al) λan=>am an l) l λao ap=>bY (eM e ao (.bool false)) λh=>eY h true (fieldAt bW (pT a 0) 4) ap λaq ar=>gJ h true (loadAt cZ aq) ar λau av=>eY h true (Builtin.len_ #[cZ] aR #[au]) av λaw ax=>eY h true (binOp .leq aR aw (.int .i64 16)) ax λay az=>bY (eM h ay (.bool false)) λaA=>R aA az) (R (.bool false) b))
def aFC.call{t0 h0 R}(H:aFC t0 h0 R):bT PG aCm #[t0] h0 R:=dF (iX 59) Tryz.func84 H
def aDW(R:cE)(e a f g:Value)(h:PH):Prop:=fS e λi=>dN eV i 0 λj=>bT PG iP #[j] h λk b=>gL b .neq dK (.tmp 18) (.const (.int .i64 0)) k (.int .i64 0) λl=>cQ l (pP (build cG #[]) λm=>cN PG (cP cG a m) b λr c=>dC c cG a λn=>R n c) (pP (convert cJ aR g) λo=>pP (build cG #[(0,f),(1,o)]) λp=>cN PG (cP cG a p) b λs d=>dC d cG a λq=>R q d)
def aHf(a:Value)(d:PH)(R:cE):Prop:=∀b,d b=none->dU (PH.set d b (.cells (dJ PG cG) cG)) λg=>bT PG lH #[a] g λe h=>bT PG lH #[a] h λc f=>dV .gtr cJ c (.int .u64 65535) λi=>cQ i (fS a λj=>dN eV j 0 λk=>bT PG jG #[k,.int .i64 5] f λm l=>aDW R a (pT b 0) e c l) (aDW R a (pT b 0) e c f)
def aHf.call{t0 h0 R}(H:aHf t0 h0 R):bT PG aEE #[t0] h0 R:=dF (iX 25) Tryz.func134 H
def aHm(a:Value)(b:PH)(R:cE):Prop:=bT PG aFV #[a,.int .i64 2,(.func (Fn.func mN) #[] #[])] b λc d=>R c d
def aHm.call{t0 h0 R}(H:aHm t0 h0 R):bT PG aHB #[t0] h0 R:=dF (iX 5) Tryz.func135 H
def vP(R:cE)(c:gH)(d e a f g h i:Value)(b:PH):Prop:=dC b bX i λj=>zI PG a #[h,j] b λk l=>yY l (buildSlice bZ 1 #[(0,k)]) λm n=>cN PG (Builtin.append_ #[bZ,bZ] bZ #[f,m]) n λo p=>dV .sub aR g (.int .i64 1) λq=>c [d,e,a,o,q] p
def aFE(R:cE)(j:gH)(a f k g h:Value)(p:PH):Prop:=dV .gtr aR h (.int .i64 0) λb=>iD b true a p λq r=>eY b true (gI q) r λs u=>eY b true (fieldAt eV s 0) u λv l=>eZ (yV b) true (λw=>bT PG iP #[v] l λx y=>w x y) l λz A=>gJ b true (fV .eql dK (.tmp 19) (.const (.int .i64 0)) z (.int .i64 0)) A λB m=>bY (eM b B (.bool false)) λC=>cQ C (bT PG jV #[a] m λd D=>bT PG aD9 #[a] D λE n=>∀c,n c=none->dU (PH.set n c (.cells (dJ PG bX) bX)) λF=>cN PG (cP bX (pT c 0) E) F λW G=>dV .lss aR d (.int .i64 1) λe=>iD e false d G λH I=>iD e false f I λJ K=>eY e false (binOp .gtr aR H J) K λL o=>bY (eM e (.bool true) L) λM=>cQ M (fS a λN=>dN eV N 0 λO=>bT PG jG #[O,.int .i64 5] o λX P=>vP R j a f k g h d (pT c 0) P) (vP R j a f k g h d (pT c 0) o)) (fS a λQ=>dN eV Q 0 λS=>bT PG iP #[S] m λU i=>gL i .neq dK (.tmp 49) (.const (.int .i64 0)) U (.int .i64 0) λV=>cQ V (R (.slice none 0 0) i) (R g i))
def aA7(a b c:Value)(d:PH)(R:cE):Prop:=bT PG jV #[a] d λe f=>hC [0,1,2,7,8] (λg ρ h=>aFE R g (ρ 0) (ρ 1) (ρ 2) (ρ 7) (ρ 8) h) [a,b,c,(.slice none 0 0),e] f
def aA7.call{t0 t1 t2 h0 R}(H:aA7 t0 t1 t2 h0 R):bT PG aFV #[t0,t1,t2] h0 R:=dF (tI 3 [0,1,2,7,8] 52) Tryz.func179 H
def aDZ(R:cE)(e a f:Value)(g:PH):Prop:=fS e λh=>dN eV h 0 λi=>bT PG iP #[i] g λj b=>gL b .neq dK (.tmp 23) (.const (.int .i64 0)) j (.int .i64 0) λk=>cQ k (pP (build bX #[]) λl=>cN PG (cP bX a l) b λp c=>dC c bX a λm=>R m c) (dC b bX f λn=>cN PG (cP bX a n) b λq d=>dC d bX a λo=>R o d)
def aHb(a:Value)(e:PH)(R:cE):Prop:=∀c,e c=none->dU (PH.set e c (.cells (dJ PG bX) bX)) λh=>bT PG jV #[a] h λi j=>bT PG lH #[a] j λk l=>bT PG lH #[a] l λm n=>bT PG zJ #[a] n λo f=>pP (build bX #[(0,i),(1,k),(2,m),(3,o)]) λp=>∀b,f b=none->dU (PH.set f b (.cells (dJ PG bX) bX)) λq=>cN PG (cP bX (pT b 0) p) q λy g=>dC g bX (pT b 0) λr=>bT PG vR #[r] g λs d=>gL d .neq dK (.tmp 14) (.const (.int .i64 0)) s (.int .i64 0) λu=>cQ u (fS a λv=>dN eV v 0 λw=>bT PG jG #[w,.int .i64 5] d λz x=>aDZ R a (pT c 0) (pT b 0) x) (aDZ R a (pT c 0) (pT b 0) d)
def aHb.call{t0 h0 R}(H:aHb t0 h0 R):bT PG aD9 #[t0] h0 R:=dF (iX 27) Tryz.func215 H
def aE5(g h:Value)(c:PH)(R:cE):Prop:=∀b,c b=none->dU (PH.set c b (.cells h.cells bX)) λd=>∀a,d a=none->dU (PH.set d a (.cells (dJ PG cF) cF)) λe=>dC e bX (pT b 0) λi=>pP (build cF #[(0,i),(1,g)]) λj=>cN PG (cP cF (pT a 0) j) e λl f=>dC f cF (pT a 0) λk=>R k f
def aE5.call{t0 t1 h0 R}(H:aE5 t0 t1 h0 R):bT PG mN #[t0,t1] h0 R:=dF (iX 8) Tryz.func180 H
def aHe(a:Value)(b:PH)(R:cE):Prop:=bT PG aFK #[a,.int .i64 4,(.func (Fn.func mI) #[] #[])] b λc d=>R c d
def aHe.call{t0 h0 R}(H:aHe t0 h0 R):bT PG aHD #[t0] h0 R:=dF (iX 5) Tryz.func136 H
def vY(R:cE)(c:gH)(d e a f g h i:Value)(b:PH):Prop:=dC b bX i λj=>zI PG a #[h,j] b λk l=>yY l (buildSlice cZ 1 #[(0,k)]) λm n=>cN PG (Builtin.append_ #[cZ,cZ] cZ #[f,m]) n λo p=>dV .sub aR g (.int .i64 1) λq=>c [d,e,a,o,q] p
def aFp(R:cE)(j:gH)(a f k g h:Value)(p:PH):Prop:=dV .gtr aR h (.int .i64 0) λb=>iD b true a p λq r=>eY b true (gI q) r λs u=>eY b true (fieldAt eV s 0) u λv l=>eZ (yV b) true (λw=>bT PG iP #[v] l λx y=>w x y) l λz A=>gJ b true (fV .eql dK (.tmp 19) (.const (.int .i64 0)) z (.int .i64 0)) A λB m=>bY (eM b B (.bool false)) λC=>cQ C (bT PG jV #[a] m λd D=>bT PG aD9 #[a] D λE n=>∀c,n c=none->dU (PH.set n c (.cells (dJ PG bX) bX)) λF=>cN PG (cP bX (pT c 0) E) F λW G=>dV .lss aR d (.int .i64 1) λe=>iD e false d G λH I=>iD e false f I λJ K=>eY e false (binOp .gtr aR H J) K λL o=>bY (eM e (.bool true) L) λM=>cQ M (fS a λN=>dN eV N 0 λO=>bT PG jG #[O,.int .i64 5] o λX P=>vY R j a f k g h d (pT c 0) P) (vY R j a f k g h d (pT c 0) o)) (fS a λQ=>dN eV Q 0 λS=>bT PG iP #[S] m λU i=>gL i .neq dK (.tmp 49) (.const (.int .i64 0)) U (.int .i64 0) λV=>cQ V (R (.slice none 0 0) i) (R g i))
def aBD(a b c:Value)(d:PH)(R:cE):Prop:=bT PG jV #[a] d λe f=>hC [0,1,2,7,8] (λg ρ h=>aFp R g (ρ 0) (ρ 1) (ρ 2) (ρ 7) (ρ 8) h) [a,b,c,(.slice none 0 0),e] f
def aBD.call{t0 t1 t2 h0 R}(H:aBD t0 t1 t2 h0 R):bT PG aFK #[t0,t1,t2] h0 R:=dF (tI 3 [0,1,2,7,8] 52) Tryz.func181 H
def aFm(g h:Value)(c:PH)(R:cE):Prop:=∀b,c b=none->dU (PH.set c b (.cells h.cells bX)) λd=>∀a,d a=none->dU (PH.set d a (.cells (dJ PG cL) cL)) λe=>dC e bX (pT b 0) λi=>pP (build cL #[(0,g),(1,i)]) λj=>cN PG (cP cL (pT a 0) j) e λl f=>dC f cL (pT a 0) λk=>R k f
def aFm.call{t0 t1 h0 R}(H:aFm t0 t1 h0 R):bT PG mI #[t0,t1] h0 R:=dF (iX 8) Tryz.func182 H
def aCv(a:Value)(c:PH)(R:cE):Prop:=bT PG zR #[a] c λd b=>dV .gtr aR d (.int .i64 0) λe=>cQ e (R (.int .i64 7) b) (fS a λf=>dN eV f 0 λg=>bT PG iP #[g] b λh i=>R h i)
def aCv.call{t0 h0 R}(H:aCv t0 h0 R):bT PG aDA #[t0] h0 R:=dF (iX 10) Tryz.func138 H
def zG(R:cE)(a b:Value)(c:PH):Prop:=cN PG (cP dK a b) c λe d=>R (.tuple #[]) d
def zQ(R:cE)(b c f g d:Value)(a:PH):Prop:=gL a .eql dK (.tmp 16) (.const (.int .i64 0)) d (.int .i64 0) λh=>cQ h (dC a bR c λi=>dC a aR f λj=>dC a bW g λk=>bT PG aDb #[i,j,k] a λe l=>gC e 0 λm=>gC e 1 λn=>cN PG (cP bR c m) l λp o=>zG R b n o) (zG R b d a)
def wO(i b e f:Value)(d:PH)(R:cE):Prop:=pP (build bW #[]) λj=>dC d dK b λg=>∀a,d a=none->dU (PH.set d a (.cells (dJ PG bW) bW)) λk=>cN PG (cP bW (pT a 0) j) k λr c=>cD PG c (loadAt dK b)=some g∧(dC c dK b λl=>gL c .eql dK (.tmp 9) (.const (.int .i64 0)) l (.int .i64 0) λm=>cQ m (bT PG aCq #[i] c λh n=>gC h 0 λo=>gC h 1 λp=>cN PG (cP bW (pT a 0) o) n λs q=>zQ R b e f (pT a 0) p q) (zQ R b e f (pT a 0) g c))
def wO.ann:jY:={b:=λi=>match i with|0=>#[0,0,0,5,15]|_=>#[],ord:=λi=>match i with|0=>[0,1,2,3,4]|_=>[],keep:=λ_=>[],n:=26}
def wO.call{t0 t1 t2 t3 h0 R}(H:wO t0 t1 t2 t3 h0 R):bT PG vM #[t0,t1,t2,t3] h0 R:=dF wO.ann Tryz.func68 H
def aGP(F g G:Value)(j:PH)(R:cE):Prop:=∀d,j d=none->dU (PH.set j d (.cells F.cells bR)) λk=>∀b,k b=none->dU (PH.set k b (.cells G.cells bW)) λl=>∀a,l a=none->dU (PH.set l a (.cells (dJ PG bR) bR)) λm=>dC m bR (pT d 0) λH=>bT PG wJ #[H,g] m λn e=>gL e .neq dK (.tmp 19) (.const (.int .i64 0)) n (.int .i64 0) λI=>cQ I (pP (build bR #[]) λJ=>cN PG (cP bR (pT a 0) J) e λar o=>dC o bR (pT a 0) λK=>R (.tuple #[K,n]) o) (dC e bW (pT b 0) λL=>bT PG aAT #[L] e λp c=>gC p 0 λau=>gC p 1 λq=>gL c .neq dK (.tmp 28) (.const (.int .i64 0)) q (.int .i64 0) λM=>cQ M (pP (build bR #[]) λN=>cN PG (cP bR (pT a 0) N) c λav r=>dC r bR (pT a 0) λO=>R (.tuple #[O,q]) r) (dN bW (pT b 0) 0 λP=>dC c aR P λQ=>gL c .eql aR (.tmp 33) (.const (.int .i64 1)) Q (.int .i64 1) λS=>cQ S (dN bW (pT b 0) 1 λU=>dC c bR U λV=>bT PG wJ #[V,g] c λs f=>gL f .neq dK (.tmp 39) (.const (.int .i64 0)) s (.int .i64 0) λW=>cQ W (pP (build bR #[]) λX=>cN PG (cP bR (pT a 0) X) f λaw u=>dC u bR (pT a 0) λY=>R (.tuple #[Y,s]) u) (dN bW (pT b 0) 1 λZ=>dN bR Z 1 λa0=>dC f bZ a0 λa1=>bT PG mH #[a1] f λa2 a3=>dN bW (pT b 0) 1 λa4=>dN bR a4 1 λa5=>cN PG (cP bZ a5 a2) a3 λax v=>dN bW (pT b 0) 1 λa6=>dC v bR a6 λa7=>cN PG (cP bR (pT a 0) a7) v λay w=>dC w bR (pT a 0) λa8=>R (.tuple #[a8,.int .i64 0]) w)) (dN bR (pT d 0) 1 λa9=>dC c bZ a9 λaa=>bT PG aGU #[g,aa] c λx y=>gC x 0 λz=>gC x 1 λaz=>dN bW (pT b 0) 4 λab=>dC y cZ ab λac=>bT PG aHH #[z,ac] y λA h=>gC A 0 λaA=>gC A 1 λB=>gL h .neq dK (.tmp 65) (.const (.int .i64 0)) B (.int .i64 0) λad=>cQ ad (pP (build bR #[]) λae=>cN PG (cP bR (pT a 0) ae) h λaB C=>dC C bR (pT a 0) λaf=>R (.tuple #[af,B]) C) (bT PG xV #[z] h λag ah=>dN bR (pT d 0) 1 λai=>cN PG (cP bZ ai ag) ah λaC i=>dN bW (pT b 0) 2 λaj=>dC i aR aj λak=>dN bW (pT b 0) 3 λal=>dC i cG al λam=>dN bR (pT d 0) 0 λan=>nO cU an ak λao=>cN PG (cP cG ao am) i λaD D=>dC D bR (pT d 0) λap=>cN PG (cP bR (pT a 0) ap) D λaE E=>dC E bR (pT a 0) λaq=>R (.tuple #[aq,.int .i64 0]) E))))
def aGP.call{t0 t1 t2 h0 R}(H:aGP t0 t1 t2 h0 R):bT PG aDb #[t0,t1,t2] h0 R:=dF (iX 79) Tryz.func38 H
def nL(b:Value)(a:PH)(R:cE):Prop:=gL a .eql bZ (.tmp 3) (.const (.slice none 0 0)) b (.slice none 0 0) λc=>cQ c (R (.slice none 0 0) a) (yY a (buildSlice bZ 0 #[]) λd e=>cN PG (Builtin.append_ #[bZ,bZ] bZ #[d,b]) e λf g=>R f g)
def nL.call{t0 h0 R}(H:nL t0 h0 R):bT PG mH #[t0] h0 R:=dF (iX 8) Tryz.func33 H
def aIE(R:cE)(i:gH)(e a f d:Value)(b:PH):Prop:=dV .lss aR d (.int .i64 2) λj=>cQ j (pP (Instr.index cU f d) λk=>∀c,b c=none->dU (PH.set b c (.cells (dJ PG cG) cG)) λl=>cN PG (cP cG (pT c 0) k) l λx g=>dC g cG (pT c 0) λm=>bT PG aCA #[a,m] g λy n=>dV .add aR d (.int .i64 1) λo=>i [e,a,f,o] n) (dN bW e 1 λp=>dN bR p 1 λq=>dC b bZ q λr=>bT PG aEY #[a,r] b λz s=>bT PG nZ #[a] s λh u=>gC h 0 λv=>gC h 1 λw=>R (.tuple #[v,w]) u)
def aFL(l:Value)(e:PH)(R:cE):Prop:=∀a,e a=none->dU (PH.set e a (.cells l.cells bW)) λf=>dC f bW (pT a 0) λm=>bT PG aCm #[m] f λn d=>pP (Op.unary .not n) λo=>cQ o (R (.tuple #[(.string ⟨#[]⟩),.int .i64 1]) d) (∀b,d b=none->dU (PH.set d b (.cells (dJ PG fB) fB)) λg=>dN bW (pT a 0) 0 λp=>dC g aR p λq=>bT PG iR #[pT b 0,q] g λJ c=>dN bW (pT a 0) 0 λr=>dC c aR r λs=>gL c .eql aR (.tmp 14) (.const (.int .i64 1)) s (.int .i64 1) λu=>cQ u (dN bW (pT a 0) 1 λv=>dN bR v 0 λw=>dC c cU w λx=>hC [1,4,18,19] (λy ρ h=>aIE R y (ρ 1) (ρ 4) (ρ 18) (ρ 19) h) [(pT a 0),pT b 0,x,.int .i64 0] c) (dN bW (pT a 0) 2 λz=>dC c aR z λA=>bT PG iR #[pT b 0,A] c λK i=>dN bW (pT a 0) 3 λB=>dC i cG B λC=>bT PG aCA #[pT b 0,C] i λL j=>dN bW (pT a 0) 4 λD=>dC j cZ D λE=>bT PG aER #[pT b 0,E] j λM F=>bT PG nZ #[pT b 0] F λk G=>gC k 0 λH=>gC k 1 λI=>R (.tuple #[H,I]) G))
def aFL.call{t0 h0 R}(H:aFL t0 h0 R):bT PG aAT #[t0] h0 R:=dF (tI 7 [1,4,18,19] 44) Tryz.func39 H
def aBB(R:cE)(a b:Value)(c:PH):Prop:=dN cG b 0 λe=>dC c cJ e λf=>bT PG kL #[a,f] c λk d=>dN cG b 1 λg=>dC d aR g λh=>pP (convert aR cJ h) λi=>bT PG kL #[a,i] d λl j=>R (.tuple #[]) j
def aEC(c g:Value)(d:PH)(R:cE):Prop:=∀a,d a=none->dU (PH.set d a (.cells g.cells cG)) λe=>dN cG (pT a 0) 1 λh=>dC e aR h λi=>dV .lss aR i (.int .i64 0) λb=>eY b false (fieldAt cG (pT a 0) 1) e λj k=>gJ b false (loadAt aR j) k λl m=>eY b false (binOp .gtr aR l (.int .i64 65535)) m λn f=>bY (eM b (.bool true) n) λo=>cQ o (bT PG iR #[c,.int .i64 (-1)] f λq p=>aBB R c (pT a 0) p) (aBB R c (pT a 0) f)
def aEC.call{t0 t1 h0 R}(H:aEC t0 t1 h0 R):bT PG aCA #[t0,t1] h0 R:=dF (iX 23) Tryz.func86 H
def aD7(a b:Value)(c:PH)(R:cE):Prop:=bT PG aFi #[a,(.func (Fn.func vB) #[] #[]),b] c λe d=>R (.tuple #[]) d
def aD7.call{t0 t1 h0 R}(H:aD7 t0 t1 h0 R):bT PG aEY #[t0,t1] h0 R:=dF (iX 7) Tryz.func87 H
def aFA(R:cE)(m:gH)(d f g h e:Value)(a:PH):Prop:=dV .lss aR e h λn=>cQ n (nO bZ g e λo=>dC a cF o λp=>∀b,a b=none->dU (PH.set a b (.cells (dJ PG cF) cF)) λq=>cN PG (cP cF (pT b 0) p) q λA i=>dC i cF (pT b 0) λr=>zI PG f #[r] i λj k=>gC j 0 λs=>gC j 1 λu=>∀c,k c=none->dU (PH.set k c (.cells (dJ PG bX) bX)) λv=>cN PG (cP bX (pT c 0) u) v λB w=>bT PG iR #[d,s] w λC l=>dC l bX (pT c 0) λx=>bT PG aD8 #[d,x] l λD y=>dV .add aR e (.int .i64 1) λz=>m [d,f,g,h,z] y) (R (.tuple #[]) a)
def aA8(b c a:Value)(d:PH)(R:cE):Prop:=iS bZ aR a λe=>bT PG iR #[b,e] d λj f=>iS bZ aR a λg=>hC [0,1,14,15,16] (λi ρ h=>aFA R i (ρ 0) (ρ 1) (ρ 14) (ρ 15) (ρ 16) h) [b,c,a,g,.int .i64 0] f
def aA8.call{t0 t1 t2 h0 R}(H:aA8 t0 t1 t2 h0 R):bT PG aFi #[t0,t1,t2] h0 R:=dF (tI 2 [0,1,14,15,16] 33) Tryz.func146 H
def aHW(b i:Value)(d:PH)(R:cE):Prop:=∀a,d a=none->dU (PH.set d a (.cells i.cells bX)) λe=>dC e bX (pT a 0) λj=>bT PG vR #[j] e λk c=>gL c .neq dK (.tmp 5) (.const (.int .i64 0)) k (.int .i64 0) λl=>cQ l (bT PG iR #[b,.int .i64 (-1)] c λx m=>R (.tuple #[]) m) (dN bX (pT a 0) 0 λn=>dC c aR n λo=>bT PG iR #[b,o] c λy f=>dN bX (pT a 0) 1 λp=>dC f cJ p λq=>bT PG kL #[b,q] f λz g=>dN bX (pT a 0) 2 λr=>dC g cJ r λs=>bT PG kL #[b,s] g λA h=>dN bX (pT a 0) 3 λu=>dC h aT u λv=>bT PG tX #[b,v] h λB w=>R (.tuple #[]) w)
def aHW.call{t0 t1 h0 R}(H:aHW t0 t1 h0 R):bT PG aD8 #[t0,t1] h0 R:=dF (iX 25) Tryz.func190 H
def aB1(a b:Value)(c:PH)(R:cE):Prop:=iS aT aR b λd=>dV .gtr aR d (.int .i64 65535) λe=>cQ e (fS a λf=>dN fB f 0 λg=>bT PG jG #[g,.int .i64 1] c λm h=>R (.tuple #[]) h) (iS aT aR b λi=>pP (convert aR cJ i) λj=>bT PG vE #[a,j,.int .i64 2] c λn k=>bT PG nQ #[a,b] k λo l=>R (.tuple #[]) l)
def aB1.call{t0 t1 h0 R}(H:aB1 t0 t1 h0 R):bT PG tX #[t0,t1] h0 R:=dF (iX 19) Tryz.func140 H
def wD(j:Value)(d:PH)(R:cE):Prop:=∀a,d a=none->dU (PH.set d a (.cells j.cells cF)) λe=>∀b,e b=none->dU (PH.set e b (.cells (dJ PG bX) bX)) λc=>dN cF (pT a 0) 1 λk=>dC c aR k λl=>dN cF (pT a 0) 0 λf=>dC c bX f λg=>bT PG aFT #[l,.int .i64 2] c λm h=>cD PG h (loadAt bX f)=some g∧(cN PG (cP bX (pT b 0) g) h λo i=>(dC i bX (pT b 0) λn=>R (.tuple #[m,n]) i))
def wD.ann:jY:={b:=λi=>match i with|1=>#[0,1,3,0,8,7,63]|_=>#[],ord:=λi=>match i with|1=>[0,1,3,4,2,5,6]|_=>[],keep:=λ_=>[],n:=9}
def wD.call{t0 h0 R}(H:wD t0 h0 R):bT PG vB #[t0] h0 R:=dF wD.ann Tryz.func147 H
def aIW(b d:Value)(e:PH)(R:cE):Prop:=dV .lss aR b (.int .i64 1) λa=>iD a false b e λf g=>iD a false d g λh i=>eY a false (binOp .gtr aR f h) i λj c=>bY (eM a (.bool true) j) λk=>cQ k (R (.int .i64 (-1)) c) (R b c)
def aIW.call{t0 t1 h0 R}(H:aIW t0 t1 h0 R):bT PG aFT #[t0,t1] h0 R:=dF (iX 13) Tryz.func148 H
def aEH(a b:Value)(c:PH)(R:cE):Prop:=bT PG aFX #[a,(.func (Fn.func vG) #[] #[]),b] c λe d=>R (.tuple #[]) d
def aEH.call{t0 t1 h0 R}(H:aEH t0 t1 h0 R):bT PG aER #[t0,t1] h0 R:=dF (iX 7) Tryz.func89 H
def aFP(R:cE)(m:gH)(d f g h e:Value)(a:PH):Prop:=dV .lss aR e h λn=>cQ n (nO cZ g e λo=>dC a cL o λp=>∀b,a b=none->dU (PH.set a b (.cells (dJ PG cL) cL)) λq=>cN PG (cP cL (pT b 0) p) q λA i=>dC i cL (pT b 0) λr=>zI PG f #[r] i λj k=>gC j 0 λs=>gC j 1 λu=>∀c,k c=none->dU (PH.set k c (.cells (dJ PG bX) bX)) λv=>cN PG (cP bX (pT c 0) u) v λB w=>bT PG iR #[d,s] w λC l=>dC l bX (pT c 0) λx=>bT PG aD8 #[d,x] l λD y=>dV .add aR e (.int .i64 1) λz=>m [d,f,g,h,z] y) (R (.tuple #[]) a)
def aBA(b c a:Value)(d:PH)(R:cE):Prop:=iS cZ aR a λe=>bT PG iR #[b,e] d λj f=>iS cZ aR a λg=>hC [0,1,14,15,16] (λi ρ h=>aFP R i (ρ 0) (ρ 1) (ρ 14) (ρ 15) (ρ 16) h) [b,c,a,g,.int .i64 0] f
def aBA.call{t0 t1 t2 h0 R}(H:aBA t0 t1 t2 h0 R):bT PG aFX #[t0,t1,t2] h0 R:=dF (tI 2 [0,1,14,15,16] 33) Tryz.func150 H
def wA(j:Value)(d:PH)(R:cE):Prop:=∀a,d a=none->dU (PH.set d a (.cells j.cells cL)) λe=>∀b,e b=none->dU (PH.set e b (.cells (dJ PG bX) bX)) λc=>dN cL (pT a 0) 0 λk=>dC c aR k λl=>dN cL (pT a 0) 1 λf=>dC c bX f λg=>bT PG aFT #[l,.int .i64 4] c λm h=>cD PG h (loadAt bX f)=some g∧(cN PG (cP bX (pT b 0) g) h λo i=>(dC i bX (pT b 0) λn=>R (.tuple #[m,n]) i))
def wA.ann:jY:={b:=λi=>match i with|1=>#[0,1,3,0,8,7,63]|_=>#[],ord:=λi=>match i with|1=>[0,1,3,4,2,5,6]|_=>[],keep:=λ_=>[],n:=9}
def wA.call{t0 h0 R}(H:wA t0 h0 R):bT PG vG #[t0] h0 R:=dF wA.ann Tryz.func151 H
def aKQ(R:cE)(k:gH)(e f g h a:Value)(b:PH):Prop:=dV .lss aR a h λl=>cQ l (nO cZ g a λm=>dC b cL m λn=>∀c,b c=none->dU (PH.set b c (.cells (dJ PG cL) cL)) λo=>cN PG (cP cL (pT c 0) n) o λu i=>dC i cL (pT c 0) λp=>bT PG aCD #[e,p] i λj d=>gL d .neq dK (.tmp 19) (.const (.int .i64 0)) j (.int .i64 0) λq=>cQ q (R (.tuple #[a,j]) d) (dV .add aR a (.int .i64 1) λr=>k [e,f,g,h,r] d)) (iS cZ aR f λs=>R (.tuple #[s,.int .i64 0]) b)
def aHZ(b a:Value)(c:PH)(R:cE):Prop:=iS cZ aR a λd=>hC [0,1,9,10,11] (λe ρ h=>aKQ R e (ρ 0) (ρ 1) (ρ 9) (ρ 10) (ρ 11) h) [b,a,a,d,.int .i64 0] c
def aHZ.call{t0 t1 h0 R}(H:aHZ t0 t1 h0 R):bT PG aHH #[t0,t1] h0 R:=dF (tI 2 [0,1,9,10,11] 26) Tryz.func83 H
def tB(h i:Value)(e:PH)(R:cE):Prop:=∀a,e a=none->dU (PH.set e a (.cells i.cells cL)) λf=>dC f cL (pT a 0) λj=>bT PG aHF #[j] f λg c=>gL c .neq dK (.tmp 9) (.const (.int .i64 0)) g (.int .i64 0) λk=>cQ k (R g c) (pP (build dR #[(1,(.func (Fn.func kU) #[] #[])),(2,(.func (Fn.func jA) #[] #[])),(3,(.func (Fn.func gV) #[] #[])),(4,(.func (Fn.func gV) #[] #[]))]) λl=>∀d,c d=none->dU (PH.set c d (.cells (dJ PG dR) dR)) λm=>cN PG (cP dR (pT d 0) l) m λD b=>dN cL (pT a 0) 0 λn=>dC b aR n λo=>nO dR (pT d 0) o λp=>dC b fC p λq=>dN cL (pT a 0) 1 λr=>dN bX r 0 λs=>dC b aR s λu=>dN cL (pT a 0) 1 λv=>dN bX v 1 λw=>dC b cJ w λx=>pP (build fQ #[(0,u),(1,x)]) λy=>dN cL (pT a 0) 1 λz=>dC b bX z λA=>zI PG q #[h,y,A] b λB C=>(R B C))
def tB.ann:jY:={b:=λi=>match i with|5=>#[0,1,3,7,0,0,32,96,0,256,768,2016,0,4096,16383,32767]|_=>#[],ord:=λi=>match i with|5=>[0,1,2,3,4,5,6,7,8,9,10,11,12,13,14,15]|_=>[],keep:=λ_=>[],n:=28}
def tB.call{t0 t1 h0 R}(H:tB t0 t1 h0 R):bT PG aCD #[t0,t1] h0 R:=dF tB.ann Tryz.func144 H
def aHk(f:Value)(d:PH)(R:cE):Prop:=∀a,d a=none->dU (PH.set d a (.cells f.cells cL)) λe=>dN cL (pT a 0) 0 λg=>dC e aR g λh=>dV .lss aR h (.int .i64 1) λb=>eY b false (fieldAt cL (pT a 0) 0) e λi j=>gJ b false (loadAt aR i) j λk l=>eY b false (binOp .gtr aR k (.int .i64 4)) l λm c=>bY (eM b (.bool true) m) λn=>cQ n (R (.int .i64 1) c) (dN cL (pT a 0) 1 λo=>dC c bX o λp=>bT PG vR #[p] c λq r=>R q r)
def aHk.call{t0 h0 R}(H:aHk t0 h0 R):bT PG aHF #[t0] h0 R:=dF (iX 14) Tryz.func185 H
def uP(f j k:Value)(g:PH)(R:cE):Prop:=∀b,g b=none->dU (PH.set g b (.cells j.cells fQ)) λh=>∀d,h d=none->dU (PH.set h d (.cells k.cells bX)) λa=>fS f λl=>dN gK l 0 λm=>dC a dO m λn=>dC a fQ (pT b 0) λo=>pE a (Instr.lookup dO n o true) λi=>gC i 0 λp=>gC i 1 λq=>∀e,a e=none->dU (PH.set a e (.cells (dJ PG cF) cF)) λr=>cN PG (cP cF (pT e 0) p) r λy c=>(cQ q (R (.int .i64 0) c) (dC c fQ (pT b 0) λs=>dC c bX (pT d 0) λu=>pP (build cF #[(0,u),(1,(.int .i64 1))]) λv=>bT PG aAG #[f,s,v] c λw x=>R w x))
def uP.ann:jY:={b:=λi=>match i with|1=>#[0,1,3,7,0,31,63,127,127,0,767,2047]|_=>#[],ord:=λi=>match i with|1=>[0,1,2,3,4,5,6,7,8,9,10,11]|_=>[],keep:=λ_=>[],n:=24}
def uP.call{t0 t1 t2 h0 R}(H:uP t0 t1 t2 h0 R):bT PG kU #[t0,t1,t2] h0 R:=dF uP.ann Tryz.func186 H
def vX(d k l:Value)(h:PH)(R:cE):Prop:=∀e,h e=none->dU (PH.set h e (.cells k.cells fQ)) λi=>∀f,i f=none->dU (PH.set i f (.cells l.cells cF)) λb=>fS d λm=>dN gK m 0 λn=>dC b dO n λo=>dC b fQ (pT e 0) λp=>pE b (Instr.lookup dO o p true) λj=>gC j 0 λq=>gC j 1 λr=>∀g,b g=none->dU (PH.set b g (.cells (dJ PG cF) cF)) λs=>cN PG (cP cF (pT g 0) q) s λX u=>(pP (Op.unary .not r) λa=>iD a true d u λv w=>eY a true (gI v) w λx y=>eY a true (fieldAt gK x 0) y λz A=>gJ a true (loadAt dO z) A λB C=>gJ a true (Builtin.len_ #[dO] aR #[B]) C λD E=>iD a true d E λF G=>eY a true (gI F) G λH I=>eY a true (fieldAt gK H 1) I λJ K=>gJ a true (loadAt aR J) K λL M=>eY a true (binOp .geq aR D L) M λN c=>bY (eM a N (.bool false)) λO=>cQ O (R (.int .i64 2) c) (fS d λP=>dN gK P 0 λQ=>dC c dO Q λS=>dC c fQ (pT e 0) λU=>dC c cF (pT f 0) λV=>cN PG (aJM dO S U V) c λY W=>(R (.int .i64 0) W)))
def vX.ann:jY:={b:=λi=>match i with|1=>#[0,1,3,7,0,31,63,127,127,0,767,2047]|2=>#[0,1,3,7,15,31,63,127,7,263,775,1799,4095,8191]|4=>#[0,1,3,7,0,0,63]|_=>#[],ord:=λi=>match i with|1=>[0,1,2,3,4,5,6,7,8,9,10,11]|2=>[0,1,2,3,4,5,6,7,8,9,10,11,12,13]|4=>[0,1,2,3,4,5,6]|_=>[],keep:=λ_=>[],n:=38}
def vX.call{t0 t1 t2 h0 R}(H:vX t0 t1 t2 h0 R):bT PG aAG #[t0,t1,t2] h0 R:=dF vX.ann Tryz.func216 H
def sZ(R:cE)(b c d:Value)(a:PH):Prop:=dC a fQ c λe=>dC a bX d λf=>pP (build cF #[(0,f),(1,(.int .i64 2))]) λg=>bT PG aAG #[b,e,g] a λh i=>R h i
def pV(e j k:Value)(g:PH)(R:cE):Prop:=∀a,g a=none->dU (PH.set g a (.cells j.cells fQ)) λh=>∀b,h b=none->dU (PH.set h b (.cells k.cells bX)) λc=>fS e λl=>dN gK l 0 λm=>dC c dO m λn=>dC c fQ (pT a 0) λo=>pE c (Instr.lookup dO n o true) λi=>gC i 0 λp=>gC i 1 λq=>∀d,c d=none->dU (PH.set c d (.cells (dJ PG cF) cF)) λr=>cN PG (cP cF (pT d 0) p) r λw f=>(cQ q (dN cF (pT d 0) 0 λs=>dC f bX s λu=>cN PG (cP bX (pT b 0) u) f λx v=>sZ R e (pT a 0) (pT b 0) v) (sZ R e (pT a 0) (pT b 0) f))
def pV.ann:jY:={b:=λi=>match i with|1=>#[0,1,3,7,0,31,63,127,127,0,767,2047]|_=>#[],ord:=λi=>match i with|1=>[0,1,2,3,4,5,6,7,8,9,10,11]|_=>[],keep:=λ_=>[],n:=26}
def pV.call{t0 t1 t2 h0 R}(H:pV t0 t1 t2 h0 R):bT PG jA #[t0,t1,t2] h0 R:=dF pV.ann Tryz.func187 H
def uN(f g h:Value)(c:PH)(R:cE):Prop:=∀a,c a=none->dU (PH.set c a (.cells g.cells fQ)) λd=>∀e,d e=none->dU (PH.set d e (.cells h.cells bX)) λb=>fS f λi=>dN gK i 0 λj=>dC b dO j λk=>dC b fQ (pT a 0) λl=>cN PG (Builtin.delete_ #[dO,fQ] T_ #[k,l]) b λn m=>(R (.int .i64 0) m)
def uN.ann:jY:={b:=λi=>match i with|1=>#[0,1,3,7,0,31]|_=>#[],ord:=λi=>match i with|1=>[0,1,2,3,4,5]|_=>[],keep:=λ_=>[],n:=12}
def uN.call{t0 t1 t2 h0 R}(H:uN t0 t1 t2 h0 R):bT PG gV #[t0,t1,t2] h0 R:=dF uN.ann Tryz.func188 H
def aAV(t0:Value)(t1:Value)(h0:PH)(R:cE):Prop:=
 ∀r1,h0 r1=none->dU (PH.set h0 r1 (.cells (Value.cells t0) eO)) λh2=>
 ∀r3,h2 r3=none->dU (PH.set h2 r3 (.cells (Value.cells t1) aT)) λh4=>
 bY (cD PG h4 (loadAt eO (pT r1 0))) λv5=>
 bY (cB PG (Instr.makeFunc (Fn.func aAA) #[] #[(pT r1 0),(pT r3 0)])) λv6=>
 bT PG aDU #[v5,v6] h4 λv7 h8=>
 R v7 h8
def aAV.call{t0 t1 h0 R}(H:aAV t0 t1 h0 R):bT PG wS #[t0,t1] h0 R:=dF (iX 8) Tryz.func30 H
def aGR(t0:Value)(t1:Value)(h0:PH)(R:cE):Prop:=
 bY (cB PG (gI t0)) λv1=>
 bY (cB PG (fieldAt dT v1 6)) λv2=>
 bY (cD PG h0 (loadAt gR v2)) λv3=>
 cQ v3
 (R (Value.int IntKind.i64 14) h0)
 (zI PG t1 #[] h0 λv4 h5=>
 bY (cD PG h5 (fV BinOp.eql dK (.tmp 13) (.const (Value.int IntKind.i64 13)) v4 (Value.int IntKind.i64 13))) λv6=>
 bY (cB PG (gI t0)) λv7=>
 bY (cB PG (fieldAt dT v7 6)) λv8=>
 cN PG (cP gR v8 v6) h5 λv9 h10=>
 R v4 h10)
def aGR.call{t0 t1 h0 R}(H:aGR t0 t1 h0 R):bT PG aDU #[t0,t1] h0 R:=dF (iX 18) Tryz.func70 H
def qA(t0:Value)(t1:Value)(h0:PH)(R:cE):Prop:=
 bY (cD PG h0 (loadAt eO t0)) λv1=>
 bY (cB PG (gI v1)) λv2=>
 bY (cB PG (fieldAt dT v2 0)) λv3=>
 bY (cB PG (fieldAt dY v3 0)) λv4=>
 bY (cD PG h0 (loadAt fY v4)) λv5=>
 bY (cB PG (gI v5)) λv6=>
 bY (cB PG (fieldAt dW v6 0)) λv7=>
 bY (cD PG h0 (loadAt dZ v7)) λv8=>
 bY (cD PG h0 (loadAt aT t1)) λv9=>
 bY (cB PG (Builtin.len_ #[aT] aR #[v9])) λv10=>
 bT PG kP #[v8] h0 λv11 h12=>
 cD PG h12 (loadAt aT t1)=some v9∧(bT PG uC #[v11,v10] h12 λv13 h14=>
 (bY (cD PG h14 (fV BinOp.eql aR (.tmp 25) (.const (Value.int IntKind.i64 0)) v13 (Value.int IntKind.i64 0))) λv15=>
 cQ v15
 (R (Value.int IntKind.i64 1) h14)
 (bY (cD PG h14 (loadAt eO t0)) λv16=>
 bY (cB PG (gI v16)) λv17=>
 bY (cB PG (fieldAt dT v17 0)) λv18=>
 bY (cD PG h14 (loadAt dY v18)) λv19=>
 bT PG qD #[v19] h14 λv20 h21=>
 bY (cB PG (binOp BinOp.gtr aR v13 v20)) λv22=>
 cQ v22
 (R (Value.int IntKind.i64 2) h21)
 (bY (cD PG h21 (loadAt eO t0)) λv23=>
 bY (cB PG (gI v23)) λv24=>
 bY (cB PG (fieldAt dT v24 1)) λv25=>
 bY (cD PG h21 (loadAt cM v25)) λv26=>
 bT PG aIK #[v26] h21 λv27 h28=>
 bY (cB PG (extract v27 0)) λv29=>
 bY (cB PG (extract v27 1)) λv30=>
 ∀r31,h28 r31=none->dU (PH.set h28 r31 (.cells (dJ PG cM) cM)) λh32=>
 cN PG (cP cM (pT r31 0) v29) h32 λv33 h34=>
 bY (cD PG h34 (fV BinOp.neq dK (.tmp 43) (.const (Value.int IntKind.i64 0)) v30 (Value.int IntKind.i64 0))) λv35=>
 cQ v35
 (R v30 h34)
 (bY (cD PG h34 (loadAt eO t0)) λv36=>
 bY (cB PG (gI v36)) λv37=>
 bY (cB PG (fieldAt dT v37 0)) λv38=>
 bY (cB PG (fieldAt dY v38 0)) λv39=>
 bY (cD PG h34 (loadAt fY v39)) λv40=>
 bY (cB PG (gI v40)) λv41=>
 bY (cB PG (fieldAt dW v41 0)) λv42=>
 bY (cD PG h34 (loadAt dZ v42)) λv43=>
 bY (cB PG (fieldAt cM (pT r31 0) 0)) λv44=>
 bY (cD PG h34 (loadAt cJ v44)) λv45=>
 bY (cD PG h34 (loadAt aT t1)) λv46=>
 bT PG kP #[v43] h34 λv47 h48=>
 cD PG h48 (loadAt aT t1)=some v46∧cD PG h48 (loadAt cJ v44)=some v45∧(bT PG aDc #[v47,v45,(Value.int IntKind.u64 0),v46] h48 λv49 h50=>
 (bY (cB PG (extract v49 0)) λv51=>
 bY (cB PG (extract v49 1)) λv52=>
 bY (cD PG h50 (loadAt eO t0)) λv53=>
 bY (cB PG (gI v53)) λv54=>
 bY (cB PG (fieldAt dT v54 0)) λv55=>
 bY (cD PG h50 (loadAt dY v55)) λv56=>
 bY (cD PG h50 (loadAt eO t0)) λv57=>
 bY (cB PG (gI v57)) λv58=>
 bY (cB PG (fieldAt dT v58 0)) λv59=>
 bY (cD PG h50 (loadAt dY v59)) λv60=>
 bY (cB PG (fieldAt cM (pT r31 0) 1)) λv61=>
 bY (cD PG h50 (loadAt aR v61)) λv62=>
 bT PG xL #[v60,v62] h50 λv63 h64=>
 cD PG h64 (loadAt dY v55)=some v56∧cD PG h64 (loadAt eO t0)=some v53∧(bT PG uI #[v56,v63,v51] h64 λv65 h66=>
 (bY (cD PG h66 (fV BinOp.neq dK (.tmp 75) (.const (Value.int IntKind.i64 0)) v65 (Value.int IntKind.i64 0))) λv67=>
 cQ v67
 (R v65 h66)
 (bY (cD PG h66 (loadAt eO t0)) λv68=>
 bY (cB PG (gI v68)) λv69=>
 bY (cB PG (fieldAt dT v69 0)) λv70=>
 bY (cB PG (fieldAt dY v70 0)) λv71=>
 bY (cD PG h66 (loadAt fY v71)) λv72=>
 bY (cB PG (gI v72)) λv73=>
 bY (cB PG (fieldAt dW v73 0)) λv74=>
 bY (cD PG h66 (loadAt dZ v74)) λv75=>
 bY (cD PG h66 (loadAt cM (pT r31 0))) λv76=>
 bT PG kP #[v75] h66 λv77 h78=>
 cD PG h78 (loadAt cM (pT r31 0))=some v76∧(bT PG aDx #[v77,v76] h78 λv79 h80=>
 (bY (cB PG (extract v79 0)) λv81=>
 bY (cB PG (extract v79 1)) λv82=>
 bY (cD PG h80 (loadAt eO t0)) λv83=>
 bY (cB PG (gI v83)) λv84=>
 bY (cB PG (fieldAt dT v84 0)) λv85=>
 bY (cD PG h80 (loadAt dY v85)) λv86=>
 bY (cD PG h80 (loadAt eO t0)) λv87=>
 bY (cB PG (gI v87)) λv88=>
 bY (cB PG (fieldAt dT v88 2)) λv89=>
 bY (cD PG h80 (loadAt aR v89)) λv90=>
 bY (cB PG (binOp BinOp.sub aR (Value.int IntKind.i64 1) v90)) λv91=>
 bY (kC PG (buildSlice dD 1 #[(0,v81)])) λx93=>∀r92,h80 r92=none->bY (cB PG (x93.2 r92)) λv94=>dU (PH.set h80 r92 x93.1) λh95=>
 bT PG uI #[v86,v91,v94] h95 λv96 h97=>
 (bY (cD PG h97 (fV BinOp.neq dK (.tmp 104) (.const (Value.int IntKind.i64 0)) v96 (Value.int IntKind.i64 0))) λv98=>
 cQ v98
 (R v96 h97)
 (bY (cD PG h97 (loadAt eO t0)) λv99=>
 bY (cD PG h97 (loadAt eO t0)) λv100=>
 bY (cD PG h97 (loadAt eO t0)) λv101=>
 bY (cD PG h97 (loadAt eO t0)) λv102=>
 bY (cD PG h97 (loadAt eO t0)) λv103=>
 bY (cD PG h97 (loadAt cM (pT r31 0))) λv104=>
 bY (cD PG h97 (loadAt eO t0)) λv105=>
 bY (cB PG (gI v105)) λv106=>
 bY (cB PG (fieldAt dT v106 2)) λv107=>
 bY (cD PG h97 (loadAt aR v107)) λv108=>
 bY (cB PG (binOp BinOp.sub aR (Value.int IntKind.i64 1) v108)) λv109=>
 bY (cB PG (gI v99)) λv110=>
 bY (cB PG (fieldAt dT v110 1)) λv111=>
 cN PG (cP cM v111 v104) h97 λv112 h113=>
 cD PG h113 (loadAt eO t0)=some v103∧cD PG h113 (loadAt eO t0)=some v102∧cD PG h113 (loadAt eO t0)=some v101∧cD PG h113 (loadAt eO t0)=some v100∧(bY (cB PG (gI v100)) λv114=>
 bY (cB PG (fieldAt dT v114 2)) λv115=>
 cN PG (cP aR v115 v109) h113 λv116 h117=>
 cD PG h117 (loadAt eO t0)=some v103∧cD PG h117 (loadAt eO t0)=some v102∧cD PG h117 (loadAt eO t0)=some v101∧(bY (cB PG (gI v101)) λv118=>
 bY (cB PG (fieldAt dT v118 3)) λv119=>
 cN PG (cP aR v119 v13) h117 λv120 h121=>
 cD PG h121 (loadAt eO t0)=some v103∧cD PG h121 (loadAt eO t0)=some v102∧(bY (cB PG (gI v102)) λv122=>
 bY (cB PG (fieldAt dT v122 4)) λv123=>
 cN PG (cP cJ v123 (Value.int IntKind.u64 1)) h121 λv124 h125=>
 cD PG h125 (loadAt eO t0)=some v103∧(bY (cB PG (gI v103)) λv126=>
 bY (cB PG (fieldAt dT v126 5)) λv127=>
 cN PG (cP gR v127 (Value.bool true)) h125 λv128 h129=>
 (R (Value.int IntKind.i64 0) h129)))))))))))))))))))
def qA.ann:jY:={b:=λi=>match i with|1=>#[0,1,3,7,15,31,63,127,255,0,512,2047,4095]|9=>#[0,1,3,7,15,31,63,127,255,0,512,0,4095,8191,16383,16383,32767,131071]|10=>#[0,1,3,7,0,16,48,112,0,256,1008,0,4095,8191]|13=>#[0,1,3,7,15,31,63,127,255,0,1023,2047,4095,4095,8191,32767]|14=>#[0,1,3,7,0,16,48,112,240,0,512,2047,4095]|17=>#[0,0,0,0,0,0,0,64,192,448,960,0,993,5089,13281,30691,63459,128995,262119,524263,1048551,2097135,4194287,8388591,16777215,33554431,67108863]|_=>#[],ord:=λi=>match i with|1=>[0,1,2,3,4,5,6,7,9,10,8,11,12]|9=>[0,1,2,3,4,5,6,7,9,10,11,8,12,13,14,15,16,17]|10=>[0,1,2,3,4,5,6,7,8,9,11,10,12,13]|13=>[0,1,2,3,4,5,6,7,9,8,10,11,12,13,14,15]|14=>[0,1,2,3,4,5,6,7,8,9,10,11,12]|17=>[0,1,2,3,4,5,6,7,8,9,10,11,12,13,14,15,16,17,18,19,20,21,22,23,24,25,26]|_=>[],keep:=λ_=>[],n:=129}
def qA.call{t0 t1 h0 R}(H:qA t0 t1 h0 R):bT PG aAA #[t0,t1] h0 R:=dF qA.ann Tryz.func71 H
def aEJ(R:cE)(t2:Value)(t4:Value)(h0:PH):Prop:=
 bY (cD PG h0 (loadAt cM t4)) λv27=>
 cN PG (cP cM t2 v27) h0 λv28 h29=>
 bY (cD PG h29 (loadAt cM t2)) λv30=>
 R (Value.tuple #[v30,(Value.int IntKind.i64 0)]) h29
def aIq(t0:Value)(h0:PH)(R:cE):Prop:=
 ∀r1,h0 r1=none->dU (PH.set h0 r1 (.cells (Value.cells t0) cM)) λh2=>
 ∀r3,h2 r3=none->dU (PH.set h2 r3 (.cells (dJ PG cM) cM)) λh4=>
 bY (cB PG (fieldAt cM (pT r1 0) 0)) λv5=>
 bY (cD PG h4 (loadAt cJ v5)) λv6=>
 bY (cD PG h4 (fV BinOp.eql cJ (.tmp 6) (.const (Value.int IntKind.u64 18446744073709551615)) v6 (Value.int IntKind.u64 18446744073709551615))) λv7=>
 cQ v7
 (bY (cB PG (build cM #[])) λv8=>
 cN PG (cP cM (pT r3 0) v8) h4 λv9 h10=>
 bY (cD PG h10 (loadAt cM (pT r3 0))) λv11=>
 R (Value.tuple #[v11,(Value.int IntKind.i64 12)]) h10)
 (bY (cB PG (fieldAt cM (pT r1 0) 0)) λv12=>
 bY (cD PG h4 (loadAt cJ v12)) λv13=>
 bY (cB PG (binOp BinOp.add cJ v13 (Value.int IntKind.u64 1))) λv14=>
 bY (cB PG (build cM #[(0,v14)])) λv15=>
 ∀r16,h4 r16=none->dU (PH.set h4 r16 (.cells (dJ PG cM) cM)) λh17=>
 cN PG (cP cM (pT r16 0) v15) h17 λv18 h19=>
 bY (cB PG (fieldAt cM (pT r1 0) 1)) λv20=>
 bY (cD PG h19 (loadAt aR v20)) λv21=>
 bY (cD PG h19 (fV BinOp.eql aR (.tmp 14) (.const (Value.int IntKind.i64 0)) v21 (Value.int IntKind.i64 0))) λv22=>
 cQ v22
 (bY (cB PG (fieldAt cM (pT r16 0) 1)) λv23=>
 cN PG (cP aR v23 (Value.int IntKind.i64 1)) h19 λv24 h25=>
 aEJ R (pT r3 0) (pT r16 0) h25)
 (aEJ R (pT r3 0) (pT r16 0) h19))
def aIq.call{t0 h0 R}(H:aIq t0 h0 R):bT PG aIK #[t0] h0 R:=dF (iX 18) Tryz.func73 H
noncomputable def mP:Code:=((yR (aCH Tryz.f74)).getD 0 (.skip,.skip)).1
noncomputable def lX:Code:=((yR (aCH Tryz.f74)).getD 0 (.skip,.skip)).2
def tZ(kv:cE)(l:Nat)(t4:Value)(t5:Value)(t6:Value)(t10:Value)(t11:Value)(t27:Value)(t28:Value)(h0:PH):Prop:=
 cN PG (Instr.beginRound l) h0 λ_ h23=>
 ∀r24,h23 r24=none->dU (PH.set h23 r24 (.cells (dJ PG fB) fB)) λh25=>
 bT PG nQ #[(pT r24 0),(Value.string {data:=#[82]})] h25 λv26 h27=>
 bY (cD PG h27 (loadAt cJ t5)) λv28=>
 bT PG kL #[(pT r24 0),v28] h27 λv29 h30=>
 bY (cD PG h30 (loadAt cJ t6)) λv31=>
 bT PG kL #[(pT r24 0),v31] h30 λv32 h33=>
 bT PG iR #[(pT r24 0),t27] h33 λv34 h35=>
 bY (cD PG h35 (loadAt aR t10)) λv36=>
 bT PG iR #[(pT r24 0),v36] h35 λv37 h38=>
 bT PG tX #[(pT r24 0),t28] h38 λv39 h40=>
 bY (cD PG h40 (loadAt aR t4)) λv41=>
 bY (cB PG (binOp BinOp.sub aR v41 (Value.int IntKind.i64 25))) λv42=>
 bY (cB PG (Builtin.len_ #[aT] aR #[t28])) λv43=>
 bY (cB PG (binOp BinOp.sub aR v42 v43)) λv44=>
 bT PG xI #[(Value.string {data:=#[0]}),v44] h40 λv45 h46=>
 bT PG nQ #[(pT r24 0),v45] h46 λv47 h48=>
 bT PG nZ #[(pT r24 0)] h48 λv49 h50=>
 bY (cB PG (extract v49 0)) λv51=>
 bY (cB PG (extract v49 1)) λv52=>
 bY (cD PG h50 (loadAt dD t11)) λv53=>
 bT PG aGT #[v51] h50 λv54 h55=>
 cD PG h55 (loadAt dD t11)=some v53∧(bY (kC PG (buildSlice dD 1 #[(0,v54)])) λx57=>∀r56,h55 r56=none->bY (cB PG (x57.2 r56)) λv58=>dU (PH.set h55 r56 x57.1) λh59=>
 cN PG (Builtin.append_ #[dD,dD] dD #[v53,v58]) h59 λv60 h61=>
 (cN PG (cP dD t11 v60) h61 λv62 h63=>
 (cN PG (Instr.endRound l none) h63 kv)))
def yF(t0:Value)(t1:Value)(t2:Value)(t3:Value)(h0:PH)(R:cE):Prop:=
 ∀r1,h0 r1=none->dU (PH.set h0 r1 (.cells (Value.cells t0) aR)) λh2=>
 ∀r3,h2 r3=none->dU (PH.set h2 r3 (.cells (Value.cells t1) cJ)) λh4=>
 ∀r5,h4 r5=none->dU (PH.set h4 r5 (.cells (Value.cells t2) cJ)) λh6=>
 bY (cD PG h6 (loadAt aR (pT r1 0))) λv7=>
 bY (cB PG (Builtin.len_ #[aT] aR #[t3])) λv8=>
 bT PG uC #[v7,v8] h6 λv9 h10=>
 ∀r11,h10 r11=none->dU (PH.set h10 r11 (.cells (dJ PG aR) aR)) λh12=>
 cN PG (cP aR (pT r11 0) v9) h12 λv13 h14=>
 bY (cD PG h14 (loadAt aR (pT r11 0))) λv15=>
 bY (cD PG h14 (fV BinOp.eql aR (.tmp 21) (.const (Value.int IntKind.i64 0)) v15 (Value.int IntKind.i64 0))) λv16=>
 cQ v16
 (R (Value.tuple #[(Value.slice none 0 0),(Value.int IntKind.i64 1)]) h14)
 (∀r17,h14 r17=none->dU (PH.set h14 r17 (.cells (dJ PG dD) dD)) λh18=>
 bY (cD PG h18 (loadAt aR (pT r1 0))) λv19=>
 bY (cB PG (binOp BinOp.sub aR v19 (Value.int IntKind.i64 25))) λv20=>
 bT PG aKI #[t3,v20] h18 λv21 h22=>
 aDv PG 57 v21 #[27,28] mP lX (λh64=>bY (cD PG h64 (loadAt dD (pT r17 0))) λv65=>
 R (Value.tuple #[v65,(Value.int IntKind.i64 0)]) h64) (λh66=>R (Value.tuple #[(Value.slice none 0 0),(Value.int IntKind.i64 0)]) h66) [] [(4,(pT r1 0)),(5,(pT r3 0)),(6,(pT r5 0)),(10,(pT r11 0)),(11,(pT r17 0))] h22)
def yF.ann:jY:={b:=λi=>match i with|17=>#[0,0,2,6,15,31]|_=>#[],ord:=λi=>match i with|17=>[0,1,2,3,4,5]|_=>[],keep:=λi=>match i with|8=>[4,5,6,10,11]|_=>[],n:=57}
def yF.call{t0 t1 t2 t3 h0 R}(H:yF t0 t1 t2 t3 h0 R):bT PG aDc #[t0,t1,t2,t3] h0 R:=dF yF.ann Tryz.func74 H
def tZ.eq(kv:cE)(l:Nat)(ρ:kS)(h0:PH):aNI PG yF.ann 200 l mP lX kv ρ h0=tZ kv l (ρ 4) (ρ 5) (ρ 6) (ρ 10) (ρ 11) (ρ 27) (ρ 28) h0:=by kernel_rfl
def tZ.next{kv:cE}{l:Nat}{f:FuncId}{tmps:Array Value}{h0:PH}(hs:tmps.size=57)(H:tZ kv l (tmps.getD 4 undef) (tmps.getD 5 undef) (tmps.getD 6 undef) (tmps.getD 10 undef) (tmps.getD 11 undef) (tmps.getD 27 undef) (tmps.getD 28 undef) h0):sH PG (.round l f tmps mP lX) h0 kv:=
 aOh yF.ann 200 mix hs (by kernel_rfl) (by kernel_rfl) (tZ.eq kv l (λt=>tmps.getD t undef) h0) H
def aHg(t0:Value)(t1:Value)(h0:PH)(R:cE):Prop:=
 ∀r1,h0 r1=none->dU (PH.set h0 r1 (.cells (Value.cells t0) aT)) λh2=>
 ∀r3,h2 r3=none->dU (PH.set h2 r3 (.cells (Value.cells t1) aR)) λh4=>
 bY (cB PG (Instr.makeFunc (Fn.func aCf) #[] #[(pT r3 0),(pT r1 0)])) λv5=>
 R v5 h4
def aHg.call{t0 t1 h0 R}(H:aHg t0 t1 h0 R):bT PG aKI #[t0,t1] h0 R:=dF (iX 6) Tryz.func139 H
def aIr(R:cE)(n1:gH)(t0:Value)(t1:Value)(t2:Value)(t4:Value)(h0:PH):Prop:=
 bY (cD PG h0 (loadAt aR t1)) λv3=>
 bY (cD PG h0 (loadAt aT t2)) λv4=>
 bY (cB PG (Builtin.len_ #[aT] aR #[v4])) λv5=>
 bY (cB PG (Builtin.min_ #[aR,aR] aR #[v3,v5])) λv6=>
 bY (cD PG h0 (loadAt aT t2)) λv7=>
 bY (cB PG (Instr.sliceAt aT v7 none (some v6) none)) λv8=>
 zI PG t0 #[t4,v8] h0 λv9 h10=>
 bY (cB PG (Op.unary UnOp.not v9)) λv11=>
 eZ (yV v11) false (λk14=>k14 v6 h10) h10 λv12 h13=>
 eZ (yV v11) false (λk17=>bY (cD PG h13 (loadAt aT t2)) λv18=>k17 v18 h13) h13 λv15 h16=>
 eZ (yV v11) false (λk21=>bY (cB PG (Builtin.len_ #[aT] aR #[v15])) λv22=>k21 v22 h16) h16 λv19 h20=>
 eZ (yV v11) false (λk25=>bY (cD PG h20 (fV BinOp.eql aR (.tmp 20) (.tmp 22) v12 v19)) λv26=>k25 v26 h20) h20 λv23 h24=>
 bY (eM v11 (Value.bool true) v23) λv27=>
 cQ v27
 (R (Value.tuple #[]) h24)
 (bY (cD PG h24 (loadAt aT t2)) λv28=>
 bY (cB PG (Instr.sliceAt aT v28 (some v6) none none)) λv29=>
 cN PG (cP aT t2 v29) h24 λv30 h31=>
 bY (cB PG (binOp BinOp.add aR t4 (Value.int IntKind.i64 1))) λv32=>
 n1 [t0,t1,t2,v32] h31)
def aFo(t0:Value)(t1:Value)(t2:Value)(h0:PH)(R:cE):Prop:=
 hC [0,1,2,4] (λn1 ρ h=>aIr R n1 (ρ 0) (ρ 1) (ρ 2) (ρ 4) h) [t0,t1,t2,(Value.int IntKind.i64 0)] h0
def aFo.call{t0 t1 t2 h0 R}(H:aFo t0 t1 t2 h0 R):bT PG aCf #[t0,t1,t2] h0 R:=dF (tI 2 [0,1,2,4] 28) Tryz.func184 H
def aEB(e:Value)(b:PH)(R:cE):Prop:=∀a,b a=none->dU (PH.set b a (.cells e.cells bR)) λc=>dC c bR (pT a 0) λf=>pP (build bW #[(0,(.int .i64 1)),(1,f)]) λg=>bT PG aAT #[g] c λd h=>gC d 0 λi=>gC d 1 λj=>R i h
def aEB.call{t0 h0 R}(H:aEB t0 h0 R):bT PG aB0 #[t0] h0 R:=dF (iX 12) Tryz.func31 H
def wU(R:cE)(g c d:Value)(e:PH):Prop:=dC e bR c λh=>bT PG vZ #[h] e λi j=>bT PG oS #[d,i] j λf a=>gL a .neq aR (.tmp 44) (.const (.int .i64 0)) f (.int .i64 0) λk=>cQ k (R (.tuple #[.pointer none,f]) a) (dC a bR c λl=>pP (build fN #[(0,d),(1,g),(2,l)]) λm=>∀b,a b=none->dU (PH.set a b (.cells m.cells fN)) λn=>R (.tuple #[pT b 0,.int .i64 0]) n)
def aBE(p b q:Value)(i:PH)(R:cE):Prop:=∀d,i d=none->dU (PH.set i d (.cells q.cells cU)) λe=>dC e cU (pT d 0) λr=>pP (build bR #[(0,r)]) λs=>∀a,e a=none->dU (PH.set e a (.cells (dJ PG bR) bR)) λu=>cN PG (cP bR (pT a 0) s) u λE j=>dC j bR (pT a 0) λv=>bT PG pD #[v,b] j λw f=>gL f .neq aR (.tmp 17) (.const (.int .i64 0)) w (.int .i64 0) λx=>cQ x (R (.tuple #[.pointer none,.int .i64 1]) f) (bT PG aB9 #[p] f λg c=>gC g 0 λk=>gC g 1 λl=>gC g 2 λm=>gL c .neq aR (.tmp 25) (.const (.int .i64 0)) m (.int .i64 0) λy=>cQ y (R (.tuple #[.pointer none,m]) c) (iS dD aR l λz=>dV .gtr aR z (.int .i64 0) λA=>cQ A (bT PG oM #[b,l] c λn B=>gC n 0 λC=>gC n 1 λo=>cN PG (cP bR (pT a 0) C) B λF h=>gL h .neq aR (.tmp 37) (.const (.int .i64 0)) o (.int .i64 0) λD=>cQ D (R (.tuple #[.pointer none,o]) h) (wU R b (pT a 0) k h)) (wU R b (pT a 0) k c)))
def aBE.call{t0 t1 t2 h0 R}(H:aBE t0 t1 t2 h0 R):bT PG xN #[t0,t1,t2] h0 R:=dF (iX 52) Tryz.func26 H
end Go.Proofs.YtiohehjhlghikaaGreatDoor
