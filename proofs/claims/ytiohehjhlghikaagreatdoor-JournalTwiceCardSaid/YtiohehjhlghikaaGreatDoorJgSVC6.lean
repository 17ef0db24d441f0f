/- The texts of this claim, put together. -/
import Derived.Test.YtiohehjhlghikaaGreatDoorJgSVC5
import Derived.Shelf.SlSortCmp.NoneTotal
set_option linter.all false
set_option maxRecDepth 100000
open Go.Instr (loadAt fieldAt indexAt extract buildSlice build)
namespace Go.Proofs.YtiohehjhlghikaaGreatDoor
section
open Go Go.Sort Go.Shelf
def aOF{α:Type}[Inhabited α](enc:α->List Value)(k:Nat)(hk0:0<k)(hlen:∀x,(enc x).length=k)(l:List α):(l.map enc).flatten=(flatK enc k l.toArray).toList:=by
 have hr:Rows k (l.map enc):=λr hr=>by obtain⟨x,_,rfl⟩:=pQ.1 hr;exact hlen x
 apply aMH;intro j;have hfl:(l.map enc).flatten.length=l.length*k:=by rw[hr.flat,iL]
 by_cases hj:j<l.length*k
 ·have hi:j/k<l.length:=(Nat.div_lt_iff_lt_mul hk0).2 hj;have hat:=hr.at (i:=j/k) (r:=enc l[j/k]) (by simp[hi]);have hc:j%k<k:=zLB _ hk0;have e1:(l.map enc).flatten[j]? =(enc l[j/k])[j%k]?:=by
   rw[←hat,aDn,if_pos hc,aJs];congr 1;rw[Nat.mul_comm];exact(Nat.div_add_mod j k).symm
  have hs:j<(flatK enc k l.toArray).size:=by rw[size_flatK];exact hj
  have hg:=get_flatK enc k l.toArray j (by simpa using hj);rw[getElem!_pos _ j hs] at hg;have hle:j%k<(enc l[j/k]).length:=by rw[hlen];exact hc
  have hx:l.toArray[j/k]! =l[j/k]:=by rw[getElem!_pos l.toArray (j/k) (by simpa using hi)];rfl
  have e2:(flatK enc k l.toArray).toList[j]? =(flatK enc k l.toArray)[j]?:=by simp
  rw[e1,e2,Array.getElem?_eq_getElem hs,hg,hx,kF hle,getElem!_pos (enc l[j/k]) (j%k) hle]
 ·rw[List.getElem?_eq_none (by omega),aLO,Array.getElem?_eq_none (by simp;omega)]
def aO5(F c:Array Value)(hle:F.size≤c.size):(putCells id 0 F c).toList.take F.size=F.toList:=by
 apply aMH;intro j;rw[aDn,aLO,aLO];by_cases hj:j<F.size
 ·rw[if_pos hj];simp only[putCells,Array.getElem?_mapIdx,iZ,kT,true_and,Nat.sub_zero,hj,if_true,id];rw[Array.getElem?_eq_getElem (by omega),Array.getElem?_eq_getElem hj,getElem!_pos F j hj];rfl
 ·rw[if_neg hj,Array.getElem?_eq_none (by omega)]
def aVB{w w':World}(os:w'.os=w.os)(tape:w'.tape=w.tape)(output:w'.output=w.output)(drawn:w.drawn≤w'.drawn)(size:w.heap.size≤w'.heap.size)(far:∀b,b<w.heap.size->w'.heap[b]? =w.heap[b]?):
  ∃q os',w'=grow (w.drewN q) os':=by
 refine⟨w'.drawn-w.drawn,w'.heap.extract w.heap.size w'.heap.size,?_⟩;cases w with|mk heap tp dr o ou=>cases w' with|mk heap' tp' dr' o' ou'=>
 simp only at *;subst os tape output;unfold grow World.drewN;simp only[World.mk.injEq,and_true,true_and];refine⟨?_,by omega⟩;apply Array.ext_getElem?;intro i;rw[Array.getElem?_append];split
 ·rename_i hi;exact far i hi
 ·rename_i hi;rw[Array.getElem?_extract];split
  ·congr 1;omega
  ·rw[Array.getElem?_eq_none (by omega)]
def aQY{P:Program}{ρ:Ren}{α:Type}[Inhabited α](L:SlLaysF0.n6 P ρ){f:FuncId}(hf:ρ.f 6=f){k:Nat}(hk0:0<k)(aE:∀w,(isAgg (ρ.t 24)).run P w= .ok true w)(zE:∀w,(Go.sizeOf (ρ.t 24)).run P w= .ok k w)
  (enc:α->List Value) (hlen:∀x,(enc x).length=k) (h1:∀x,∀v∈enc x,v.oneCell'=true) (cf:α->α->Int) (hO:SWO (ltOf cf)) {g:FuncId} (eg:aDF P g=true)
  (hcmp:∀x y,bT P g #[.agg (enc x).toArray,.agg (enc y).toArray] (λ_=>none) λv _=>v= .int .i64 (cf x y)) (hen:aDF P f=true)
  {e:TypeId} {v:Value} {F:List Nat} {l:List α} {h:PH} (H:eH h e k v (l.map enc) F) (hsz:l.length<4611686018427387904) {R:cE}
  (hk:∀(l':List α) h',l'.Perm l->l'.Pairwise (λa b=>ltOf cf b a=false)->eH h' e k v (l'.map enc) F->cX F h h'->R (.tuple #[]) h'):bT P f #[v,.func (.func g) #[] #[]] h R:=by
 subst hf;refine .inl ⟨hen,λw hs=>?_⟩;have heg:∀(args:Array Value) (w:World),(callFunc g args).run P w= .ok (.enter g args) w:=λargs w=>
  cD.run (h:=λ_=>none) (aHp eg) (λ_ _ hb=>by cases hb)
 rcases H.here with⟨hv,hr,hF⟩|⟨b,cap,cs,hv,hF,hb,hle,hcm,hcs,htk⟩
 ·have hl:l=[]:=List.map_eq_nil_iff.1 hr;subst hl hv hF;refine(AnyF.slices_SortFunc_none L none 0 _ w).mono λe1 w' ⟨he,hw⟩=>?_;subst hw;exact⟨_,h,he,hk [] h (List.Perm.refl _) List.Pairwise.nil H cX.refl,hs,Fr.refl _ _⟩
 ·subst hF;have hfl:=aOF enc k hk0 hlen l;have hrl:(l.map enc).length=l.length:=iL _;rw[hrl] at hv hle htk;have hwb:=hs b _ hb;have hblk:b<w.heap.size:=hs.lt hb;have hH:HoldsK enc k w b 0 l.toArray:=by
   intro j hj;have hj':j<l.length*k:=by simpa using hj
   have hc:cs[j]? =some ((flatK enc k l.toArray)[j]!):=by
    have e1:cs.toList[j]? =(l.map enc).flatten[j]?:=by rw[←htk,aDn,if_pos hj']
    rw[aLO] at e1;rw[e1,hfl,aLO,Array.getElem?_eq_getElem hj,getElem!_pos _ j hj]
   constructor
   ·unfold World.cell?;simp only[iZ,hwb,zLv];simpa using hc
   ·unfold World.frozen?;simp only[hwb];simp
  have hcm':CmpLays P g #[] enc k cf b 0 l.toArray.size w:=by
   intro m os dk _ x y;have hc:=(hcmp x y).calls eg (sortWorldK enc k w b 0 m dk os) (λ_ _ hb=>by cases hb);refine hc.mono λe1 w' ⟨v1,h1,he,hv1,_,fr⟩=>⟨by rw[he,hv1],aVB fr.os fr.tape fr.output fr.drawn fr.size λi hi=>fr.far i hi rfl⟩
  have hS:=AnyQ.slices_SortFunc L k aE zE enc hlen h1 cf hO g #[] b 0 cap l.toArray w heg hcm' hH hblk (by simpa using hsz);subst hv;have hz:l.toArray.size=l.length:=by simp
  rw[hz] at hS;refine hS.mono λe1 w' ⟨he,d',n,os,hp,hso,hw⟩=>?_;obtain⟨hps,_,hpp⟩:=hp;have hds:d'.toList.length=l.length:=by simpa using hps
  let c':=putCells id 0 (flatK enc k d') cs;have hmod:∀i,w'.heap[i]? =if i<w.heap.size then(if i=b then some (.cells c' e (0,0)) else w.heap[i]?) else os[i-w.heap.size]?:=by
   intro i;subst hw;show((w.heap.modify b (onCells (putCells id 0 (flatK enc k d'))))++os)[i]? =_;rw[Array.getElem?_append,Array.size_modify,Array.getElem?_modify];by_cases hi:i<w.heap.size
   ·rw[if_pos hi,if_pos hi];by_cases hib:i=b
    ·subst hib;rw[if_pos rfl,if_pos rfl,hwb];rfl
    ·rw[if_neg (Ne.symm hib),if_neg hib]
   ·rw[if_neg hi,if_neg hi]
  have hsub:oV (h.set b (.cells c' e (0,0))) w':=by
   intro i o hi;rw[hmod];unfold PH.set at hi;split at hi
   ·rename_i e1;subst e1;rw[if_pos hblk,if_pos rfl];exact hi
   ·rename_i e1;rw[if_pos (hs.lt hi),if_neg e1];exact hs _ _ hi
  have hfr:Fr h w (h.set b (.cells c' e (0,0))) w':=by
   subst hw;refine⟨rfl,rfl,rfl,?_,?_,λi hi hn=>?_,λi hi hn=>?_⟩
   ·show w.drawn≤w.drawn+n;omega
   ·show w.heap.size≤((w.heap.modify b _)++os).size;simp
   ·rw[hmod,if_pos hi,if_neg (λe1=>by subst e1;rw[hb] at hn;cases hn)]
   ·rw[aAD (λe1=>by subst e1;rw[hb] at hn;cases hn)];exact hn
  refine⟨_,_,he,hk d'.toList _ ?_ ?_ ⟨λr hr=>?_,.inr ⟨b,cap,c',?_,rfl,eN,?_,hcm,?_,?_⟩⟩ (cX.set (by simp)),hsub,hfr⟩
  ·have e1:d'.extract 0 l.length=d':=by rw[←hz,←hps];simp
   have e2:l.toArray.extract 0 l.length=l.toArray:=by rw[←hz];simp
   rw[e1,e2] at hpp;simpa using hpp
  ·rw[List.pairwise_iff_getElem];intro i j hi hj hij;have:=hso i j (kT _) hij (by rw[←hz,←hps];simpa using hj);rw[getElem!_pos d' i (by simpa using hi),getElem!_pos d' j (by simpa using hj)] at this;simpa using this
  ·obtain⟨x,_,rfl⟩:=pQ.1 hr;exact hlen x
  ·rw[iL,hds]
  ·rw[iL,hds];exact hle
  ·show(putCells id 0 (flatK enc k d') cs).size=_;unfold putCells;rw[Array.size_mapIdx];exact hcs
  ·rw[iL,hds];have hfd:=aOF enc k hk0 hlen d'.toList;rw[hfd];have hsz2:(flatK enc k d').size=l.length*k:=by rw[size_flatK,hps,hz]
   have:=aO5 (flatK enc k d') cs (by rw[hsz2,hcs];exact zLO _ hle);rw[hsz2] at this;simpa using this
end
section
open Go
def aMs:aLY PG fQ sL where
 chk:=λh b a=>by unfold sL;cases b<;>kernel_rfl
 eq:=λh a b=>by
  show cD PG h (Op.equalIn (9999+1) fQ (.agg #[.int .i64 a.1,.int .u64 a.2]) (.agg #[.int .i64 b.1,.int .u64 b.2]))=_;rw[aAq fQ.und (by kernel_rfl) (λf=>match f.offset with|0=>a.1==b.1|_=>a.2==b.2)]
  ·congr 1;rw[xF];obtain⟨x,y⟩:=a;obtain⟨x',y'⟩:=b;simp
  ·intro f hf;simp only[iW,zLg,or_false] at hf;rcases hf with rfl|rfl
   ·exact⟨by decide,_,_,iM aR.und rfl rfl,iM aR.und rfl rfl,rH aR.und⟩
   ·exact⟨by decide,_,_,iM cJ.und rfl rfl,iM cJ.und rfl rfl,rH cJ.und⟩
 bits:=λa=>by
  show Instr.sameBits (9999+1) (.agg #[.int .i64 a.1,.int .u64 a.2]) (.agg #[.int .i64 a.1,.int .u64 a.2])=true;simp[Instr.sameBits]
 now:=⟨_,fQ.und,.inl λa b=>rfl⟩
def It.pr(i:It):Ky×Value:=(i.key,i.val)
def It.un:Value->It
 | .agg ⟨[.int _ f,.int _ s,.int _ t,.string d,.int _ g]⟩=>⟨⟨f,s,t,d⟩,g⟩
 | _=>default
def It.un_val(i:It):It.un i.val=i:=rfl
def aVw(l:List It):(l.map It.pr).map (λp=>It.un p.2)=l:=by
 rw[zLZ];have:((λp:Ky×Value=>It.un p.2) ∘ It.pr)=id:=by funext i;exact It.un_val i
 rw[this,List.map_id]
abbrev MAt(h:PH)(m:Nat)(l:List It):Prop:=oU sL h m (l.map It.pr)
def aIC{h:PH}{r:Nat}(hr:h r=none)(x:It){k:cE}(hk:∀h',Bx h' r x.cells->dA h h'->k undef h'):
  cN PG (cP cF (pT r 0) x.val) (h.set r (.cells (dJ PG cF) cF)) k:=by
 refine aGm eN cF.info (by show 5=5;rfl) (by show 0<5;decide) (by rw[cF.zc];rfl) x.allCell ?_;rw[aDH];exact hk _ ⟨_,eN⟩ (cX.new hr)
abbrev aGi(l:Nat):Value:=.func (.yield l) #[] #[]
def aUQ{h:PH}{bx m l:Nat}{L:List It}(hb:Bx h bx [.map (some m)])(hm:MAt h m L)(J:Nat->List It->PH->Prop)
  (J0:∀it h',h it=none->dA h h'->h' it≠none->J it [] h') (Js:∀it pre h1 h2,J it pre h1->cX [it] h1 h2->J it pre h2)
  (Jy:∀it pre x h1,h it=none->pre.length<L.length->J it pre h1->h1 it≠none->∀k':Value->PH->Prop,(∀h2 G,J it (pre++[x]) h2->cX G h1 h2->m∉G->it∉G->k' (.bool true) h2)->zI PG (aGi l) #[x.val] h1 k')
  {k:cE} (hk:∀it l' h',l'.Perm L->J it l' h'->k (.tuple #[]) h'):
  bT PG gQ #[aGi l,pT bx 0] h k:=by
 apply jH.call;unfold jH;have c0:cV h ⟨bx,0,none⟩=some (.map (some m)):=hb.cell 0;simp only[dO.load,c0,cC,reduceIte];refine aUz dO.und hm λit h1 hit HI u1=>?_;refine⟨λvs h'=>∃pre:List It,vs=[aGi l,pT it 0]∧aCo sL h' m it (L.map It.pr) (pre.map It.pr)∧J it pre h',λ_ h'=>aP4 L.length it h',⟨[],rfl,HI,J0 it h1 hit u1 HI.known⟩,?_⟩;rintro ρ h' ⟨pre,hvs,HI,hJ⟩;simp only[iG,jB,kZ,and_true] at hvs;obtain⟨e0,e1⟩:=hvs;rw[e0,e1];unfold nJ;refine aWd HI (λhp=>?_) (λa v h2 hav hnk HI2 u2=>?_)
 ·simp only[cC,reduceIte];refine hk it pre h' ?_ hJ;have:=hp.map (λp=>It.un p.2)
  rwa [aVw,aVw] at this
 ·simp only[cC,reduceIte];obtain⟨x,hx,hxe⟩:=pQ.1 hav;obtain⟨rfl,rfl⟩:x.key=a∧x.val=v:=by simpa[It.pr] using hxe
  refine aUl HI2 ?_;simp only[cC,reduceIte];intro r hr
  try rw[cR]
  refine aIC hr x λh3 b3 u3=>?_;simp only[b3.it,cC,reduceIte];have HI3:=HI2.upd u3 (by simp) (by simp);have hJ3:=Js it pre h' h3 hJ (cX.trans u2 (dA.upd u3));have hlt:pre.length<L.length:=by
   have:=HI2.le;simp only[jM,iL,iU,kV] at this;omega
  refine Jy it pre x h3 hit hlt hJ3 HI3.known _ λh4 G hJ4 u4 g1 g2=>?_;have HI4:=HI3.upd u4 g1 g2;simp only[cC,reduceIte];refine⟨⟨pre++[x],by trivial,?_,hJ4⟩,?_⟩
  ·rw[xJ];exact HI4
  ·rw[HI4.left,HI.left];simp only[jM,iL,iU,kV];omega
def aHs{h:PH}{l:Nat}{r:Loop}(hl:h l=some (.loop r)):cD PG h (Instr.getLoop l)=some r:=by
 unfold Instr.getLoop getObj;show cD PG h (Sem.getObj l _)=_;simp only[cD,hl];rfl
def aPz{h:PH}{l:Nat}{r:Loop}{k:Unit->PH->Prop}(hl:h l=some (.loop r))(hs:r.state= .ready)(hk:k () (h.set l (.loop {r with state:=.busy}))):cN PG (Instr.beginRound l) h k:=by
 unfold Instr.beginRound;refine gZ (aHs hl) ?_;show(∃u,h l=some u∧(∀c e f,u≠ .cells c e f))∧_;refine⟨⟨_,hl,by intros;simp⟩,?_⟩;rw[hs];exact hk
def aTE{h:PH}{l:Nat}{r:Loop}{j:Option Code}{k:cE}(hl:h l=some (.loop r))(hk:k (.bool j.isNone) (h.set l (.loop {r with state:=if j.isNone then .ready else .done,pending:=j}))):cN PG (Instr.endRound l j) h k:=by
 unfold Instr.endRound;refine gZ (aHs hl) ?_;show(∃u,h l=some u∧(∀c e f,u≠ .cells c e f))∧_;exact⟨⟨_,hl,by intros;simp⟩,hk⟩
def aMg{h:PH}{l:Nat}{r:Loop}{k:Option Code->PH->Prop}(hl:h l=some (.loop r))(hs:r.state= .ready∨r.state= .done)(hk:k r.pending (h.set l (.loop {r with state:=.exhausted}))):cN PG (Instr.endLoop l) h k:=by
 unfold Instr.endLoop;refine gZ (aHs hl) ?_;have:(r.state==LoopState.busy)=false:=by rcases hs with e|e<;>rw[e]<;>rfl
 rw[this];show(∃u,h l=some u∧(∀c e f,u≠ .cells c e f))∧_;exact⟨⟨_,hl,by intros;simp⟩,hk⟩
def aPU{h:PH}{l:Nat}{r:Loop}{args:Array Value}{k:cE}(hl:h l=some (.loop r))(hn:args.size=r.params.size)
  (hk:sH PG (.round l r.fn ((r.params.zip args).foldl (λtmps (t,a)=>tmps.setIfInBounds t a) r.tmps) r.assign r.body) h k):zI PG (aGi l) args h k:=by
 unfold zI;unfold invoke;have e0:(#[]:Array Value)++args=args:=by simp
 show cN PG (Instr.yield l (#[]++args)) h _;rw[e0];unfold Instr.yield;refine gZ (aHs hl) ?_;simp only[hn,ne_eq,not_true,if_false];exact hk
def It.isCell(l:List It):∀r∈l.map It.cells,∀u∈r,fL u=true:=λr hr u hu=>by
 obtain⟨m,_,rfl⟩:=pQ.1 hr;exact m.allCell u (by simpa using hu)
def aTi(x:It):kC PG (buildSlice bZ 1 #[(0,x.val)])=some (.cells x.cells.toArray cF (0,0),λr=>pure (.slice (some ⟨r,0,none⟩) 1 1)):=by
 kernel_rfl
def aPE{h:PH}{bx m:Nat}{L:List It}(hb:Bx h bx [.map (some m)])(hm:MAt h m L)(hL:L.length≤1000000){k:cE}
  (hk:∀v (l':List It) h' F,l'.Perm L->eH h' cF 5 v (l'.map It.cells) F->eD h F->dA h h'->k v h'):
  bT PG oA #[.slice none 0 0,.func (.func gQ) #[] #[pT bx 0]] h k:=by
 apply lZ.call;unfold lZ;intro B hB;rw[cR];have uB:dA h (h.set B (.cells (Value.cells (.slice none 0 0)) bZ)):=cX.new hB;have bB:(h.set B (.cells (Value.cells (.slice none 0 0)) bZ)) B=some (.cells #[.slice none 0 0] bZ (0,0)):=eN;generalize h.set B (.cells (Value.cells (.slice none 0 0)) bZ)=h1 at *;unfold aDv;refine⟨by kernel_rfl,?_⟩;intro fn tmps l D hv hsz hl;have hv2:tmps.getD 2 undef=pT B 0:=hv (2,_) (by simp);have hlB:l≠B:=by rintro rfl;rw[bB] at hl;cases hl
 have ul:dA h1 (h1.set l (.loop {state:=.ready,pending:=none,fn,tmps,params:=#[7],assign:=gX,body:=gS,defers:=D})):=cX.new hl;have bl:(h1.set l (.loop {state:=.ready,pending:=none,fn,tmps,params:=#[7],assign:=gX,body:=gS,defers:=D})) l=some (.loop {state:=.ready,pending:=none,fn,tmps,params:=#[7],assign:=gX,body:=gS,defers:=D}):=eN;obtain⟨rec,hrec⟩:∃rec:Loop,rec= {state:=.ready,pending:=none,fn,tmps,params:=#[7],assign:=gX,body:=gS,defers:=D}:=⟨_,rfl⟩;rw[←hrec] at ul bl ⊢;have bB2:=ul.get bB;generalize h1.set l (.loop rec)=h2 at *;have u12:=dA.trans uB ul;have hlh:h l=none:=uB.none hl;refine aUQ (hb.ext u12) (oU.ext hm u12)
  (λit pre h'=>∃v F,h' l=some (.loop rec)∧h' B=some (.cells #[v] bZ (0,0))∧eH h' cF 5 v (pre.map It.cells) F∧eD h F∧l∉F∧B∉F∧it∉F∧it≠l∧it≠B∧h it=none∧dA h h')
  (λit h3 hit u3 hkn=>?_) (λit pre h3 h4 hJ u4=>?_) (λit pre x h3 hit hlt hJ hkn k' hk'=>?_) (λit l' h3 hp hJ=>?_)
 ·refine⟨.slice none 0 0,[],u3.get bl,u3.get bB2,eH.nil,(λb hb=>by cases hb),by simp,by simp,by simp,?_,?_,u12.none hit,u12.trans u3⟩
  ·rintro rfl;rw[bl] at hit;cases hit
  ·rintro rfl;rw[bB2] at hit;cases hit
 ·obtain⟨v,F,j1,j2,j3,j4,j5,j6,j7,j8,j9,j10,j11⟩:=hJ;exact⟨v,F,u4.get j1 (by simpa using Ne.symm j8),u4.get j2 (by simpa using Ne.symm j9),j3.upd u4 (λb hb=>by simp;rintro rfl;exact j7 hb),j4,j5,j6,j7,j8,j9,j10,
   j11.fresh u4 (eD.one j10)⟩
 ·obtain⟨v,F,j1,j2,j3,j4,j5,j6,j7,j8,j9,j10,j11⟩:=hJ;refine aPU j1 (by rw[hrec];rfl) ?_;have e1:rec.assign=gX:=by rw[hrec]
  have e2:rec.body=gS:=by rw[hrec]
  have e3:(rec.params.zip #[x.val]).foldl (λtmps (t,a)=>tmps.setIfInBounds t a) rec.tmps=tmps.setIfInBounds 7 x.val:=by rw[hrec];simp
  rw[e1,e2,e3];refine iK.next (by simpa using hsz) ?_;have t2:(tmps.setIfInBounds 7 x.val).getD 2 undef=pT B 0:=by
   rw[←hv2];simp[aFH,Array.getElem?_setIfInBounds]
  have t7:(tmps.setIfInBounds 7 x.val).getD 7 undef=x.val:=by
   simp[aFH,hsz]
  rw[t2,t7];unfold iK;intro r hr;rw[cR];refine aIC hr x λh4 b4 u4=>?_;have hrl:r≠l:=by rintro rfl;rw[j1] at hr;cases hr
  have hrB:r≠B:=by rintro rfl;rw[j2] at hr;cases hr
  have hri:r≠it:=by rintro rfl;exact hkn hr
  refine aPz (u4.get j1) (by rw[hrec]) ?_;have u5:cX [l] h4 (h4.set l (.loop {rec with state:=.busy})):=cX.set (by simp);have bl5:(h4.set l (.loop {rec with state:=.busy})) l=some (.loop {rec with state:=.busy}):=eN;generalize h4.set l (.loop {rec with state:=.busy})=h5 at *;have bB5:h5 B=_:=u5.get (u4.get j2) (by simpa using Ne.symm hlB);have c0:cV h5 ⟨B,0,none⟩=some v:=by simp[cV,bB5]
  have hO5:=(j3.ext u4).upd u5 (λb hb=>by simp;rintro rfl;exact j5 hb);have b5:=b4.upd u5 (by simpa using hrl);simp only[bZ.load,c0,b5.it,aTi,cC,reduceIte];intro r6 hr6;refine iB ?_
  try rw[cR]
  have u6:dA h5 (h5.set r6 (.cells x.cells.toArray cF)):=cX.new hr6;have s1:iH (h5.set r6 (.cells x.cells.toArray cF)) 5 (.slice (some ⟨r6,0,none⟩) 1 1) ([x].map It.cells):=(eH.lit (It.rows [x]) eN (by simp) (by decide) (by simp)).slR;generalize h5.set r6 (.cells x.cells.toArray cF)=h6 at *;refine lV bZ.und bZ.und cF.info cF.size cF.bytes cF.zero rfl (by decide) (hO5.ext u6) s1 (It.isCell _) (by simp;omega) ?_;intro v7 h7 F7 hO7 u7 hF7 _;rw[←xJ] at hO7;have bB7:h7 B=_:=u7.get (u6.get bB5) j6;have bl7:h7 l=_:=u7.get (u6.get bl5) j5;refine lC bZ.und rfl bB7 (by simp) (by obtain⟨_,_,rfl,-⟩:=hO7.slR.here;rfl) bZ.info bZ.size ?_;have notIn:∀b,h6 b≠none->b∉F->b∉F7:=λb h1 h2 hm=>by rcases hF7 b hm with h3|h3;exact h2 h3;exact h1 h3
  have kn6:∀b,h3 b≠none->b≠l->h6 b≠none:=λb hb hbl=>by
   cases e:h3 b with
   | none=>exact absurd e hb
   | some o=>rw[u6.get (u5.get (u4.get e) (by simpa using hbl))];simp
  have nB:B∉F7:=notIn B (by rw[u6.get bB5];simp) j6;have nl:l∉F7:=notIn l (by rw[u6.get bl5];simp) j5;have ni:it∉F7:=notIn it (kn6 it hkn j8) j7;have u8:cX [B] h7 (h7.set B (.cells (#[v].setIfInBounds 0 v7) bZ (0,0))):=cX.set (by simp);have bB8:(h7.set B (.cells (#[v].setIfInBounds 0 v7) bZ (0,0))) B=some (.cells #[v7] bZ (0,0)):=eN;generalize h7.set B (.cells (#[v].setIfInBounds 0 v7) bZ (0,0))=h8 at *;have hO8:=hO7.upd u8 (λb hb=>by simp;rintro rfl;exact nB hb);have bl8:=u8.get bl7 (by simpa using hlB);refine aTE bl8 ?_;have u9:cX [l] h8 (h8.set l (.loop {{rec with state:=.busy} with state:=if (none:Option Code).isNone then .ready else .done,pending:=none})):=cX.set (by simp);have bl9:(h8.set l (.loop {{rec with state:=.busy} with state:=if (none:Option Code).isNone then .ready else .done,pending:=none})) l=some (.loop rec):=by rw[eN,hrec];rfl
  generalize h8.set l (.loop {{rec with state:=.busy} with state:=if (none:Option Code).isNone then .ready else .done,pending:=none})=h9 at *;have hfr7:eD h F7:=λb hb=>by
   rcases hF7 b hb with h1|h1
   ·exact j4 b h1
   ·cases e:h b with
    | none=>rfl
    | some o=>
     have:=kn6 b (by rw[j11.get e];simp) (by rintro rfl;rw[hlh] at e;cases e);exact absurd h1 this
  have hall:cX (l::B::F) h3 h9:=by
   intro b o hb hn;simp only[iW,not_or] at hn;exact u9.get (u8.get (u7.get (u6.get (u5.get (u4.get hb) (by simpa using hn.1))) hn.2.2) (by simpa using hn.2.1)) (by simpa using hn.1)
  have hext:dA h h9:=j11.fresh hall (λb hb=>by
   rcases iW.1 hb with rfl|hb
   ·exact hlh
   ·rcases iW.1 hb with rfl|hb
    ·exact hB
    ·exact j4 b hb)
  refine hk' h9 (l::B::F) ⟨v7,F7,bl9,u9.get bB8 (by simpa using Ne.symm hlB),hO8.upd u9 (λb hb=>by simp;rintro rfl;exact nl hb),hfr7,nl,nB,ni,j8,j9,j10,hext⟩ hall ?_ ?_
  ·intro hmm;have hkm:=oU.known hm;rcases iW.1 hmm with rfl|hmm
   ·exact hkm hlh
   ·rcases iW.1 hmm with rfl|hmm
    ·exact hkm hB
    ·exact hkm (j4 m hmm)
  ·simp only[iW,not_or];exact⟨j8,j9,j7⟩
 ·obtain⟨v,F,j1,j2,j3,j4,j5,j6,j7,j8,j9,j10,j11⟩:=hJ;refine aMg j1 (by rw[hrec];exact .inl rfl) ?_;have ep:rec.pending=none:=by rw[hrec]
  have u5:cX [l] h3 (h3.set l (.loop {rec with state:=.exhausted})):=cX.set (by simp);generalize h3.set l (.loop {rec with state:=.exhausted})=h5 at *;rw[ep];show bY _ _;have bB5:h5 B=_:=u5.get j2 (by simpa using Ne.symm hlB);have c0:cV h5 ⟨B,0,none⟩=some v:=by simp[cV,bB5]
  simp only[bZ.load,c0,cC,reduceIte];exact hk v l' h5 F hp (j3.upd u5 (λb hb=>by simp;rintro rfl;exact j5 hb)) j4 (j11.fresh u5 (eD.one hlh))
end
section
open Go Go.Shelf
def aHz:Go.Shelf.Ren:=⟨fun|6=>117|15=>169|14=>168|28=>209|29=>210|20=>201|21=>202|22=>203|23=>204|24=>205|25=>206|26=>207|27=>208|46=>220|47=>221|48=>222|49=>223|50=>224|57=>235|n=>n,fun|22=>38|24=>83|25=>223|3=>3|39=>191|0=>0|53=>251|55=>22|4=>4|46=>297|45=>296|50=>165|5=>5|9=>9|66=>316|70=>319|76=>332|77=>105|n=>n,fun|n=>n⟩
def aVe:Go.Proofs.SlLaysF0.n6 Tryz.prog aHz:={
 mixed:=by kernel_rfl
 f6:=⟨Tryz.f117.name,by decide,Tryz.func117.trans (congrArg some (by kernel_rfl))⟩
 f14:=⟨Tryz.f168.name,by decide,Tryz.func168.trans (congrArg some (by kernel_rfl))⟩
 f15:=Tryz.func169.trans (congrArg some (by kernel_rfl))
 f20:=⟨Tryz.f201.name,by decide,Tryz.func201.trans (congrArg some (by kernel_rfl))⟩
 f21:=⟨Tryz.f202.name,by decide,Tryz.func202.trans (congrArg some (by kernel_rfl))⟩
 f22:=⟨Tryz.f203.name,by decide,Tryz.func203.trans (congrArg some (by kernel_rfl))⟩
 f23:=⟨Tryz.f204.name,by decide,Tryz.func204.trans (congrArg some (by kernel_rfl))⟩
 f24:=⟨Tryz.f205.name,by decide,Tryz.func205.trans (congrArg some (by kernel_rfl))⟩
 f25:=⟨Tryz.f206.name,by decide,Tryz.func206.trans (congrArg some (by kernel_rfl))⟩
 f26:=⟨Tryz.f207.name,by decide,Tryz.func207.trans (congrArg some (by kernel_rfl))⟩
 f27:=⟨Tryz.f208.name,by decide,Tryz.func208.trans (congrArg some (by kernel_rfl))⟩
 f28:=Tryz.func209.trans (congrArg some (by kernel_rfl))
 f29:=Tryz.func210.trans (congrArg some (by kernel_rfl))
 f46:=⟨Tryz.f220.name,by decide,Tryz.func220.trans (congrArg some (by kernel_rfl))⟩
 f47:=Tryz.func221.trans (congrArg some (by kernel_rfl))
 f48:=Tryz.func222.trans (congrArg some (by kernel_rfl))
 f49:=⟨Tryz.f223.name,by decide,Tryz.func223.trans (congrArg some (by kernel_rfl))⟩
 f50:=⟨Tryz.f224.name,by decide,Tryz.func224.trans (congrArg some (by kernel_rfl))⟩
 f57:=⟨Tryz.f235.name,by decide,Tryz.func235.trans (congrArg some (by kernel_rfl))⟩
 t0:=Tryz.underlying0
 a0:=Tryz.isAgg0
 z0:=Tryz.sizeOf0
 v0:=Tryz.zeroValue0
 t3:=Tryz.underlying3
 a3:=Tryz.isAgg3
 z3:=Tryz.sizeOf3
 v3:=Tryz.zeroValue3
 t4:=Tryz.underlying4
 a4:=Tryz.isAgg4
 z4:=Tryz.sizeOf4
 v4:=Tryz.zeroValue4
 t5:=Tryz.underlying5
 a5:=Tryz.isAgg5
 z5:=Tryz.sizeOf5
 v5:=Tryz.zeroValue5
 t9:=Tryz.underlying9
 a9:=Tryz.isAgg9
 z9:=Tryz.sizeOf9
 v9:=Tryz.zeroValue9
 t22:=Tryz.underlying38
 a22:=Tryz.isAgg38
 z22:=Tryz.sizeOf38
 v22:=Tryz.zeroValue38
 t25:=Tryz.underlying223
 a25:=Tryz.isAgg223
 z25:=Tryz.sizeOf223
 v25:=Tryz.zeroValue223
 t39:=Tryz.underlying191
 a39:=Tryz.isAgg191
 z39:=Tryz.sizeOf191
 v39:=Tryz.zeroValue191
 t45:=Tryz.underlying296
 a45:=Tryz.isAgg296
 z45:=Tryz.sizeOf296
 v45:=Tryz.zeroValue296
 t46:=Tryz.underlying297
 a46:=Tryz.isAgg297
 z46:=Tryz.sizeOf297
 v46:=Tryz.zeroValue297
 t50:=Tryz.underlying165
 a50:=Tryz.isAgg165
 z50:=Tryz.sizeOf165
 v50:=Tryz.zeroValue165
 t53:=Tryz.underlying251
 a53:=Tryz.isAgg251
 z53:=Tryz.sizeOf251
 v53:=Tryz.zeroValue251
 t55:=Tryz.underlying22
 a55:=Tryz.isAgg22
 z55:=Tryz.sizeOf22
 v55:=Tryz.zeroValue22
 t66:=Tryz.underlying316
 a66:=Tryz.isAgg316
 z66:=Tryz.sizeOf316
 v66:=Tryz.zeroValue316
 t70:=Tryz.underlying319
 a70:=Tryz.isAgg319
 z70:=Tryz.sizeOf319
 v70:=Tryz.zeroValue319
 t76:=Tryz.underlying332
 a76:=Tryz.isAgg332
 z76:=Tryz.sizeOf332
 v76:=Tryz.zeroValue332
 t77:=Tryz.underlying105
 a77:=Tryz.isAgg105
 z77:=Tryz.sizeOf105
 v77:=Tryz.zeroValue105}
def aYf(w:World):(isAgg (aHz.t 24)).run PG w= .ok true w:=Tryz.isAgg83 w
def aX4(w:World):(Go.sizeOf (aHz.t 24)).run PG w= .ok 5 w:=Tryz.sizeOf83 w
end
section
open Go Go.Sort Go.Shelf
def ltI(a b:It):Bool:=decide (a.p.f<b.p.f)||(decide (a.p.f=b.p.f)&&decide (a.p.s<b.p.s))
def aLa(a b:It):ltOf cfI a b=ltI a b:=by
 unfold ltOf cfI aDp ltI;by_cases h1:a.p.f<b.p.f
 ·simp[h1]
 ·by_cases h2:b.p.f<a.p.f
  ·have h3:¬a.p.f=b.p.f:=by omega
   simp[h1,h2,h3]
  ·have h3:a.p.f=b.p.f:=by omega
   simp only[h1,h2,if_false,ne_eq,not_true,h3];by_cases h4:a.p.s<b.p.s
   ·simp[h4]
   ·by_cases h5:b.p.s<a.p.s
    ·simp[h4,h5]
    ·simp[h4,h5]
def aZC:SWO (ltOf cfI) where
 irrefl x:=by rw[aLa];simp[ltI]
 trans x y z h1 h2:=by
  rw[aLa] at *;simp only[ltI,aHE,sU,decide_eq_true_eq] at *;omega
 ntrans x y z h1 h2:=by
  rw[aLa] at *;simp only[ltI,Bool.or_eq_false_iff,Bool.and_eq_false_iff,decide_eq_false_iff_not] at *;omega
def aWw{h:PH}{v:Value}{F:List Nat}{l:List It}(H:eH h cF 5 v (l.map It.cells) F)(hl:l.length≤1000000){k:cE}
  (hk:∀(l':List It) h',l'.Perm l->l'.Pairwise (λa b=>ltI b a=false)->eH h' cF 5 v (l'.map It.cells) F->cX F h h'->k (.tuple #[]) h'):
  bT PG oD #[v,.func (.func qU) #[] #[]] h k:=by
 refine aQY (P:=PG) aVe (f:=oD) rfl (k:=5) (by decide) aYf aX4 It.cells (λ_=>rfl) (λx v hv=>?_) cfI aZC (g:=qU) (by kernel_rfl)
  (λx y=>aWR x y λh' _=>rfl) (by kernel_rfl) H (by omega) (λl' h' hp hs hO u=>hk l' h' hp ?_ hO u)
 ·have:=x.allCell v (by simpa using hv);cases v<;>first|rfl|cases this
 ·refine hs.imp fun {a b} hab=>?_;rw[←aLa];exact hab
def aTC{h:PH}{m:Nat}{k:cE}(hk:∀bx h',h bx=none->Bx h' bx [.map (some m)]->dA h h'->k (.func (.func gQ) #[] #[pT bx 0]) h'):
  bT PG lE #[.map (some m)] h k:=by
 apply jP.call;unfold jP;intro r hr;rw[cR];simp only[cC,reduceIte];exact hk r _ hr ⟨_,eN⟩ (cX.new hr)
def aRg{h:PH}{bx m:Nat}{L:List It}(hb:Bx h bx [.map (some m)])(hm:MAt h m L)(hL:L.length≤1000000){k:cE}
  (hk:∀v (l':List It) h' F,l'.Perm L->eH h' cF 5 v (l'.map It.cells) F->eD h F->dA h h'->k v h'):
  bT PG xA #[.func (.func gQ) #[] #[pT bx 0]] h k:=by
 apply tR.call;unfold tR;exact aPE hb hm hL hk
end
section
open Go
def kl(a b:Ky):Prop:=a.1<b.1∨a.1=b.1∧a.2<b.2
instance (a b:Ky):Decidable (kl a b):=by unfold kl;exact inferInstance
def aGs(a:Ky):¬kl a a:=by unfold kl;omega
def aH1{a b c:Ky}(h1:kl a b)(h2:kl b c):kl a c:=by unfold kl at *;omega
def aJZ{a b:Ky}(h:kl a b):a≠b:=by rintro rfl;exact aGs _ h
def aGJ{a b:Ky}(h:kl a b):¬kl b a:=λh2=>aGs _ (aH1 h h2)
def aJy{a b:Ky}(h:a≠b):kl a b∨kl b a:=by
 have:¬(a.1=b.1∧a.2=b.2):=λe=>h (Prod.ext e.1 e.2);unfold kl;omega
def mM(L:List It):Prop:=L.Pairwise λa b=>kl a.key b.key
def iJ(L:List It)(k:Ky):Option It:=L.find? λi=>decide (k=i.key)
def rI(L:List It)(k:Ky):List It:=L.filter λi=>decide (i.key≠k)
def pS(L:List It)(i:It):List It:=(L.filter λj=>decide (kl j.key i.key))++i::(L.filter λj=>decide (kl i.key j.key))
def mM.unique:∀{A B:List It},mM A->mM B->A.Perm B->A=B
 | [],B,_,_,h=>by rw[List.nil_perm.1 h]
 | a::A,[],_,_,h=>by have:=h.length_eq;simp at this
 | a::A,b::B,hA,hB,h=>by
  unfold mM at hA hB;rw[List.pairwise_cons] at hA hB;have e:a=b:=by
   have h1:a∈b::B:=h.mem_iff.1 (by simp);have h2:b∈a::A:=h.mem_iff.2 (by simp);rcases iW.1 h1 with h1|h1
   ·exact h1
   ·rcases iW.1 h2 with h2|h2
    ·exact h2.symm
    ·exact absurd (hA.1 b h2) (aGJ (hB.1 a h1))
  subst e;rw[mM.unique hA.2 hB.2 (h.cons_inv)]
def mM.filter{L:List It}(h:mM L)(p:It->Bool):mM (L.filter p):=List.Pairwise.filter p h
def mM.del{L:List It}(h:mM L)(k:Ky):mM (rI L k):=h.filter _
def mM.ins{L:List It}(h:mM L)(i:It):mM (pS L i):=by
 unfold pS mM;rw[List.pairwise_append];refine⟨h.filter _,?_,?_⟩
 ·rw[List.pairwise_cons];exact⟨λx hx=>by simpa using(zLY.1 hx).2,h.filter _⟩
 ·intro x hx y hy;have h1:kl x.key i.key:=by simpa using(zLY.1 hx).2
  rcases iW.1 hy with rfl|hy
  ·exact h1
  ·exact aH1 h1 (by simpa using(zLY.1 hy).2)
def mM.nodup{L:List It}(h:mM L):(L.map It.key).Nodup:=by
 unfold List.Nodup;rw[List.pairwise_map];exact h.imp λh=>aJZ h
def aKn{α:Type}(p q:α->Bool)(hd:∀a,p a=true->q a=false):∀l:List α,(l.filter p++l.filter q).Perm (l.filter λa=>p a||q a)
 | []=>List.Perm.refl _
 | a::l=>by
  have ih:=aKn p q hd l;cases hp:p a with
  | true=>
   have hq:=hd a hp;simp only[zLr,hp,hq,Bool.true_or,if_true,zLs,if_false,zLT];exact ih.cons a
  | false=>
   cases hq:q a with
   | true=>
    simp only[zLr,hp,hq,Bool.false_or,if_true,zLs,if_false];exact List.perm_middle.trans (ih.cons a)
   | false=>simp only[zLr,hp,hq,Bool.or_self,zLs,if_false];exact ih
def aGK(L:List It)(i:It):(pS L i).Perm (i::rI L i.key):=by
 unfold pS rI;refine List.perm_middle.trans (List.Perm.cons i ?_);refine(aKn _ _ (λa ha=>?_) L).trans ?_
 ·simp only[decide_eq_true_eq] at ha;simp only[decide_eq_false_iff_not];exact aGJ ha
 ·have:(L.filter λa=>decide (kl a.key i.key)||decide (kl i.key a.key))=L.filter λj=>decide (j.key≠i.key):=by
   apply List.filter_congr;intro x _;rw[xF];simp only[aHE,decide_eq_true_eq];constructor
   ·rintro(h|h)
    ·exact aJZ h
    ·exact(aJZ h).symm
   ·exact aJy
  rw[this]
def aAt{L:List It}{k:Ky}{x:It}(h:iJ L k=some x):x∈L∧x.key=k:=by
 unfold iJ at h;exact⟨List.mem_of_find?_eq_some h,by simpa using(by simpa using List.find?_some h:k=x.key).symm⟩
def aBe{L:List It}{k:Ky}:iJ L k=none↔∀x∈L,x.key≠k:=by
 unfold iJ;rw[List.find?_eq_none];simp only[decide_eq_true_eq];exact⟨λh x hx e=>h x hx e.symm,λh x hx e=>h x hx e.symm⟩
def aWu{L:List It}(hn:(L.map It.key).Nodup){x:It}(hx:x∈L):iJ L x.key=some x:=by
 cases h:iJ L x.key with
 | none=>exact absurd rfl (aBe.1 h x hx)
 | some y=>obtain⟨h1,h2⟩:=aAt h;rw[aGh (f:=It.key) hn h1 hx h2]
def aIZ{l L:List It}(hp:l.Perm L)(hn:(L.map It.key).Nodup)(k:Ky):iJ l k=iJ L k:=by
 cases h:iJ L k with
 | none=>exact aBe.2 λx hx=>aBe.1 h x (hp.mem_iff.1 hx)
 | some y=>
  obtain⟨h1,rfl⟩:=aAt h;exact aWu ((hp.map It.key).nodup_iff.2 hn) (hp.mem_iff.2 h1)
def aJb{L:List It}{k:Ky}(h:iJ L k=none):rI L k=L:=by
 unfold rI;rw[aME];intro x hx;simpa using aBe.1 h x hx
def aKr{i:It}:∀{l:List It},(l.map It.key).Nodup->(∃x∈l,x.key=i.key)->(l.map λj=>if j.key=i.key then i else j).Perm (i::rI l i.key)
 | [],_,⟨x,hx,_⟩=>by cases hx
 | y::l,hn,⟨x,hx,e⟩=>by
  simp only[iG,aF7] at hn;by_cases hy:y.key=i.key
  ·have hno:∀z∈l,z.key≠i.key:=λz hz e=>hn.1 (by rw[hy,←e];exact zL3 hz);have h1:(l.map λj=>if j.key=i.key then i else j)=l:=by
    rw[zL0 (g:=id) λz hz=>by simp[hno z hz],List.map_id]
   have h2:rI (y::l) i.key=l:=by
    unfold rI;simp only[zLr,hy,ne_eq,not_true,decide_false,zLs,if_false];rw[aME];intro z hz;simpa using hno z hz
   rw[iG,if_pos hy,h1,h2]
  ·have hx':∃x∈l,x.key=i.key:=by
    rcases iW.1 hx with rfl|hx
    ·exact absurd e hy
    ·exact⟨x,hx,e⟩
   have ih:=aKr hn.2 hx';have h2:rI (y::l) i.key=y::rI l i.key:=by
    unfold rI;simp[zLr,hy]
   rw[iG,if_neg hy,h2];exact(ih.cons y).trans (List.Perm.swap i y _)
def aCY(L:List It)(room:Int)(i:It):Int:=if iJ L i.key=none∧room≤L.length then 2 else 0
def sJ(L:List It)(room:Int)(i:It):List It:=if iJ L i.key=none∧room≤L.length then L else pS L i
def uA(L:List It)(room:Int)(n:Nt):Int:=
 if n.right=false then 1
 else if n.k=1 then(if (iJ L n.p.key).isSome then 0 else aCY L room ⟨n.p,1⟩)
 else if n.k=2 then(if (iJ L n.p.key).isSome then 0 else aCY L room ⟨n.p,2⟩)
 else 0
def qJ(L:List It)(room:Int)(n:Nt):List It:=
 if n.right=false then L
 else if n.k=1 then(if (iJ L n.p.key).isSome then L else sJ L room ⟨n.p,1⟩)
 else if n.k=2 then(match iJ L n.p.key with
  | some x=>pS L ⟨x.p,2⟩
  | none=>sJ L room ⟨n.p,2⟩)
 else rI L n.p.key
def mM.put{L:List It}(h:mM L)(room:Int)(i:It):mM (sJ L room i):=by
 unfold sJ;split
 ·exact h
 ·exact h.ins i
def mM.app{L:List It}(h:mM L)(room:Int)(n:Nt):mM (qJ L room n):=by
 unfold qJ;split
 ·exact h
 ·split
  ·split
   ·exact h
   ·exact h.put room _
  ·split
   ·split
    ·exact h.ins _
    ·exact h.put room _
   ·exact h.del _
def aHK{L:List It}(hs:mM L)(i:It):(pS L i).length=if (iJ L i.key).isSome then L.length else L.length+1:=by
 rw[(aGK L i).length_eq,iU];cases h:iJ L i.key with
 | none=>rw[aJb h];rfl
 | some x=>
  obtain⟨h1,h2⟩:=aAt h;have:=(aKr (i:=i) hs.nodup ⟨x,h1,h2⟩).length_eq;rw[iL,iU] at this;simp only[aNr,if_true];omega
def aQp{L:List It}(hs:mM L){room:Int}(h0:L.length≤room)(i:It):(sJ L room i).length≤room:=by
 unfold sJ;split
 ·exact h0
 ·rename_i hn;rw[aHK hs];split
  ·exact h0
  ·rename_i hx;have:iJ L i.key=none:=by cases h:iJ L i.key with
    | none=>rfl
    | some x=>rw[h] at hx;simp at hx
   have:¬room≤L.length:=λh=>hn ⟨this,h⟩;omega
def aRJ(L:List It)(k:Ky):(rI L k).length≤L.length:=List.length_filter_le _ _
def aRL{L:List It}(hs:mM L){room:Int}(h0:L.length≤room)(n:Nt):(qJ L room n).length≤room:=by
 unfold qJ;split
 ·exact h0
 ·split
  ·split
   ·exact h0
   ·exact aQp hs h0 _
  ·split
   ·split
    ·rename_i x hx;rw[aHK hs];obtain⟨h1,h2⟩:=aAt hx;have:iJ L (⟨x.p,2⟩:It).key=some x:=by show iJ L x.key=some x;rw[h2];exact hx
     rw[this];simpa using h0
    ·exact aQp hs h0 _
   ·have:=aRJ L n.p.key;omega
structure TAt(h:PH)(a:Nat)(L:List It)(room:Int)(F:List Nat):Prop where
 here:∃m l,h a=some (.cells #[.map (some m),.int .i64 room] gK (0,0))∧MAt h m l∧l.Perm L∧F=[a,m]∧a≠m
 srt:mM L
def TAt.upd{h h':PH}{a:Nat}{L:List It}{room:Int}{F G:List Nat}(H:TAt h a L room F)(u:cX G h h')(hd:∀b∈F,b∉G):TAt h' a L room F:=by
 obtain⟨m,l,ha,hm,hp,rfl,hn⟩:=H.here;exact⟨⟨m,l,u.get ha (hd a (by simp)),oU.upd hm u (hd m (by simp)),hp,rfl,hn⟩,H.srt⟩
def TAt.ext{h h':PH}{a:Nat}{L:List It}{room:Int}{F:List Nat}(H:TAt h a L room F)(u:dA h h'):TAt h' a L room F:=H.upd u (by simp)
def TAt.known{h:PH}{a:Nat}{L:List It}{room:Int}{F:List Nat}(H:TAt h a L room F):∀b∈F,h b≠none:=by
 obtain⟨m,l,ha,hm,hp,rfl,hn⟩:=H.here;intro b hb;simp only[iW,zLg,or_false] at hb;rcases hb with rfl|rfl
 ·rw[ha];simp
 ·exact oU.known hm
def aW5(l:List It)(k:Ky):aMB (l.map It.pr) k=(iJ l k).map It.val:=by
 unfold aMB iJ;rw[List.find?_map,Option.map_map];rfl
def aLU{h:PH}{m:Nat}{l:List It}(hm:MAt h m l)(k:Ky):cD PG h (Instr.lookup dO (.map (some m)) (sL k) true)=some (.tuple #[((iJ l k).getD default).val,.bool (iJ l k).isSome]):=by
 rw[aRw aMs dO.und cF.info cF.zero hm k true,aW5];cases iJ l k<;>rfl
def aXP(l:List It)(k:Ky):aN2 (l.map It.pr) k=(rI l k).map It.pr:=by
 unfold aN2 rI;rw[List.filter_map];rfl
def aPT{l L:List It}(hp:l.Perm L)(hs:mM L)(i:It):∃l':List It,aK5 (l.map It.pr) i.key i.val=l'.map It.pr∧l'.Perm (pS L i):=by
 have hnl:(l.map It.key).Nodup:=(hp.map It.key).nodup_iff.2 hs.nodup;have hk:aCu (l.map It.pr)=l.map It.key:=by unfold aCu;rw[zLZ];rfl
 have hdel:(rI l i.key).Perm (rI L i.key):=hp.filter _;unfold aK5;rw[hk];split
 ·rename_i hm;refine⟨l.map λj=>if j.key=i.key then i else j,?_,?_⟩
  ·rw[zLZ,zLZ];apply zL0;intro x _;show(if x.key=i.key then(i.key,i.val) else(x.key,x.val))=It.pr (if x.key=i.key then i else x);by_cases hc:x.key=i.key
   ·rw[if_pos hc,if_pos hc];rfl
   ·rw[if_neg hc,if_neg hc];rfl
  ·obtain⟨x,hx,e⟩:=pQ.1 hm;exact((aKr hnl ⟨x,hx,e⟩).trans (hdel.cons i)).trans (aGK L i).symm
 ·rename_i hm;refine⟨l++[i],by rw[xJ];rfl,?_⟩;have hno:iJ l i.key=none:=aBe.2 λx hx e=>hm (by rw[←e];exact zL3 hx);rw[aJb hno] at hdel;exact(List.perm_append_singleton i l).trans ((hdel.cons i).trans (aGK L i).symm)
def aU1(k:Ky):cB PG (build fQ #[(0,.int .i64 k.1),(1,.int .u64 k.2)])=some (sL k):=by kernel_rfl
def aIJ(p:Pk)(g:Int):cB PG (build cF #[(0,.agg p.cells.toArray),(1,.int .i64 g)])=some (It.val ⟨p,g⟩):=by kernel_rfl
def aXg{h:PH}(room:Int){k:cE}(hbad:(room<1∨40<room)->k (.tuple #[.pointer none,.int .i64 1]) h)
  (hk:1≤room->room≤40->∀a h' F,TAt h' a [] room F->eD h F->dA h h'->k (.tuple #[pT a 0,.int .i64 0]) h'):bT PG aIL #[.int .i64 room] h k:=by
 apply aIi.call;unfold aIi;by_cases d1:room<1
 ·simp only[d1,cC,reduceIte];exact hbad (.inl d1)
 ·by_cases d2:40<room
  ·simp only[d1,d2,cC,reduceIte];exact hbad (.inr d2)
  ·simp only[d1,d2,aSi,cC,reduceIte];intro m hm;refine iB ?_
   try rw[cR]
   have hb:cB PG (build gK #[(0,.map (some m)),(1,.int .i64 room)])=some (.agg #[.map (some m),.int .i64 room]):=by kernel_rfl
   rw[hb,iO];intro a ha
   try rw[cR]
   have ham:a≠m:=by rintro rfl;rw[eN] at ha;cases ha
   have u1:dA h (h.set m (.map #[] 0)):=cX.new hm;have hma:(h.set m (.map #[] 0)) a=none:=ha;refine hk (by omega) (by omega) a _ [a,m] ⟨⟨m,[],eN,?_,List.Perm.refl _,rfl,ham⟩,List.Pairwise.nil⟩ (λb hb=>?_) (u1.trans (cX.new ha))
   ·exact oU.ext oU.new (cX.new ha)
   ·simp only[iW,zLg,or_false] at hb;rcases hb with rfl|rfl
    ·exact u1.none hma
    ·exact hm
def aNv{h:PH}{a:Nat}{L:List It}{room:Int}{F:List Nat}(H:TAt h a L room F)(i:It){k:cE}
  (hk:∀h',TAt h' a (sJ L room i) room F->cX F h h'->k (.int .i64 (aCY L room i)) h'):bT PG aAG #[pT a 0,sL i.key,i.val] h k:=by
 apply vX.call;unfold vX;intro r1 hr1;rw[cR];intro r3 hr3;rw[cR];have u1:dA h (h.set r1 (.cells (Value.cells (sL i.key)) fQ)):=cX.new hr1;have b1:Bx (h.set r1 (.cells (Value.cells (sL i.key)) fQ)) r1 [.int .i64 i.key.1,.int .u64 i.key.2]:=Bx.new;generalize h.set r1 (.cells (Value.cells (sL i.key)) fQ)=h1 at *;have u2:dA h1 (h1.set r3 (.cells (Value.cells i.val) cF)):=cX.new hr3;have b3:Bx (h1.set r3 (.cells (Value.cells i.val) cF)) r3 i.cells:=Bx.new;generalize h1.set r3 (.cells (Value.cells i.val) cF)=h2 at *;have b1:=b1.ext u2;have u:=u1.trans u2;have H2:=H.ext u;have hs:=H.srt;obtain⟨m,l,ha,hm,hp,rfl,ham⟩:=H2.here;have hgl:=λk=>aIZ hp hs.nodup k;have c0:cV h2 ⟨a,0,none⟩=some (.map (some m)):=by simp[cV,ha]
 simp only[gK.f0,dO.load,c0,b1.id,aLU hm,hgl,cC,reduceIte];intro r12 hr12
 try rw[cR]
 refine aIC hr12 _ λh5 b5 u5=>?_;have ha5:=u5.get ha;have hm5:=oU.ext hm u5;have b1:=b1.ext u5;have b3:=b3.ext u5;have c0:cV h5 ⟨a,0,none⟩=some (.map (some m)):=by simp[cV,ha5]
 have c1:cV h5 ⟨a,0+1,none⟩=some (.int .i64 room):=by simp[cV,ha5]
 have lm:=oU.len hm5 (t':=aR) dO.und;rw[iL,hp.length_eq] at lm;have uu:=u.trans u5;have fin:¬(iJ L i.key=none∧room≤L.length)->cN PG (aJM dO (.map (some m)) (sL i.key) i.val) h5 λv61 h62=>k (.int .i64 0) h62:=λhc=>by
  refine aQ7 aMs dO.und hm5 i.key i.val λh6 hm6 u6=>?_;obtain⟨l',e1,e2⟩:=aPT hp hs i;rw[e1] at hm6;have:aCY L room i=0:=by unfold aCY;rw[if_neg hc]
  rw[←this];have:sJ L room i=pS L i:=by unfold sJ;rw[if_neg hc]
  refine hk h6 ⟨⟨m,l',u6.get ha5 (by simpa using ham),hm6,by rw[this];exact e2,rfl,ham⟩,by rw[this];exact hs.ins i⟩ ?_;exact cX.then (dA.upd uu) u6 (λb hb=>by left;simp at hb;simp[hb])
 by_cases hx:(iJ L i.key).isSome=true
 ·have hc:¬(iJ L i.key=none∧room≤L.length):=λhc=>by rw[hc.1] at hx;cases hx
  have hf:=fin hc;simp only[hx,gK.f0,gK.f1,dO.load,c0,b1.id,b3.it,cC,reduceIte];exact hf
 ·have hx':(iJ L i.key).isSome=false:=by simpa using hx
  have hnone:iJ L i.key=none:=by simpa using hx'
  by_cases hr:room≤L.length
  ·have e1:(room≤(L.length:Int))=True:=by apply eq_true;exact hr
   simp only[hx',gK.f0,gK.f1,dO.load,aR.load,c0,c1,lm,e1,b1.id,b3.it,cC,reduceIte];have h1:aCY L room i=2:=by unfold aCY;rw[if_pos ⟨hnone,hr⟩]
   have h2:sJ L room i=L:=by unfold sJ;rw[if_pos ⟨hnone,hr⟩]
   rw[←h1];refine hk h5 ?_ (dA.upd uu);rw[h2];exact H.ext uu
  ·have e1:(room≤(L.length:Int))=False:=by apply eq_false;exact hr
   have hf:=fin (λhc=>hr hc.2);simp only[hx',gK.f0,gK.f1,dO.load,aR.load,c0,c1,lm,e1,b1.id,b3.it,cC,reduceIte];exact hf
def aWC{h:PH}{a:Nat}{L:List It}{room:Int}{F:List Nat}(H:TAt h a L room F)(p:Pk){k:cE}
  (hk:∀h',TAt h' a (if (iJ L p.key).isSome then L else sJ L room ⟨p,1⟩) room F->cX F h h'->k (.int .i64 (if (iJ L p.key).isSome then 0 else aCY L room ⟨p,1⟩)) h'):
  bT PG kU #[pT a 0,sL p.key,.agg p.cells.toArray] h k:=by
 apply uP.call;unfold uP;intro r1 hr1;rw[cR];intro r3 hr3;rw[cR];have u1:dA h (h.set r1 (.cells (Value.cells (sL p.key)) fQ)):=cX.new hr1;have b1:Bx (h.set r1 (.cells (Value.cells (sL p.key)) fQ)) r1 [.int .i64 p.key.1,.int .u64 p.key.2]:=Bx.new;generalize h.set r1 (.cells (Value.cells (sL p.key)) fQ)=h1 at *;have u2:dA h1 (h1.set r3 (.cells (Value.cells (.agg p.cells.toArray)) bX)):=cX.new hr3;have b3:Bx (h1.set r3 (.cells (Value.cells (.agg p.cells.toArray)) bX)) r3 p.cells:=Bx.new;generalize h1.set r3 (.cells (Value.cells (.agg p.cells.toArray)) bX)=h2 at *;have b1:=b1.ext u2;have u:=u1.trans u2;have H2:=H.ext u;have hs:=H.srt;obtain⟨m,l,ha,hm,hp,hF,ham⟩:=H2.here;have hgl:=λk=>aIZ hp hs.nodup k;have c0:cV h2 ⟨a,0,none⟩=some (.map (some m)):=by simp[cV,ha]
 simp only[gK.f0,dO.load,c0,b1.id,aLU hm,hgl,cC,reduceIte];intro r12 hr12
 try rw[cR]
 refine aIC hr12 _ λh5 b5 u5=>?_;have b1:=b1.ext u5;have p3:=(b3.ext u5).pk (o:=0) (p:=p) rfl;have uu:=u.trans u5;by_cases hx:(iJ L p.key).isSome=true
 ·simp only[hx,cC,reduceIte] at hk ⊢;exact hk h5 (H.ext uu) (dA.upd uu)
 ·have hx':(iJ L p.key).isSome=false:=by simpa using hx
  simp only[hx',b1.id,p3,aIJ,cC,reduceIte] at hk ⊢;refine aNv (H.ext uu) ⟨p,1⟩ λh6 H6 u6=>hk h6 H6 (cX.then (dA.upd uu) u6 λb hb=>.inl hb)
def aQa{h:PH}{a:Nat}{L:List It}{room:Int}{F:List Nat}(H:TAt h a L room F)(p:Pk){k:cE}
  (hk:∀h',TAt h' a (match iJ L p.key with
   | some x=>pS L ⟨x.p,2⟩
   | none=>sJ L room ⟨p,2⟩) room F->cX F h h'->k (.int .i64 (if (iJ L p.key).isSome then 0 else aCY L room ⟨p,2⟩)) h'):
  bT PG jA #[pT a 0,sL p.key,.agg p.cells.toArray] h k:=by
 apply pV.call;unfold pV;intro r1 hr1;rw[cR];intro r3 hr3;rw[cR];have u1:dA h (h.set r1 (.cells (Value.cells (sL p.key)) fQ)):=cX.new hr1;have b1:Bx (h.set r1 (.cells (Value.cells (sL p.key)) fQ)) r1 [.int .i64 p.key.1,.int .u64 p.key.2]:=Bx.new;generalize h.set r1 (.cells (Value.cells (sL p.key)) fQ)=h1 at *;have u2:dA h1 (h1.set r3 (.cells (Value.cells (.agg p.cells.toArray)) bX)):=cX.new hr3;have b3:(h1.set r3 (.cells (Value.cells (.agg p.cells.toArray)) bX)) r3=some (.cells p.cells.toArray bX (0,0)):=eN;have n3:h r3=none:=u1.none hr3;have n13:r1≠r3:=by rintro rfl;exact b1.known hr3
 generalize h1.set r3 (.cells (Value.cells (.agg p.cells.toArray)) bX)=h2 at *;have b1:=b1.ext u2;have u:=u1.trans u2;have H2:=H.ext u;have hs:=H.srt;obtain⟨m,l,ha,hm,hp,hF,ham⟩:=H2.here;have hgl:=λk=>aIZ hp hs.nodup k;have c0:cV h2 ⟨a,0,none⟩=some (.map (some m)):=by simp[cV,ha]
 simp only[gK.f0,dO.load,c0,b1.id,aLU hm,hgl,cC,reduceIte];intro r12 hr12
 try rw[cR]
 refine aIC hr12 _ λh5 b5 u5=>?_;have b1:=b1.ext u5;have b3:=u5.get b3;have uu:=u.trans u5;cases hx:iJ L p.key with
 | none=>
  have p3:=(Bx.mk ⟨_,b3⟩:Bx h5 r3 p.cells).pk (o:=0) (p:=p) rfl;simp only[hx,zLv,cC,reduceIte] at hk ⊢;unfold sZ;simp only[b1.id,p3,aIJ,cC,reduceIte];refine aNv (H.ext uu) ⟨p,2⟩ λh6 H6 u6=>hk h6 H6 (cX.then (dA.upd uu) u6 λb hb=>.inl hb)
 | some x=>
  obtain⟨hx1,hx2⟩:=aAt hx;have p5:=b5.pk (o:=0) (p:=x.p) (by rw[hx];rfl);simp only[hx,aNr,cF.f0,p5,cC,reduceIte] at hk ⊢;refine aGm b3 bX.info (by show 4=4;rfl) (by show 0<4;decide) (by rfl) x.p.allCell ?_;have u6:cX [r3] h5 (h5.set r3 (.cells x.p.cells.toArray bX (0,0))):=cX.set (by simp);have b6:Bx (h5.set r3 (.cells x.p.cells.toArray bX (0,0))) r3 x.p.cells:=⟨_,eN⟩;generalize h5.set r3 (.cells x.p.cells.toArray bX (0,0))=h6 at *;have uu6:=uu.fresh u6 (eD.one n3);have b1:=b1.upd u6 (by simpa using n13);have p6:=b6.pk (o:=0) (p:=x.p) rfl;unfold sZ;simp only[b1.id,p6,aIJ,cC,reduceIte];have hkey:sL p.key=sL (⟨x.p,2⟩:It).key:=by rw[←hx2];rfl
  rw[hkey];have hsome:iJ L (⟨x.p,2⟩:It).key=some x:=by show iJ L x.key=some x;rw[hx2];exact hx
  have e1:aCY L room ⟨x.p,2⟩=0:=by unfold aCY;rw[hsome];simp
  have e2:sJ L room ⟨x.p,2⟩=pS L ⟨x.p,2⟩:=by unfold sJ;rw[hsome];simp
  refine aNv (H.ext uu6) ⟨x.p,2⟩ λh7 H7 u7=>?_;rw[e2] at H7;rw[e1];exact hk h7 H7 (cX.then (dA.upd uu6) u7 λb hb=>.inl hb)
def aWj{h:PH}{a:Nat}{L:List It}{room:Int}{F:List Nat}(H:TAt h a L room F)(p:Pk){k:cE}
  (hk:∀h',TAt h' a (rI L p.key) room F->cX F h h'->k (.int .i64 0) h'):
  bT PG gV #[pT a 0,sL p.key,.agg p.cells.toArray] h k:=by
 apply uN.call;unfold uN;intro r1 hr1;rw[cR];intro r3 hr3;rw[cR];have u1:dA h (h.set r1 (.cells (Value.cells (sL p.key)) fQ)):=cX.new hr1;have b1:Bx (h.set r1 (.cells (Value.cells (sL p.key)) fQ)) r1 [.int .i64 p.key.1,.int .u64 p.key.2]:=Bx.new;generalize h.set r1 (.cells (Value.cells (sL p.key)) fQ)=h1 at *;have u2:dA h1 (h1.set r3 (.cells (Value.cells (.agg p.cells.toArray)) bX)):=cX.new hr3;generalize h1.set r3 (.cells (Value.cells (.agg p.cells.toArray)) bX)=h2 at *;have b1:=b1.ext u2;have u:=u1.trans u2;have H2:=H.ext u;have hs:=H.srt;obtain⟨m,l,ha,hm,hp,rfl,ham⟩:=H2.here;have c0:cV h2 ⟨a,0,none⟩=some (.map (some m)):=by simp[cV,ha]
 simp only[gK.f0,dO.load,c0,b1.id,cC,reduceIte];refine aWO aMs dO.und hm p.key rfl λh3 hm3 u3=>?_;rw[aXP] at hm3;refine hk h3 ⟨⟨m,rI l p.key,u3.get ha (by simpa using ham),hm3,hp.filter _,rfl,ham⟩,hs.del _⟩ ?_;exact cX.then (dA.upd u) u3 (λb hb=>by left;simp at hb;simp[hb])
def aU6:cB PG (build dR #[(1,(Value.func (Fn.func kU) #[] #[])),(2,(Value.func (Fn.func jA) #[] #[])),(3,(Value.func (Fn.func gV) #[] #[])),(4,(Value.func (Fn.func gV) #[] #[]))])=
  some (.agg #[.nilFunc,.func (.func kU) #[] #[],.func (.func jA) #[] #[],.func (.func gV) #[] #[],.func (.func gV) #[] #[]]):=by kernel_rfl
def aSc{f:FuncId}{args:Array Value}{h:PH}{k:cE}(hc:bT PG f args h k):zI PG (.func (.func f) #[] #[]) args h k:=by
 unfold zI;simpa using hc
def aLJ(p:Pk):cB PG (build fQ #[(0,.int .i64 p.f),(1,.int .u64 p.s)])=some (sL p.key):=aU1 p.key
def aVA{h:PH}{a:Nat}{L:List It}{room:Int}{F:List Nat}(H:TAt h a L room F)(n:Nt){k:cE}
  (hk:∀h',TAt h' a (qJ L room n) room F->cX F h h'->k (.int .i64 (uA L room n)) h'):bT PG aCD #[pT a 0,.agg n.cells.toArray] h k:=by
 apply tB.call;unfold tB;intro r1 hr1;rw[cR];have u1:dA h (h.set r1 (.cells (Value.cells (.agg n.cells.toArray)) cL)):=cX.new hr1;have b1:Bx (h.set r1 (.cells (Value.cells (.agg n.cells.toArray)) cL)) r1 n.cells:=Bx.new;generalize h.set r1 (.cells (Value.cells (.agg n.cells.toArray)) cL)=h1 at *;simp only[b1.nt,cC,reduceIte];refine aTc n λh2 u2=>?_;have uu:=u1.trans u2;have b2:=b1.ext u2;cases hr:n.right with
 | false=>
  have e1:uA L room n=1:=by unfold uA;rw[if_pos hr]
  have e2:qJ L room n=L:=by unfold qJ;rw[if_pos hr]
  rw[e1,e2] at hk;simp only[zLs,if_false,cC,reduceIte];exact hk h2 (H.ext uu) (dA.upd uu)
 | true=>
  simp only[if_true,aU6,cC,reduceIte];intro r8 hr8
  try rw[cR]
  refine aGm eN dR.info (by show 5=5;rfl) (by show 0<5;decide) (by rw[dR.zc];rfl) (by simp[fL]) ?_;rw[aDH];have u3:dA h2 (h2.set r8 (.cells #[.nilFunc,.func (.func kU) #[] #[],.func (.func jA) #[] #[],.func (.func gV) #[] #[],.func (.func gV) #[] #[]] dR (0,0))):=cX.new hr8;have b8:Bx (h2.set r8 (.cells #[.nilFunc,.func (.func kU) #[] #[],.func (.func jA) #[] #[],.func (.func gV) #[] #[],.func (.func gV) #[] #[]] dR (0,0))) r8
   [.nilFunc,.func (.func kU) #[] #[],.func (.func jA) #[] #[],.func (.func gV) #[] #[],.func (.func gV) #[] #[]]:=⟨_,eN⟩
  generalize h2.set r8 (.cells #[.nilFunc,.func (.func kU) #[] #[],.func (.func jA) #[] #[],.func (.func gV) #[] #[],.func (.func gV) #[] #[]] dR (0,0))=h3 at *;have b3:=b2.ext u3;have uu3:=uu.trans u3;have H3:=H.ext uu3;have c0:cV h3 ⟨r1,0,none⟩=some (.int .i64 n.k):=b3.cell 0;have c1:cV h3 ⟨r1,0+1,none⟩=some (.int .i64 n.p.f):=b3.cell 1;have c2:cV h3 ⟨r1,0+1+1,none⟩=some (.int .u64 n.p.s):=b3.cell 2;have p1:=b3.pk (o:=0+1) (p:=n.p) rfl;have hkr:1≤n.k∧n.k≤4:=by
   unfold Nt.right at hr;simp only[sU,decide_eq_true_eq] at hr;exact hr.1
  have ix:cB PG (indexAt dR (pT r8 0) (.int .i64 n.k))=some (pT r8 (0+n.k.toNat*1)):=
   tJ dR.und fC.info fC.size (by omega) (by omega)
  have hf:∀(id:FuncId),[.nilFunc,.func (.func kU) #[] #[],.func (.func jA) #[] #[],.func (.func gV) #[] #[],.func (.func gV) #[] #[]][0+n.k.toNat*1]? =some (Value.func (.func id) #[] #[])->
    bT PG id #[pT a 0,sL n.p.key,.agg n.p.cells.toArray] h3 k->
    bY (cB PG (fieldAt cL (pT r1 0) 0)) λv12=>
 bY (cD PG h3 (loadAt aR v12)) λv13=>
 bY (cB PG (indexAt dR (pT r8 0) v13)) λv14=>
 bY (cD PG h3 (loadAt fC v14)) λv15=>
 bY (cB PG (fieldAt cL (pT r1 0) 1)) λv16=>
 bY (cB PG (fieldAt bX v16 0)) λv17=>
 bY (cD PG h3 (loadAt aR v17)) λv18=>
 bY (cB PG (fieldAt cL (pT r1 0) 1)) λv19=>
 bY (cB PG (fieldAt bX v19 1)) λv20=>
 bY (cD PG h3 (loadAt cJ v20)) λv21=>
 bY (cB PG (build fQ #[(0,v18),(1,v21)])) λv22=>
 bY (cB PG (fieldAt cL (pT r1 0) 1)) λv23=>
 bY (cD PG h3 (loadAt bX v23)) λv24=>
 zI PG v15 #[pT a 0,v22,v24] h3 λv25 h26=>(k v25 h26):=λid hid hc=>by
   have c3:cV h3 ⟨r8,0+n.k.toNat*1,none⟩=some (.func (.func id) #[] #[]):=(b8.cell _).trans hid;simp only[cL.f0,cL.f1,bX.f0,bX.f1,aR.load,cJ.load,fC.load,c0,c1,c2,c3,ix,aLJ,p1,cC,reduceIte];exact aSc hc
  have hx:n.k=1∨n.k=2∨n.k=3∨n.k=4:=by omega
  have hrt:¬n.right=false:=by rw[hr];simp
  rcases hx with hA|hA|hA|hA
  ·refine hf kU (by rw[hA];rfl) (aWC H3 n.p λh4 H4 u4=>?_);have e1:uA L room n=(if (iJ L n.p.key).isSome then 0 else aCY L room ⟨n.p,1⟩):=by unfold uA;rw[if_neg hrt,if_pos hA]
   have e2:qJ L room n=(if (iJ L n.p.key).isSome then L else sJ L room ⟨n.p,1⟩):=by unfold qJ;rw[if_neg hrt,if_pos hA]
   rw[←e1];exact hk h4 (by rw[e2];exact H4) (cX.then (dA.upd uu3) u4 λb hb=>.inl hb)
  ·have n1:¬n.k=1:=by omega
   refine hf jA (by rw[hA];rfl) (aQa H3 n.p λh4 H4 u4=>?_);have e1:uA L room n=(if (iJ L n.p.key).isSome then 0 else aCY L room ⟨n.p,2⟩):=by unfold uA;rw[if_neg hrt,if_neg n1,if_pos hA]
   have e2:qJ L room n=(match iJ L n.p.key with
    | some x=>pS L ⟨x.p,2⟩
    | none=>sJ L room ⟨n.p,2⟩):=by unfold qJ;rw[if_neg hrt,if_neg n1,if_pos hA];try rfl
   rw[←e1];exact hk h4 (by rw[e2];exact H4) (cX.then (dA.upd uu3) u4 λb hb=>.inl hb)
  all_goals
   have n1:¬n.k=1:=by omega
   have n2:¬n.k=2:=by omega
   refine hf gV (by rw[hA];rfl) (aWj H3 n.p λh4 H4 u4=>?_);have e1:uA L room n=0:=by unfold uA;rw[if_neg hrt,if_neg n1,if_neg n2]
   have e2:qJ L room n=rI L n.p.key:=by unfold qJ;rw[if_neg hrt,if_neg n1,if_neg n2]
   rw[←e1];exact hk h4 (by rw[e2];exact H4) (cX.then (dA.upd uu3) u4 λb hb=>.inl hb)
def aXG(a b:It):ltI a b=decide (kl a.key b.key):=by
 unfold ltI;rw[xF];simp only[aHE,sU,decide_eq_true_eq];rfl
def aXy{l L:List It}(hp:l.Perm L)(hs:mM L)(ho:l.Pairwise λa b=>ltI b a=false):l=L:=by
 have hn:(l.map It.key).Nodup:=(hp.map It.key).nodup_iff.2 hs.nodup;refine mM.unique ?_ hs hp;unfold List.Nodup at hn;rw[List.pairwise_map] at hn;refine ho.imp₂ (λa b h1 h2=>?_) hn;rw[aXG] at h1;have h1:=of_decide_eq_false h1;rcases aJy h2 with h3|h3
 ·exact h3
 ·exact absurd h3 h1
def aP0{h:PH}{a:Nat}{L:List It}{room:Int}{F:List Nat}(H:TAt h a L room F)(hL:L.length≤1000000){k:cE}
  (hk:∀v h' G,eH h' cF 5 v (L.map It.cells) G->eD h G->dA h h'->k v h'):bT PG xV #[pT a 0] h k:=by
 apply aA3.call;unfold aA3;have hs:=H.srt;obtain⟨m,l,ha,hm,hp,rfl,ham⟩:=H.here;have hll:l.length≤1000000:=by rw[hp.length_eq];exact hL
 have c0:cV h ⟨a,0,none⟩=some (.map (some m)):=by simp[cV,ha]
 simp only[gK.f0,dO.load,c0,cC,reduceIte];refine aTC λbx h1 hbx hb u1=>?_;refine aRg hb (oU.ext hm u1) hll λv l1 h2 F2 hp2 hO f2 u2=>?_;refine aWw hO (by rw[hp2.length_eq];exact hll) λl2 h3 hp3 ho hO3 u3=>?_;have hl2:l2=L:=aXy ((hp3.trans hp2).trans hp) hs ho;subst hl2;have uu:=(u1.trans u2).fresh u3 (f2.of u1);have lv:=hO3.slR.len (t':=aR) bZ.und;rw[iL] at lv;obtain⟨zs,hz1,hz2⟩:=aFW (P:=PG) (n:=l2.length) bZ.und cF.info cF.size cF.bytes cF.zero rfl (by decide) (by omega) (by omega);simp only[lv,hz1,cC,reduceIte];intro r hr;refine iB ?_
 try rw[cR]
 have u4:dA h3 (h3.set r (.cells zs cF)):=cX.new hr;have hR:eH (h3.set r (.cells zs cF)) cF 5 (.slice (some ⟨r,0,none⟩) l2.length l2.length) (List.replicate l2.length [.int .i64 0,.int .u64 0,.int .u64 0,.string ⟨#[]⟩,.int .i64 0]) [r]:=
  eH.lit (λx hx=>by rw[List.eq_of_mem_replicate hx];rfl) eN (by simp) (by simp[xC];omega) (by rw[hz2];rfl)
 have hO4:=hO3.ext u4;have fr:h r=none:=uu.none hr;generalize h3.set r (.cells zs cF)=h4 at *;have hsl:=aHi (P:=PG) (t:=bZ) (a:=some ⟨r,0,none⟩) (len:=l2.length) (cap:=l2.length) (l:=0) (hh:=l2.length) (lo:=some (.int .i64 (0:Nat))) (hi:=some (.int .i64 l2.length)) bZ.und cF.info (.inr ⟨.i64,rfl⟩) (.inr ⟨.i64,rfl⟩) (kT _) (lM _);have e1:(if l2.length=0 then some (⟨r,0,none⟩:Addr) else(some (⟨r,0,none⟩:Addr)).map (·.add (0*Tryz.t83.size)))=some ⟨r,0,none⟩:=by
  split
  ·rfl
  ·simp[kW]
 rw[e1] at hsl;refine aUo (n:=l2.length) (l:=0) (m:=l2.length) bZ.und cF.info cF.size hR ⟨.i64,.i64,by simpa using hsl⟩ (kT _) (by simp) hO4.slR (It.isCell _) (by simp) ?_;intro h5 hR5 u5;have e2:List.take 0 (List.replicate l2.length ([.int .i64 0,.int .u64 0,.int .u64 0,.string ⟨#[]⟩,.int .i64 0]:List Value))++List.take l2.length (l2.map It.cells)++List.drop (0+l2.length) (List.replicate l2.length [.int .i64 0,.int .u64 0,.int .u64 0,.string ⟨#[]⟩,.int .i64 0])=l2.map It.cells:=by
  simp[sK]
 rw[e2] at hR5;exact hk _ h5 [r] hR5 (eD.one fr) ((uu.trans u4).fresh u5 (eD.one fr))
def Pk.eqIn{h:PH}{d:Nat}(m m':Pk):cD PG h (Op.equalIn (d+1+1) bX (.agg m.cells.toArray) (.agg m'.cells.toArray))=some (m.f==m'.f&&(m.s==m'.s&&(m.t==m'.t&&(m.d==m'.d&&true)))):=by
 refine(aAq bX.und (by kernel_rfl) (λf=>match f.offset with|0=>m.f==m'.f|1=>m.s==m'.s|2=>m.t==m'.t|_=>m.d==m'.d) ?_);intro f hf;simp only[iW,zLg,or_false] at hf;rcases hf with rfl|rfl|rfl|rfl
 ·exact⟨by decide,_,_,iM aR.und rfl rfl,iM aR.und rfl rfl,rH aR.und⟩
 ·exact⟨by decide,_,_,iM cJ.und rfl rfl,iM cJ.und rfl rfl,rH cJ.und⟩
 ·exact⟨by decide,_,_,iM cJ.und rfl rfl,iM cJ.und rfl rfl,rH cJ.und⟩
 ·exact⟨by decide,_,_,iM aT.und rfl rfl,iM aT.und rfl rfl,aL4 aT.und⟩
def It.eqIn{h:PH}(m m':It):cD PG h (Op.equalIn (9999+1) cF m.val m'.val)=some (decide (m=m')):=by
 have hm:cD PG h (Op.equalIn (9999+1) cF (.agg m.cells.toArray) (.agg m'.cells.toArray))=some ((m.p.f==m'.p.f&&(m.p.s==m'.p.s&&(m.p.t==m'.p.t&&(m.p.d==m'.p.d&&true))))&&(m.g==m'.g&&true)):=by
  refine(aAq cF.und (by kernel_rfl) (λf=>match f.offset with|0=>(m.p.f==m'.p.f&&(m.p.s==m'.p.s&&(m.p.t==m'.p.t&&(m.p.d==m'.p.d&&true))))|_=>m.g==m'.g) ?_);intro f hf;simp only[iW,zLg,or_false] at hf;rcases hf with rfl|rfl
  ·exact⟨by decide,_,_,aAv bX.und rfl bX.info bX.size,aAv bX.und rfl bX.info bX.size,Pk.eqIn (d:=9997) m.p m'.p⟩
  ·exact⟨by decide,_,_,iM aR.und rfl rfl,iM aR.und rfl rfl,rH aR.und⟩
 show cD PG h (Op.equalIn (9999+1) cF (.agg m.cells.toArray) (.agg m'.cells.toArray))=_;rw[hm];congr 1;simp only[aOg];rw[xF];obtain⟨⟨a,b,c,d⟩,g⟩:=m;obtain⟨⟨a',b',c',d'⟩,g'⟩:=m';simp[and_assoc]
def It.neq{h:PH}{x y:Operand}(m m':It):cD PG h (fV .neq cF x y m.val m'.val)=some (.bool (!decide (m=m'))):=aKd (by kernel_rfl) (It.eqIn m m')
def iH.it{h:PH}{x:Value}{xs:List It}(H:iH h 5 x (xs.map It.cells)){k:IntKind}{j:Nat}{m:It}(hm:xs[j]? =some m):
  ∃a,cB PG (indexAt bZ x (.int k j))=some (.pointer (some a))∧cD PG h (loadAt cF (.pointer (some a)))=some m.val:=
 H.loadAgg bZ.und cF.info cF.size cF.und rfl (by omega) (by rw[wG,xK,hm];rfl)
def aRF{h:PH}{x y:Value}{xs ys:List It}(hx:iH h 5 x (xs.map It.cells))(hy:iH h 5 y (ys.map It.cells))(hl:xs.length≤1000000){k:cE}
  (hk:k (.bool (decide (xs=ys))) h):bT PG sG #[x,y] h k:=by
 have lx:=hx.len (t':=aR) bZ.und;have ly:=hy.len (t':=aR) bZ.und;rw[iL] at lx ly;apply oL.call;unfold oL;by_cases hlen:xs.length=ys.length
 ·have e1:((xs.length:Int) !=(ys.length:Int))=false:=by simp[hlen]
  simp only[lx,ly,e1,cC,reduceIte];refine⟨λvs h'=>∃i:Nat,i≤xs.length∧vs=[x,y,.int .i64 i]∧h'=h∧xs.take i=ys.take i,fT xs.length 2,⟨0,by omega,rfl,rfl,by simp⟩,?_⟩;rintro ρ h' ⟨i,hi,hvs,rfl,he⟩;simp only[iG,jB,kZ,and_true] at hvs;obtain⟨e0,e1,e5⟩:=hvs;rw[e0,e1,e5];unfold aCd;by_cases hlt:i<xs.length
  ·have hd:((i:Int)<(xs.length:Int))=True:=by apply eq_true;omega
   obtain⟨m,hm⟩:∃m,xs[i]? =some m:=⟨_,kF hlt⟩;obtain⟨m',hm'⟩:∃m,ys[i]? =some m:=⟨_,kF (by omega)⟩;obtain⟨a,a1,a2⟩:=hx.it (k:=.i64) hm;obtain⟨b,b1,b2⟩:=hy.it (k:=.i64) hm';have e2:=nR (i:=i) (by omega);by_cases hc:m=m'
   ·have e3:(!decide (m=m'))=false:=by simp[hc]
    simp only[lx,hd,a1,a2,b1,b2,e2,It.neq,e3,cC,reduceIte];exact⟨⟨i+1,by omega,rfl,by trivial,by rw[zLR,zLR,he,hm,hm',hc]⟩,by simp[fT,e5];omega⟩
   ·have e3:(!decide (m=m'))=true:=by simp[hc]
    simp only[lx,hd,a1,a2,b1,b2,It.neq,e3,cC,reduceIte];have:decide (xs=ys)=false:=by
     simp only[decide_eq_false_iff_not];rintro rfl;rw[hm] at hm';cases hm';exact hc rfl
    rw[this] at hk;exact hk
  ·have hd:((i:Int)<(xs.length:Int))=False:=by apply eq_false;omega
   simp only[lx,hd,cC,reduceIte];rw[sK (by omega),sK (by omega)] at he;rw[he] at hk;simpa using hk
 ·have e1:((xs.length:Int) !=(ys.length:Int))=true:=by simp;omega
  simp only[lx,ly,e1,cC,reduceIte];have:decide (xs=ys)=false:=by
   simp only[decide_eq_false_iff_not];rintro rfl;exact hlen rfl
  rw[this] at hk;exact hk
def pA(L:List It)(k:Ky):List It:=L.filter λj=>decide (kl j.key k)
def pC(L:List It)(k:Ky):List It:=L.filter λj=>decide (kl k j.key)
def aE7:∀{L:List It},mM L->∀k,L=pA L k++((iJ L k).toList++pC L k)
 | [],_,k=>rfl
 | x::L,hs,k=>by
  unfold mM at hs;rw[List.pairwise_cons] at hs;have ih:=aE7 (L:=L) hs.2 k;by_cases h1:kl x.key k
  ·have e1:pA (x::L) k=x::pA L k:=by unfold pA;simp[zLr,h1]
   have e2:pC (x::L) k=pC L k:=by unfold pC;simp[zLr,aGJ h1]
   have e3:iJ (x::L) k=iJ L k:=by unfold iJ;simp[List.find?_cons,(aJZ h1).symm]
   rw[e1,e2,e3,zLT,←ih]
  ·have hnA:pA L k=[]:=by
    unfold pA;rw[List.filter_eq_nil_iff];intro y hy hk;exact h1 (aH1 (hs.1 y hy) (by simpa using hk))
   by_cases h2:x.key=k
   ·have e1:pA (x::L) k=[]:=by unfold pA at *;simp[zLr,h1];simpa using hnA
    have e2:pC (x::L) k=L:=by
     unfold pC;have:¬kl k x.key:=by rw[h2];exact aGs _
     simp only[zLr,this,decide_false,zLs,if_false];rw[aME];intro y hy;have:=hs.1 y hy;rw[h2] at this;simpa using this
    have e3:iJ (x::L) k=some x:=by unfold iJ;simp[List.find?_cons,h2]
    rw[e1,e2,e3];rfl
   ·have h3:kl k x.key:=(aJy h2).resolve_left h1;have hno:iJ L k=none:=aBe.2 λy hy e=>by
     have:=hs.1 y hy;rw[e] at this;exact aGJ this h3
    have e1:pA (x::L) k=[]:=by unfold pA at *;simp[zLr,h1];simpa using hnA
    have e2:pC (x::L) k=x::L:=by
     unfold pC;rw[aME];intro y hy;rcases iW.1 hy with rfl|hy
     ·simpa using h3
     ·simpa using aH1 h3 (hs.1 y hy)
    have e3:iJ (x::L) k=none:=by
     unfold iJ at *;simp only[List.find?_cons,show(k=x.key)=False from eq_false (λe=>h2 e.symm),decide_false];exact hno
    rw[e1,e2,e3];rfl
def aVy(L:List It)(k:Ky):(pA L k).length≤L.length:=List.length_filter_le _ _
def aYn{L:List It}(hs:mM L){k:Ky}{i:Nat}{m:It}(hi:i<(pA L k).length)(hm:L[i]? =some m):kl m.key k:=by
 rw[aE7 hs k,List.getElem?_append_left hi] at hm;have:=zX hm;unfold pA at this;simpa using(zLY.1 this).2
def aYi{L:List It}(hs:mM L){k:Ky}{m:It}(hm:L[(pA L k).length]? =some m):¬kl m.key k∧(iJ L k).isSome=decide (m.key=k)∧(m.key=k->iJ L k=some m):=by
 have h:=hm;have h:(pA L k++((iJ L k).toList++pC L k))[(pA L k).length]? =some m:=by rw[←aE7 hs k];exact hm
 rw[List.getElem?_append_right (lM _),aJE] at h;cases hg:iJ L k with
 | some x=>
  rw[hg] at h;simp only[Option.toList_some,zLT,zLU,zLK,zL4] at h;subst h;obtain⟨_,h2⟩:=aAt hg;subst h2;exact⟨aGs _,by simp,λ_=>rfl⟩
 | none=>
  rw[hg] at h;simp only[Option.toList_none,zLU] at h;have:=zX h;unfold pC at this;have h3:kl k m.key:=by simpa using(zLY.1 this).2
  refine⟨aGJ h3,by simp[(aJZ h3).symm],λe=>?_⟩;rw[e] at h3;exact absurd h3 (aGs _)
def aXt{L:List It}(hs:mM L){k:Ky}(hm:(pA L k).length=L.length):iJ L k=none:=by
 have h:=congrArg List.length (aE7 hs k);simp only[jM] at h;cases hg:iJ L k with
 | none=>rfl
 | some x=>rw[hg] at h;simp at h;omega
def aNl{L:List It}(hs:mM L)(k:Ky):L.take (pA L k).length=pA L k:=by
 conv=>lhs;arg 2;rw[aE7 hs k]
 rw[List.take_left'];rfl
def aN4{L:List It}(hs:mM L)(k:Ky):L.drop (pA L k).length=(iJ L k).toList++pC L k:=by
 conv=>lhs;arg 2;rw[aE7 hs k]
 rw[List.drop_left'];rfl
def aWb{L:List It}(hs:mM L){i:It}(hg:iJ L i.key=none):L.take (pA L i.key).length++[i]++L.drop (pA L i.key).length=pS L i:=by
 rw[aNl hs,aN4 hs,hg];unfold pS pA pC;simp
def aWG{L:List It}(hs:mM L){k:Ky}{x:It}(hg:iJ L k=some x):L.take (pA L k).length++L.drop ((pA L k).length+1)=rI L k:=by
 have h1:L.drop ((pA L k).length+1)=pC L k:=by
  rw[←qK,aN4 hs,hg];rfl
 rw[aNl hs,h1];unfold rI;have hp:=(aKn (λj:It=>decide (kl j.key k)) (λj=>decide (kl k j.key)) (λa ha=>by
  simp only[decide_eq_true_eq] at ha;simp only[decide_eq_false_iff_not];exact aGJ ha) L)
 have he:(L.filter λa=>decide (kl a.key k)||decide (kl k a.key))=L.filter λi=>decide (i.key≠k):=by
  apply List.filter_congr;intro y _;rw[xF];simp only[aHE,decide_eq_true_eq];exact⟨λh=>by rcases h with h|h;exact aJZ h;exact(aJZ h).symm,aJy⟩
 rw[he] at hp;refine mM.unique ?_ (hs.filter _) hp;unfold mM;rw[List.pairwise_append];refine⟨hs.filter _,hs.filter _,λa ha b hb=>?_⟩;exact aH1 (by simpa using(zLY.1 ha).2) (by simpa using(zLY.1 hb).2)
def aWk{L:List It}(hs:mM L){i:It}{x:It}(hg:iJ L i.key=some x):L.take (pA L i.key).length++i::L.drop ((pA L i.key).length+1)=pS L i:=by
 have h1:L.drop ((pA L i.key).length+1)=pC L i.key:=by
  rw[←qK,aN4 hs,hg];rfl
 rw[aNl hs,h1];rfl
structure RAt(h:PH)(a:Nat)(L:List It)(room:Int)(F:List Nat):Prop where
 here:∃v G,h a=some (.cells #[v,.int .i64 room] dE (0,0))∧eH h cF 5 v (L.map It.cells) G∧F=a::G∧a∉G
 srt:mM L
def RAt.upd{h h':PH}{a:Nat}{L:List It}{room:Int}{F G:List Nat}(H:RAt h a L room F)(u:cX G h h')(hd:∀b∈F,b∉G):RAt h' a L room F:=by
 obtain⟨v,G',ha,hO,rfl,hn⟩:=H.here;exact⟨⟨v,G',u.get ha (hd a (by simp)),hO.upd u (λb hb=>hd b (by simp[hb])),rfl,hn⟩,H.srt⟩
def RAt.ext{h h':PH}{a:Nat}{L:List It}{room:Int}{F:List Nat}(H:RAt h a L room F)(u:dA h h'):RAt h' a L room F:=H.upd u (by simp)
def RAt.known{h:PH}{a:Nat}{L:List It}{room:Int}{F:List Nat}(H:RAt h a L room F):∀b∈F,h b≠none:=by
 obtain⟨v,G',ha,hO,rfl,hn⟩:=H.here;intro b hb;rcases iW.1 hb with rfl|hb
 ·rw[ha];simp
 ·exact hO.known b hb
def iH.itf{h:PH}{x:Value}{xs:List It}(H:iH h 5 x (xs.map It.cells)){k:IntKind}{j:Nat}{m:It}(hm:xs[j]? =some m):
  ∃b o,cB PG (indexAt bZ x (.int k j))=some (pT b o)∧cV h ⟨b,o,none⟩=some (.int .i64 m.p.f)∧cV h ⟨b,o+1,none⟩=some (.int .u64 m.p.s)∧cV h ⟨b,o+3,none⟩=some (.string m.p.d)∧
   cD PG h (loadAt cF (pT b o))=some m.val:=by
 obtain⟨b,o,h1,h2,h3⟩:=H.fields bZ.und cF.info cF.size (k:=k) (j:=j) (r:=m.cells) (by rw[wG,hm];rfl);exact⟨b,o,h1,h2 0 _ rfl,h2 1 _ rfl,h2 3 _ rfl,h3 _ cF.und rfl⟩
def aMQ{h:PH}{a:Nat}{L:List It}{room:Int}{F:List Nat}(H:RAt h a L room F)(hL:L.length≤1000000)(key:Ky){k:cE}
  (hk:k (.tuple #[.int .i64 (pA L key).length,.bool (iJ L key).isSome]) h):bT PG nT #[pT a 0,.int .i64 key.1,.int .u64 key.2] h k:=by
 have hs:=H.srt;obtain⟨v,G,ha,hO,rfl,hn⟩:=H.here;have lv:=hO.slR.len (t':=aR) bZ.und;rw[iL] at lv;have c0:cV h ⟨a,0,none⟩=some v:=by simp[cV,ha]
 apply mZ.call;unfold mZ;refine⟨λvs h'=>∃i:Nat,i≤(pA L key).length∧vs=[pT a 0,.int .i64 key.1,.int .u64 key.2,.int .i64 i]∧h'=h,fT (pA L key).length 3,⟨0,by omega,rfl,rfl⟩,?_⟩;rintro ρ h' ⟨i,hi,hvs,rfl⟩;simp only[iG,jB,kZ,and_true] at hvs;obtain⟨e0,e1,e2,e3⟩:=hvs;rw[e0,e1,e2,e3];unfold aBh;have hpl:=aVy L key;by_cases hlt:i<(pA L key).length
 ·have hd:((i:Int)<(L.length:Int))=True:=by apply eq_true;omega
  obtain⟨m,hm⟩:∃m,L[i]? =some m:=⟨_,kF (by omega)⟩;obtain⟨b,o,a1,a2,a3,_,_⟩:=hO.slR.itf (k:=.i64) hm;have hkl:=aYn hs hlt hm;have e5:=nR (i:=i) (by omega);rcases hkl with h1|⟨h1,h2⟩
  ·have d1:(m.p.f<key.1)=True:=eq_true h1;simp only[dE.f0,bZ.load,c0,lv,hd,a1,cF.f0,bX.f0,bX.f1,aR.load,cJ.load,a2,a3,d1,e5,cC,reduceIte];exact⟨⟨i+1,by omega,rfl,by trivial⟩,by simp[fT,e3];omega⟩
  ·have h1':m.p.f=key.1:=h1;have h2':m.p.s<key.2:=h2;have d1:(m.p.f<key.1)=False:=by apply eq_false;omega
   have d2:(m.p.f==key.1)=true:=by simp[h1']
   have d3:(m.p.s<key.2)=True:=eq_true h2';simp only[dE.f0,bZ.load,c0,lv,hd,a1,cF.f0,bX.f0,bX.f1,aR.load,cJ.load,a2,a3,d1,d2,d3,e5,cC,reduceIte];exact⟨⟨i+1,by omega,rfl,by trivial⟩,by simp[fT,e3];omega⟩
 ·have hil:i=(pA L key).length:=by omega
  subst hil;by_cases hend:(pA L key).length<L.length
  ·have hd:(((pA L key).length:Int)<(L.length:Int))=True:=by apply eq_true;omega
   obtain⟨m,hm⟩:∃m,L[(pA L key).length]? =some m:=⟨_,kF hend⟩;obtain⟨b,o,a1,a2,a3,_,_⟩:=hO.slR.itf (k:=.i64) hm;obtain⟨hnk,hsm,_⟩:=aYi hs hm;rw[hsm] at hk;have hnf:¬(m.p.f<key.1∨m.p.f=key.1∧m.p.s<key.2):=hnk;have d1:(m.p.f<key.1)=False:=by apply eq_false;omega
   by_cases hf:m.p.f=key.1
   ·have d2:(m.p.f==key.1)=true:=by simp[hf]
    have d3:(m.p.s<key.2)=False:=by apply eq_false;omega
    by_cases hq:m.p.s=key.2
    ·have d4:(m.p.s==key.2)=true:=by simp[hq]
     have:decide (m.key=key)=true:=by simp only[decide_eq_true_eq];exact Prod.ext hf hq
     rw[this] at hk;simp only[dE.f0,bZ.load,c0,lv,hd,a1,cF.f0,bX.f0,bX.f1,aR.load,cJ.load,a2,a3,d1,d2,d3,d4,cC,reduceIte];exact hk
    ·have d4:(m.p.s==key.2)=false:=by simp[hq]
     have:decide (m.key=key)=false:=by simp only[decide_eq_false_iff_not];rintro rfl;exact hq rfl
     rw[this] at hk;simp only[dE.f0,bZ.load,c0,lv,hd,a1,cF.f0,bX.f0,bX.f1,aR.load,cJ.load,a2,a3,d1,d2,d3,d4,cC,reduceIte];exact hk
   ·have d2:(m.p.f==key.1)=false:=by simp[hf]
    have:decide (m.key=key)=false:=by simp only[decide_eq_false_iff_not];rintro rfl;exact hf rfl
    rw[this] at hk;simp only[dE.f0,bZ.load,c0,lv,hd,a1,cF.f0,bX.f0,bX.f1,aR.load,cJ.load,a2,a3,d1,d2,cC,reduceIte];exact hk
  ·have hd:(((pA L key).length:Int)<(L.length:Int))=False:=by apply eq_false;omega
   have hno:=aXt hs (k:=key) (by omega);rw[hno] at hk;simp only[dE.f0,bZ.load,c0,lv,hd,aBv,aAc,cC,reduceIte];exact hk
def aIX{h:PH}(p:Pk)(hs0:0≤p.s)(ht0:0≤p.t){k:cE}(hk:∀h',dA h h'->k (.bool p.right) h'):bT PG rX #[.agg p.cells.toArray] h k:=by
 apply aAP.call;unfold aAP;intro r hr;rw[cR];have u:dA h (h.set r (.cells (Value.cells (.agg p.cells.toArray)) bX)):=cX.new hr;have b:Bx (h.set r (.cells (Value.cells (.agg p.cells.toArray)) bX)) r p.cells:=Bx.new;generalize h.set r (.cells (Value.cells (.agg p.cells.toArray)) bX)=h1 at *;have c0:cV h1 ⟨r,0,none⟩=some (.int .i64 p.f):=b.cell 0;have c1:cV h1 ⟨r,0+1,none⟩=some (.int .u64 p.s):=b.cell 1;have c2:cV h1 ⟨r,0+2,none⟩=some (.int .u64 p.t):=b.cell 2;have c3:cV h1 ⟨r,0+3,none⟩=some (.string p.d):=b.cell 3;have hk:=hk h1 u;unfold Pk.right at hk;have hf:(p.f=0∨p.f=1)∨(p.f<0∨1<p.f):=by omega
 rcases hf with hf|hf
 ·have g1:(0≤p.f)=True:=by apply eq_true;omega
  have g2:(p.f≤1)=True:=by apply eq_true;omega
  have go:cD PG h1 (loadAt aR (pT r 0))=some (.int .i64 p.f):=by rw[aR.load,c0]
  have first:∀X:Prop,X->X:=λ_ x=>x
  by_cases h3:p.s=0
  ·have e3:((0:Int)<p.s)=False:=by apply eq_false;omega
   have e3':(p.s≠0)=False:=by simp[h3]
   simp only[g1,g2,e3',decide_false,zLn,aI3,cC,reduceIte] at hk;rcases hf with hf|hf
   ·have d0:(p.f==0)=true:=by simp[hf]
    simp only[bX.f0,bX.f1,bX.f2,bX.f3,aR.load,cJ.load,aT.load,c0,d0,c1,e3,cC,reduceIte];exact hk
   ·have d0:(p.f==0)=false:=by simp[hf]
    have d1:(p.f==1)=true:=by simp[hf]
    simp only[bX.f0,bX.f1,bX.f2,bX.f3,aR.load,cJ.load,aT.load,c0,d0,d1,c1,e3,cC,reduceIte];exact hk
  ·have e3:((0:Int)<p.s)=True:=by apply eq_true;omega
   have e3':(p.s≠0)=True:=by simp[h3]
   by_cases h4:p.t=0
   ·have e4:((0:Int)<p.t)=False:=by apply eq_false;omega
    have e4':(p.t≠0)=False:=by simp[h4]
    simp only[g1,g2,e3',e4',decide_false,zLn,aI3,cC,reduceIte] at hk;rcases hf with hf|hf
    ·have d0:(p.f==0)=true:=by simp[hf]
     simp only[bX.f0,bX.f1,bX.f2,bX.f3,aR.load,cJ.load,aT.load,c0,d0,c1,e3,c2,e4,cC,reduceIte];exact hk
    ·have d0:(p.f==0)=false:=by simp[hf]
     have d1:(p.f==1)=true:=by simp[hf]
     simp only[bX.f0,bX.f1,bX.f2,bX.f3,aR.load,cJ.load,aT.load,c0,d0,d1,c1,e3,c2,e4,cC,reduceIte];exact hk
   ·have e4:((0:Int)<p.t)=True:=by apply eq_true;omega
    have e4':(p.t≠0)=True:=by simp[h4]
    have e5:decide ((p.d.size:Int)≤64)=decide (p.d.size≤64):=by
     rw[xF];simp only[decide_eq_true_eq];omega
    simp only[g1,g2,e3',e4',Bool.and_self,zLo,cC,reduceIte] at hk;rcases hf with hf|hf
    ·have d0:(p.f==0)=true:=by simp[hf]
     simp only[bX.f0,bX.f1,bX.f2,bX.f3,aR.load,cJ.load,aT.load,c0,d0,c1,e3,c2,e4,c3,uZ aT.und,e5,cC,reduceIte];exact hk
    ·have d0:(p.f==0)=false:=by simp[hf]
     have d1:(p.f==1)=true:=by simp[hf]
     simp only[bX.f0,bX.f1,bX.f2,bX.f3,aR.load,cJ.load,aT.load,c0,d0,d1,c1,e3,c2,e4,c3,uZ aT.und,e5,cC,reduceIte];exact hk
 ·have d0:(p.f==0)=false:=by simp;omega
  have d1:(p.f==1)=false:=by simp;omega
  have g:(decide (0≤p.f)&&decide (p.f≤1))=false:=by
   rw[Bool.and_eq_false_iff];simp only[decide_eq_false_iff_not];omega
  simp only[g,zLn] at hk;simp only[bX.f0,aR.load,c0,d0,d1,cC,reduceIte];exact hk
def aMe{h:PH}(n:Nt)(hs0:0≤n.p.s)(ht0:0≤n.p.t){k:cE}(hk:∀h',dA h h'->k (.bool n.right) h'):bT PG vN #[.agg n.cells.toArray] h k:=by
 apply aAJ.call;unfold aAJ;intro r hr;rw[cR];have u:dA h (h.set r (.cells (Value.cells (.agg n.cells.toArray)) cL)):=cX.new hr;have b:Bx (h.set r (.cells (Value.cells (.agg n.cells.toArray)) cL)) r n.cells:=Bx.new;generalize h.set r (.cells (Value.cells (.agg n.cells.toArray)) cL)=h1 at *;have c0:cV h1 ⟨r,0,none⟩=some (.int .i64 n.k):=b.cell 0;have p1:=b.pk (o:=0+1) (p:=n.p) rfl;unfold Nt.right at hk;by_cases d1:1≤n.k
 ·by_cases d2:n.k≤4
  ·simp only[cL.f0,cL.f1,aR.load,c0,d1,d2,p1,zLo,Bool.and_self,cC,reduceIte] at hk ⊢;exact aIX n.p hs0 ht0 λh2 u2=>hk h2 (u.trans u2)
  ·simp only[cL.f0,cL.f1,aR.load,c0,d1,d2,zLn,aI3,decide_false,cC,reduceIte] at hk ⊢;exact hk _ u
 ·simp only[cL.f0,cL.f1,aR.load,c0,d1,zLn,decide_false,cC,reduceIte] at hk ⊢;exact hk _ u
def It.right(i:It):Bool:=(decide (i.g=1)||decide (i.g=2))&&i.p.right
def aMy{h:PH}(i:It)(hs0:0≤i.p.s)(ht0:0≤i.p.t){k:cE}(hk:∀h',dA h h'->k (.bool i.right) h'):bT PG sF #[i.val] h k:=by
 apply uY.call;unfold uY;intro r hr;rw[cR];have u:dA h (h.set r (.cells (Value.cells i.val) cF)):=cX.new hr;have b:Bx (h.set r (.cells (Value.cells i.val) cF)) r i.cells:=Bx.new;generalize h.set r (.cells (Value.cells i.val) cF)=h1 at *;have c0:cV h1 ⟨r,0+4,none⟩=some (.int .i64 i.g):=b.cell 4;have p1:=b.pk (o:=0) (p:=i.p) rfl;unfold It.right at hk;by_cases d1:i.g=1
 ·have e1:(i.g==1)=true:=by simp[d1]
  simp only[cF.f0,cF.f1,aR.load,c0,e1,p1,cC,reduceIte];refine aIX i.p hs0 ht0 λh2 u2=>?_;have:=hk h2 (u.trans u2);simpa[d1] using this
 ·have e1:(i.g==1)=false:=by simp[d1]
  by_cases d2:i.g=2
  ·have e2:(i.g==2)=true:=by simp[d2]
   simp only[cF.f0,cF.f1,aR.load,c0,e1,e2,p1,cC,reduceIte];refine aIX i.p hs0 ht0 λh2 u2=>?_;have:=hk h2 (u.trans u2);simpa[d2] using this
  ·have e2:(i.g==2)=false:=by simp[d2]
   simp only[cF.f0,cF.f1,aR.load,c0,e1,e2,cC,reduceIte];have:=hk _ u;simpa[d1,d2] using this
def aK7:kC PG (buildSlice bZ 0 #[])=some (.cells #[] cF (0,0),λr=>pure (.slice (some ⟨r,0,none⟩) 0 0)):=by kernel_rfl
def aJJ{h:PH}{v x:Value}{F:List Nat}{xs ys:List It}(H:eH h cF 5 v (xs.map It.cells) F)(S:iH h 5 x (ys.map It.cells))(hl:xs.length+ys.length≤1000000){k:cE}
  (hk:∀v' h' F',eH h' cF 5 v' ((xs++ys).map It.cells) F'->cX F h h'->(∀b∈F',b∈F∨h b=none)->k v' h'):cN PG (Builtin.append_ #[bZ,bZ] bZ #[v,x]) h k:=by
 refine lV bZ.und bZ.und cF.info cF.size cF.bytes cF.zero rfl (by decide) H S (It.isCell _) (by simp;omega) ?_;intro v' h' F' hO u f _;rw[←xJ] at hO;exact hk v' h' F' hO u f
def eH.cutIt{h:PH}{v:Value}{F:List Nat}{L:List It}(H:eH h cF 5 v (L.map It.cells) F){lo hi:Option Value}{l m:Nat}
  (hlo:lo=none∧l=0∨∃k,lo=some (.int k l)) (hhi:hi=none∧m=L.length∨∃k,hi=some (.int k m)) (h1:l≤m) (h2:m≤L.length):
  ∃v',cB PG (Instr.sliceAt bZ v lo hi none)=some v'∧iH h 5 v' (((L.take m).drop l).map It.cells)∧∀x n c,v'= .slice (some x) n c->x.block∈F:=by
 obtain⟨v',e1,e2,e3⟩:=H.slR.cut bZ.und cF.info cF.size (l:=l) (m:=m) hlo (by rcases hhi with⟨a,b⟩|h;exact .inl ⟨a,by rw[iL];exact b⟩;exact .inr h) h1 (by rw[iL];exact h2);refine⟨v',e1,?_,?_⟩
 ·rw[←List.map_take,←List.map_drop] at e2;exact e2
 ·intro x n c hx;obtain⟨x0,n0,c0,hx0,hb⟩:=e3 x n c hx;rcases H.here with⟨h3,_⟩|⟨b,cap,cs,h3,h4,_⟩
  ·rw[h3] at hx0;cases hx0
  ·rw[h3] at hx0;simp only[Value.slice.injEq,zL4] at hx0;rw[hb,←hx0.1,h4];simp
def aN0{h:PH}{a:Nat}{L:List It}{room:Int}{F:List Nat}(H:RAt h a L room F)(hL:L.length≤1000)(i:It)(hg:iJ L i.key=none){k:cE}
  (hk:∀h' F',RAt h' a (sJ L room i) room F'->cX F h h'->(∀b∈F',b∈F∨h b=none)->k (.int .i64 (aCY L room i)) h'):bT PG oT #[pT a 0,i.val] h k:=by
 apply oG.call;unfold oG;intro r1 hr1;rw[cR];have u1:dA h (h.set r1 (.cells (Value.cells i.val) cF)):=cX.new hr1;have b1:Bx (h.set r1 (.cells (Value.cells i.val) cF)) r1 i.cells:=Bx.new;generalize h.set r1 (.cells (Value.cells i.val) cF)=h1 at *;have H1:=H.ext u1;have hs:=H.srt;have HK:=H.known;obtain⟨v,G,ha,hO,rfl,hn⟩:=H1.here;have c0:cV h1 ⟨a,0,none⟩=some v:=by simp[cV,ha]
 have c1:cV h1 ⟨a,0+1,none⟩=some (.int .i64 room):=by simp[cV,ha]
 have lv:=hO.slR.len (t':=aR) bZ.und;rw[iL] at lv;by_cases hr:room≤L.length
 ·have e1:(room≤(L.length:Int))=True:=eq_true hr;simp only[dE.f0,dE.f1,bZ.load,aR.load,c0,c1,lv,e1,cC,reduceIte];have h1:aCY L room i=2:=by unfold aCY;rw[if_pos ⟨hg,hr⟩]
  have h2:sJ L room i=L:=by unfold sJ;rw[if_pos ⟨hg,hr⟩]
  rw[←h1];exact hk _ _ (by rw[h2];exact H1) (dA.upd u1) (λb hb=>.inl hb)
 ·have e1:(room≤(L.length:Int))=False:=eq_false hr;have q1:cV h1 ⟨r1,0,none⟩=some (.int .i64 i.p.f):=b1.cell 0;have q2:cV h1 ⟨r1,0+1,none⟩=some (.int .u64 i.p.s):=b1.cell 1;simp only[dE.f0,dE.f1,bZ.load,aR.load,cJ.load,cF.f0,bX.f0,bX.f1,c0,c1,lv,e1,q1,q2,cC,reduceIte];refine aMQ H1 (by omega) i.key ?_;have hpl:=aVy L i.key;obtain⟨w1,s1,s2,s3⟩:=hO.cutIt (lo:=none) (hi:=some (.int .i64 (pA L i.key).length)) (l:=0) (m:=(pA L i.key).length) (.inl ⟨rfl,rfl⟩) (.inr ⟨.i64,rfl⟩) (kT _) hpl;obtain⟨w2,t1,t2,t3⟩:=hO.cutIt (lo:=some (.int .i64 (pA L i.key).length)) (hi:=none) (l:=(pA L i.key).length) (m:=L.length) (.inr ⟨.i64,rfl⟩) (.inl ⟨rfl,rfl⟩) hpl (lM _);rw[zLb] at s2;rw[sK (lM _)] at t2;simp only[dE.f0,bZ.load,c0,s1,t1,b1.it,aK7,cC,reduceIte];intro r2 hr2;refine iB ?_
  try rw[cR]
  have u2:dA h1 (h1.set r2 (.cells #[] cF)):=cX.new hr2;have hE:eH (h1.set r2 (.cells #[] cF)) cF 5 (.slice (some ⟨r2,0,none⟩) 0 0) (([]:List It).map It.cells) [r2]:=eH.lit (It.rows []) eN rfl (by decide) rfl;generalize h1.set r2 (.cells #[] cF)=h2 at *;refine aJJ hE (s2.ext u2) (by simp;omega) ?_;intro v3 h3 F3 hO3 u3 f3;have ha2:=u2.get ha;have n2:a∉[r2]:=by simp;rintro rfl;rw[ha] at hr2;cases hr2
  have ha3:h3 a=some (.cells #[v,.int .i64 room] dE (0,0)):=u3.get ha2 n2;have nr:r1∉[r2]:=by simp;rintro rfl;exact b1.known hr2
  have b3:=(b1.ext u2).upd u3 nr;have c03:cV h3 ⟨a,0,none⟩=some v:=by simp[cV,ha3]
  refine⟨c03,b3.it,?_⟩;rw[aTi,iO];intro r4 hr4;refine iB ?_
  try rw[cR]
  have u4:dA h3 (h3.set r4 (.cells i.cells.toArray cF)):=cX.new hr4;have s4:iH (h3.set r4 (.cells i.cells.toArray cF)) 5 (.slice (some ⟨r4,0,none⟩) 1 1) ([i].map It.cells):=(eH.lit (It.rows [i]) eN (by simp) (by decide) (by simp)).slR;have s4':=s4;show cN PG (Builtin.append_ #[bZ,bZ] bZ #[v3,.slice (some ⟨r4,0,none⟩) 1 1]) (h3.set r4 (.cells i.cells.toArray cF)) _;generalize h3.set r4 (.cells i.cells.toArray cF)=h4 at *;have ha4:=u4.get ha3;refine aJJ (hO3.ext u4) s4 (by simp;omega) ?_;intro v5 h5 F5 hO5 u5 f5
  -- what lay at h1 lies there still
  have fresh3:∀b∈F3,h1 b=none:=λb hb=>by
   rcases f3 b hb with h6|h6
   ·simp at h6;subst h6;exact hr2
   ·exact u2.none h6
  have na3:a∉F3:=λhm=>by rw[fresh3 a hm] at ha;cases ha
  have ha5:h5 a=some (.cells #[v,.int .i64 room] dE (0,0)):=u5.get ha4 na3;have E2:dA h1 h3:=u2.fresh u3 (eD.one hr2);have E4:dA h1 h4:=E2.trans u4;have E5:dA h1 h5:=E4.fresh u5 fresh3;have c05:cV h5 ⟨a,0,none⟩=some v:=by simp[cV,ha5]
  refine⟨c05,?_⟩;have fresh5:∀b∈F5,h1 b=none:=λb hb=>by
   rcases f5 b hb with h6|h6
   ·exact fresh3 b h6
   ·exact E4.none h6
  refine aJJ hO5 (t2.ext E5) (by simp;omega) ?_;intro v6 h6 F6 hO6 u6 f6;have na5:a∉F5:=λhm=>by rw[fresh5 a hm] at ha;cases ha
  have ha6:=u6.get ha5 na5;have E6:dA h1 h6:=E5.fresh u6 fresh5;have fresh6:∀b∈F6,h1 b=none:=λb hb=>by
   rcases f6 b hb with h7|h7
   ·exact fresh5 b h7
   ·exact E5.none h7
  have na6:a∉F6:=λhm=>by rw[fresh6 a hm] at ha;cases ha
  refine lC bZ.und rfl ha6 (by simp) (by obtain⟨_,_,rfl,-⟩:=hO6.slR.here;rfl) bZ.info bZ.size ?_;have u7:cX [a] h6 (h6.set a (.cells (#[v,.int .i64 room].setIfInBounds 0 v6) dE (0,0))):=cX.set (by simp);have ha7:(h6.set a (.cells (#[v,.int .i64 room].setIfInBounds 0 v6) dE (0,0))) a=some (.cells #[v6,.int .i64 room] dE (0,0)):=eN;generalize h6.set a (.cells (#[v,.int .i64 room].setIfInBounds 0 v6) dE (0,0))=h7 at *;have e2:aCY L room i=0:=by unfold aCY;rw[if_neg (λhc=>hr hc.2)]
  have e3:sJ L room i=pS L i:=by unfold sJ;rw[if_neg (λhc=>hr hc.2)]
  have e4:([]:List It)++L.take (pA L i.key).length++[i]++L.drop (pA L i.key).length=pS L i:=by rw[zLU];exact aWb hs hg
  rw[e4] at hO6;rw[←e2];refine hk h7 (a::F6) ⟨⟨v6,F6,ha7,by rw[e3];exact hO6.upd u7 (λb hb=>by simp;rintro rfl;exact na6 hb),rfl,na6⟩,by rw[e3];exact hs.ins i⟩ ?_ ?_
  ·exact cX.then (dA.upd (u1.trans E6)) u7 (λb hb=>by left;simp at hb;simp[hb])
  ·intro b hb;rcases iW.1 hb with rfl|hb
   ·left;simp
   ·right;exact u1.none (fresh6 b hb)
def aUe{h2:PH}{a:Nat}{L:List It}{room:Int}{F:List Nat}(H:RAt h2 a L room F)(hL:L.length≤1000){key:Ky}{x:It}(hg:iJ L key=some x){K:PH->Prop}
  (hk:∀h' F',RAt h' a (rI L key) room F'->cX F h2 h'->(∀b∈F',b∈F∨h2 b=none)->K h'):
  bY (cB PG (gI (pT a 0))) λv6=>
 bY (cB PG (fieldAt dE v6 0)) λv7=>
 bY (cD PG h2 (loadAt bZ v7)) λv8=>
 bY (cB PG (Instr.sliceAt bZ v8 none (some (.int .i64 (pA L key).length)) none)) λv9=>
 bY (cB PG (gI (pT a 0))) λv10=>
 bY (cB PG (fieldAt dE v10 0)) λv11=>
 bY (cD PG h2 (loadAt bZ v11)) λv12=>
 bY (cB PG (binOp BinOp.add aR (.int .i64 (pA L key).length) (Value.int IntKind.i64 1))) λv13=>
 bY (cB PG (Instr.sliceAt bZ v12 (some v13) none none)) λv14=>
 bY (kC PG (buildSlice bZ 0 #[])) λx16=>∀r15,h2 r15=none->bY (cB PG (x16.2 r15)) λv17=>dU (PH.set h2 r15 x16.1) λh18=>
 cN PG (Builtin.append_ #[bZ,bZ] bZ #[v17,v9]) h18 λv19 h20=>
 cD PG h20 (loadAt bZ v11)=some v12∧(cN PG (Builtin.append_ #[bZ,bZ] bZ #[v19,v14]) h20 λv21 h22=>
 (bY (cB PG (gI (pT a 0))) λv23=>
 bY (cB PG (fieldAt dE v23 0)) λv24=>
 cN PG (cP bZ v24 v21) h22 λv25 h26=>
 (K h26))):=by
 have hs:=H.srt;have HK:=H.known;obtain⟨v,G,ha,hO,rfl,hn⟩:=H.here;have c0:cV h2 ⟨a,0,none⟩=some v:=by simp[cV,ha]
 have hlt:(pA L key).length<L.length:=by
  have:=congrArg List.length (aE7 hs key);rw[hg] at this;simp only[jM,Option.toList_some,iU,kV] at this;omega
 have e5:IntKind.i64.wrap (((pA L key).length:Int)+1)=(((pA L key).length+1:Nat):Int):=by rw[eB (by omega) (by omega)];omega
 obtain⟨w1,s1,s2,s3⟩:=hO.cutIt (lo:=none) (hi:=some (.int .i64 (pA L key).length)) (l:=0) (m:=(pA L key).length) (.inl ⟨rfl,rfl⟩) (.inr ⟨.i64,rfl⟩) (kT _) (by omega);obtain⟨w2,t1,t2,t3⟩:=hO.cutIt (lo:=some (.int .i64 ((pA L key).length+1:Nat))) (hi:=none) (l:=(pA L key).length+1) (m:=L.length) (.inr ⟨.i64,rfl⟩) (.inl ⟨rfl,rfl⟩) (by omega) (lM _);rw[zLb] at s2;rw[sK (lM _)] at t2;simp only[dE.f0,bZ.load,c0,s1,e5,t1,aK7,cC,reduceIte];intro r2 hr2;refine iB ?_
 try rw[cR]
 have u2:dA h2 (h2.set r2 (.cells #[] cF)):=cX.new hr2;have hE:eH (h2.set r2 (.cells #[] cF)) cF 5 (.slice (some ⟨r2,0,none⟩) 0 0) (([]:List It).map It.cells) [r2]:=eH.lit (It.rows []) eN rfl (by decide) rfl;generalize h2.set r2 (.cells #[] cF)=h3 at *;refine aJJ hE (s2.ext u2) (by simp;omega) ?_;intro v4 h4 F4 hO4 u4 f4;have ha3:=u2.get ha;have n2:a∉[r2]:=by simp;rintro rfl;rw[ha] at hr2;cases hr2
 have ha4:h4 a=some (.cells #[v,.int .i64 room] dE (0,0)):=u4.get ha3 n2;have c04:cV h4 ⟨a,0,none⟩=some v:=by simp[cV,ha4]
 refine⟨c04,?_⟩;have E4:dA h2 h4:=u2.fresh u4 (eD.one hr2);have fresh4:∀b∈F4,h2 b=none:=λb hb=>by
  rcases f4 b hb with h6|h6
  ·simp at h6;subst h6;exact hr2
  ·exact u2.none h6
 have na4:a∉F4:=λhm=>by rw[fresh4 a hm] at ha;cases ha
 refine aJJ hO4 (t2.ext E4) (by simp;omega) ?_;intro v6 h6 F6 hO6 u6 f6;have ha6:=u6.get ha4 na4;have E6:dA h2 h6:=E4.fresh u6 fresh4;have fresh6:∀b∈F6,h2 b=none:=λb hb=>by
  rcases f6 b hb with h7|h7
  ·exact fresh4 b h7
  ·exact E4.none h7
 have na6:a∉F6:=λhm=>by rw[fresh6 a hm] at ha;cases ha
 refine lC bZ.und rfl ha6 (by simp) (by obtain⟨_,_,rfl,-⟩:=hO6.slR.here;rfl) bZ.info bZ.size ?_;have u7:cX [a] h6 (h6.set a (.cells (#[v,.int .i64 room].setIfInBounds 0 v6) dE (0,0))):=cX.set (by simp);have ha7:(h6.set a (.cells (#[v,.int .i64 room].setIfInBounds 0 v6) dE (0,0))) a=some (.cells #[v6,.int .i64 room] dE (0,0)):=eN;generalize h6.set a (.cells (#[v,.int .i64 room].setIfInBounds 0 v6) dE (0,0))=h7 at *;have e4:([]:List It)++L.take (pA L key).length++L.drop ((pA L key).length+1)=rI L key:=by rw[zLU];exact aWG hs hg
 rw[e4] at hO6;refine hk h7 (a::F6) ⟨⟨v6,F6,ha7,hO6.upd u7 (λb hb=>by simp;rintro rfl;exact na6 hb),rfl,na6⟩,hs.del _⟩ ?_ ?_
 ·exact cX.then (dA.upd E6) u7 (λb hb=>by left;simp at hb;simp[hb])
 ·intro b hb;rcases iW.1 hb with rfl|hb
  ·left;simp
  ·right;exact fresh6 b hb
def aSw{L:List It}{p:Nat}{x:It}(hlt:p<L.length)(hat:L[p]? =some x)(g:Int):(L.map It.cells).flatten.set (p*5+4) (.int .i64 g)=((L.take p++⟨x.p,g⟩::L.drop (p+1)).map It.cells).flatten:=by
 have h2:((L.take p).map It.cells).flatten.length=p*5:=by
  rw[(It.rows _).flat,iL,lU];congr 1;omega
 have h1:(L.map It.cells).flatten=((L.take p).map It.cells).flatten++(x.cells++((L.drop (p+1)).map It.cells).flatten):=by
  have h3:L=L.take p++x::L.drop (p+1):=by
   have:L.drop p=x::L.drop (p+1):=by
    rw[aAs hlt];have:L[p]=x:=by rw[kF hlt] at hat;simpa using hat
    rw[this]
   rw[←this,zL6]
  conv=>lhs;rw[h3]
  simp only[xJ,zLG,iG,aEU]
 rw[h1,List.set_append_right _ _ (by rw[h2];omega),h2];simp only[xJ,zLG,iG,aEU];congr 1;rw[show p*5+4-p*5=4 by omega];rfl
set_option maxHeartbeats 1000000 in
theorem aUJ{h:PH}{a:Nat}{L:List It}{room:Int}{F:List Nat}(H:RAt h a L room F)(hL:L.length≤1000)(n:Nt)(hs0:0≤n.p.s)(ht0:0≤n.p.t){k:cE}
  (hk:∀h' F',RAt h' a (qJ L room n) room F'->cX F h h'->(∀b∈F',b∈F∨h b=none)->k (.int .i64 (uA L room n)) h'):bT PG vC #[pT a 0,.agg n.cells.toArray] h k:=by
 apply nA.call;unfold nA;intro r1 hr1;rw[cR];have u1:dA h (h.set r1 (.cells (Value.cells (.agg n.cells.toArray)) cL)):=cX.new hr1;have b1:Bx (h.set r1 (.cells (Value.cells (.agg n.cells.toArray)) cL)) r1 n.cells:=Bx.new;generalize h.set r1 (.cells (Value.cells (.agg n.cells.toArray)) cL)=h1 at *;simp only[b1.nt,cC,reduceIte];refine aMe n hs0 ht0 λh2 u2=>?_;have uu:=u1.trans u2;have b2:=b1.ext u2;have H2:=H.ext uu;have hs:=H.srt;cases hr:n.right with
 | false=>
  have e1:uA L room n=1:=by unfold uA;rw[if_pos hr]
  have e2:qJ L room n=L:=by unfold qJ;rw[if_pos hr]
  rw[e1,e2] at hk;simp only[cC,reduceIte];exact hk h2 F H2 (dA.upd uu) (λb hb=>.inl hb)
 | true=>
  have c0:cV h2 ⟨r1,0,none⟩=some (.int .i64 n.k):=b2.cell 0;have c1:cV h2 ⟨r1,0+1,none⟩=some (.int .i64 n.p.f):=b2.cell 1;have c2:cV h2 ⟨r1,0+1+1,none⟩=some (.int .u64 n.p.s):=b2.cell 2;have p1:=b2.pk (o:=0+1) (p:=n.p) rfl;simp only[cL.f1,bX.f0,bX.f1,aR.load,cJ.load,c1,c2,cC,reduceIte];refine aMQ H2 (by omega) n.p.key ?_;have hkr:1≤n.k∧n.k≤4:=by
   unfold Nt.right at hr;simp only[sU,decide_eq_true_eq] at hr;exact hr.1
  have hrt:¬n.right=false:=by rw[hr];simp
  have hx:n.k=1∨n.k=2∨2<n.k:=by omega
  have fin:∀{h':PH} {F':List Nat} {X:List It} {E:Int},qJ L room n=X->uA L room n=E->RAt h' a X room F'->cX F h2 h'->(∀b∈F',b∈F∨h2 b=none)->k (.int .i64 E) h':=by
   intro h' F' X E e1 e2 H' u' f';rw[←e2];exact hk h' F' (by rw[e1];exact H') (cX.then (dA.upd uu) u' λb hb=>.inl hb) (λb hb=>by
    rcases f' b hb with h|h
    ·exact .inl h
    ·exact .inr (uu.none h))
  rcases hx with hA|hA|hA
  ·have d1:(n.k==1)=true:=by simp[hA]
   have d2:(n.k==2)=false:=by simp[hA]
   have d3:((2:Int)<n.k)=False:=by apply eq_false;omega
   cases hg:iJ L n.p.key with
   | none=>
    simp only[cL.f0,cL.f1,aR.load,c0,d1,zLv,p1,aIJ,cC,reduceIte];refine aN0 H2 hL ⟨n.p,1⟩ hg λh3 F3 H3 u3 f3=>fin ?_ ?_ H3 u3 f3
    ·unfold qJ;rw[if_neg hrt,if_pos hA,hg];rfl
    ·unfold uA;rw[if_neg hrt,if_pos hA,hg];rfl
   | some x=>
    simp only[cL.f0,cL.f1,aR.load,c0,d1,d2,d3,aNr,cC,reduceIte];unfold kY nH;refine fin ?_ ?_ H2 cX.refl (λb hb=>.inl hb)
    ·unfold qJ;rw[if_neg hrt,if_pos hA,hg];rfl
    ·unfold uA;rw[if_neg hrt,if_pos hA,hg];rfl
  ·have d1:(n.k==1)=false:=by simp[hA]
   have d2:(n.k==2)=true:=by simp[hA]
   have n1:¬n.k=1:=by omega
   cases hg:iJ L n.p.key with
   | none=>
    simp only[cL.f0,cL.f1,aR.load,c0,d1,d2,zLv,p1,aIJ,cC,reduceIte];refine aN0 H2 hL ⟨n.p,2⟩ hg λh3 F3 H3 u3 f3=>fin ?_ ?_ H3 u3 f3
    ·unfold qJ;rw[if_neg hrt,if_neg n1,if_pos hA,hg]
    ·unfold uA;rw[if_neg hrt,if_neg n1,if_pos hA,hg];rfl
   | some x=>
    obtain⟨hx1,hx2⟩:=aAt hg;have eL:qJ L room n=pS L ⟨x.p,2⟩:=by unfold qJ;rw[if_neg hrt,if_neg n1,if_pos hA,hg]
    have eE:uA L room n=0:=by unfold uA;rw[if_neg hrt,if_neg n1,if_pos hA,hg];rfl
    simp only[cL.f0,cL.f1,aR.load,c0,d1,d2,aNr,aK7,cC,reduceIte];intro r2 hr2;refine iB ?_
    try rw[cR]
    obtain⟨v,G,ha,hO,rfl,hn⟩:=H2.here;have u3:dA h2 (h2.set r2 (.cells #[] cF)):=cX.new hr2;have hE:eH (h2.set r2 (.cells #[] cF)) cF 5 (.slice (some ⟨r2,0,none⟩) 0 0) (([]:List It).map It.cells) [r2]:=eH.lit (It.rows []) eN rfl (by decide) rfl;generalize h2.set r2 (.cells #[] cF)=h3 at *;have ha3:=u3.get ha;have c03:cV h3 ⟨a,0,none⟩=some v:=by simp[cV,ha3]
    simp only[dE.f0,bZ.load,c03,cC,reduceIte];refine aJJ hE (hO.slR.ext u3) (by simp;omega) ?_;intro v4 h4 F4 hO4 u4 f4;rw[zLU] at hO4;have E4:dA h2 h4:=u3.fresh u4 (eD.one hr2);have fresh4:∀b∈F4,h2 b=none:=λb hb=>by
     rcases f4 b hb with h6|h6
     ·simp at h6;subst h6;exact hr2
     ·exact u3.none h6
    have na4:a∉F4:=λhm=>by rw[fresh4 a hm] at ha;cases ha
    have ha4:=E4.get ha;have hlt:(pA L n.p.key).length<L.length:=by
     have:=congrArg List.length (aE7 hs n.p.key);rw[hg] at this;simp only[jM,Option.toList_some,iU,kV] at this;omega
    have hat:L[(pA L n.p.key).length]? =some x:=by
     have:(pA L n.p.key++((iJ L n.p.key).toList++pC L n.p.key))[(pA L n.p.key).length]? =some x:=by
      rw[List.getElem?_append_right (lM _),aJE,hg];rfl
     rwa [←aE7 hs n.p.key] at this
    -- the copy's stage is set
    obtain⟨b',cap,cs,hv4,hF4,hb4,hle4,hcm4,hcs4,htk4⟩:∃b cap cs,v4= .slice (some ⟨b,0,none⟩) (L.map It.cells).length cap∧F4=[b]∧h4 b=some (.cells cs cF (0,0))∧(L.map It.cells).length≤cap∧cap≤xC∧cs.size=cap*5∧cs.toList.take ((L.map It.cells).length*5)=(L.map It.cells).flatten:=by
     rcases hO4.here with⟨_,h2,_⟩|h2
     ·exfalso;have:L=[]:=List.map_eq_nil_iff.1 h2;subst this;simp at hlt
     ·exact h2
    rw[iL] at hv4 hle4 htk4;have ix:cB PG (indexAt bZ v4 (.int .i64 (pA L n.p.key).length))=some (.pointer (some ⟨b',0+(pA L n.p.key).length*5,none⟩)):=by
     rw[hv4];exact aHA bZ.und cF.info cF.size (by omega) (by omega)
    have hbound:(pA L n.p.key).length*5+5≤cap*5:=by
     have:((pA L n.p.key).length+1)*5≤cap*5:=zLO 5 (by omega);omega
    simp only[ix,cF.f1,cC,reduceIte];refine lC aR.und rfl hb4 (by rw[hcs4];omega) rfl aR.info aR.size ?_;have u5:cX [b'] h4 (h4.set b' (.cells (cs.setIfInBounds (0+(pA L n.p.key).length*5+4) (.int .i64 2)) cF (0,0))):=cX.set (by simp);have hb5:(h4.set b' (.cells (cs.setIfInBounds (0+(pA L n.p.key).length*5+4) (.int .i64 2)) cF (0,0))) b'=some (.cells (cs.setIfInBounds (0+(pA L n.p.key).length*5+4) (.int .i64 2)) cF (0,0)):=eN;generalize h4.set b' (.cells (cs.setIfInBounds (0+(pA L n.p.key).length*5+4) (.int .i64 2)) cF (0,0))=h5 at *;have nab:a≠b':=by rintro rfl;exact na4 (by rw[hF4];simp)
    have ha5:=u5.get ha4 (by simpa using nab);have hO5:eH h5 cF 5 v4 ((pS L ⟨x.p,2⟩).map It.cells) [b']:=by
     have hk2:(⟨x.p,2⟩:It).key=n.p.key:=hx2;have hins:=aWk hs (i:=⟨x.p,2⟩) (x:=x) (by rw[hk2];exact hg);rw[hk2] at hins;have hlen:(pS L ⟨x.p,2⟩).length=L.length:=by
      rw[←hins];simp only[jM,lU,iU,jC];omega
     refine⟨It.rows _,.inr ⟨b',cap,_,by rw[hv4,iL,hlen],rfl,hb5,by rw[iL,hlen];exact hle4,hcm4,by simpa using hcs4,?_⟩⟩;rw[iL,hlen]
     -- the cells
     have e0:(L.map It.cells).flatten.set ((pA L n.p.key).length*5+4) (.int .i64 2)=((pS L ⟨x.p,2⟩).map It.cells).flatten:=by
      rw[←hins];exact aSw hlt hat 2
     rw[←e0,←htk4,Array.toList_setIfInBounds,iZ,List.take_set]
    have na5:a∉[b']:=by simpa using nab
    refine lC bZ.und rfl ha5 (by simp) (by rw[hv4];rfl) bZ.info bZ.size ?_;have u7:cX [a] h5 (h5.set a (.cells (#[v,.int .i64 room].setIfInBounds 0 v4) dE (0,0))):=cX.set (by simp);have ha7:(h5.set a (.cells (#[v,.int .i64 room].setIfInBounds 0 v4) dE (0,0))) a=some (.cells #[v4,.int .i64 room] dE (0,0)):=eN;generalize h5.set a (.cells (#[v,.int .i64 room].setIfInBounds 0 v4) dE (0,0))=h7 at *;unfold kY nH;have fb:h2 b'=none:=fresh4 b' (by rw[hF4];simp);have E5:dA h2 h5:=E4.fresh u5 (eD.one fb);refine fin eL eE (F':=[a,b']) ⟨⟨v4,[b'],ha7,hO5.upd u7 (λb hb=>by simp at hb;subst hb;simpa using Ne.symm nab),rfl,na5⟩,hs.ins _⟩ ?_ ?_
    ·exact cX.then (dA.upd E5) u7 (λb hb=>by left;simp at hb;simp[hb])
    ·intro b hb;simp only[iW,zLg,or_false] at hb;rcases hb with rfl|rfl
     ·left;simp
     ·right;exact fb
  ·have d1:(n.k==1)=false:=by simp;omega
   have d2:(n.k==2)=false:=by simp;omega
   have d3:((2:Int)<n.k)=True:=by apply eq_true;omega
   have n1:¬n.k=1:=by omega
   have n2:¬n.k=2:=by omega
   have eL:qJ L room n=rI L n.p.key:=by unfold qJ;rw[if_neg hrt,if_neg n1,if_neg n2]
   have eE:uA L room n=0:=by unfold uA;rw[if_neg hrt,if_neg n1,if_neg n2]
   cases hg:iJ L n.p.key with
   | none=>
    simp only[cL.f0,cL.f1,aR.load,c0,d1,d2,d3,zLv,cC,reduceIte];unfold kY nH;rw[aJb hg] at eL;exact fin eL eE H2 cX.refl (λb hb=>.inl hb)
   | some x=>
    have hx15:∀X:Prop,X->X:=λ_ x=>x;simp only[cL.f0,cL.f1,aR.load,c0,d1,d2,d3,aNr,aIe,aIo,iO,gA,aNi,aNd,aNg,aN7,aNm,aJG,aJe,aPI,decide_true];exact aUe H2 hL hg λh' F' H' u f=>by
     unfold kY nH;exact fin eL eE H' u f
def oC(l:List It):List It:=l.foldl pS []
def aPQ(l:List It)(x:It):oC (l++[x])=pS (oC l) x:=by unfold oC;rw[List.foldl_append];rfl
def aHu(l:List It):mM (oC l):=by
 unfold oC;have:∀(l:List It) (L:List It),mM L->mM (l.foldl pS L):=by
  intro l;induction l with
  | nil=>intro L h;exact h
  | cons x l ih=>intro L h;exact ih _ (h.ins x)
 exact this l [] List.Pairwise.nil
def aW3(L:List It)(i:It)(k:Ky):k∈(pS L i).map It.key↔k=i.key∨k∈L.map It.key:=by
 rw[((aGK L i).map It.key).mem_iff,iG,iW];constructor
 ·rintro(h|h)
  ·exact .inl h
  ·obtain⟨x,hx,rfl⟩:=pQ.1 h;unfold rI at hx;exact .inr (zL3 (zLY.1 hx).1)
 ·rintro(h|h)
  ·exact .inl h
  ·obtain⟨x,hx,rfl⟩:=pQ.1 h;by_cases e:x.key=i.key
   ·exact .inl e
   ·right;unfold rI;exact zL3 (zLY.2 ⟨hx,by simpa using e⟩)
def aRE(l:List It)(k:Ky):k∈(oC l).map It.key↔k∈l.map It.key:=by
 unfold oC;have:∀(l L:List It),k∈(l.foldl pS L).map It.key↔(k∈l.map It.key∨k∈L.map It.key):=by
  intro l;induction l with
  | nil=>intro L;simp
  | cons x l ih=>
   intro L;rw[zLt,ih,aW3,iG,iW];constructor
   ·rintro(h|h|h)
    ·exact .inl (.inr h)
    ·exact .inl (.inl h)
    ·exact .inr h
   ·rintro((h|h)|h)
    ·exact .inr (.inl h)
    ·exact .inl h
    ·exact .inr (.inr h)
 rw[this];simp
def aRT(l:List It)(k:Ky):(iJ (oC l) k).isSome=decide (k∈l.map It.key):=by
 cases h:iJ (oC l) k with
 | some x=>
  obtain⟨h1,h2⟩:=aAt h;have:k∈l.map It.key:=(aRE l k).1 (by rw[←h2];exact zL3 h1);simp only[aNr];exact(decide_eq_true this).symm
 | none=>
  have:k∉l.map It.key:=λhm=>by
   obtain⟨x,hx,e⟩:=pQ.1 ((aRE l k).2 hm);exact aBe.1 h x hx e
  simp only[zLv];exact(decide_eq_false this).symm
def aNJ{l:List It}{x:It}:((l++[x]).map It.key).Nodup↔(l.map It.key).Nodup∧x.key∉l.map It.key:=by
 rw[xJ,List.nodup_append];simp only[iG,jB,aF7,zLg,not_false_eq_true,List.nodup_nil,and_self,true_and,iC];constructor
 ·rintro⟨h1,h2⟩;exact⟨h1,λhm=>h2 _ hm _ rfl rfl⟩
 ·rintro⟨h1,h2⟩;refine⟨h1,?_⟩;rintro a ha b rfl rfl;exact h2 ha
def aWL{L:List It}(hs:mM L):oC L=L:=by
 have hp:∀(l L:List It),(L.map It.key++l.map It.key).Nodup->(l.foldl pS L).Perm (L++l):=by
  intro l;induction l with
  | nil=>intro L _;simp
  | cons x l ih=>
   intro L hn;rw[iG] at hn;have hx:x.key∉L.map It.key:=λhm=>by
    rw[List.nodup_append] at hn;exact hn.2.2 _ hm _ (by simp) rfl
   have hg:iJ L x.key=none:=aBe.2 λy hy e=>hx (by rw[←e];exact zL3 hy);have h3:=aGK L x;rw[aJb hg] at h3;rw[zLt];refine(ih (pS L x) ?_).trans ((h3.append_right l).trans List.perm_middle.symm);refine(((h3.map It.key).append_right (l.map It.key)).nodup_iff).2 ?_;rw[iG,zLT];exact(List.perm_middle.nodup_iff).1 hn
 exact mM.unique (aHu L) hs (hp L [] (by simpa using hs.nodup))
def aPu{L:List It}(hs:mM L)(i:It):(pS L i).length≤L.length+1:=by
 rw[aHK hs];split<;>omega
def aHy(l:List It):(oC l).length≤l.length:=by
 unfold oC;have:∀(l L:List It),mM L->(l.foldl pS L).length≤L.length+l.length:=by
  intro l;induction l with
  | nil=>intro L _;simp
  | cons x l ih=>
   intro L hs;rw[zLt];have h1:=ih _ (hs.ins x);have h2:=aPu hs x;simp only[iU];omega
 simpa using this l [] List.Pairwise.nil
def nN(room:Int)(l:List It):Int:=
 if room<1∨40<room then 1 else if l.all It.right=false then 1 else if ¬(l.map It.key).Nodup then 4 else if room<l.length then 2 else 0
def aV1{h:PH}{room:Int}{x:Value}{l:List It}(hx:iH h 5 x (l.map It.cells))(hl:l.length≤1000){k:cE}
  (hbad:∀h',dA h h'->nN room l≠0->k (.tuple #[.pointer none,.int .i64 (nN room l)]) h')
  (hk:∀a h' F,nN room l=0->TAt h' a (oC l) room F->eD h F->dA h h'->k (.tuple #[pT a 0,.int .i64 0]) h'):bT PG aGU #[.int .i64 room,x] h k:=by
 have lx:=hx.len (t':=aR) bZ.und;rw[iL] at lx;apply aF5.call;unfold aF5;have z1:((1:Int) !=0)=true:=by decide
 have z0:((0:Int) !=0)=false:=by decide
 refine aXg room (λhb=>?_) λg1 g2 a h1 F H1 f1 u1=>?_
 ·have e:nN room l=1:=by unfold nN;rw[if_pos hb]
  simp only[z1,cC,reduceIte];have:=hbad h cX.refl (by rw[e];decide);rw[e] at this;exact this
 have hroom:¬(room<1∨40<room):=by omega
 simp only[z0,lx,cC,reduceIte];refine⟨λvs h'=>∃(i:Nat) (tw:Bool),i≤l.length∧vs=[.int .i64 room,x,pT a 0,.bool tw,x,.int .i64 l.length,.int .i64 i]∧TAt h' a (oC (l.take i)) room F∧dA h h'∧(l.take i).all It.right=true∧tw=!decide (((l.take i).map It.key).Nodup),fT l.length 6,
  ⟨0,false,by omega,rfl,H1,u1,by simp,by simp⟩,?_⟩
 rintro ρ h' ⟨i,tw,hi,hvs,HT,w,har,htw⟩;simp only[iG,jB,kZ,and_true] at hvs;obtain⟨e0,e1,e2,e3,e4,e5,e6⟩:=hvs;rw[e0,e1,e2,e3,e4,e5,e6];unfold aLv;by_cases hlt:i<l.length
 ·have hd:((i:Int)<(l.length:Int))=True:=by apply eq_true;omega
  obtain⟨m,hm⟩:∃m,l[i]? =some m:=⟨_,kF hlt⟩;obtain⟨y,y1,y2⟩:=(hx.ext w).it (k:=.i64) hm;have htake:l.take (i+1)=l.take i++[m]:=by rw[zLR,hm];rfl
  have ei:=nR (i:=i) (by omega);simp only[hd,y1,y2,cC,reduceIte];intro r hr
  try rw[cR]
  refine aIC hr m λh2 b2 u2=>?_;have w2:=w.trans u2;have c4:cV h2 ⟨r,0+4,none⟩=some (.int .i64 m.g):=b2.cell 4;have p2:=b2.pk (o:=0) (p:=m.p) rfl;have bad:m.right=false->nN room l=1:=λhmr=>by
   unfold nN;rw[if_neg hroom,if_pos];rw[List.all_eq_false];exact⟨m,zX hm,by simp[hmr]⟩
  have fail:∀h3,dA h h3->m.right=false->k (.tuple #[.pointer none,.int .i64 1]) h3:=λh3 w3 hmr=>by
   have e:=bad hmr;have:=hbad h3 w3 (by rw[e];decide);rw[e] at this;exact this
  have hcase:(m.g≠1∧m.g≠2)∨(m.g=1∨m.g=2):=by omega
  rcases hcase with⟨n1,n2⟩|hgg
  ·have e1:(m.g !=1)=true:=by simp[n1]
   have e2:(m.g !=2)=true:=by simp[n2]
   have hmr:m.right=false:=by unfold It.right;simp[n1,n2]
   simp only[cF.f1,aR.load,c4,e1,e2,cC,reduceIte];exact fail h2 w2 hmr
  have z11:((1:Int) !=1)=false:=by decide
  have z21:((2:Int) !=1)=true:=by decide
  have z22:((2:Int) !=2)=false:=by decide
  have hmr:m.right=m.p.right:=by unfold It.right;rcases hgg with h|h<;>simp[h]
  rcases hgg with hg|hg<;>rw[hg] at c4<;>simp only[cF.f0,cF.f1,aR.load,c4,z11,z21,z22,p2,cC,reduceIte]<;>refine aJn m.p λh3 u3=>?_
  all_goals
   cases hpr:m.p.right with
   | false=>
    simp only[zLs,if_false,z1,cC,reduceIte];exact fail h3 (w2.trans u3) (by rw[hmr];exact hpr)
   | true=>
    have b3:=b2.ext u3;have c0:cV h3 ⟨r,0,none⟩=some (.int .i64 m.p.f):=b3.cell 0;have c1:cV h3 ⟨r,0+1,none⟩=some (.int .u64 m.p.s):=b3.cell 1;simp only[if_true,z0,cF.f0,bX.f0,bX.f1,aR.load,cJ.load,c0,c1,aLJ,cC,reduceIte];intro r5 hr5
    try rw[cR]
    refine aGm eN fQ.info (by show 2=2;rfl) (by show 0<2;decide) (by rw[fQ.zc];rfl) (by simp[fL,Pk.key]) ?_;rw[aDH];have u5:dA h3 (h3.set r5 (.cells #[.int .i64 m.p.key.1,.int .u64 m.p.key.2] fQ (0,0))):=cX.new hr5;have b5:Bx (h3.set r5 (.cells #[.int .i64 m.p.key.1,.int .u64 m.p.key.2] fQ (0,0))) r5 [.int .i64 m.p.key.1,.int .u64 m.p.key.2]:=⟨_,eN⟩;generalize h3.set r5 (.cells #[.int .i64 m.p.key.1,.int .u64 m.p.key.2] fQ (0,0))=h5 at *;have U5:=(u2.trans u3).trans u5;have H5:=HT.ext U5;have hs:=HT.srt;obtain⟨mm,ll,ha,hmm,hp,hF,ham⟩:=H5.here;have hgl:=λk=>aIZ hp hs.nodup k;have cm:cV h5 ⟨a,0,none⟩=some (.map (some mm)):=by simp[cV,ha]
    simp only[gK.f0,dO.load,cm,b5.id,aLU hmm,hgl,cC,reduceIte];intro r7 hr7
    try rw[cR]
    refine aIC hr7 _ λh7 b7 u7=>?_;have ha7:=u7.get ha;have hm7:=oU.ext hmm u7;have b57:=b5.ext u7;have b37:=(b3.ext u5).ext u7;have cm7:cV h7 ⟨a,0,none⟩=some (.map (some mm)):=by simp[cV,ha7]
    have hgt:(iJ (oC (l.take i)) m.p.key).isSome=decide (m.key∈(l.take i).map It.key):=aRT (l.take i) m.p.key;have hn:= @aNJ (l.take i) m;have hFf:eD h F:=f1;have rest:∀(K:cE),(∀h9,TAt h9 a (oC (l.take (i+1))) room F->dA h h9->K undef h9)->cN PG (aJM dO (.map (some mm)) (sL m.p.key) m.val) h7 K:=λK hK=>by
     refine aQ7 aMs dO.und hm7 m.key m.val λh9 hm9 u9=>?_;obtain⟨l',q1,q2⟩:=aPT hp hs m;rw[q1] at hm9;refine hK h9 ⟨⟨mm,l',u9.get ha7 (by simpa using ham),hm9,by rw[htake,aPQ];exact q2,hF,ham⟩,aHu _⟩ ?_;exact((w.trans U5).trans u7).fresh u9 (eD.one (hFf mm (by rw[hF];simp)))
    have hall:(l.take (i+1)).all It.right=true:=by rw[htake,List.all_append,har];simp[hmr,hpr]
    cases tw with
    | true=>
     simp only[gK.f0,dO.load,cm7,b57.id,b37.it,cC,reduceIte];refine rest _ λh9 H9 w9=>?_;simp only[ei,cC,reduceIte];have hnd:¬((l.take i).map It.key).Nodup:=by intro h;rw[decide_eq_true h] at htw;cases htw
     exact⟨⟨i+1,true,by omega,rfl,H9,w9,hall,by rw[htake,decide_eq_false (λh=>hnd (hn.1 h).1)];rfl⟩,by simp[fT,e6];omega⟩
    | false=>
     have hnd:((l.take i).map It.key).Nodup:=by
      have:decide (((l.take i).map It.key).Nodup)=true:=by simpa using htw.symm
      exact of_decide_eq_true this
     simp only[gK.f0,dO.load,cm7,b57.id,b37.it,cC,reduceIte];refine rest _ λh9 H9 w9=>?_;simp only[ei,cC,reduceIte];refine⟨⟨i+1,(iJ (oC (l.take i)) m.p.key).isSome,by omega,rfl,H9,w9,hall,?_⟩,by simp[fT,e6];omega⟩;rw[hgt,htake];by_cases h2:m.key∈(l.take i).map It.key
     ·rw[decide_eq_true h2,decide_eq_false (λh=>(hn.1 h).2 h2)];rfl
     ·rw[decide_eq_false h2,decide_eq_true (hn.2 ⟨hnd,h2⟩)];rfl
 ·have hil:i=l.length:=by omega
  have hd:((i:Int)<(l.length:Int))=False:=by apply eq_false;omega
  rw[hil,zLJ] at HT har htw;have har':¬l.all It.right=false:=by rw[har];simp
  simp only[hd,lx,cC,reduceIte];cases tw with
  | true=>
   have hnd:¬(l.map It.key).Nodup:=by intro h;rw[decide_eq_true h] at htw;cases htw
   have e:nN room l=4:=by unfold nN;rw[if_neg hroom,if_neg har',if_pos hnd]
   simp only[cC,reduceIte];have:=hbad h' w (by rw[e];decide);rw[e] at this;exact this
  | false=>
   have hnd:(l.map It.key).Nodup:=by
    have:decide ((l.map It.key).Nodup)=true:=by simpa using htw.symm
    exact of_decide_eq_true this
   by_cases hfull:room<(l.length:Int)
   ·have e:nN room l=2:=by unfold nN;rw[if_neg hroom,if_neg har',if_neg (λh=>h hnd),if_pos hfull]
    simp only[hfull,cC,reduceIte];have:=hbad h' w (by rw[e];decide);rw[e] at this;exact this
   ·have e:nN room l=0:=by unfold nN;rw[if_neg hroom,if_neg har',if_neg (λh=>h hnd),if_neg hfull]
    simp only[hfull,cC,reduceIte];exact hk a h' F e HT f1 w
def aVD{h:PH}{x y:Value}{xs ys:List It}(hx:jT h x xs)(hy:jT h y ys)(hl:xs.length≤1000000){k:cE}(hk:k (.bool (decide (xs=ys))) h):bT PG pO #[x,y] h k:=by
 apply kO.call;unfold kO;have lx:=It.len hx;have ly:=It.len hy;by_cases hle:xs.length=ys.length
 ·have q:((xs.length:Int) !=(ys.length:Int))=false:=by simp[hle]
  simp only[lx,ly,eI,q,cC,reduceIte];refine⟨λvs h'=>∃i:Nat,i≤xs.length∧vs=[x,y,.int .i64 (xs.length:Int),.int .i64 (i:Int)]∧h'=h∧xs.take i=ys.take i,fT xs.length 3,⟨0,by omega,rfl,rfl,by simp⟩,?_⟩;rintro ρ h' ⟨i,hi,hvs,rfl,ht⟩;simp only[iG,jB,kZ,and_true] at hvs;obtain⟨v0,v1,v12,v13⟩:=hvs;simp only[v0,v1,v12,v13,iG,jB];unfold vK;by_cases hlt:i<xs.length
  ·have g1:((i:Int)<(xs.length:Int))=True:=eq_true (by omega);have gi:=nR (i:=i) (by omega);have e1:xs[i]? =some xs[i]:=kF hlt;have hlt2:i<ys.length:=by omega
   have e2:ys[i]? =some ys[i]:=kF hlt2;obtain⟨a1,p1,q1⟩:=hx.wItem e1;obtain⟨a2,p2,q2⟩:=hy.wItem e2;have t1:xs.take (i+1)=xs.take i++[xs[i]]:=zL7 hlt;have t2:ys.take (i+1)=ys.take i++[ys[i]]:=zL7 hlt2;have hn:=It.neq (h:=h') (x:=.tmp 19) (y:=.tmp 23) xs[i] ys[i];unfold It.val at hn;simp only[g1,p1,q1,p2,q2,hn,cC,reduceIte];by_cases he:xs[i]=ys[i]
   ·simp only[he,decide_true,gi,cC,reduceIte,cI,Nat.reduceAdd];refine⟨⟨i+1,by omega,rfl,(by trivial),by rw[t1,t2,ht,he]⟩,?_⟩;simp only[fT,zLL,zLK];omega
   ·have hne:¬xs=ys:=λe=>he (by subst e;rfl);simp only[he,decide_false,cC,reduceIte,cI,Nat.reduceAdd];simpa[hne] using hk
  ·have g1:((i:Int)<(xs.length:Int))=False:=eq_false (by omega);rw[sK (by omega),sK (by omega)] at ht;simp only[g1,cC,reduceIte];simpa[ht] using hk
 ·have q:((xs.length:Int) !=(ys.length:Int))=true:=by rw[bne_iff_ne];omega
  have hne:¬xs=ys:=λe=>hle (by rw[e]);simp only[lx,ly,eI,q,cC,reduceIte];simpa[hne] using hk
def It.b0:kC PG (buildSlice bZ 0 #[])=some (.cells #[] cF,λr=>pure (.slice (some ⟨r,0,none⟩) 0 0)):=by kernel_rfl
def aO0{h:PH}{v:Value}{l:List It}(S:jT h v l)(hl:l.length≤1000000){k:cE}(hk:∀v' h',jT h' v' l->iQ h v'->dA h h'->k v' h'):bT PG mH #[v] h k:=by
 apply nL.call;unfold nL;have hS:=S;obtain⟨va,c,hv,hc1,hc2,hc3,-⟩:=S.here;rw[iL] at hv;subst hv;cases va with
 | none=>
  have hnil:l.map It.cells=[]:=by
   by_cases h0:l.map It.cells=[]
   ·exact h0
   ·obtain⟨b,o,cs,e,fr,e1,_⟩:=hc3 h0;cases e1
  have hl0:l=[]:=List.map_eq_nil_iff.1 hnil;subst hl0;simp only[aTn bZ.und,Option.isNone_none,cC,reduceIte];exact hk _ _ aDq iQ.nil cX.refl
 | some va=>
  simp only[aTn bZ.und,aLC,It.b0,cC,reduceIte];intro r hr;refine iB ?_
  try rw[cR]
  have u1:dA h (h.set r (.cells #[] cF)):=cX.new hr;have O1:eH (h.set r (.cells #[] cF)) cF 5 (.slice (some ⟨r,0,none⟩) 0 0) (([]:List It).map It.cells) [r]:=eH.lit (n:=0) (It.rows []) eN (by simp) (by decide) rfl;generalize h.set r (.cells #[] cF)=h1 at *;refine lV bZ.und bZ.und cF.info cF.size cF.bytes cF.zero rfl (by decide) O1 (hS.ext u1) (It.isC l) (by simp;omega) ?_;intro v2 h2 F2 O2 u2 k2 _;rw[jB,zLU] at O2;have f2:eD h F2:=λb hb=>by
   rcases k2 b hb with h1|h1
   ·simp only[iC] at h1;subst h1;exact hr
   ·exact u1.none h1
  exact hk _ _ O2.slR (O2.newV f2) (u1.fresh u2 (eD.one hr))
def chk(d:Dm)(room:Int):Int:=
 if nN room d.its=1∨¬(jU d.p0∧jU d.p1) then 1 else if nN room d.its≠0 then nN room d.its else if oC d.its≠d.its then 15 else 0
def aUn{h:PH}(q:Pl){k:cE}(hk:∀h',dA h h'->k (.bool (!decide (jU q))) h'):bT PG tA #[.agg q.cells.toArray] h k:=by
 apply aDJ.call;unfold aDJ;intro r hr
 try rw[cR]
 have u1:dA h (h.set r (.cells (Value.cells (.agg q.cells.toArray)) cG)):=cX.new hr;have B1:Bx (h.set r (.cells (Value.cells (.agg q.cells.toArray)) cG)) r q.cells:=Bx.new;generalize h.set r (.cells (Value.cells (.agg q.cells.toArray)) cG)=h1 at *;have hk:=hk _ u1;simp only[cG.f1,aR.load,B1.cell,Pl.cells,cC,reduceIte,cI,Nat.reduceAdd];by_cases h1':q.i<0
 ·have:¬jU q:=λh=>by have:=h.1;omega
  simp only[this,decide_false,Bool.not_false] at hk;simp only[h1',cC,reduceIte,cI,Nat.reduceAdd];exact hk
 ·by_cases h2':65535<q.i
  ·have:¬jU q:=λh=>by have:=h.2;omega
   simp only[this,decide_false,Bool.not_false] at hk;simp only[h1',h2',aR.load,B1.cell,Pl.cells,cC,reduceIte,cI,Nat.reduceAdd];exact hk
  ·have:jU q:=⟨by omega,by omega⟩;simp only[this,decide_true,Bool.not_true] at hk;simp only[h1',h2',aR.load,B1.cell,Pl.cells,cC,reduceIte,cI,Nat.reduceAdd];exact hk
def aYA{r o:Nat}:cB PG (Instr.sliceAt cU (pT r o) none none none)=some (.slice (some ⟨r,o,none⟩) 2 2):=by kernel_rfl
def Pl.rows(l:List Pl):Rows 2 (l.map Pl.cells):=λr hr=>by obtain⟨m,_,rfl⟩:=pQ.1 hr;rfl
def aMf{h:PH}{v:Value}{l:List Pl}(S:iH h 2 v (l.map Pl.cells))(hl:l.length≤100){k:cE}(hk:∀h',dA h h'->k (.bool (l.any λq=>!decide (jU q))) h'):bT PG mG #[v,.func (.func tA) #[] #[]] h k:=by
 apply lK.call;unfold lK;apply lR.call;unfold lR;have lv:=S.len (t':=aR) yH.und;rw[iL] at lv;simp only[lv,cC,reduceIte];refine⟨λvs h'=>∃i:Nat,i≤l.length∧vs=[v,.func (.func tA) #[] #[],.int .i64 (l.length:Int),.int .i64 (i:Int)]∧dA h h'∧∀q∈l.take i,jU q,fT l.length 3,⟨0,by omega,rfl,cX.refl,by simp⟩,?_⟩;rintro ρ h' ⟨i,hi,hvs,u,hq⟩;simp only[iG,jB,kZ,and_true] at hvs;obtain⟨v0,v1,v7,v8⟩:=hvs;simp only[v0,v1,v7,v8,iG,jB];unfold sD;by_cases hlt:i<l.length
 ·have g1:((i:Int)<(l.length:Int))=True:=eq_true (by omega);have gi:=nR (i:=i) (by omega);have g0:((0:Int)≤(i:Int))=True:=eq_true (by omega);have e1:l[i]? =some l[i]:=kF hlt;have hmem:l[i]∈l:=aHO hlt;have t1:l.take (i+1)=l.take i++[l[i]]:=zL7 hlt;obtain⟨a,p1,q1⟩:=(S.ext u).loadAgg (k:=.i64) (j:=(i:Int)) (r:=(l[i]).cells) yH.und cG.info cG.size cG.und rfl (by omega) (by rw[xK,wG,e1];rfl);generalize l[i]=q at *;simp only[g1,p1,q1,cC,reduceIte];show bT PG tA #[.agg q.cells.toArray] h' _;refine aUn q λh2 u2=>?_;by_cases hok:jU q
  ·simp only[hok,decide_true,gi,cC,reduceIte,cI,Nat.reduceAdd];refine⟨⟨i+1,by omega,rfl,u.trans u2,λy hy=>?_⟩,?_⟩
   ·rw[t1,tK,iC] at hy;rcases hy with hy|rfl
    ·exact hq y hy
    ·exact hok
   ·simp only[fT,zLL,zLK];omega
  ·have:(l.any λq=>!decide (jU q))=true:=List.any_eq_true.2 ⟨q,hmem,by simp[hok]⟩;rw[this] at hk;simp only[hok,decide_false,g0,cC,reduceIte,cI,Nat.reduceAdd];exact hk _ (u.trans u2)
 ·have g1:((i:Int)<(l.length:Int))=False:=eq_false (by omega);rw[sK (by omega)] at hq;have:(l.any λq=>!decide (jU q))=false:=by
   rw[List.any_eq_false];intro q hm;simp[hq q hm]
  rw[this] at hk;simp only[g1,show((0:Int)≤ -1)=False from eq_false (by decide),cC,reduceIte];exact hk _ u
def aJa{h:PH}{d:Dm}{v:Value}{room:Int}(V:jT h v d.its)(hl:d.its.length≤1000){k:cE}(hk:∀h',dA h h'->k (.int .i64 (chk d room)) h'):bT PG wJ #[d.v v,.int .i64 room] h k:=by
 apply aBa.call;unfold aBa;intro r hr
 try rw[cR]
 have u1:dA h (h.set r (.cells (Value.cells (d.v v)) bR)):=cX.new hr;have B1:Bx (h.set r (.cells (Value.cells (d.v v)) bR)) r (d.cells v):=Bx.new;generalize h.set r (.cells (Value.cells (d.v v)) bR)=h1 at *;simp only[bR.f1,bR.f0,bZ.load,B1.cell,Dm.cells,aYA,cC,reduceIte,cI,Nat.reduceAdd];have places:∀{h2:PH},dA h1 h2->iH h2 2 (.slice (some ⟨r,0,none⟩) 2 2) ([d.p0,d.p1].map Pl.cells):=by
  intro h2 u2;obtain⟨e,hb⟩:=B1.ext u2;exact⟨Pl.rows _,_,2,rfl,by simp,by decide,λ_=>⟨r,0,_,e,(0,0),rfl,hb,by simp[Dm.cells],by simp[Dm.cells,Pl.cells]⟩,trivial⟩
 have hany:([d.p0,d.p1].any λq=>!decide (jU q))=!decide (jU d.p0∧jU d.p1):=by
  by_cases a:jU d.p0<;>by_cases b:jU d.p1<;>simp[a,b]
 refine aV1 (V.ext u1) hl (λh2 u2 hne=>?_) (λa h2 F h0 H2 f2 u2=>?_)
 ·simp only[cC,reduceIte];refine aMf (places u2) (by simp) λh3 u3=>?_;rw[hany];have u:=(u1.trans u2).trans u3;have hk:=hk _ u;unfold chk at hk;by_cases e1:nN room d.its=1
  ·rw[if_pos (.inl e1)] at hk;simp only[e1,gA,cC,reduceIte,cI,Nat.reduceAdd];exact hk
  ·have q:(nN room d.its==1)=false:=by simp[e1]
   by_cases hp:jU d.p0∧jU d.p1
   ·rw[if_neg (by simp[e1,hp]),if_pos hne] at hk;have q0:(nN room d.its !=0)=true:=by simp[hne]
    simp only[q,q0,hp,gA,eI,decide_true,cC,reduceIte,cI,Nat.reduceAdd];exact hk
   ·rw[if_pos (.inr hp)] at hk;simp only[q,hp,gA,decide_false,cC,reduceIte,cI,Nat.reduceAdd];exact hk
 ·simp only[cC,reduceIte];refine aMf (places u2) (by simp) λh3 u3=>?_;rw[hany];have u:=(u1.trans u2).trans u3;have B3:=(B1.ext u2).ext u3;by_cases hp:jU d.p0∧jU d.p1
  ·simp only[hp,gA,eI,decide_true,show((0:Int)==1)=false from rfl,bR.f1,bZ.load,B3.cell,Dm.cells,cC,reduceIte,cI,Nat.reduceAdd];refine aP0 (H2.ext u3) (by have:=aHy d.its;omega) λv2 h4 G O4 f4 u4=>?_;have B4:=B3.ext u4;refine⟨by simp only[bZ.load,B4.cell,Dm.cells,cC,reduceIte,cI,Nat.reduceAdd],?_⟩;refine aVD O4.slR (V.ext (u.trans u4)) (by have:=aHy d.its;omega) ?_;have hk:=hk _ (u.trans u4);unfold chk at hk;rw[if_neg (by simp[h0,hp]),if_neg (by simp[h0])] at hk;by_cases he:oC d.its=d.its
   ·rw[if_neg (by simp[he])] at hk;simp only[he,decide_true,cC,reduceIte,cI,Nat.reduceAdd];exact hk
   ·rw[if_pos he] at hk;simp only[he,decide_false,cC,reduceIte,cI,Nat.reduceAdd];exact hk
  ·have hk:=hk _ u;unfold chk at hk;rw[if_pos (.inr hp)] at hk;simp only[hp,gA,decide_false,show((0:Int)==1)=false from rfl,cC,reduceIte,cI,Nat.reduceAdd];exact hk
def mB(room:Int):List It->List Nt->List It×Int
 | L,[]=>(L,0)
 | L,n::ns=>if uA L room n≠0 then(qJ L room n,uA L room n) else mB room (qJ L room n) ns
def aPp{L:List It}(hs:mM L)(room:Int)(n:Nt):(qJ L room n).length≤L.length+1:=by
 have hp:∀i:It,(sJ L room i).length≤L.length+1:=λi=>by
  unfold sJ;split
  ·omega
  ·exact aPu hs i
 unfold qJ;split
 ·omega
 ·split
  ·split
   ·omega
   ·exact hp _
  ·split
   ·split
    ·exact aPu hs _
    ·exact hp _
   ·have:=aRJ L n.p.key;omega
def aP9(room:Int):∀{L:List It},mM L->∀l:List Nt,(mB room L l).1.length≤L.length+l.length
 | L,hs,[]=>by simp[mB]
 | L,hs,n::ns=>by
  have h1:=aPp hs room n;unfold mB;split
  ·simp only[iU];omega
  ·have h2:=aP9 room (hs.app room n) ns;simp only[iU];omega
def iH.ntb{h:PH}{v:Value}{l:List Nt}(S:wN h v l){j:Nat}{x:Nt}(hx:l[j]? =some x):
  ∃a,cB PG (indexAt cZ v (.int .i64 (j:Int)))=some (.pointer (some a))∧cD PG h (loadAt cL (.pointer (some a)))=some (.agg x.cells.toArray):=S.wNote hx
def aTb{h:PH}{a:Nat}{L:List It}{room:Int}{F:List Nat}(H:TAt h a L room F){v:Value}{l:List Nt}(S:wN h v l)(hv:l≠[]->∀x n c,v= .slice (some x) n c->x.block∉F)(hl:l.length≤1000000){k:cE}
  (hk:∀h' (n:Int),TAt h' a (mB room L l).1 room F->cX F h h'->k (.tuple #[.int .i64 n,.int .i64 (mB room L l).2]) h'):bT PG aHH #[pT a 0,v] h k:=by
 apply aHZ.call;unfold aHZ;have lv:=Nt.len S;simp only[lv,cC,reduceIte];refine⟨λvs h'=>∃(i:Nat) (L':List It),i≤l.length∧vs=[pT a 0,v,v,.int .i64 (l.length:Int),.int .i64 (i:Int)]∧TAt h' a L' room F∧cX F h h'∧mB room L l=mB room L' (l.drop i),fT l.length 4,⟨0,L,by omega,rfl,H,cX.refl,by simp⟩,?_⟩;rintro ρ h' ⟨i,L',hi,hvs,H',u,hap⟩;simp only[iG,jB,kZ,and_true] at hvs;obtain⟨v0,v1,v9,v10,v11⟩:=hvs;simp only[v0,v1,v9,v10,v11,iG,jB];unfold aKQ;by_cases hlt:i<l.length
 ·have g1:((i:Int)<(l.length:Int))=True:=eq_true (by omega);have gi:=nR (i:=i) (by omega);have e1:l[i]? =some l[i]:=kF hlt;obtain⟨pa,p1,q1⟩:=iH.ntb (iH.upd0 S u λhne=>hv (by simpa using hne)) e1;have hdrop:l.drop i=l[i]::l.drop (i+1):=aAs hlt;generalize l[i]=n at *;rw[hdrop] at hap;simp only[g1,p1,q1,cC,reduceIte];intro r hr
  try rw[cR]
  refine cL.fill hr rfl (by simp[Nt.cells,fL]) λh2 B2 u2=>?_;have l2:cD PG h2 (loadAt cL (pT r 0))=some (.agg n.cells.toArray):=cL.agg B2 (by show 0+5≤5;decide);simp only[l2,cC,reduceIte];refine aVA (H'.ext u2) n λh3 H3 u3=>?_;have u':cX F h h3:=(u.trans u2.upd).trans u3;by_cases h0:uA L' room n=0
  ·have q:(uA L' room n !=0)=false:=by simp[h0]
   simp only[mB,h0,ne_eq,not_true_eq_false,if_false] at hap;simp only[eI,h0,gi,cC,reduceIte,cI,Nat.reduceAdd];refine⟨⟨i+1,_,by omega,rfl,H3,u',hap⟩,?_⟩;simp only[fT,zLL,zLK];omega
  ·have q:(uA L' room n !=0)=true:=by simp[h0]
   simp only[mB,ne_eq,h0,not_false_eq_true,if_true] at hap;simp only[eI,q,cC,reduceIte,cI,Nat.reduceAdd];have:=hk h3 (i:Int) (by rw[hap];exact H3) u';rw[hap] at this;exact this
 ·have g1:((i:Int)<(l.length:Int))=False:=eq_false (by omega);rw[yQ (by omega)] at hap;simp only[g1,lv,cC,reduceIte];have:=hk h' (l.length:Int) (by rw[hap];exact H') u;rw[hap] at this;exact this
def lT(d:Dm)(room:Int)(r:Rc):Dm×Int:=
 if chk d room≠0 then(Dm.zero,chk d room)
 else if r.bytes.2≠0 then(Dm.zero,r.bytes.2)
 else if r.k=1 then(if chk r.s room≠0 then(Dm.zero,chk r.s room) else(r.s,0))
 else if (mB room (oC d.its) r.ns).2≠0 then(Dm.zero,(mB room (oC d.its) r.ns).2)
 else(⟨if r.ch=0 then r.pl else d.p0,if r.ch=0 then d.p1 else r.pl,(mB room (oC d.its) r.ns).1⟩,0)
def aQb{r:Rc}(h:r.bytes.2=0):r.plain=true:=by
 unfold Rc.bytes at h;cases e:r.plain with
 | true=>rfl
 | false=>rw[e] at h;cases h
def rW{r:Rc}(h:r.plain=true)(h1:¬r.k=1):r.k=2∧r.s=Dm.zero∧(r.ch=0∨r.ch=1)∧r.ns.length≤16:=by
 unfold Rc.plain at h;rw[if_neg h1] at h;split at h
 ·rename_i h2;simp only[sU,decide_eq_true_eq,aHE] at h;obtain⟨⟨⟨⟨a,b⟩,c⟩,d⟩,e⟩:=h;refine⟨h2,?_,d,e⟩;obtain⟨k,⟨p0,p1,its⟩,ch,pl,ns⟩:=r;simp only at a b c;subst a b;rw[List.length_eq_zero_iff] at c;subst c;rfl
 ·cases h
def xM{r:Rc}(h:r.plain=true)(h1:r.k=1):r.ch=0∧r.pl=Pl.zero∧r.ns=[]∧r.s.its.length≤40:=by
 unfold Rc.plain at h;rw[if_pos h1] at h;simp only[sU,decide_eq_true_eq] at h;exact⟨h.1.1.1,h.1.1.2,List.length_eq_zero_iff.1 h.1.2,h.2⟩
def Dm.load{h:PH}{r:Nat}{cs:List Value}(B:Bx h r cs){o:Nat}{d:Dm}{v:Value}(ho:(cs.drop o).take 5=d.cells v):cD PG h (loadAt bR (pT r o))=some (d.v v):=by
 have hl:o+5≤cs.length:=by
  have:((cs.drop o).take 5).length=5:=by rw[ho];rfl
  rw[lU,jC] at this;omega
 rw[bR.agg B hl,ho];rfl
def aQo{h:PH}{d:Dm}{v:Value}{room:Int}{r:Rc}{vi vn:Value}(V:jT h v d.its)(VI:jT h vi r.s.its)(VN:wN h vn r.ns)(wf:r.wf)(hl:d.its.length≤1000){k:cE}
  (hk:∀h' v',jT h' v' (lT d room r).1.its->iQ h v'->dA h h'->k (.tuple #[(lT d room r).1.v v',.int .i64 (lT d room r).2]) h'):bT PG aDb #[d.v v,.int .i64 room,r.v vi vn] h k:=by
 apply aGP.call;unfold aGP;intro r1 hr1
 try rw[cR]
 have u1:dA h (h.set r1 (.cells (Value.cells (d.v v)) bR)):=cX.new hr1;have B1:Bx (h.set r1 (.cells (Value.cells (d.v v)) bR)) r1 (d.cells v):=Bx.new;generalize h.set r1 (.cells (Value.cells (d.v v)) bR)=h1 at *;intro r3 hr3
 try rw[cR]
 have u3:dA h1 (h1.set r3 (.cells (Value.cells (r.v vi vn)) bW)):=cX.new hr3;have B3:Bx (h1.set r3 (.cells (Value.cells (r.v vi vn)) bW)) r3 (r.cells vi vn):=Bx.new;have B13:=B1.ext u3;have n13:r1≠r3:=B1.apart hr3;generalize h1.set r3 (.cells (Value.cells (r.v vi vn)) bW)=h3 at *;intro r5 hr5
 try rw[cR]
 have u5:dA h3 (h3.set r5 (.cells (dJ PG bR) bR)):=cX.new hr5;have Z:=bR.zbox (h:=h3) (r:=r5);have B15:=B13.ext u5;have B35:=B3.ext u5;have n15:r1≠r5:=B13.apart hr5;have n35:r3≠r5:=B3.apart hr5;generalize h3.set r5 (.cells (dJ PG bR) bR)=h5 at *;have e5:=(u1.trans u3).trans u5;have f1:eD h [r1]:=eD.one hr1;have f3:eD h [r3]:=eD.one (u1.none hr3);have f5:eD h [r5]:=eD.one ((u1.trans u3).none hr5);have K1:h5 r1≠none:=B15.known;have K3:h5 r3≠none:=B35.known;have K5:h5 r5≠none:=Z.known
 -- an error's answer
 have bad:∀{h':PH} {e:Int},dA h5 h'->lT d room r=(Dm.zero,e)->cN PG (cP bR (pT r5 0) (Dm.v Dm.zero (.slice none 0 0))) h' λv12 h13=>bY (cD PG h13 (loadAt bR (pT r5 0))) λv14=>k (.tuple #[v14,.int .i64 e]) h13:=by
  intro h' e u hs;refine bR.put (Z.ext u) rfl (by show 0+5≤5;decide) (Dm.isC _ rfl) λh2 B2 u2=>?_;simp only[Dm.load (o:=0) (d:=Dm.zero) (v:=.slice none 0 0) B2 rfl,cC,reduceIte];rw[hs] at hk;exact hk h2 _ aDq iQ.nil ((e5.trans u).fresh u2 f5)
 have hdef:lT d room r=if chk d room≠0 then(Dm.zero,chk d room) else if r.bytes.2≠0 then(Dm.zero,r.bytes.2) else if r.k=1 then(if chk r.s room≠0 then(Dm.zero,chk r.s room) else(r.s,0)) else if (mB room (oC d.its) r.ns).2≠0 then(Dm.zero,(mB room (oC d.its) r.ns).2) else(⟨if r.ch=0 then r.pl else d.p0,if r.ch=0 then d.p1 else r.pl,(mB room (oC d.its) r.ns).1⟩,0):=rfl
 simp only[Dm.load (o:=0) (d:=d) (v:=v) B15 rfl,cC,reduceIte];refine aJa (V.ext e5) hl λh6 u6=>?_;by_cases c0:chk d room=0
 ·rw[if_neg (by simp[c0])] at hdef;have lr:cD PG h6 (loadAt bW (pT r3 0))=some (r.v vi vn):=bW.agg (B35.ext u6) (by show 0+10≤10;decide);simp only[c0,eI,lr,cC,reduceIte,cI,Nat.reduceAdd];refine aMJ (VI.ext (e5.trans u6)) (VN.ext (e5.trans u6)) wf λh7 u7=>?_;have e57:=u6.trans u7;by_cases c1:r.bytes.2=0
  ·rw[if_neg (by simp[c1])] at hdef;have hp:=aQb c1;simp only[c1,eI,bW.f0,aR.load,(B35.ext e57).cell,Rc.cells,gA,cC,reduceIte,cI,Nat.reduceAdd];by_cases k1:r.k=1
   ·rw[if_pos k1] at hdef;obtain⟨q0,q1,q2,q40⟩:=xM hp k1;have q:(r.k==1)=true:=by simp[k1]
    simp only[q,bW.f1,Dm.load (o:=1) (d:=r.s) (v:=vi) (B35.ext e57) rfl,cC,reduceIte,cI,Nat.reduceAdd];refine aJa (VI.ext (e5.trans e57)) (by omega) λh8 u8=>?_;have e58:=e57.trans u8;by_cases c2:chk r.s room=0
    ·rw[if_neg (by simp[c2])] at hdef;simp only[c2,eI,bW.f1,bR.f1,bZ.load,(B35.ext e58).cell,Rc.cells,cC,reduceIte,cI,Nat.reduceAdd];refine aO0 (VI.ext (e5.trans e58)) (by omega) λv' h9 V9 nv u9=>?_;have e59:=e58.trans u9;have nv5:=nv.of e58
     try simp only[bW.f1,bR.f1,cC,reduceIte,cI,Nat.reduceAdd]
     refine bZ.put (B35.ext e59) (o:=5) (by show 5<10;decide) V9.isc λh10 B10 u10=>?_;simp only[bW.f1,Dm.load (o:=1) (d:=r.s) (v:=v') B10 rfl,cC,reduceIte,cI,Nat.reduceAdd];refine bR.put ((Z.ext e59).upd u10 (by simpa using n35.symm)) rfl (by show 0+5≤5;decide) (Dm.isC _ V9.isc) λh11 B11 u11=>?_;simp only[Dm.load (o:=0) (d:=r.s) (v:=v') B11 rfl,cC,reduceIte];rw[hdef] at hk;refine hk h11 v' ((V9.upd u10 λx n c e=>?_).upd u11 λx n c e=>?_) (nv5.of e5) (((e5.trans e59).fresh u10 f3).fresh u11 f5)
     ·simp only[iC];intro e';exact K3 (by rw[←e'];exact nv5 x n c e)
     ·simp only[iC];intro e';exact K5 (by rw[←e'];exact nv5 x n c e)
    ·rw[if_pos c2] at hdef;have q2':(chk r.s room !=0)=true:=by simp[c2]
     simp only[eI,q2',qO,cC,reduceIte,cI,Nat.reduceAdd];exact bad e58 hdef
   ·rw[if_neg k1] at hdef;obtain⟨k2,q0,q1,q16⟩:=rW hp k1;have q:(r.k==1)=false:=by simp[k1]
    simp only[q,bR.f1,bZ.load,(B15.ext e57).cell,Dm.cells,cC,reduceIte,cI,Nat.reduceAdd];have hof:nN room d.its=0:=by
     unfold chk at c0;by_cases h0:nN room d.its=0
     ·exact h0
     ·by_cases h1:nN room d.its=1∨¬(jU d.p0∧jU d.p1)
      ·rw[if_pos h1] at c0;cases c0
      ·rw[if_neg h1,if_pos h0] at c0;exact c0
    refine aV1 (V.ext (e5.trans e57)) hl (λh8 u8 hne=>absurd hof hne) (λa h8 F h0 H8 f8 u8=>?_);have e58:=e57.trans u8;simp only[bW.f4,cZ.load,(B35.ext e58).cell,Rc.cells,cC,reduceIte,cI,Nat.reduceAdd];have VN8:=VN.ext (e5.trans e58);refine aTb H8 VN8 (λhne x n c e hm=>?_) (by omega) λh9 n H9 u9=>?_
    ·exact(VN.ext (e5.trans e57)).known (by simpa using hne) e (f8 _ hm)
    ·have fF:eD h5 F:=f8.of e57;have e59:=e58.fresh u9 fF;by_cases c3:(mB room (oC d.its) r.ns).2=0
     ·rw[if_neg (by simp[c3])] at hdef;simp only[c3,eI,cC,reduceIte,cI,Nat.reduceAdd];refine aP0 H9 (by
       have a1:=aP9 room (aHu d.its) r.ns;have a2:=aHy d.its;omega) λv' h10 G O10 f10 u10=>?_
      have e510:=e59.trans u10;have nv:=(O10.newV f10).of e59
      try simp only[bR.f1,cC,reduceIte,cI,Nat.reduceAdd]
      refine bZ.put (B15.ext e510) (o:=4) (by show 4<5;decide) O10.slR.isc λh11 B11 u11=>?_;have C11:=(B35.ext e510).upd u11 (by simpa using n13.symm);have Z11:=(Z.ext e510).upd u11 (by simpa using n15.symm);have l11:cD PG h11 (loadAt cG (pT r3 7))=some (.agg r.pl.cells.toArray):=cG.agg C11 (by show 7+2≤10;decide);simp only[bW.f2,bW.f3,aR.load,C11.cell,Rc.cells,l11,bR.f0,cC,reduceIte,cI,Nat.reduceAdd];have fin:∀{d':Dm} {h12:PH},lT d room r=(d',0)->d'.its=(mB room (oC d.its) r.ns).1->Bx h12 r1 (d'.cells v')->cX [r1] h11 h12->bY (cD PG h12 (loadAt bR (pT r1 0))) λv81=>cN PG (cP bR (pT r5 0) v81) h12 λv82 h83=>bY (cD PG h83 (loadAt bR (pT r5 0))) λv84=>k (.tuple #[v84,.int .i64 0]) h83:=by
       intro d' h12 hs hi B12 u12;simp only[Dm.load (o:=0) (d:=d') (v:=v') B12 rfl,cC,reduceIte];refine bR.put (Z11.upd u12 (by simpa using n15.symm)) rfl (by show 0+5≤5;decide) (Dm.isC _ O10.slR.isc) λh13 B13' u13=>?_;simp only[Dm.load (o:=0) (d:=d') (v:=v') B13' rfl,cC,reduceIte];rw[hs] at hk;have V':jT h13 v' d'.its:=by
        rw[hi];refine((iH.upd O10.slR u11 λx n c e=>?_).upd u12 λx n c e=>?_).upd u13 λx n c e=>?_
        ·simp only[iC];intro e';exact K1 (by rw[←e'];exact nv x n c e)
        ·simp only[iC];intro e';exact K1 (by rw[←e'];exact nv x n c e)
        ·simp only[iC];intro e';exact K5 (by rw[←e'];exact nv x n c e)
       exact hk h13 v' V' (nv.of e5) ((((e5.trans e510).fresh u11 f1).fresh u12 f1).fresh u13 f5)
      rcases q1 with q1|q1
      ·have ix:=tJ (P:=PG) (t:=cU) (b:=r1) (o:=0) (k:=.i64) (j:=0) cU.und cG.info cG.size (by omega) (by omega);simp only[q1,ix,cC,reduceIte,cI,Nat.reduceAdd];refine cG.put B11 (o:=0) rfl (by show 0+2≤5;decide) (by simp[Pl.cells,fL]) λh12 B12 u12=>?_;exact fin (d':=⟨r.pl,d.p1,(mB room (oC d.its) r.ns).1⟩) (by rw[hdef,if_pos q1,if_pos q1]) rfl B12 u12
      ·have ix:=tJ (P:=PG) (t:=cU) (b:=r1) (o:=0) (k:=.i64) (j:=1) cU.und cG.info cG.size (by omega) (by omega);have hn0:¬r.ch=0:=by omega
       simp only[q1,ix,cC,reduceIte,cI,Nat.reduceAdd];refine cG.put B11 (o:=2) rfl (by show 2+2≤5;decide) (by simp[Pl.cells,fL]) λh12 B12 u12=>?_;exact fin (d':=⟨d.p0,r.pl,(mB room (oC d.its) r.ns).1⟩) (by rw[hdef,if_neg hn0,if_neg hn0]) rfl B12 u12
     ·rw[if_pos c3] at hdef;have q3:((mB room (oC d.its) r.ns).2 !=0)=true:=by simp[c3]
      simp only[eI,q3,qO,cC,reduceIte,cI,Nat.reduceAdd];exact bad e59 hdef
  ·rw[if_pos c1] at hdef;have q1:(r.bytes.2 !=0)=true:=by simp[c1]
   simp only[eI,q1,qO,cC,reduceIte,cI,Nat.reduceAdd];exact bad e57 hdef
 ·rw[if_pos c0] at hdef;have q0:(chk d room !=0)=true:=by simp[c0]
  simp only[eI,q0,qO,cC,reduceIte,cI,Nat.reduceAdd];exact bad u6 hdef
def jI(p:Tx):List Value:=[.string (tx p)]
def aJB{h:PH}{v:Value}{l:List Tx}(S:iH h 1 v (l.map jI)){i:Nat}{x:Tx}(hx:l[i]? =some x):∃a,cB PG (indexAt dD v (.int .i64 (i:Int)))=some (.pointer (some a))∧cD PG h (loadAt aT (.pointer (some a)))=some (.string (tx x)):=
 S.loadCell (t:=dD) (k:=.i64) (j:=(i:Int)) dD.und aT.info aT.size aT.und rfl (by omega) (by rw[xK,wG,hx];rfl)
def aAK{h:PH}{v:Value}{l:List Tx}(S:iH h 1 v (l.map jI)):cB PG (Builtin.len_ #[dD] aR #[v])=some (.int .i64 l.length):=by
 have:=S.len (t':=aR) dD.und;rw[iL] at this;exact this
def aYs(a b c:Nat)(hb:b<18446744073709551616)(hc:c<18446744073709551616)(d:ByteArray):(⟨(a:Int),(b:Int),(c:Int),d⟩:Pk).wf:=⟨by simp,by simp only;omega,by simp,by simp only;omega⟩
def Pk.wf_zero:(default:Pk).wf:=⟨by decide,by decide,by decide,by decide⟩
def Pl.wf_zero:Pl.zero.wf:=⟨by decide,by decide⟩
def aYo(a:Nat)(b:Int)(h:a<18446744073709551616):(⟨(a:Int),b⟩:Pl).wf:=⟨by simp,by simp only;omega⟩
def aXb{c:Prop}[Decidable c]{p q:Pk}(hp:p.wf)(hq:q.wf):(if c then p else q).wf:=by split<;>assumption
def aPC{c:Prop}[Decidable c]{p q:Pl}(hp:p.wf)(hq:q.wf):(if c then p else q).wf:=by split<;>assumption
def aXE(st:gY):(oP st).1.wf:=by
 have h1:=wX (fK st 1).2 8;have h2:=wX (fK (fK st 1).2 8).2 8;have hc:(rC st).1.wf:=aYs _ _ _ h1 h2 _;unfold oP;exact aXb hc Pk.wf_zero
def aPe(g:Int):∀(n:Nat) (st:gY) (acc:List (Int×Pk)),(∀x∈acc,x.2.wf)->∀x∈(jQ g n st acc).1,x.2.wf
 | 0,st,acc,h=>h
 | n+1,st,acc,h=>by
  unfold jQ;split
  ·refine aPe g n _ _ λx hx=>?_;rcases tK.1 hx with hx|hx
   ·exact h x hx
   ·simp only[iC] at hx;subst hx;exact aXE _
  ·exact h
def aQS(g:Int)(st:gY):∀x∈(fJ g st).1,x.2.wf:=by
 unfold fJ;simp only;split
 ·exact aPe g _ _ _ (by simp)
 ·simp
def aPl(st:gY):(gU st).1.wf:=by
 have h1:=wX st 8;unfold gU;exact aPC (aYo _ _ h1) Pl.wf_zero
def Dm.wf_zero:Dm.zero.wf:=⟨Pl.wf_zero,Pl.wf_zero,by simp[Dm.zero]⟩
def Rc.wf_zero:Rc.zero.wf:=⟨Dm.wf_zero,Pl.wf_zero,by simp[Rc.zero]⟩
def aYR(s:Tx):(Rc.rd s).1.wf:=by
 unfold Rc.rd;split
 ·refine⟨⟨aPl _,aPl _,λx hx=>?_⟩,Pl.wf_zero,by simp⟩;obtain⟨y,hy,rfl⟩:=pQ.1 hx;exact aQS _ _ y hy
 ·split
  ·refine⟨Dm.wf_zero,aPl _,λx hx=>?_⟩;obtain⟨y,hy,rfl⟩:=pQ.1 hx;exact aQS _ _ y hy
  ·exact⟨Dm.wf_zero,Pl.wf_zero,by simp⟩
def aKB(s:Tx):(gM s).1.wf:=by
 unfold gM;split
 ·exact Rc.wf_zero
 ·exact aYR s
structure OkD(d:Dm)(room:Int):Prop where
 r1:1≤room
 r2:room≤40
 len:(d.its.length:Int)≤room
 all:d.its.all It.right=true
 p0:jU d.p0
 p1:jU d.p1
 srt:oC d.its=d.its
 nd:(d.its.map It.key).Nodup
def aC5{d:Dm}{room:Int}:chk d room=0↔OkD d room:=by
 unfold chk;constructor
 ·intro h;by_cases h1:nN room d.its=1∨¬(jU d.p0∧jU d.p1)
  ·rw[if_pos h1] at h;cases h
  ·rw[if_neg h1] at h;by_cases h2:nN room d.its=0
   ·rw[if_neg (by simp[h2])] at h;by_cases h3:oC d.its=d.its
    ·have hp:jU d.p0∧jU d.p1:=Classical.byContradiction λhn=>h1 (.inr hn);unfold nN at h2;by_cases a:room<1∨40<room
     ·rw[if_pos a] at h2;cases h2
     ·rw[if_neg a] at h2;by_cases b:d.its.all It.right=false
      ·rw[if_pos b] at h2;cases h2
      ·rw[if_neg b] at h2;by_cases c:¬(d.its.map It.key).Nodup
       ·rw[if_pos c] at h2;cases h2
       ·rw[if_neg c] at h2;by_cases e:room<d.its.length
        ·rw[if_pos e] at h2;cases h2
        ·exact⟨by omega,by omega,by omega,by simpa using b,hp.1,hp.2,h3,Classical.byContradiction c⟩
    ·rw[if_pos h3] at h;cases h
   ·rw[if_pos h2] at h;exact absurd h h2
 ·intro H;have e:nN room d.its=0:=by
   unfold nN;rw[if_neg (by have:=H.r1;have:=H.r2;omega),if_neg (by simp[H.all]),if_neg (by simpa using H.nd),if_neg (by have:=H.len;omega)]
  rw[if_neg (by simp[e,H.p0,H.p1]),if_neg (by simp[e]),if_neg (by simp[H.srt])]
def aLQ{room:Int}:∀{L:List It},mM L->(L.length:Int)≤room->∀l:List Nt,((mB room L l).1.length:Int)≤room
 | L,hs,h,[]=>h
 | L,hs,h,n::ns=>by
  unfold mB;split
  ·exact aRL hs h n
  ·exact aLQ (hs.app room n) (aRL hs h n) ns
def aWP{d:Dm}{room:Int}{r:Rc}:(lT d room r).1.its.length≤40:=by
 unfold lT;split
 ·simp[Dm.zero]
 ·rename_i h0;have H:=aC5.1 (Classical.byContradiction λh=>h0 h);split
  ·simp[Dm.zero]
  ·split
   ·split
    ·simp[Dm.zero]
    ·rename_i h1;have H1:=aC5.1 (Classical.byContradiction λh=>h1 h);have a:=H1.len;have b:=H1.r2;show r.s.its.length≤40;omega
   ·split
    ·simp[Dm.zero]
    ·have a:=aLQ (room:=room) (aHu d.its) (by rw[H.srt];exact H.len) r.ns;have b:=H.r2;show(mB room (oC d.its) r.ns).1.length≤40;omega
def lY(room:Int)(s:Tx):Dm×Int:=
 if (gM s).2≠0 then(Dm.zero,(gM s).2) else if (gM s).1.k≠1 then(Dm.zero,5) else if chk (gM s).1.s room≠0 then(Dm.zero,chk (gM s).1.s room) else((gM s).1.s,0)
def mT(room:Int)(st:Dm×Int)(s:Tx):Dm×Int:=if st.2=0 then(if (gM s).2=0 then lT st.1 room (gM s).1 else(st.1,(gM s).2)) else st
def yM(room:Int):List Tx->Dm×Int
 | []=>(Dm.zero,3)
 | s::l=>if (l.foldl (mT room) (lY room s)).2≠0 then(Dm.zero,(l.foldl (mT room) (lY room s)).2) else l.foldl (mT room) (lY room s)
def aSO{room:Int}{s:Tx}:(lY room s).1.its.length≤40:=by
 unfold lY;split
 ·simp[Dm.zero]
 ·split
  ·simp[Dm.zero]
  ·split
   ·simp[Dm.zero]
   ·rename_i h1;have H1:=aC5.1 (Classical.byContradiction λh=>h1 h);have a:=H1.len;have b:=H1.r2;show(gM s).1.s.its.length≤40;omega
def aTy{s:Tx}:(gM s).1.s.its.length≤1000:=by
 unfold gM;split
 ·simp[Rc.zero,Dm.zero]
 ·have:(fJ 2 (gU (gU (fK (0,s) 1).2).2).2).1.length≤1000:=by
   unfold fJ;simp only;have hn:=wX (gU (gU (fK (0,s) 1).2).2).2 1;split
   ·have key:∀(n:Nat) (st:gY) (acc:List (Int×Pk)),(jQ 2 n st acc).1.length≤acc.length+n:=by
     intro n;induction n with
     | zero=>intro st acc;simp[jQ]
     | succ n ih=>
      intro st acc;unfold jQ;split
      ·have:=ih (aAx 2 st).2 (acc++[(aAx 2 st).1]);simp only[jM,iU,kV] at this;omega
      ·simp only;omega
    have:=key (fK (gU (gU (fK (0,s) 1).2).2).2 1).1 (fK (gU (gU (fK (0,s) 1).2).2).2 1).2 [];simp only[kV] at this;omega
   ·simp
  unfold Rc.rd;split
  ·simpa using this
  ·split
   ·simp[Dm.zero]
   ·simp[Dm.zero]
def aPG{h:PH}{room:Int}{s:Tx}{k:cE}(hk:∀h' v',jT h' v' (lY room s).1.its->iQ h v'->dA h h'->k (.tuple #[(lY room s).1.v v',.int .i64 (lY room s).2]) h'):bT PG aE3 #[.int .i64 room,.string (tx s)] h k:=by
 apply aFa.call;unfold aFa;intro r1 hr1
 try rw[cR]
 have u1:dA h (h.set r1 (.cells (dJ PG bR) bR)):=cX.new hr1;have Z:=bR.zbox (h:=h) (r:=r1);generalize h.set r1 (.cells (dJ PG bR) bR)=h1 at *;have f1:eD h [r1]:=eD.one hr1;refine aPR λh2 v w V W nv nw u2=>?_;have e2:=u1.trans u2;simp only[cC,reduceIte];intro r7 hr7
 try rw[cR]
 refine bW.fill hr7 rfl (Rc.isC _ V.isc W.isc) λh3 B3 u3=>?_;have e3:=e2.trans u3;have Z3:=(Z.ext u2).ext u3;have hn1:∀x n c,v= .slice (some x) n c->x.block≠r1:=λx n c e hb=>Z.known (by rw[←hb];exact nv x n c e);have bad:∀{h':PH} {e:Int},dA h3 h'->lY room s=(Dm.zero,e)->cN PG (cP bR (pT r1 0) (Dm.v Dm.zero (.slice none 0 0))) h' λv12 h13=>bY (cD PG h13 (loadAt bR (pT r1 0))) λv14=>k (.tuple #[v14,.int .i64 e]) h13:=by
  intro h' e u hs;refine bR.put (Z3.ext u) rfl (by show 0+5≤5;decide) (Dm.isC _ rfl) λh2 B2 u2=>?_;simp only[Dm.load (o:=0) (d:=Dm.zero) (v:=.slice none 0 0) B2 rfl,cC,reduceIte];rw[hs] at hk;exact hk h2 _ aDq iQ.nil ((e3.trans u).fresh u2 f1)
 have hdef:lY room s=if (gM s).2≠0 then(Dm.zero,(gM s).2) else if (gM s).1.k≠1 then(Dm.zero,5) else if chk (gM s).1.s room≠0 then(Dm.zero,chk (gM s).1.s room) else((gM s).1.s,0):=rfl
 by_cases c0:(gM s).2=0
 ·rw[if_neg (by simp[c0])] at hdef;simp only[c0,eI,bW.f0,aR.load,B3.cell,Rc.cells,cC,reduceIte,cI,Nat.reduceAdd];by_cases c1:(gM s).1.k=1
  ·rw[if_neg (by simp[c1])] at hdef;have q:((gM s).1.k !=1)=false:=by simp[c1]
   simp only[q,bW.f1,Dm.load (o:=1) (d:=(gM s).1.s) (v:=v) B3 rfl,cC,reduceIte,cI,Nat.reduceAdd];refine aJa (V.ext u3) aTy λh4 u4=>?_;have e4:=e3.trans u4;by_cases c2:chk (gM s).1.s room=0
   ·rw[if_neg (by simp[c2])] at hdef;simp only[c2,eI,bW.f1,Dm.load (o:=1) (d:=(gM s).1.s) (v:=v) (B3.ext u4) rfl,cC,reduceIte,cI,Nat.reduceAdd];refine bR.put (Z3.ext u4) rfl (by show 0+5≤5;decide) (Dm.isC _ V.isc) λh5 B5 u5=>?_;simp only[Dm.load (o:=0) (d:=(gM s).1.s) (v:=v) B5 rfl,cC,reduceIte];rw[hdef] at hk;exact hk h5 v (((V.ext u3).ext u4).upd u5 λx n c e=>by simpa using hn1 x n c e) (nv.of u1) (e4.fresh u5 f1)
   ·rw[if_pos c2] at hdef;have q2:(chk (gM s).1.s room !=0)=true:=by simp[c2]
    simp only[eI,q2,qO,cC,reduceIte,cI,Nat.reduceAdd];exact bad u4 hdef
  ·rw[if_pos c1] at hdef;have q:((gM s).1.k !=1)=true:=by simp[c1]
   simp only[q,qO,cC,reduceIte,cI,Nat.reduceAdd];exact bad cX.refl hdef
 ·rw[if_pos c0] at hdef;have q0:((gM s).2 !=0)=true:=by simp[c0]
  simp only[eI,q0,qO,cC,reduceIte,cI,Nat.reduceAdd];exact bad cX.refl hdef
def aFZ(l:List It)(v:Value)(G:List Nat):Prop:=l≠[]->∀x n c,v= .slice (some x) n c->x.block∉G
def aFZ.new{h:PH}{l:List It}{v:Value}{G:List Nat}(n:iQ h v)(hG:∀b∈G,h b≠none):aFZ l v G:=λ_ x m c e hm=>hG _ hm (n x m c e)
def jT.updG{h h':PH}{l:List It}{v:Value}{G F:List Nat}(V:jT h v l)(o:aFZ l v G)(u:cX F h h')(hF:∀b∈F,b∈G):jT h' v l:=iH.upd0 V u λhne x n c e hm=>o (by simpa using hne) x n c e (hF _ hm)
def aRm{h:PH}{rE rD rM:Nat}{d:Dm}{e room:Int}{v:Value}{s:Tx}{G:List Nat}(BE:Bx h rE [.int .i64 e])(BD:Bx h rD (d.cells v))(BM:Bx h rM [.int .i64 room])(V:jT h v d.its)(n1:rE≠rD)(n2:rM≠rD)(n3:rM≠rE)(hG:∀b∈G,h b≠none)(gE:rE∈G)(gD:rD∈G)(ov:aFZ d.its v G)(hl:d.its.length≤1000){k:cE}
  (hk:∀h' v',Bx h' rE [.int .i64 (mT room (d,e) s).2]->Bx h' rD ((mT room (d,e) s).1.cells v')->jT h' v' (mT room (d,e) s).1.its->aFZ (mT room (d,e) s).1.its v' G->(∀{h0:PH},iQ h0 v->dA h0 h->iQ h0 v')->cX [rE,rD] h h'->k (.tuple #[]) h'):
  bT PG vM #[.string (tx s),pT rE 0,pT rD 0,pT rM 0] h k:=by
 apply wO.call;unfold wO;simp only[vW,dK.load,BE.cell,cC,reduceIte,cI,Nat.reduceAdd];intro r3 hr3
 try rw[cR]
 refine bW.fill hr3 rfl (Rc.isC _ rfl rfl) λh1 B1 u1=>?_;have BE1:=BE.ext u1;have BD1:=BD.ext u1;have BM1:=BM.ext u1;have n3E:r3≠rE:=(BE.apart hr3).symm;have n3D:r3≠rD:=(BD.apart hr3).symm;have hdef:mT room (d,e) s=if e=0 then(if (gM s).2=0 then lT d room (gM s).1 else(d,(gM s).2)) else(d,e):=rfl
 simp only[BE1.cell,cC,reduceIte,cI,Nat.reduceAdd];have last:∀{h2:PH} {d':Dm} {e':Int} {v':Value},mT room (d,e) s=(d',e')->Bx h2 rD (d'.cells v')->Bx h2 rE [.int .i64 e]->jT h2 v' d'.its->aFZ d'.its v' G->(∀{h0:PH},iQ h0 v->dA h0 h->iQ h0 v')->cX [rE,rD] h h2->zG k (pT rE 0) (.int .i64 e') h2:=by
  intro h2 d' e' v' hs B2 E2 V2 o2 w2 u2;unfold zG;refine dK.put E2 (o:=0) (by show 0<1;decide) rfl λh3 B3 u3=>?_;rw[hs] at hk;exact hk h3 v' B3 (B2.upd u3 (by simpa using n1.symm)) (jT.updG V2 o2 u3 λb hb=>by simp only[iC] at hb;subst hb;exact gE) o2 w2 (u2.trans (u3.mono λb hb=>.inl (by simp only[iC] at hb;simp[hb])))
 have u1':cX [rE,rD] h h1:=u1.upd;by_cases c0:e=0
 ·subst c0;rw[if_pos rfl] at hdef;simp only[gA,BE1.cell,cC,reduceIte,cI,Nat.reduceAdd];refine⟨by trivial,?_⟩;refine aPR λh2 vi vn VI VN ni nn u2=>?_;simp only[cC,reduceIte];have B2:=B1.ext u2;refine bW.put B2 rfl (by show 0+10≤10;decide) (Rc.isC _ VI.isc VN.isc) λh3 B3 u3=>?_;have hn3:∀{x:Addr},h1 x.block=none->x.block∉[r3]:=λhx=>by
   simp only[iC];intro hb;rw[hb] at hx;exact B1.known hx
  have VI3:=iH.upd VI u3 λx n c e=>hn3 (ni x n c e);have VN3:=iH.upd VN u3 λx n c e=>hn3 (nn x n c e);have BE3:=(BE1.ext u2).upd u3 (by simpa using n3E.symm);have BD3:=(BD1.ext u2).upd u3 (by simpa using n3D.symm);have BM3:=(BM1.ext u2).upd u3 (by simpa using(BM.apart hr3));have e3:dA h h3:=(u1.trans u2).fresh u3 (eD.one hr3);unfold zQ;by_cases c1:(gM s).2=0
  ·rw[if_pos c1] at hdef;have q:((gM s).2==0)=true:=by simp[c1]
   have lr:cD PG h3 (loadAt bW (pT r3 0))=some ((gM s).1.v vi vn):=bW.agg B3 (by show 0+10≤10;decide);simp only[gA,q,Dm.load (o:=0) (d:=d) (v:=v) BD3 rfl,aR.load,BM3.cell,lr,cC,reduceIte,cI,Nat.reduceAdd];refine aQo (V.ext e3) VI3 VN3 (aKB s) hl λh4 v' V4 nv u4=>?_;simp only[cC,reduceIte];have o4:aFZ (lT d room (gM s).1).1.its v' G:=aFZ.new (nv.of e3) hG;refine bR.put (BD3.ext u4) rfl (by show 0+5≤5;decide) (Dm.isC _ V4.isc) λh5 B5 u5=>?_;refine last (d':=(lT d room (gM s).1).1) (e':=(lT d room (gM s).1).2) (v':=v') hdef B5 ((BE3.ext u4).upd u5 (by simpa using n1)) (jT.updG V4 o4 u5 λb hb=>by simp only[iC] at hb;subst hb;exact gD) o4 (λ_ e0=>(nv.of e3).of e0) ?_;exact((e3.trans u4).upd).trans (u5.mono λb hb=>.inl (by simp only[iC] at hb;simp[hb]))
  ·rw[if_neg c1] at hdef;have q:((gM s).2==0)=false:=by simp[c1]
   simp only[gA,q,cC,reduceIte,cI,Nat.reduceAdd];exact last (d':=d) (e':=(gM s).2) (v':=v) hdef BD3 BE3 (V.ext e3) ov (λn _=>n) e3.upd
 ·rw[if_neg c0] at hdef;have q:(e==0)=false:=by simp[c0]
  simp only[gA,q,cC,reduceIte,cI,Nat.reduceAdd];refine⟨by trivial,?_⟩;unfold zQ;simp only[gA,q,cC,reduceIte,cI,Nat.reduceAdd];exact last (d':=d) (e':=e) (v':=v) hdef BD1 BE1 (V.ext u1) ov (λn _=>n) u1'
def aTp{h:PH}{room:Int}{x:Value}{l:List Tx}(S:iH h 1 x (l.map jI))(hl:l.length≤1000){k:cE}
  (hk:∀h' v',jT h' v' (yM room l).1.its->iQ h v'->dA h h'->k (.tuple #[(yM room l).1.v v',.int .i64 (yM room l).2]) h'):bT PG aEX #[.int .i64 room,x] h k:=by
 apply aAB.call;unfold aAB;have lx:=aAK S;intro r1 hr1
 try rw[cR]
 have u1:dA h (h.set r1 (.cells (Value.cells (.int .i64 room)) aR)):=cX.new hr1;have B1:Bx (h.set r1 (.cells (Value.cells (.int .i64 room)) aR)) r1 [.int .i64 room]:=Bx.new;generalize h.set r1 (.cells (Value.cells (.int .i64 room)) aR)=h1 at *;intro r3 hr3
 try rw[cR]
 have u3:dA h1 (h1.set r3 (.cells (dJ PG bR) bR)):=cX.new hr3;have Z:=bR.zbox (h:=h1) (r:=r3);have B13:=B1.ext u3;have n13:r1≠r3:=B1.apart hr3;generalize h1.set r3 (.cells (dJ PG bR) bR)=h3 at *;have e3:=u1.trans u3;have f3:eD h [r3]:=eD.one (u1.none hr3);cases l with
 | nil=>
  simp only[lx,kV,gA,show(((0:Nat):Int)==0)=true from rfl,qO,cC,reduceIte,cI,Nat.reduceAdd];refine bR.put Z rfl (by show 0+5≤5;decide) (Dm.isC _ rfl) λh4 B4 u4=>?_;simp only[Dm.load (o:=0) (d:=Dm.zero) (v:=.slice none 0 0) B4 rfl,cC,reduceIte];exact hk h4 _ aDq iQ.nil (e3.fresh u4 f3)
 | cons s l=>
  have q:(((s::l).length:Int)==0)=false:=by
   rw[beq_eq_false_iff_ne];simp only[iU];omega
  obtain⟨a0,p0,q0⟩:=aJB (S.ext e3) (i:=0) (x:=s) rfl;rw[show((0:Nat):Int)=0 from rfl] at p0;simp only[lx,gA,q,aR.load,B13.cell,p0,q0,cC,reduceIte,cI,Nat.reduceAdd];refine aPG λh4 v V4 nv u4=>?_;have e4:=e3.trans u4;simp only[cC,reduceIte];intro rD hrD
  try rw[cR]
  intro rE hrE
  try rw[cR]
  have uD:dA h4 (h4.set rD (.cells (dJ PG bR) bR)):=cX.new hrD;have ZD:=bR.zbox (h:=h4) (r:=rD);generalize h4.set rD (.cells (dJ PG bR) bR)=h5 at *;have uE:dA h5 (h5.set rE (.cells (dJ PG dK) dK)):=cX.new hrE;have ZE:=dK.zbox (h:=h5) (r:=rE);have ZD6:=ZD.ext uE;have nED:rE≠rD:=(ZD.apart hrE).symm;generalize h5.set rE (.cells (dJ PG dK) dK)=h6 at *;have e46:=uD.trans uE;have B6:=(B13.ext u4).ext e46;have Z6:=(Z.ext u4).ext e46;have n1D:r1≠rD:=(B13.ext u4).apart hrD;have n1E:r1≠rE:=((B13.ext u4).ext uD).apart hrE;have n3D:r3≠rD:=(Z.ext u4).apart hrD;have n3E:r3≠rE:=((Z.ext u4).ext uD).apart hrE;have K4:∀b∈[r1,r3,rD,rE],h6 b≠none:=by
   intro b hb;simp only[iW,zLg,or_false] at hb;rcases hb with rfl|rfl|rfl|rfl
   ·exact B6.known
   ·exact Z6.known
   ·exact ZD6.known
   ·exact ZE.known
  have ov:aFZ (lY room s).1.its v [r1,r3,rD,rE]:=λhne y n c e hm=>by
   have hn:=nv y n c e;have hk4:=V4.known (by simpa using hne) e;simp only[iW,zLg,or_false] at hm;rcases hm with hm|hm|hm|hm
   ·rw[hm] at hn;exact B13.known hn
   ·rw[hm] at hn;exact Z.known hn
   ·rw[hm] at hk4;exact hk4 hrD
   ·rw[hm] at hk4;exact hk4 (uD.none hrE)
  have nvh:iQ h v:=nv.of e3;have fG:eD h [rE,rD]:=λb hb=>by
   simp only[iW,zLg,or_false] at hb;rcases hb with rfl|rfl
   ·exact(e4.trans uD).none hrE
   ·exact e4.none hrD
  have V6:=(V4.ext uD).ext uE;refine bR.put ZD6 rfl (by show 0+5≤5;decide) (Dm.isC _ V4.isc) λh7 B7 u7=>?_;refine dK.put (ZE.upd u7 (by simpa using nED)) (o:=0) (by show 0<1;decide) rfl λh8 B8 u8=>?_;have BD8:=B7.upd u8 (by simpa using nED.symm);have V8:jT h8 v (lY room s).1.its:=jT.updG (jT.updG V6 ov u7 λb hb=>by simp only[iC] at hb;subst hb;simp) ov u8 λb hb=>by simp only[iC] at hb;subst hb;simp
  have B18:=(B6.upd u7 (by simpa using n1D)).upd u8 (by simpa using n1E);have Z8:=(Z6.upd u7 (by simpa using n3D)).upd u8 (by simpa using n3E);have e8:dA h h8:=(((e4.trans e46).fresh u7 λb hb=>fG b (by simp only[iC] at hb;simp[hb]))).fresh u8 λb hb=>fG b (by simp only[iC] at hb;simp[hb]);have hcut:=S.cut (lo:=some (.int .i64 ((1:Nat):Int))) (hi:=none) (l:=1) (m:=(s::l).length) dD.und aT.info aT.size (.inr ⟨_,rfl⟩) (.inl ⟨rfl,by simp⟩) (by simp) (by simp);obtain⟨x',s1,t1,-⟩:=hcut;have hrows:(((s::l).map jI).take (s::l).length).drop 1=l.map jI:=by
   rw[sK (by simp)];rfl
  rw[hrows] at t1;rw[show((1:Nat):Int)=1 from rfl] at s1;have lx':=aAK t1;have e7':lY room s=((lY room s).1,(lY room s).2):=rfl;simp only[s1,lx',cC,reduceIte,cI,Nat.reduceAdd];refine⟨λvs h'=>∃(i:Nat) (d:Dm) (e:Int) (v:Value),i≤l.length∧vs=[pT r3 0,pT rD 0,pT rE 0,.func (.func vM) #[] #[pT rE 0,pT rD 0,pT r1 0],x',.int .i64 (l.length:Int),.int .i64 (i:Int)]∧Bx h' rE [.int .i64 e]∧Bx h' rD (d.cells v)∧Bx h' r1 [.int .i64 room]∧Bx h' r3 (Dm.zero.cells (.slice none 0 0))∧jT h' v d.its∧aFZ d.its v [r1,r3,rD,rE]∧iQ h v∧dA h h'∧(d,e)=(l.take i).foldl (mT room) (lY room s)∧d.its.length≤1000,fT l.length 6,⟨0,_,_,v,by omega,rfl,B8,BD8,B18,Z8,V8,ov,nvh,e8,rfl,by have:=aSO (room:=room) (s:=s);omega⟩,?_⟩;rintro ρ h' ⟨i,d,e,v',hi,hvs,BE,BD,BM,BZ,V',o',nv',e',hst,hlen⟩;simp only[iG,jB,kZ,and_true] at hvs;obtain⟨v4,v6,v7,v8,v25,v26,v27⟩:=hvs;simp only[v4,v6,v7,v8,v25,v26,v27,iG,jB];unfold aHU;have hGK:∀b∈[r1,r3,rD,rE],h' b≠none:=by
   intro b hb;simp only[iW,zLg,or_false] at hb;rcases hb with rfl|rfl|rfl|rfl
   ·exact BM.known
   ·exact BZ.known
   ·exact BD.known
   ·exact BE.known
  by_cases hlt:i<l.length
  ·have g1:((i:Int)<(l.length:Int))=True:=eq_true (by omega);have gi:IntKind.i64.wrap ((i:Int)+1)=((i+1:Nat):Int):=by rw[eB (by omega) (by simp only[iU] at hl;omega)];omega
   obtain⟨pa,p1,q1⟩:=aJB (t1.ext e') (i:=i) (x:=l[i]) (kF hlt);have htk:(l.take (i+1)).foldl (mT room) (lY room s)=mT room (d,e) l[i]:=by
    rw[zL7 hlt,List.foldl_append,←hst];rfl
   generalize l[i]=y at *;simp only[g1,p1,q1,cC,reduceIte];show bT PG vM #[.string (tx y),pT rE 0,pT rD 0,pT r1 0] h' _;refine aRm BE BD BM V' nED n1D n1E hGK (by simp) (by simp) o' hlen λh9 v9 BE9 BD9 V9 o9 nw9 u9=>?_;simp only[gi,cC,reduceIte];refine⟨⟨i+1,_,_,v9,by omega,rfl,BE9,BD9,BM.upd u9 (by simp[n1D,n1E]),BZ.upd u9 (by simp[n3D,n3E]),V9,o9,?_,e'.fresh u9 fG,htk.symm,?_⟩,?_⟩
   ·exact nw9 nv' e'
   ·unfold mT;split
    ·split
     ·have:=aWP (d:=d) (room:=room) (r:=(gM y).1);simp only at *;omega
     ·exact hlen
    ·exact hlen
   ·simp only[fT,zLL,zLK];omega
  ·have g1:((i:Int)<(l.length:Int))=False:=eq_false (by omega);rw[sK (by omega)] at hst;have hdef:yM room (s::l)=if e≠0 then(Dm.zero,e) else(d,e):=by
    show(if (l.foldl (mT room) (lY room s)).2≠0 then _ else _)=_;rw[←hst]
   simp only[g1,dK.load,BE.cell,cC,reduceIte,cI,Nat.reduceAdd];by_cases h0:e=0
   ·rw[if_neg (by simp[h0])] at hdef;have q0':(e !=0)=false:=by simp[h0]
    simp only[eI,q0',Dm.load (o:=0) (d:=d) (v:=v') BD rfl,cC,reduceIte,cI,Nat.reduceAdd];refine bR.put BZ rfl (by show 0+5≤5;decide) (Dm.isC _ V'.isc) λh9 B9 u9=>?_;simp only[Dm.load (o:=0) (d:=d) (v:=v') B9 rfl,cC,reduceIte];rw[hdef] at hk;subst h0;exact hk h9 v' (jT.updG V' o' u9 λb hb=>by simp only[iC] at hb;subst hb;simp) nv' (e'.fresh u9 f3)
   ·rw[if_pos h0] at hdef;have q0':(e !=0)=true:=by simp[h0]
    simp only[eI,q0',qO,BE.cell,cC,reduceIte,cI,Nat.reduceAdd];refine bR.put BZ rfl (by show 0+5≤5;decide) (Dm.isC _ rfl) λh9 B9 u9=>?_;have BE9:=BE.upd u9 (by simpa using n3E.symm);simp only[BE9.cell,Dm.load (o:=0) (d:=Dm.zero) (v:=.slice none 0 0) B9 rfl,cC,reduceIte,cI,Nat.reduceAdd];refine⟨by trivial,?_⟩;rw[hdef] at hk;exact hk h9 _ aDq iQ.nil (e'.fresh u9 f3)
def rS1(st:gY):(Pl×List (Int×Pk))×gY:=(((gU st).1,(fJ 2 (gU st).2).1),(fJ 2 (gU st).2).2)
def rS0(st:gY):Rc×gY:=(⟨1,⟨(gU st).1,(rS1 (gU st).2).1.1,(rS1 (gU st).2).1.2.map It.of⟩,0,Pl.zero,[]⟩,(rS1 (gU st).2).2)
def rN1(st:gY):(Pl×List (Int×Pk))×gY:=(((gU st).1,(fJ 4 (gU st).2).1),(fJ 4 (gU st).2).2)
def rN0(st:gY):Rc×gY:=(⟨2,Dm.zero,((fK st 1).1:Int),(rN1 (fK st 1).2).1.1,(rN1 (fK st 1).2).1.2.map Nt.of⟩,(rN1 (fK st 1).2).2)
def rdB(k:Nat)(st:gY):Rc×gY:=if k=1 then rS0 st else if k=2 then rN0 st else(⟨(k:Int),Dm.zero,0,Pl.zero,[]⟩,st)
def rdS(st:gY):Rc×gY:=(((λ_ r=>r) (fK st 1).1 (rdB (fK st 1).1 (fK st 1).2).1),(rdB (fK st 1).1 (fK st 1).2).2)
def aYl(s:Tx):Rc.rd s=rdS (0,s):=by
 unfold Rc.rd rdS rdB;split
 ·rfl
 ·split<;>rfl
def aM6:tY rS1:=λe s h=>(aFs 2).keep (aKD e s h) h
def aRz:tY rS0:=λe s h=>aM6.keep (aKD e s h) h
def aMl:tY rN1:=λe s h=>(aFs 4).keep (aKD e s h) h
def aSh:tY rN0:=λe s h=>aMl.keep (uT 1 e s h) h
def aNM(k:Nat):tY (rdB k):=λe s h=>by
 unfold rdB;split
 ·exact aRz e s h
 ·split
  ·exact aSh e s h
  ·rfl
def aEQ(i:It):Prop:=1≤i.g∧i.g≤2∧i.p.right=true
def aFD(n:Nt):Prop:=1≤n.k∧n.k≤4∧n.p.right=true
def aPo{i:It}:aCh i.x↔aEQ i:=by
 unfold aCh It.x aIU aEQ;simp only;split<;>constructor<;>rintro⟨a,b,c⟩<;>refine⟨?_,?_,c⟩<;>omega
def aQJ{i:Nt}:aCh i.x↔aFD i:=by
 unfold aCh Nt.x aIU aFD;simp only;split<;>constructor<;>rintro⟨a,b,c⟩<;>refine⟨?_,?_,c⟩<;>omega
def aNy{i:It}(h:aEQ i):i.x=(i.g,i.p):=by
 unfold aEQ at h;unfold It.x aIU;rw[if_neg (by omega)]
def aNZ{i:Nt}(h:aFD i):i.x=(i.k,i.p):=by
 unfold aFD at h;unfold Nt.x aIU;rw[if_neg (by omega)]
def aYJ{i:It}(h:aEQ i):It.of i.x=i:=by rw[aNy h];rfl
def aYd{i:Nt}(h:aFD i):Nt.of i.x=i:=by rw[aNZ h];rfl
def aX9{l:List It}(h:∀i∈l,aEQ i):(l.map It.x).map It.of=l:=by
 rw[zLZ]
 conv=>rhs;rw[←List.map_id l]
 exact zL0 λi hi=>aYJ (h i hi)
def aXi{l:List Nt}(h:∀i∈l,aFD i):(l.map Nt.x).map Nt.of=l:=by
 rw[zLZ]
 conv=>rhs;rw[←List.map_id l]
 exact zL0 λi hi=>aYd (h i hi)
def aOJ{l:List It}(hl:l.length≤40):aGp (l.map It.x)↔∀i∈l,aEQ i:=by
 unfold aGp;simp only[iL,aJC,aPo];exact⟨λh=>h.2,λh=>⟨by omega,h⟩⟩
def aOr{l:List Nt}(hl:l.length≤16):aGp (l.map Nt.x)↔∀i∈l,aFD i:=by
 unfold aGp;simp only[iL,aJC,aQJ];exact⟨λh=>h.2,λh=>⟨by omega,h⟩⟩
structure yI(r:Rc):Prop where
 plain:r.plain=true
 a:r.k=1->jU r.s.p0∧jU r.s.p1∧∀i∈r.s.its,aEQ i
 b:r.k=2->jU r.pl∧∀i∈r.ns,aFD i
def Rc.bs(r:Rc):Tx:=if r.k=1 then be 1 1++(r.s.p0.bs++(r.s.p1.bs++sP (r.s.its.map It.x))) else be 2 1++(be r.ch.toNat 1++(r.pl.bs++sP (r.ns.map Nt.x)))
def aFt{st:gY}(h:st.1=1):aDs st=([],1):=by unfold aDs;rw[h,if_neg (by decide)]
def aAd(r:Rc):(yI r∧r.bytes=(r.bs,0))∨(¬yI r∧r.bytes=([],1)):=by
 by_cases hp:r.plain=true
 ·by_cases k1:r.k=1
  ·obtain⟨-,-,-,h40⟩:=xM hp k1;have e0:kQ (0,[]) r.k=(0,be 1 1):=by rw[k1];rfl
   by_cases a:jU r.s.p0
   ·by_cases b:jU r.s.p1
    ·by_cases c:aGp (r.s.its.map It.x)
     ·left;refine⟨⟨hp,λ_=>⟨a,b,(aOJ h40).1 c⟩,λh=>by omega⟩,?_⟩;unfold Rc.bytes Rc.wr Rc.bs;rw[if_pos hp,if_pos k1,if_pos k1,e0,aEN a,aEN b,aNN c];simp only[aDs,if_true,uS]
     ·right;refine⟨λh=>c ((aOJ h40).2 (h.a k1).2.2),?_⟩;unfold Rc.bytes Rc.wr;rw[if_pos hp,if_pos k1,e0,aEN a,aEN b];exact aFt (aLm c _)
    ·right;refine⟨λh=>b (h.a k1).2.1,?_⟩;unfold Rc.bytes Rc.wr;rw[if_pos hp,if_pos k1,e0,aEN a];exact aFt (aKa (aLI b _) _)
   ·right;refine⟨λh=>a (h.a k1).1,?_⟩;unfold Rc.bytes Rc.wr;rw[if_pos hp,if_pos k1,e0];exact aFt (aKa (aW0 (aLI a _) _) _)
  ·obtain⟨k2,-,hc,h16⟩:=rW hp k1;have e0:kQ (0,[]) r.k=(0,be 2 1):=by rw[k2];rfl
   have e1:kQ (0,be 2 1) r.ch=(0,be 2 1++be r.ch.toNat 1):=by unfold kQ;rw[if_pos (by omega)]
   by_cases a:jU r.pl
   ·by_cases c:aGp (r.ns.map Nt.x)
    ·left;refine⟨⟨hp,λh=>absurd h k1,λ_=>⟨a,(aOr h16).1 c⟩⟩,?_⟩;unfold Rc.bytes Rc.wr Rc.bs;rw[if_pos hp,if_neg k1,if_neg k1,e0,e1,aEN a,aNN c];simp only[aDs,if_true,uS]
    ·right;refine⟨λh=>c ((aOr h16).2 (h.b k2).2),?_⟩;unfold Rc.bytes Rc.wr;rw[if_pos hp,if_neg k1,e0,e1,aEN a];exact aFt (aLm c _)
   ·right;refine⟨λh=>a (h.b k2).1,?_⟩;unfold Rc.bytes Rc.wr;rw[if_pos hp,if_neg k1,e0,e1];exact aFt (aKa (aLI a _) _)
 ·right;refine⟨λh=>hp h.plain,?_⟩;unfold Rc.bytes;rw[if_neg hp]
def aSd{r:Rc}(h:r.bytes.2=0):yI r∧r.bytes.1=r.bs:=by
 rcases aAd r with⟨a,b⟩|⟨a,b⟩
 ·exact⟨a,by rw[b]⟩
 ·rw[b] at h;cases h
def aUv{r:Rc}(h:yI r)(w:r.wf):qY rdS r.bs r:=by
 have hp:=h.plain;by_cases k1:r.k=1
 ·obtain⟨a,b,c⟩:=h.a k1;obtain⟨q0,q1,q2,q3⟩:=xM hp k1;have hl:=aL7 (g:=2) (by decide) (l:=r.s.its.map It.x) (by simp;omega) λx hx=>by
   obtain⟨i,hi,rfl⟩:=pQ.1 hx;have:=c i hi;rw[aNy this];exact⟨this.1,this.2.1,this.2.2,w.s.i i hi⟩
  have s1:qY rS1 _ _:=(aKi b w.s.b.1 w.s.b.2).bind (S:=λ_ st=>fJ 2 st) (f:=λp l=>(p,l)) hl λ_=>aFs 2;have s0:qY rS0 _ _:=(aKi a w.s.a.1 w.s.a.2).bind (S:=λ_ st=>rS1 st) (f:=λp x=>(⟨1,⟨p,x.1,x.2.map It.of⟩,0,Pl.zero,[]⟩:Rc)) s1 λ_=>aM6;have sB:qY (rdB 1) _ _:=s0;have sS:qY rdS _ _:=(mO (n:=1) (c:=1) (by decide)).bind (S:=λk st=>rdB k st) (f:=λ_ r=>r) sB λk=>aNM k;have er:(⟨1,⟨r.s.p0,r.s.p1,(r.s.its.map It.x).map It.of⟩,0,Pl.zero,[]⟩:Rc)=r:=by
   rw[aX9 c];obtain⟨k,⟨p0,p1,its⟩,ch,pl,ns⟩:=r;simp only at k1 q0 q1 q2;subst k1 q0 q1 q2;rfl
  simp only at sS;rw[er] at sS;unfold Rc.bs;rw[if_pos k1];exact sS
 ·obtain⟨k2,q0,q1,q2⟩:=rW hp k1;obtain⟨a,c⟩:=h.b k2;have hl:=aL7 (g:=4) (by decide) (l:=r.ns.map Nt.x) (by simp;omega) λx hx=>by
   obtain⟨i,hi,rfl⟩:=pQ.1 hx;have:=c i hi;rw[aNZ this];exact⟨this.1,this.2.1,this.2.2,w.n i hi⟩
  have s1:qY rN1 _ _:=(aKi a w.pl.1 w.pl.2).bind (S:=λ_ st=>fJ 4 st) (f:=λp l=>(p,l)) hl λ_=>aFs 4;have s0:qY rN0 _ _:=(mO (n:=r.ch.toNat) (c:=1) (by omega)).bind (S:=λ_ st=>rN1 st) (f:=λ(k:Nat) (x:Pl×List (Int×Pk))=>(⟨2,Dm.zero,(k:Int),x.1,x.2.map Nt.of⟩:Rc)) s1 λ_=>aMl;have sB:qY (rdB 2) _ _:=s0;have sS:qY rdS _ _:=(mO (n:=2) (c:=1) (by decide)).bind (S:=λk st=>rdB k st) (f:=λ_ r=>r) sB λk=>aNM k;have er:(⟨2,Dm.zero,(r.ch.toNat:Int),r.pl,(r.ns.map Nt.x).map Nt.of⟩:Rc)=r:=by
   rw[aXi c,zLu (by omega)];obtain⟨k,⟨p0,p1,its⟩,ch,pl,ns⟩:=r;simp only at k2 q0;subst k2;rw[←q0]
  simp only at sS;rw[er] at sS;unfold Rc.bs;rw[if_neg k1];exact sS
def aMi{r:Rc}(h:yI r)(w:r.wf):gM r.bs=(r,0):=by
 have hr:=(aUv h w).all [];rw[zLQ] at hr;unfold gM wL;rw[aYl,hr];simp only[h.plain,if_true];rfl
def aIM{h:PH}{r:Nat}{cs:List Value}(B:Bx h r cs){o:Nat}{p q:Pl}(ho:(cs.drop o).take 4=p.cells++q.cells):cD PG h (loadAt cU (pT r o))=some (lO p q):=by
 have hl:o+4≤cs.length:=by
  have:((cs.drop o).take 4).length=4:=by rw[ho];rfl
  rw[lU,jC] at this;omega
 rw[cU.agg B hl,ho];rfl
def aCR{h:PH}{r:Nat}{cs:List Value}(B:Bx h r cs){o:Nat}{p:Pl}(ho:(cs.drop o).take 2=p.cells):cD PG h (loadAt cG (pT r o))=some (.agg p.cells.toArray):=by
 have hl:o+2≤cs.length:=by
  have:((cs.drop o).take 2).length=2:=by rw[ho];rfl
  rw[lU,jC] at this;omega
 rw[cG.agg B hl,ho]
def aPZ{h:PH}{d d':Dm}{v v':Value}(V:jT h v d.its)(V':jT h v' d'.its)(hl:d.its.length≤1000000){k:cE}(hk:∀h',dA h h'->k (.bool (decide (d=d'))) h'):bT PG xS #[d.v v,d'.v v'] h k:=by
 apply uU.call;unfold uU;intro r1 hr1
 try rw[cR]
 have u1:dA h (h.set r1 (.cells (Value.cells (d.v v)) bR)):=cX.new hr1;have B1:Bx (h.set r1 (.cells (Value.cells (d.v v)) bR)) r1 (d.cells v):=Bx.new;generalize h.set r1 (.cells (Value.cells (d.v v)) bR)=h1 at *;intro r3 hr3
 try rw[cR]
 have u3:dA h1 (h1.set r3 (.cells (Value.cells (d'.v v')) bR)):=cX.new hr3;have B3:Bx (h1.set r3 (.cells (Value.cells (d'.v v')) bR)) r3 (d'.cells v'):=Bx.new;have B13:=B1.ext u3;generalize h1.set r3 (.cells (Value.cells (d'.v v')) bR)=h3 at *;have u:=u1.trans u3;have hk:=hk _ u;have la:cD PG h3 (loadAt cU (pT r1 0))=some (lO d.p0 d.p1):=aIM B13 rfl;have lb:cD PG h3 (loadAt cU (pT r3 0))=some (lO d'.p0 d'.p1):=aIM B3 rfl;simp only[bR.f0,la,lb,lO.eql,cC,reduceIte,cI,Nat.reduceAdd];by_cases c0:d.p0=d'.p0∧d.p1=d'.p1
 ·simp only[c0,decide_true,bR.f1,bZ.load,B13.cell,B3.cell,Dm.cells,cC,reduceIte,cI,Nat.reduceAdd];refine aRF (V.ext u) (V'.ext u) hl ?_;have e:decide (d.its=d'.its)=decide (d=d'):=by
   rw[xF];obtain⟨a,b,c⟩:=d;obtain⟨a',b',c'⟩:=d';simp only at c0;simp[c0.1,c0.2]
  rw[e];exact hk
 ·have hne:¬d=d':=λe=>c0 (by rw[e];exact⟨rfl,rfl⟩);simp only[hne,decide_false] at hk;simp only[c0,decide_false,cC,reduceIte,cI,Nat.reduceAdd];exact hk
def aQj{r:Rc}(h:yI r):r.bytes=(r.bs,0):=by
 rcases aAd r with⟨_,b⟩|⟨a,_⟩
 ·exact b
 ·exact absurd h a
def ixP{r i:Nat}(hi:i<2):cB PG (indexAt cU (pT r 0) (.int .i64 (i:Int)))=some (pT r (i*2)):=by
 have ix:=tJ (P:=PG) (t:=cU) (b:=r) (o:=0) (k:=.i64) (j:=(i:Int)) cU.und cG.info cG.size (by omega) (by omega);rw[ix,xK,iZ]
def aZF{r:Nat}:cB PG (indexAt cU (pT r 0) (.int .i64 0))=some (pT r 0):=ixP (i:=0) (by decide)
def aY5{r:Nat}:cB PG (indexAt cU (pT r 0) (.int .i64 1))=some (pT r 2):=ixP (i:=1) (by decide)
def aUp(p q:Pl)(b:Option Addr)(n c:Nat):cB PG (build bR #[(0,lO p q),(1,.slice b n c)])=some (Dm.v ⟨p,q,[]⟩ (.slice b n c)):=by kernel_rfl
def aRk{l:List It}{i:Nat}(h:¬((l.take i).map It.key).Nodup):¬(l.map It.key).Nodup:=λhn=>by
 apply h;exact List.Nodup.sublist (List.Sublist.map _ (List.take_sublist i l)) hn
def aTo{h:PH}{room:Int}{x:Value}{l:List It}(hx:iH h 5 x (l.map It.cells))(hl:l.length≤900)(hw:∀m∈l,m.p.ok){k:cE}
  (hbad:∀h',dA h h'->nN room l≠0->k (.tuple #[.pointer none,.int .i64 (nN room l)]) h')
  (hk:∀a h' F,nN room l=0->RAt h' a (oC l) room F->eD h F->dA h h'->k (.tuple #[pT a 0,.int .i64 0]) h'):bT PG aAO #[.int .i64 room,x] h k:=by
 have lx:=hx.len (t':=aR) bZ.und;rw[iL] at lx;apply wH.call;unfold wH;by_cases hroom:room<1∨40<room
 ·have e:nN room l=1:=by unfold nN;rw[if_pos hroom]
  have:=hbad h cX.refl (by rw[e];decide);rw[e] at this;by_cases d2:room<1
  ·simp only[d2,cC,reduceIte];exact this
  ·have d3:(40<room)=True:=by apply eq_true;omega
   simp only[d2,d3,cC,reduceIte];exact this
 have d2:(room<1)=False:=by apply eq_false;omega
 have d3:(40<room)=False:=by apply eq_false;omega
 simp only[d2,d3,cC,reduceIte];refine⟨λvs h'=>∃i:Nat,i≤l.length∧vs=[.int .i64 room,x,.int .i64 i]∧dA h h'∧(l.take i).all It.right=true,fT l.length 2,⟨0,by omega,rfl,cX.refl,by simp⟩,?_⟩;rintro ρ h' ⟨i,hi,hvs,w,har⟩;simp only[iG,jB,kZ,and_true] at hvs;obtain⟨e0,e1,e2⟩:=hvs;rw[e0,e1,e2];unfold aFy;by_cases hlt:i<l.length
 ·have hd:((i:Int)<(l.length:Int))=True:=by apply eq_true;omega
  obtain⟨m,hm⟩:∃m,l[i]? =some m:=⟨_,kF hlt⟩;obtain⟨y,y1,y2⟩:=(hx.ext w).it (k:=.i64) hm;have htake:l.take (i+1)=l.take i++[m]:=by rw[zLR,hm];rfl
  have ei:=nR (i:=i) (by omega);have hwm:=hw m (zX hm);simp only[lx,hd,y1,y2,cC,reduceIte];refine aMy m hwm.1 hwm.2 λh2 u2=>?_;cases hr:m.right with
  | false=>
   have e:nN room l=1:=by
    unfold nN;rw[if_neg hroom,if_pos];rw[List.all_eq_false];exact⟨m,zX hm,by simp[hr]⟩
   simp only[cC,reduceIte];have:=hbad h2 (w.trans u2) (by rw[e];decide);rw[e] at this;exact this
  | true=>
   simp only[ei,cC,reduceIte];exact⟨⟨i+1,by omega,rfl,w.trans u2,by rw[htake,List.all_append,har];simp[hr]⟩,by simp[fT,e2];omega⟩
 ·have hil:i=l.length:=by omega
  have hd:((i:Int)<(l.length:Int))=False:=by apply eq_false;omega
  rw[hil,zLJ] at har;have har':¬l.all It.right=false:=by rw[har];simp
  have el:IntKind.i64.wrap ((l.length:Int)+1)=((l.length+1:Nat):Int):=by rw[eB (by omega) (by omega)];omega
  have rb:cB PG (build dE #[(1,.int .i64 (l.length+1:Nat))])=some (.agg #[.slice none 0 0,.int .i64 (l.length+1:Nat)]):=by kernel_rfl
  simp only[lx,hd,el,rb,cC,reduceIte];intro r hr
  try rw[cR]
  have u4:dA h' (h'.set r (.cells (Value.cells (.agg #[.slice none 0 0,.int .i64 (l.length+1:Nat)])) dE)):=cX.new hr;have R4:RAt (h'.set r (.cells (Value.cells (.agg #[.slice none 0 0,.int .i64 (l.length+1:Nat)])) dE)) r [] (l.length+1:Nat) [r]:=⟨⟨.slice none 0 0,[],eN,eH.nil,rfl,by simp⟩,List.Pairwise.nil⟩;have fr0:h r=none:=w.none hr;generalize h'.set r (.cells (Value.cells (.agg #[.slice none 0 0,.int .i64 (l.length+1:Nat)])) dE)=h4 at *;refine⟨λvs h'=>∃(i:Nat) (G:List Nat),i≤l.length∧vs=[.int .i64 room,x,pT r 0,.int .i64 i]∧RAt h' r (oC (l.take i)) (l.length+1:Nat) G∧eD h G∧dA h h'∧((l.take i).map It.key).Nodup,fT l.length 3,
   ⟨0,[r],by omega,rfl,R4,eD.one fr0,w.trans u4,by simp⟩,?_⟩
  rintro ρ2 h5 ⟨q,G,hq,hvs2,HR,fG,w5,hnd⟩;simp only[iG,jB,kZ,and_true] at hvs2;obtain⟨g0,g1,g2,g3⟩:=hvs2;rw[g0,g1,g2,g3];unfold aF3;have hlen:(oC (l.take q)).length≤q:=by
   have h1:=aHy (l.take q);have h2:(l.take q).length≤q:=by rw[lU];omega
   omega
  by_cases hqlt:q<l.length
  ·have hd:((q:Int)<(l.length:Int))=True:=by apply eq_true;omega
   obtain⟨m,hm⟩:∃m,l[q]? =some m:=⟨_,kF hqlt⟩;obtain⟨b,o,a1,a2,a3,_,a5⟩:=(hx.ext w5).itf (k:=.i64) hm;have htake:l.take (q+1)=l.take q++[m]:=by rw[zLR,hm];rfl
   have ei:=nR (i:=q) (by omega);have hn:= @aNJ (l.take q) m;simp only[lx,hd,a1,cF.f0,bX.f0,bX.f1,aR.load,cJ.load,a2,a3,cC,reduceIte];refine aMQ HR (by omega) m.key ?_;have hgt:(iJ (oC (l.take q)) m.key).isSome=decide (m.key∈(l.take q).map It.key):=aRT (l.take q) m.key;rw[hgt];by_cases hmem:m.key∈(l.take q).map It.key
   ·have hdup:¬(l.map It.key).Nodup:=aRk (i:=q+1) (by rw[htake];exact λh=>(hn.1 h).2 hmem);have e:nN room l=4:=by unfold nN;rw[if_neg hroom,if_neg har',if_pos hdup]
    simp only[hmem,cC,reduceIte];have:=hbad h5 w5 (by rw[e];decide);rw[e] at this;exact this
   ·have hg:iJ (oC (l.take q)) m.key=none:=by
     rw[decide_eq_false hmem] at hgt;simpa using hgt
    simp only[hmem,a1,a5,cC,reduceIte];refine aN0 HR (by omega) m hg λh6 G6 H6 u6 f6=>?_;have e2:sJ (oC (l.take q)) ((l.length+1:Nat):Int) m=pS (oC (l.take q)) m:=by unfold sJ;rw[if_neg (λhc=>by have:=hc.2;omega)]
    rw[e2] at H6;simp only[ei,cC,reduceIte];exact⟨⟨q+1,G6,by omega,rfl,by rw[htake,aPQ];exact H6,fG.grow w5 f6,w5.fresh u6 fG,by rw[htake];exact hn.2 ⟨hnd,hmem⟩⟩,by simp[fT,g3];omega⟩
  ·have hql:q=l.length:=by omega
   have hd:((q:Int)<(l.length:Int))=False:=by apply eq_false;omega
   rw[hql,zLJ] at HR hnd;by_cases hfull:room<(l.length:Int)
   ·have e:nN room l=2:=by unfold nN;rw[if_neg hroom,if_neg har',if_neg (λh=>h hnd),if_pos hfull]
    simp only[lx,hd,hfull,cC,reduceIte];have:=hbad h5 w5 (by rw[e];decide);rw[e] at this;exact this
   ·have e:nN room l=0:=by unfold nN;rw[if_neg hroom,if_neg har',if_neg (λh=>h hnd),if_neg hfull]
    obtain⟨v,G',ha,hO,hG,hna⟩:=HR.here;simp only[lx,hd,hfull,dE.f1,cC,reduceIte];refine lC aR.und rfl ha (by simp) rfl aR.info aR.size ?_;have u7:cX [r] h5 (h5.set r (.cells (#[v,.int .i64 (l.length+1:Nat)].setIfInBounds (0+1) (.int .i64 room)) dE (0,0))):=cX.set (by simp);have ha7:(h5.set r (.cells (#[v,.int .i64 (l.length+1:Nat)].setIfInBounds (0+1) (.int .i64 room)) dE (0,0))) r=some (.cells #[v,.int .i64 room] dE (0,0)):=eN;generalize h5.set r (.cells (#[v,.int .i64 (l.length+1:Nat)].setIfInBounds (0+1) (.int .i64 room)) dE (0,0))=h7 at *;exact hk r h7 G e ⟨⟨v,G',ha7,hO.upd u7 (λb hb=>by simp;rintro rfl;exact hna hb),hG,hna⟩,aHu _⟩ fG (w5.fresh u7 (eD.one fr0))
def AR(L:List It):Prop:=∀i∈L,i.right=true
def aRV{L:List It}{i x:It}(h:x∈pS L i):x=i∨x∈L:=by
 have:=(aGK L i).mem_iff.1 h;rcases iW.1 this with h|h
 ·exact .inl h
 ·unfold rI at h;exact .inr (zLY.1 h).1
def AR.ins{L:List It}(h:AR L){i:It}(hi:i.right=true):AR (pS L i):=λx hx=>by
 rcases aRV hx with rfl|hx
 ·exact hi
 ·exact h x hx
def AR.del{L:List It}(h:AR L)(k:Ky):AR (rI L k):=λx hx=>h x (by unfold rI at hx;exact(zLY.1 hx).1)
def AR.put{L:List It}(h:AR L){i:It}(hi:i.right=true)(room:Int):AR (sJ L room i):=by
 unfold sJ;split
 ·exact h
 ·exact h.ins hi
def AR.app{L:List It}(h:AR L)(room:Int)(n:Nt):AR (qJ L room n):=by
 unfold qJ;by_cases hr:n.right=false
 ·rw[if_pos hr];exact h
 ·rw[if_neg hr];have hp:n.p.right=true:=by
   have:n.right=true:=by simpa using hr
   unfold Nt.right at this;simp only[sU] at this;exact this.2
  split
  ·split
   ·exact h
   ·exact h.put (by unfold It.right;simp[hp]) room
  ·split
   ·split
    ·rename_i x hx;obtain⟨h1,_⟩:=aAt hx;have:=h x h1;unfold It.right at this;simp only[sU] at this;exact h.ins (by unfold It.right;simp[this.2])
    ·exact h.put (by unfold It.right;simp[hp]) room
   ·exact h.del _
def AR.aply{room:Int}:∀{L:List It} (l:List Nt),AR L->AR (mB room L l).1
 | L,[],h=>h
 | L,n::ns,h=>by
  unfold mB;split
  ·exact h.app room n
  ·exact AR.aply ns (h.app room n)
def mM.aply{room:Int}:∀{L:List It} (l:List Nt),mM L->mM (mB room L l).1
 | L,[],h=>h
 | L,n::ns,h=>by
  unfold mB;split
  ·exact h.app room n
  ·exact mM.aply ns (h.app room n)
def OkD.ar{d:Dm}{room:Int}(H:OkD d room):AR d.its:=λi hi=>aKA.1 H.all i hi
def OkD.sorted{d:Dm}{room:Int}(H:OkD d room):mM d.its:=by rw[←H.srt];exact aHu _
def aEZ{d:Dm}{room:Int}{r:Rc}(h:(lT d room r).2=0):OkD d room∧yI r∧OkD (lT d room r).1 room∧
  ((r.k=1∧(lT d room r).1=r.s)∨(r.k=2∧(r.ch=0∨r.ch=1)∧(mB room d.its r.ns).2=0∧(lT d room r).1=⟨if r.ch=0 then r.pl else d.p0,if r.ch=0 then d.p1 else r.pl,(mB room d.its r.ns).1⟩)):=by
 unfold lT at *;by_cases c0:chk d room=0
 ·have H:=aC5.1 c0;rw[if_neg (by simp[c0])] at *;by_cases c1:r.bytes.2=0
  ·have hr:=(aSd c1).1;rw[if_neg (by simp[c1])] at *;by_cases k1:r.k=1
   ·rw[if_pos k1] at *;by_cases c2:chk r.s room=0
    ·rw[if_neg (by simp[c2])];exact⟨H,hr,aC5.1 c2,.inl ⟨k1,rfl⟩⟩
    ·rw[if_pos c2] at h;exact absurd h c2
   ·obtain⟨k2,-,hc,-⟩:=rW hr.plain k1;obtain⟨hpl,-⟩:=hr.b k2;rw[if_neg k1] at *;rw[H.srt] at *;by_cases c3:(mB room d.its r.ns).2=0
    ·rw[if_neg (by simp[c3])];have hs:=mM.aply (room:=room) r.ns H.sorted;refine⟨H,hr,⟨H.r1,H.r2,aLQ H.sorted H.len r.ns,aKA.2 λi hi=>AR.aply (room:=room) r.ns H.ar i hi,?_,?_,aWL hs,hs.nodup⟩,.inr ⟨k2,hc,c3,rfl⟩⟩
     ·show jU (if r.ch=0 then r.pl else d.p0);split
      ·exact hpl
      ·exact H.p0
     ·show jU (if r.ch=0 then d.p1 else r.pl);split
      ·exact H.p1
      ·exact hpl
    ·rw[if_pos c3] at h;exact absurd h c3
  ·rw[if_pos c1] at h;exact absurd h c1
 ·rw[if_pos c0] at h;exact absurd h c0
def aOj(a b:Tx):((tx a).toList==(tx b).toList)=decide (a=b):=by
 have e:∀l:Tx,(tx l).toList=l:=λl=>by rw[ByteArray.toList_eq];simp[tx]
 rw[e,e,xF];simp
def aLd{h:PH}{t:TypeId}{x y:Operand}(a b:Tx):cD PG h (fV .neq t x y (.string (tx a)) (.string (tx b)))=some (.bool (!decide (a=b))):=by
 rw[←aOj];rfl
def aFd{h:PH}{t:TypeId}{x y:Operand}(a b:Tx):cD PG h (fV .eql t x y (.string (tx a)) (.string (tx b)))=some (.bool (decide (a=b))):=by
 rw[←aOj];rfl
def aWJ{x:Int×Pk}(h:aCh x):(aDa x).length≤84:=by
 have:=(Pk.right_iff.1 h.2.2).2.2.2.2;simp only[aDa,Pk.bs,jM,hY,aH8];omega
def aMZ:∀{l:List (Int×Pk)},(∀x∈l,aCh x)->(lN l).length≤84*l.length
 | [],_=>by simp[lN]
 | x::l,h=>by
  have h1:=aWJ (h x (by simp));have h2:=aMZ (l:=l) λy hy=>h y (by simp[hy]);simp only[lN,jM,iU];omega
def wz:List Value->List Value:=id
def aDo(i:Nat):List Value:=(List.range i).map (λn=>wv (aE4 n))++List.replicate (256-i) (.int .u32 0)
def aIx:List Value:=(List.range 256).map λn=>wv (aE4 n)
def aMa{i:Nat}(h:i≤256):(aDo i).length=256:=by
 unfold aDo;rw[jM,iL,List.length_range,aG3];omega
def aGL:aIx.length=256:=by
 unfold aIx;rw[iL,List.length_range]
def aP6:aDo 256=aIx:=by
 unfold aDo aIx;rw[aJE,List.replicate_zero,zLQ]
def aVU{i:Nat}(h:i<256):(aDo i).set i (wv (aE4 i))=aDo (i+1):=by
 unfold aDo;rw[List.set_append,if_neg (by rw[iL,List.length_range];omega),iL,List.length_range,aJE];obtain⟨k,hk⟩:∃k,256-i=k+1:=⟨256-i-1,by omega⟩;rw[hk,List.replicate_succ,List.set_cons_zero,show 256-(i+1)=k by omega,List.range_succ,xJ,uS];rfl
def aTO{i:Nat}(hi:i≤256):∀v∈aDo i,fL v=true:=λv hv=>by
 unfold aDo at hv;rcases tK.1 hv with hv|hv
 ·obtain⟨n,-,rfl⟩:=pQ.1 hv;rfl
 ·rw[List.eq_of_mem_replicate hv];rfl
def aO3:∀v∈aIx,fL v=true:=λv hv=>aTO (lM _) v (by rw[aP6];exact hv)
def aWS{j:Nat}(h:j<256):aIx[j]? =some (wv (aE4 j)):=by
 unfold aIx;rw[wG,List.getElem?_range h];rfl
def aVq:(Value.agg (List.replicate 256 (Value.int IntKind.u32 0)).toArray).cells.toList=aDo 0:=rfl
def aVv{k:IntKind}{b j:Nat}(h1:j<256):cB PG (indexAt fH (pT b 0) (.int k (j:Int)))=some (pT b j):=by
 rw[tJ fH.und fM.info fM.size (by omega) (by omega)];simp
def aZE{k:IntKind}{b j:Nat}(h1:j<4):cB PG (indexAt nS (pT b 0) (.int k (j:Int)))=some (pT b j):=by
 rw[tJ nS.und dM.info dM.size (by omega) (by omega)];simp
def aYc{P:Program}{t:TypeId}{x y:W}:cB P (binOp .mul t (wv x) (wv y))=some (wv (x*y)):=by
 unfold wv;rw[nU,aGA,BitVec.toNat_mul,←Int.natCast_mul];rfl
def aYm{t:TypeId}{x:W}:cB PG (binOp .and t (wv x) (.int .u32 1))=some (wv (x &&& 1)):=aYV (y:=1)
def aZD{t:TypeId}{x:W}:cB PG (binOp .mul t (wv x) (.int .u32 3988292384))=some (wv (x*3988292384)):=aYc (y:=3988292384)
def aZA{t:TypeId}{x:W}{k:IntKind}:cB PG (binOp .shr t (wv x) (.int k 1))=some (wv (x>>>1)):=aSN (n:=1) (by decide)
def aZG{t:TypeId}{x:W}{k:IntKind}:cB PG (binOp .shr t (wv x) (.int k 8))=some (wv (x>>>8)):=aSN (n:=8) (by decide)
def aUu{n:Nat}:cB PG (convert aR fM (.int .i64 (n:Int)))=some (wv (BitVec.ofNat 32 n)):=by
 have e:cB PG (convert aR fM (.int .i64 (n:Int)))=some (.int .u32 (IntKind.u32.wrap (n:Int))):=by kernel_rfl
 rw[e];unfold wv;rw[aGA,BitVec.toNat_ofNat];rfl
def aVx(x:W):cB PG (convert fM dM (wv x))=some (.int .u8 ((UInt8.ofNat x.toNat).toNat:Int)):=by
 have e:cB PG (convert fM dM (.int .u32 (x.toNat:Int)))=some (.int .u8 (IntKind.u8.wrap (x.toNat:Int))):=by kernel_rfl
 unfold wv;rw[e,aJV,UInt8.toNat_ofNat'];congr 1
def aY4{t:TypeId}(a b:UInt8):cB PG (binOp .xor t (.int .u8 (a.toNat:Int)) (.int .u8 (b.toNat:Int)))=some (.int .u8 ((a ^^^ b).toNat:Int)):=by
 have e:cB PG (binOp .xor t (.int .u8 (a.toNat:Int)) (.int .u8 (b.toNat:Int)))=some (.int .u8 (IntKind.u8.wrap ((BitVec.ofInt 8 (a.toNat:Int) ^^^ BitVec.ofInt 8 (b.toNat:Int)).toNat:Int))):=rfl;have h:∀c:UInt8,BitVec.ofInt 8 (c.toNat:Int)=c.toBitVec:=λc=>by
  apply BitVec.eq_of_toNat_eq;rw[BitVec.toNat_ofInt];have:=c.toNat_lt;have e:c.toBitVec.toNat=c.toNat:=rfl;rw[e];omega
 rw[e,h,h,aJV];have h2:(a.toBitVec ^^^ b.toBitVec).toNat=(a ^^^ b).toNat:=rfl;rw[h2];have:=(a ^^^ b).toNat_lt;congr 2;omega
def aT0{h:PH}{r1 r3 i:Nat}{n5:gH}{R:cE}(hi:i<256)(B1:Bx h r1 (aDo 0))(B3:Bx h r3 (aDo i))(n13:r1≠r3)
  (hk:∀h',Bx h' r1 (aDo 0)->Bx h' r3 (aDo (i+1))->cX [r3] h h'->n5 [pT r1 0,pT r3 0,.int .i64 ((i+1:Nat):Int)] h'):
  hC [0,1,2,3,4,9] (λn9 ρ h=>aHM R n5 n9 (ρ 0) (ρ 1) (ρ 2) (ρ 3) (ρ 4) (ρ 9) h) [pT r1 0,pT r3 0,.int .i64 (i:Int),wv (BitVec.ofNat 32 i),.int .i64 (i:Int),.int .i64 0] h:=by
 refine⟨λvs h'=>∃k:Nat,k≤8∧vs=[pT r1 0,pT r3 0,.int .i64 (i:Int),wv (yG k (BitVec.ofNat 32 i)),.int .i64 (i:Int),.int .i64 (k:Int)]∧h'=h,fT 8 5,⟨0,by omega,rfl,rfl⟩,?_⟩;rintro ρ h' ⟨k,hkk,hvs,rfl⟩;simp only[iG,jB,kZ,and_true] at hvs;obtain⟨x0,x1,x2,x3,x4,x9⟩:=hvs;unfold aHM;rw[x0,x1,x2,x3,x4,x9];by_cases hlt:k<8
 ·have g:((k:Int)<8)=True:=eq_true (by omega);have gi:=nR (i:=k) (by omega);simp only[g,aZA,aYm,aZD,aPA,gi,cC,reduceIte,cI,Nat.reduceAdd];exact⟨⟨k+1,by omega,rfl,by first|rfl|trivial⟩,by simp[fT,x9];omega⟩
 ·have g:((k:Int)<8)=False:=eq_false (by omega);have gi:=nR (i:=i) (by omega);obtain rfl:k=8:=by omega
  simp only[g,aVv hi,cC,reduceIte,cI,Nat.reduceAdd];refine fM.put B3 (by rw[aMa (by omega)];exact hi) rfl λh2 B u=>?_;rw[show wv (yG 8 (BitVec.ofNat 32 i))=wv (aE4 i) from rfl,aVU hi] at B;simp only[gi,cC,reduceIte,cI,Nat.reduceAdd];exact hk h2 (B1.upd u (by simpa using n13)) B u
def aVC{h:PH}{k:cE}(hk:∀h',dA h h'->k (.agg aIx.toArray) h'):bT PG aIG #[] h k:=by
 apply aEc.call;unfold aEc;intro r1 hr1
 try rw[cR]
 have B1:=fH.zbox (h:=h) (r:=r1);rw[aVq] at B1;have u1:dA h (h.set r1 (.cells (dJ PG fH) fH)):=cX.new hr1;generalize h.set r1 (.cells (dJ PG fH) fH)=h1 at *;intro r3 hr3
 try rw[cR]
 have B3:=fH.zbox (h:=h1) (r:=r3);rw[aVq] at B3;have u3:dA h1 (h1.set r3 (.cells (dJ PG fH) fH)):=cX.new hr3;have C1:=B1.ext u3;have n13:r1≠r3:=B1.apart hr3;generalize h1.set r3 (.cells (dJ PG fH) fH)=h3 at *;have e3:=u1.trans u3;have f1:eD h [r1]:=eD.one hr1;have f3:eD h [r3]:=eD.one (u1.none hr3);refine⟨λvs h'=>∃i:Nat,i≤256∧vs=[pT r1 0,pT r3 0,.int .i64 (i:Int)]∧Bx h' r1 (aDo 0)∧Bx h' r3 (aDo i)∧dA h h',fT 256 2,⟨0,by omega,rfl,C1,B3,e3⟩,?_⟩;rintro ρ h' ⟨i,hi,hvs,D1,D3,w⟩;simp only[iG,jB,kZ,and_true] at hvs;obtain⟨x0,x1,x4⟩:=hvs;unfold aKe;rw[x0,x1,x4];by_cases hlt:i<256
 ·have g:((i:Int)<256)=True:=eq_true (by omega);simp only[g,aUu,cC,reduceIte,cI,Nat.reduceAdd];refine aT0 hlt D1 D3 n13 λh2 E1 E3 u=>?_;exact⟨⟨i+1,by omega,rfl,E1,E3,w.fresh u f3⟩,by simp[fT,x4];omega⟩
 ·have g:((i:Int)<256)=False:=eq_false (by omega);obtain rfl:i=256:=by omega
  rw[aP6] at D3;have l3:cD PG h' (loadAt fH (pT r3 0))=some (.agg aIx.toArray):=by
   rw[fH.agg D3 (by rw[aGL];decide),zLb,sK (Nat.le_of_eq aGL)]
  simp only[g,l3,cC,reduceIte,cI,Nat.reduceAdd];refine fH.put D1 (o:=0) aGL (by rw[aMa (by omega)];decide) aO3 λh2 E1 u=>?_;rw[zLd,zLU,yQ (by rw[aMa (by omega)];decide),zLQ] at E1;have l1:cD PG h2 (loadAt fH (pT r1 0))=some (.agg aIx.toArray):=by
   rw[fH.agg E1 (by rw[aGL];decide),zLb,sK (Nat.le_of_eq aGL)]
  simp only[l1,cC,reduceIte,cI,Nat.reduceAdd];exact hk h2 (w.fresh u f1)
def aWc{h:PH}(x:W)(s:Tx){k:cE}(hs:s.length≤1000000)(hk:∀h',dA h h'->k (wv (rZ x s)) h'):bT PG aJA #[wv x,.string (tx s)] h k:=by
 apply aJ9.call;unfold aJ9;refine aVC λh2 u2=>?_;intro r3 hr3
 try rw[cR]
 refine fH.fill hr3 aGL aO3 λh4 B4 u4=>?_;have e4:=u2.trans u4;have ls:cB PG (Builtin.len_ #[aT] aR #[.string (tx s)])=some (.int .i64 (s.length:Int)):=by rw[uZ aT.und,lJ]
 simp only[ls,cC,reduceIte,cI,Nat.reduceAdd];refine⟨λvs h'=>∃i:Nat,i≤s.length∧vs=[wv (rZ x (s.take i)),.string (tx s),pT r3 0,.int .i64 (s.length:Int),.int .i64 (i:Int)]∧h'=h4,fT s.length 4,⟨0,by omega,rfl,rfl⟩,?_⟩;rintro ρ h' ⟨i,hi,hvs,rfl⟩;simp only[iG,jB,kZ,and_true] at hvs;obtain⟨x0,x1,x5,x9,x10⟩:=hvs;unfold aLn;rw[x0,x1,x5,x9,x10];by_cases hlt:i<s.length
 ·have g:((i:Int)<(s.length:Int))=True:=eq_true (by omega);have gi:=nR (i:=i) (by omega);obtain⟨b,hb⟩:∃b,s[i]? =some b:=⟨_,kF hlt⟩;have ib:cB PG (Instr.index aT (.string (tx s)) (.int .i64 (i:Int)))=some (.int .u8 b.toNat):=oB aT.und hb;have et:rZ x (s.take (i+1))=aJL (rZ x (s.take i)) b:=by
   unfold rZ;rw[zLR,hb,List.foldl_append];rfl
  have ha:=aVv (k:=.u8) (b:=r3) (j:=((UInt8.ofNat (rZ x (s.take i)).toNat) ^^^ b).toNat) (UInt8.toNat_lt _);have hc:cV h' ⟨r3,((UInt8.ofNat (rZ x (s.take i)).toNat) ^^^ b).toNat,none⟩=some (wv (aE4 ((UInt8.ofNat (rZ x (s.take i)).toNat) ^^^ b).toNat)):=by rw[B4.cell,aWS (UInt8.toNat_lt _)]
  simp only[g,aZG,aVx,ib,aY4,ha,fM.load,hc,aPA,gi,cC,reduceIte,cI,Nat.reduceAdd];rw[show((rZ x (s.take i))>>>8 ^^^ aE4 ((UInt8.ofNat (rZ x (s.take i)).toNat) ^^^ b).toNat)=rZ x (s.take (i+1)) from et.symm];exact⟨⟨i+1,by omega,rfl,by first|rfl|trivial⟩,by simp[fT,x10];omega⟩
 ·have g:((i:Int)<(s.length:Int))=False:=eq_false (by omega);simp only[g,cC,reduceIte,cI,Nat.reduceAdd];rw[sK (by omega)];exact hk h' e4
def aRS{h:PH}{v:Value}{s:Tx}(S:iH h 1 v [[.string (tx s)]])(hs:s.length≤1000000){k:cE}(hk:∀h',dA h h'->k (wv (aNc s)) h'):bT PG aHl #[v] h k:=by
 apply aLg.call;unfold aLg;have lv:cB PG (Builtin.len_ #[dD] aR #[v])=some (.int .i64 1):=S.len (t':=aR) dD.und;simp only[lv,cC,reduceIte,cI,Nat.reduceAdd];refine⟨λvs h'=>∃i:Nat,i≤1∧vs=[wv (if i=0 then 4294967295 else rZ 4294967295 s),v,.int .i64 1,.int .i64 (i:Int)]∧dA h h',fT 1 3,⟨0,by omega,rfl,cX.refl⟩,?_⟩;rintro ρ h' ⟨i,hi,hvs,w⟩;simp only[iG,jB,kZ,and_true] at hvs;obtain⟨x3,x6,x7,x8⟩:=hvs;unfold aNE;rw[x3,x6,x7,x8];have:i=0∨i=1:=by omega
 rcases this with rfl|rfl
 ·have g:(((0:Nat):Int)<1)=True:=eq_true (by decide);obtain⟨a',j1,j2⟩:=aJB (l:=[s]) (i:=0) (S.ext w) rfl;have gi:IntKind.i64.wrap (((0:Nat):Int)+1)=((1:Nat):Int):=rfl;simp only[g,j1,j2,if_true,cC,reduceIte,cI,Nat.reduceAdd];refine aWc _ s hs λh2 u2=>?_;simp only[gi,cC,reduceIte,cI,Nat.reduceAdd];exact⟨⟨1,by omega,rfl,w.trans u2⟩,by simp[fT,x8]⟩
 ·have g:(((1:Nat):Int)<1)=False:=eq_false (by decide);have e:(if (1:Nat)=0 then(4294967295:W) else rZ 4294967295 s)=rZ 4294967295 s:=rfl;simp only[g,e,aYX,cC,reduceIte,cI,Nat.reduceAdd];exact hk h' w
def aOY{h:PH}(x:W){k:cE}(hk:∀h',dA h h'->k (.string (tx (aF8 x))) h'):bT PG aFq #[wv x] h k:=by
 apply aIs.call;unfold aIs;intro r1 hr1
 try rw[cR]
 have B1:=nS.zbox (h:=h) (r:=r1);have u1:dA h (h.set r1 (.cells (dJ PG nS) nS)):=cX.new hr1;generalize h.set r1 (.cells (dJ PG nS) nS)=h1 at *;have f1:eD h [r1]:=eD.one hr1;let c:Nat->Value:=λi=>.int .u8 ((UInt8.ofNat (x>>>(8*i)).toNat).toNat:Int);refine⟨λvs h'=>∃i:Nat,i≤4∧vs=[wv x,pT r1 0,.int .i64 (i:Int)]∧Bx h' r1 ((List.range i).map c++List.replicate (4-i) (.int .u8 0))∧dA h h',fT 4 2,⟨0,by omega,rfl,B1,u1⟩,?_⟩;rintro ρ h' ⟨i,hi,hvs,B,w⟩;simp only[iG,jB,kZ,and_true] at hvs;obtain⟨x0,x3,x5⟩:=hvs;unfold aK8;rw[x0,x3,x5];by_cases hlt:i<4
 ·have g:((i:Int)<4)=True:=eq_true (by omega);have gi:=nR (i:=i) (by omega);have gm:IntKind.i64.wrap (8*(i:Int))=((8*i:Nat):Int):=by rw[eB (by omega) (by omega)];omega
  have hsh:cB PG (binOp .shr fM (wv x) (.int .i64 ((8*i:Nat):Int)))=some (wv (x>>>(8*i))):=aSN (by omega);simp only[g,nU,gm,hsh,aVx,aZE hlt,gi,cC,reduceIte,cI,Nat.reduceAdd];refine dM.put B (by simp;omega) rfl λh2 B2 u2=>?_;have es:((List.range i).map c++List.replicate (4-i) (Value.int .u8 0)).set i (.int .u8 ((UInt8.ofNat (x>>>(8*i)).toNat).toNat:Int))=(List.range (i+1)).map c++List.replicate (4-(i+1)) (Value.int .u8 0):=by
   rw[List.set_append,if_neg (by rw[iL,List.length_range];omega),iL,List.length_range,aJE];obtain⟨m,hm⟩:∃m,4-i=m+1:=⟨4-i-1,by omega⟩;rw[hm,List.replicate_succ,List.set_cons_zero,show 4-(i+1)=m by omega,List.range_succ,xJ,uS];rfl
  rw[es] at B2;exact⟨⟨i+1,by omega,rfl,B2,w.fresh u2 f1⟩,by simp[fT,x5];omega⟩
 ·have g:((i:Int)<4)=False:=eq_false (by omega);obtain rfl:i=4:=by omega
  have es:(List.range 4).map c++List.replicate (4-4) (Value.int .u8 0)=((aF8 x).map jZ).flatten:=by
   show [c 0,c 1,c 2,c 3]=_;unfold aF8;simp[jZ,c]
  rw[es] at B;obtain⟨e,hb⟩:=B;have O:eH h' e 1 (.slice (some ⟨r1,0,none⟩) 4 4) ((aF8 x).map jZ) [r1]:=eH.lit (n:=4) (λr hr=>by obtain⟨m,_,rfl⟩:=pQ.1 hr;rfl) hb rfl (by decide) rfl;have sl:cB PG (Instr.sliceAt nS (pT r1 0) none none none)=some (.slice (some ⟨r1,0,none⟩) 4 4):=by kernel_rfl
  have hcv:cD PG h' (convert cY aT (.slice (some ⟨r1,0,none⟩) 4 4))=some (.string (tx (aF8 x))):=aFQ cY.und dM.und aT.und O.slR;simp only[g,sl,hcv,cC,reduceIte,cI,Nat.reduceAdd];exact hk h' w
def aGX(a:ByteArray):kC PG (buildSlice dD 1 #[(0,.string a)])=some (.cells #[.string a] aT,λr=>pure (.slice (some ⟨r,0,none⟩) 1 1)):=by kernel_rfl
def aGE{h:PH}{r:Nat}(s:Tx):eH (h.set r (.cells #[.string (tx s)] aT)) aT 1 (.slice (some ⟨r,0,none⟩) 1 1) [[.string (tx s)]] [r]:=eH.lit (n:=1) (λr hr=>by simp only[iC] at hr;rw[hr];rfl) eN rfl (by decide) rfl
def aRN{h:PH}(s:Tx)(hs:s.length≤1000000){k:cE}(hk:∀h',dA h h'->k (.string (tx (mQ s))) h'):bT PG aGT #[.string (tx s)] h k:=by
 apply aJk.call;unfold aJk;simp only[aGX,iO,zPP];intro r1 hr1;refine iB ?_
 try rw[cR]
 have u1:dA h (h.set r1 (.cells #[.string (tx s)] aT)):=cX.new hr1;refine aRS (aGE s).slR hs λh2 u2=>?_;refine aOY _ λh3 u3=>?_;have ea:cB PG (binOp .add aT (.string (tx s)) (.string (tx (aF8 (aNc s)))))=some (.string (tx (mQ s))):=jW (by show s.length+4≤_;omega);simp only[ea,cC,reduceIte,cI,Nat.reduceAdd];exact hk h3 ((u1.trans u2).trans u3)
def aQN{h:PH}(s:Tx)(hs:s.length≤1000000){k:cE}(hk:∀h',dA h h'->k (.bool (oE s)) h'):bT PG aFG #[.string (tx s)] h k:=by
 apply aEf.call;unfold aEf;have ls:cB PG (Builtin.len_ #[aT] aR #[.string (tx s)])=some (.int .i64 (s.length:Int)):=by rw[uZ aT.und,lJ]
 have gs:IntKind.i64.wrap ((s.length:Int)-4)=(s.length:Int)-4:=eB (by omega) (by omega);by_cases h4:4≤s.length
 ·have g:((0:Int)≤(s.length:Int)-4)=True:=eq_true (by omega);have e4:(s.length:Int)-4=((s.length-4:Nat):Int):=by omega
  have c1:cB PG (Instr.sliceAt aT (.string (tx s)) none (some (.int .i64 ((s.length-4:Nat):Int))) none)=some (.string (tx (s.take (s.length-4)))):=by
   have:=kD (P:=PG) (t:=aT) (l:=s) (i:=0) (j:=s.length-4) (lo:=none) (hi:=some (.int .i64 ((s.length-4:Nat):Int))) aT.und (.inl ⟨rfl,rfl⟩) (.inr ⟨_,rfl⟩) (by omega) (by omega);rw[this,zLb]
  have c2:cB PG (Instr.sliceAt aT (.string (tx s)) (some (.int .i64 ((s.length-4:Nat):Int))) none none)=some (.string (tx (s.drop (s.length-4)))):=by
   have:=kD (P:=PG) (t:=aT) (l:=s) (i:=s.length-4) (j:=s.length) (lo:=some (.int .i64 ((s.length-4:Nat):Int))) (hi:=none) aT.und (.inr ⟨_,rfl⟩) (.inl ⟨rfl,rfl⟩) (by omega) (by omega);rw[this,zLJ]
  have gs':IntKind.i64.wrap ((s.length-4:Nat):Int)=((s.length-4:Nat):Int):=eB (by omega) (by omega);have g':((0:Int)≤((s.length-4:Nat):Int))=True:=eq_true (by omega);simp only[ls,e4,gs',g',c1,c2,aGX,cC,reduceIte,cI,Nat.reduceAdd];intro r1 hr1;refine iB ?_
  try rw[cR]
  have u1:dA h (h.set r1 (.cells #[.string (tx (s.take (s.length-4)))] aT)):=cX.new hr1
  try simp only[cC,reduceIte,cI,Nat.reduceAdd]
  refine aRS (aGE _).slR (by rw[lU];omega) λh2 u2=>?_
  try simp only[cC,reduceIte,cI,Nat.reduceAdd]
  refine aOY _ λh3 u3=>?_;have ed:decide (aF8 (aNc (s.take (s.length-4)))=s.drop (s.length-4))=oE s:=by
   unfold oE;rw[xF,decide_eq_true_iff,decide_eq_true_iff];exact⟨λh=>⟨h4,h⟩,λh=>h.2⟩
  simp only[aFd,ed,cC,reduceIte,cI,Nat.reduceAdd];exact hk h3 ((u1.trans u2).trans u3)
 ·have g:((0:Int)≤(s.length:Int)-4)=False:=eq_false (by omega);have ed:oE s=false:=by
   unfold oE;simp[h4]
  rw[ed] at hk;simp only[ls,gs,g,cC,reduceIte,cI,Nat.reduceAdd];exact hk h cX.refl
end
end Go.Proofs.YtiohehjhlghikaaGreatDoor
