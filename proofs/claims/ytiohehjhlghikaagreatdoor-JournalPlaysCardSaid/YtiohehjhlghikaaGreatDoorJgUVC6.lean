/- The texts of this claim, put together. -/
import Derived.Test.YtiohehjhlghikaaGreatDoorJgUVC5
import Derived.Shelf.SlSortCmp.NoneTotal
set_option linter.all false
set_option maxRecDepth 100000
open Go.Instr (loadAt fieldAt indexAt extract buildSlice build)
namespace Go.Proofs.YtiohehjhlghikaaGreatDoor
section
open Go Go.Sort Go.Shelf
def aOb{α:Type}[Inhabited α](enc:α->List Value)(k:Nat)(hk0:0<k)(hlen:∀x,(enc x).length=k)(l:List α):(l.map enc).flatten=(flatK enc k l.toArray).toList:=by
 have hr:Rows k (l.map enc):=λr hr=>by obtain⟨x,_,rfl⟩:=rS.1 hr;exact hlen x
 apply aMR;intro j;have hfl:(l.map enc).flatten.length=l.length*k:=by rw[hr.flat,jJ]
 by_cases hj:j<l.length*k
 ·have hi:j/k<l.length:=(Nat.div_lt_iff_lt_mul hk0).2 hj;have hat:=hr.at (i:=j/k) (r:=enc l[j/k]) (by simp[hi]);have hc:j%k<k:=zLB _ hk0;have e1:(l.map enc).flatten[j]? =(enc l[j/k])[j%k]?:=by
   rw[←hat,aEv,if_pos hc,aJ4];congr 1;rw[Nat.mul_comm];exact(Nat.div_add_mod j k).symm
  have hs:j<(flatK enc k l.toArray).size:=by rw[size_flatK];exact hj
  have hg:=get_flatK enc k l.toArray j (by simpa using hj);rw[getElem!_pos _ j hs] at hg;have hle:j%k<(enc l[j/k]).length:=by rw[hlen];exact hc
  have hx:l.toArray[j/k]! =l[j/k]:=by rw[getElem!_pos l.toArray (j/k) (by simpa using hi)];rfl
  have e2:(flatK enc k l.toArray).toList[j]? =(flatK enc k l.toArray)[j]?:=by simp
  rw[e1,e2,Array.getElem?_eq_getElem hs,hg,hx,lG hle,getElem!_pos (enc l[j/k]) (j%k) hle]
 ·rw[List.getElem?_eq_none (by omega),aKx,Array.getElem?_eq_none (by simp;omega)]
def aO8(F c:Array Value)(hle:F.size≤c.size):(putCells id 0 F c).toList.take F.size=F.toList:=by
 apply aMR;intro j;rw[aEv,aKx,aKx];by_cases hj:j<F.size
 ·rw[if_pos hj];simp only[putCells,Array.getElem?_mapIdx,kB,mK,true_and,Nat.sub_zero,hj,if_true,id];rw[Array.getElem?_eq_getElem (by omega),Array.getElem?_eq_getElem hj,getElem!_pos F j hj];rfl
 ·rw[if_neg hj,Array.getElem?_eq_none (by omega)]
def aU6{w w':World}(os:w'.os=w.os)(tape:w'.tape=w.tape)(output:w'.output=w.output)(drawn:w.drawn≤w'.drawn)(size:w.heap.size≤w'.heap.size)(far:∀b,b<w.heap.size->w'.heap[b]? =w.heap[b]?):
  ∃q os',w'=grow (w.drewN q) os':=by
 refine⟨w'.drawn-w.drawn,w'.heap.extract w.heap.size w'.heap.size,?_⟩;cases w with|mk heap tp dr o ou=>cases w' with|mk heap' tp' dr' o' ou'=>
 simp only at *;subst os tape output;unfold grow World.drewN;simp only[World.mk.injEq,and_true,true_and];refine⟨?_,by omega⟩;apply Array.ext_getElem?;intro i;rw[Array.getElem?_append];split
 ·rename_i hi;exact far i hi
 ·rename_i hi;rw[Array.getElem?_extract];split
  ·congr 1;omega
  ·rw[Array.getElem?_eq_none (by omega)]
def aQi{P:Program}{ρ:Ren}{α:Type}[Inhabited α](L:SlLaysF0.n6 P ρ){f:FuncId}(hf:ρ.f 6=f){k:Nat}(hk0:0<k)(aE:∀w,(isAgg (ρ.t 24)).run P w= .ok true w)(zE:∀w,(Go.sizeOf (ρ.t 24)).run P w= .ok k w)
  (enc:α->List Value) (hlen:∀x,(enc x).length=k) (h1:∀x,∀v∈enc x,v.oneCell'=true) (cf:α->α->Int) (hO:SWO (ltOf cf)) {g:FuncId} (eg:aDP P g=true)
  (hcmp:∀x y,bR P g #[.agg (enc x).toArray,.agg (enc y).toArray] (λ_=>none) λv _=>v= .int .i64 (cf x y)) (hen:aDP P f=true)
  {e:TypeId} {v:Value} {F:List Nat} {l:List α} {h:PH} (H:fY h e k v (l.map enc) F) (hsz:l.length<4611686018427387904) {R:dI}
  (hk:∀(l':List α) h',l'.Perm l->l'.Pairwise (λa b=>ltOf cf b a=false)->fY h' e k v (l'.map enc) F->eH F h h'->R (.tuple #[]) h'):bR P f #[v,.func (.func g) #[] #[]] h R:=by
 subst hf;refine .inl ⟨hen,λw hs=>?_⟩;have heg:∀(args:Array Value) (w:World),(callFunc g args).run P w= .ok (.enter g args) w:=λargs w=>
  dH.run (h:=λ_=>none) (aHy eg) (λ_ _ hb=>by cases hb)
 rcases H.here with⟨hv,hr,hF⟩|⟨b,cap,cs,hv,hF,hb,hle,hcm,hcs,htk⟩
 ·have hl:l=[]:=List.map_eq_nil_iff.1 hr;subst hl hv hF;refine(AnyF.slices_SortFunc_none L none 0 _ w).mono λe1 w' ⟨he,hw⟩=>?_;subst hw;exact⟨_,h,he,hk [] h (List.Perm.refl _) List.Pairwise.nil H eH.refl,hs,Fr.refl _ _⟩
 ·subst hF;have hfl:=aOb enc k hk0 hlen l;have hrl:(l.map enc).length=l.length:=jJ _;rw[hrl] at hv hle htk;have hwb:=hs b _ hb;have hblk:b<w.heap.size:=hs.lt hb;have hH:HoldsK enc k w b 0 l.toArray:=by
   intro j hj;have hj':j<l.length*k:=by simpa using hj
   have hc:cs[j]? =some ((flatK enc k l.toArray)[j]!):=by
    have e1:cs.toList[j]? =(l.map enc).flatten[j]?:=by rw[←htk,aEv,if_pos hj']
    rw[aKx] at e1;rw[e1,hfl,aKx,Array.getElem?_eq_getElem hj,getElem!_pos _ j hj]
   constructor
   ·unfold World.cell?;simp only[kB,hwb,zLv];simpa using hc
   ·unfold World.frozen?;simp only[hwb];simp
  have hcm':CmpLays P g #[] enc k cf b 0 l.toArray.size w:=by
   intro m os dk _ x y;have hc:=(hcmp x y).calls eg (sortWorldK enc k w b 0 m dk os) (λ_ _ hb=>by cases hb);refine hc.mono λe1 w' ⟨v1,h1,he,hv1,_,fr⟩=>⟨by rw[he,hv1],aU6 fr.os fr.tape fr.output fr.drawn fr.size λi hi=>fr.far i hi rfl⟩
  have hS:=AnyQ.slices_SortFunc L k aE zE enc hlen h1 cf hO g #[] b 0 cap l.toArray w heg hcm' hH hblk (by simpa using hsz);subst hv;have hz:l.toArray.size=l.length:=by simp
  rw[hz] at hS;refine hS.mono λe1 w' ⟨he,d',n,os,hp,hso,hw⟩=>?_;obtain⟨hps,_,hpp⟩:=hp;have hds:d'.toList.length=l.length:=by simpa using hps
  let c':=putCells id 0 (flatK enc k d') cs;have hmod:∀i,w'.heap[i]? =if i<w.heap.size then(if i=b then some (.cells c' e (0,0)) else w.heap[i]?) else os[i-w.heap.size]?:=by
   intro i;subst hw;show((w.heap.modify b (onCells (putCells id 0 (flatK enc k d'))))++os)[i]? =_;rw[Array.getElem?_append,Array.size_modify,Array.getElem?_modify];by_cases hi:i<w.heap.size
   ·rw[if_pos hi,if_pos hi];by_cases hib:i=b
    ·subst hib;rw[if_pos rfl,if_pos rfl,hwb];rfl
    ·rw[if_neg (Ne.symm hib),if_neg hib]
   ·rw[if_neg hi,if_neg hi]
  have hsub:qA (h.set b (.cells c' e (0,0))) w':=by
   intro i o hi;rw[hmod];unfold PH.set at hi;split at hi
   ·rename_i e1;subst e1;rw[if_pos hblk,if_pos rfl];exact hi
   ·rename_i e1;rw[if_pos (hs.lt hi),if_neg e1];exact hs _ _ hi
  have hfr:Fr h w (h.set b (.cells c' e (0,0))) w':=by
   subst hw;refine⟨rfl,rfl,rfl,?_,?_,λi hi hn=>?_,λi hi hn=>?_⟩
   ·show w.drawn≤w.drawn+n;omega
   ·show w.heap.size≤((w.heap.modify b _)++os).size;simp
   ·rw[hmod,if_pos hi,if_neg (λe1=>by subst e1;rw[hb] at hn;cases hn)]
   ·rw[aAr (λe1=>by subst e1;rw[hb] at hn;cases hn)];exact hn
  refine⟨_,_,he,hk d'.toList _ ?_ ?_ ⟨λr hr=>?_,.inr ⟨b,cap,c',?_,rfl,gB,?_,hcm,?_,?_⟩⟩ (eH.set (by simp)),hsub,hfr⟩
  ·have e1:d'.extract 0 l.length=d':=by rw[←hz,←hps];simp
   have e2:l.toArray.extract 0 l.length=l.toArray:=by rw[←hz];simp
   rw[e1,e2] at hpp;simpa using hpp
  ·rw[List.pairwise_iff_getElem];intro i j hi hj hij;have:=hso i j (mK _) hij (by rw[←hz,←hps];simpa using hj);rw[getElem!_pos d' i (by simpa using hi),getElem!_pos d' j (by simpa using hj)] at this;simpa using this
  ·obtain⟨x,_,rfl⟩:=rS.1 hr;exact hlen x
  ·rw[jJ,hds]
  ·rw[jJ,hds];exact hle
  ·show(putCells id 0 (flatK enc k d') cs).size=_;unfold putCells;rw[Array.size_mapIdx];exact hcs
  ·rw[jJ,hds];have hfd:=aOb enc k hk0 hlen d'.toList;rw[hfd];have hsz2:(flatK enc k d').size=l.length*k:=by rw[size_flatK,hps,hz]
   have:=aO8 (flatK enc k d') cs (by rw[hsz2,hcs];exact yE _ hle);rw[hsz2] at this;simpa using this
end
section
open Go
def aNO:aLs PG gR tO where
 chk:=λh b a=>by unfold tO;cases b<;>kernel_rfl
 eq:=λh a b=>by
  show dH PG h (Op.equalIn (9999+1) gR (.agg #[.int .i64 a.1,.int .u64 a.2]) (.agg #[.int .i64 b.1,.int .u64 b.2]))=_;rw[aBJ gR.und (by kernel_rfl) (λf=>match f.offset with|0=>a.1==b.1|_=>a.2==b.2)]
  ·congr 1;rw[yA];obtain⟨x,y⟩:=a;obtain⟨x',y'⟩:=b;simp
  ·intro f hf;simp only[jW,zLg,or_false] at hf;rcases hf with rfl|rfl
   ·exact⟨by decide,_,_,jO aR.und rfl rfl,jO aR.und rfl rfl,sH aR.und⟩
   ·exact⟨by decide,_,_,jO dN.und rfl rfl,jO dN.und rfl rfl,sH dN.und⟩
 bits:=λa=>by
  show Instr.sameBits (9999+1) (.agg #[.int .i64 a.1,.int .u64 a.2]) (.agg #[.int .i64 a.1,.int .u64 a.2])=true;simp[Instr.sameBits]
 now:=⟨_,gR.und,.inl λa b=>rfl⟩
def It.pr(i:It):Ky×Value:=(i.key,i.val)
def It.un:Value->It
 | .agg ⟨[.int _ f,.int _ s,.int _ t,.string d,.int _ g]⟩=>⟨⟨f,s,t,d⟩,g⟩
 | _=>default
def It.un_val(i:It):It.un i.val=i:=rfl
def aVu(l:List It):(l.map It.pr).map (λp=>It.un p.2)=l:=by
 rw[zLZ];have:((λp:Ky×Value=>It.un p.2) ∘ It.pr)=id:=by funext i;exact It.un_val i
 rw[this,List.map_id]
abbrev MAt(h:PH)(m:Nat)(l:List It):Prop:=qB tO h m (l.map It.pr)
def aIT{h:PH}{r:Nat}(hr:h r=none)(x:It){k:dI}(hk:∀h',Bx h' r x.cells->eM h h'->k undef h'):
  dT PG (dX dJ (pT r 0) x.val) (h.set r (.cells (eX PG dJ) dJ)) k:=by
 refine aHL gB dJ.info (by show 5=5;rfl) (by show 0<5;decide) (by rw[dJ.zc];rfl) x.allCell ?_;rw[aDb];exact hk _ ⟨_,gB⟩ (eH.new hr)
abbrev aHI(l:Nat):Value:=.func (.yield l) #[] #[]
def aTj{h:PH}{bx m l:Nat}{L:List It}(hb:Bx h bx [.map (some m)])(hm:MAt h m L)(J:Nat->List It->PH->Prop)
  (J0:∀it h',h it=none->eM h h'->h' it≠none->J it [] h') (Js:∀it pre h1 h2,J it pre h1->eH [it] h1 h2->J it pre h2)
  (Jy:∀it pre x h1,h it=none->pre.length<L.length->J it pre h1->h1 it≠none->∀k':Value->PH->Prop,(∀h2 G,J it (pre++[x]) h2->eH G h1 h2->m∉G->it∉G->k' (.bool true) h2)->aAK PG (aHI l) #[x.val] h1 k')
  {k:dI} (hk:∀it l' h',l'.Perm L->J it l' h'->k (.tuple #[]) h'):
  bR PG iO #[aHI l,pT bx 0] h k:=by
 apply kH.call;unfold kH;have c0:eA h ⟨bx,0,none⟩=some (.map (some m)):=hb.cell 0;simp only[fB.load,c0,dF,reduceIte];refine aUi fB.und hm λit h1 hit HI u1=>?_;refine⟨λvs h'=>∃pre:List It,vs=[aHI l,pT it 0]∧aDE tO h' m it (L.map It.pr) (pre.map It.pr)∧J it pre h',λ_ h'=>aPq L.length it h',⟨[],rfl,HI,J0 it h1 hit u1 HI.known⟩,?_⟩;rintro ρ h' ⟨pre,hvs,HI,hJ⟩;simp only[jF,kF,lT,and_true] at hvs;obtain⟨e0,e1⟩:=hvs;rw[e0,e1];unfold oG;refine aWN HI (λhp=>?_) (λa v h2 hav hnk HI2 u2=>?_)
 ·simp only[dF,reduceIte];refine hk it pre h' ?_ hJ;have:=hp.map (λp=>It.un p.2)
  rwa [aVu,aVu] at this
 ·simp only[dF,reduceIte];obtain⟨x,hx,hxe⟩:=rS.1 hav;obtain⟨rfl,rfl⟩:x.key=a∧x.val=v:=by simpa[It.pr] using hxe
  refine aVk HI2 ?_;simp only[dF,reduceIte];intro r hr
  try rw[dY]
  refine aIT hr x λh3 b3 u3=>?_;simp only[b3.it,dF,reduceIte];have HI3:=HI2.upd u3 (by simp) (by simp);have hJ3:=Js it pre h' h3 hJ (eH.trans u2 (eM.upd u3));have hlt:pre.length<L.length:=by
   have:=HI2.le;simp only[kO,jJ,jY,lU] at this;omega
  refine Jy it pre x h3 hit hlt hJ3 HI3.known _ λh4 G hJ4 u4 g1 g2=>?_;have HI4:=HI3.upd u4 g1 g2;simp only[dF,reduceIte];refine⟨⟨pre++[x],by trivial,?_,hJ4⟩,?_⟩
  ·rw[xX];exact HI4
  ·rw[HI4.left,HI.left];simp only[kO,jJ,jY,lU];omega
def aH3{h:PH}{l:Nat}{r:Loop}(hl:h l=some (.loop r)):dH PG h (Instr.getLoop l)=some r:=by
 unfold Instr.getLoop getObj;show dH PG h (Sem.getObj l _)=_;simp only[dH,hl];rfl
def aPg{h:PH}{l:Nat}{r:Loop}{k:Unit->PH->Prop}(hl:h l=some (.loop r))(hs:r.state= .ready)(hk:k () (h.set l (.loop {r with state:=.busy}))):dT PG (Instr.beginRound l) h k:=by
 unfold Instr.beginRound;refine iY (aH3 hl) ?_;show(∃u,h l=some u∧(∀c e f,u≠ .cells c e f))∧_;refine⟨⟨_,hl,by intros;simp⟩,?_⟩;rw[hs];exact hk
def aUC{h:PH}{l:Nat}{r:Loop}{j:Option Code}{k:dI}(hl:h l=some (.loop r))(hk:k (.bool j.isNone) (h.set l (.loop {r with state:=if j.isNone then .ready else .done,pending:=j}))):dT PG (Instr.endRound l j) h k:=by
 unfold Instr.endRound;refine iY (aH3 hl) ?_;show(∃u,h l=some u∧(∀c e f,u≠ .cells c e f))∧_;exact⟨⟨_,hl,by intros;simp⟩,hk⟩
def aNH{h:PH}{l:Nat}{r:Loop}{k:Option Code->PH->Prop}(hl:h l=some (.loop r))(hs:r.state= .ready∨r.state= .done)(hk:k r.pending (h.set l (.loop {r with state:=.exhausted}))):dT PG (Instr.endLoop l) h k:=by
 unfold Instr.endLoop;refine iY (aH3 hl) ?_;have:(r.state==LoopState.busy)=false:=by rcases hs with e|e<;>rw[e]<;>rfl
 rw[this];show(∃u,h l=some u∧(∀c e f,u≠ .cells c e f))∧_;exact⟨⟨_,hl,by intros;simp⟩,hk⟩
def aP6{h:PH}{l:Nat}{r:Loop}{args:Array Value}{k:dI}(hl:h l=some (.loop r))(hn:args.size=r.params.size)
  (hk:tG PG (.round l r.fn ((r.params.zip args).foldl (λtmps (t,a)=>tmps.setIfInBounds t a) r.tmps) r.assign r.body) h k):aAK PG (aHI l) args h k:=by
 unfold aAK;unfold invoke;have e0:(#[]:Array Value)++args=args:=by simp
 show dT PG (Instr.yield l (#[]++args)) h _;rw[e0];unfold Instr.yield;refine iY (aH3 hl) ?_;simp only[hn,ne_eq,not_true,if_false];exact hk
def It.isCell(l:List It):∀r∈l.map It.cells,∀u∈r,gN u=true:=λr hr u hu=>by
 obtain⟨m,_,rfl⟩:=rS.1 hr;exact m.allCell u (by simpa using hu)
def aUD(x:It):lH PG (buildSlice dC 1 #[(0,x.val)])=some (.cells x.cells.toArray dJ (0,0),λr=>pure (.slice (some ⟨r,0,none⟩) 1 1)):=by
 kernel_rfl
def aQL{h:PH}{bx m:Nat}{L:List It}(hb:Bx h bx [.map (some m)])(hm:MAt h m L)(hL:L.length≤1000000){k:dI}
  (hk:∀v (l':List It) h' F,l'.Perm L->fY h' dJ 5 v (l'.map It.cells) F->fX h F->eM h h'->k v h'):
  bR PG oX #[.slice none 0 0,.func (.func iO) #[] #[pT bx 0]] h k:=by
 apply mX.call;unfold mX;intro B hB;rw[dY];have uB:eM h (h.set B (.cells (Value.cells (.slice none 0 0)) dC)):=eH.new hB;have bB:(h.set B (.cells (Value.cells (.slice none 0 0)) dC)) B=some (.cells #[.slice none 0 0] dC (0,0)):=gB;generalize h.set B (.cells (Value.cells (.slice none 0 0)) dC)=h1 at *;unfold aEV;refine⟨by kernel_rfl,?_⟩;intro fn tmps l D hv hsz hl;have hv2:tmps.getD 2 undef=pT B 0:=hv (2,_) (by simp);have hlB:l≠B:=by rintro rfl;rw[bB] at hl;cases hl
 have ul:eM h1 (h1.set l (.loop {state:=.ready,pending:=none,fn,tmps,params:=#[7],assign:=iU,body:=iP,defers:=D})):=eH.new hl;have bl:(h1.set l (.loop {state:=.ready,pending:=none,fn,tmps,params:=#[7],assign:=iU,body:=iP,defers:=D})) l=some (.loop {state:=.ready,pending:=none,fn,tmps,params:=#[7],assign:=iU,body:=iP,defers:=D}):=gB;obtain⟨rec,hrec⟩:∃rec:Loop,rec= {state:=.ready,pending:=none,fn,tmps,params:=#[7],assign:=iU,body:=iP,defers:=D}:=⟨_,rfl⟩;rw[←hrec] at ul bl ⊢;have bB2:=ul.get bB;generalize h1.set l (.loop rec)=h2 at *;have u12:=eM.trans uB ul;have hlh:h l=none:=uB.none hl;refine aTj (hb.ext u12) (qB.ext hm u12)
  (λit pre h'=>∃v F,h' l=some (.loop rec)∧h' B=some (.cells #[v] dC (0,0))∧fY h' dJ 5 v (pre.map It.cells) F∧fX h F∧l∉F∧B∉F∧it∉F∧it≠l∧it≠B∧h it=none∧eM h h')
  (λit h3 hit u3 hkn=>?_) (λit pre h3 h4 hJ u4=>?_) (λit pre x h3 hit hlt hJ hkn k' hk'=>?_) (λit l' h3 hp hJ=>?_)
 ·refine⟨.slice none 0 0,[],u3.get bl,u3.get bB2,fY.nil,(λb hb=>by cases hb),by simp,by simp,by simp,?_,?_,u12.none hit,u12.trans u3⟩
  ·rintro rfl;rw[bl] at hit;cases hit
  ·rintro rfl;rw[bB2] at hit;cases hit
 ·obtain⟨v,F,j1,j2,j3,j4,j5,j6,j7,j8,j9,j10,j11⟩:=hJ;exact⟨v,F,u4.get j1 (by simpa using Ne.symm j8),u4.get j2 (by simpa using Ne.symm j9),j3.upd u4 (λb hb=>by simp;rintro rfl;exact j7 hb),j4,j5,j6,j7,j8,j9,j10,
   j11.fresh u4 (fX.one j10)⟩
 ·obtain⟨v,F,j1,j2,j3,j4,j5,j6,j7,j8,j9,j10,j11⟩:=hJ;refine aP6 j1 (by rw[hrec];rfl) ?_;have e1:rec.assign=iU:=by rw[hrec]
  have e2:rec.body=iP:=by rw[hrec]
  have e3:(rec.params.zip #[x.val]).foldl (λtmps (t,a)=>tmps.setIfInBounds t a) rec.tmps=tmps.setIfInBounds 7 x.val:=by rw[hrec];simp
  rw[e1,e2,e3];refine jL.next (by simpa using hsz) ?_;have t2:(tmps.setIfInBounds 7 x.val).getD 2 undef=pT B 0:=by
   rw[←hv2];simp[aFv,Array.getElem?_setIfInBounds]
  have t7:(tmps.setIfInBounds 7 x.val).getD 7 undef=x.val:=by
   simp[aFv,hsz]
  rw[t2,t7];unfold jL;intro r hr;rw[dY];refine aIT hr x λh4 b4 u4=>?_;have hrl:r≠l:=by rintro rfl;rw[j1] at hr;cases hr
  have hrB:r≠B:=by rintro rfl;rw[j2] at hr;cases hr
  have hri:r≠it:=by rintro rfl;exact hkn hr
  refine aPg (u4.get j1) (by rw[hrec]) ?_;have u5:eH [l] h4 (h4.set l (.loop {rec with state:=.busy})):=eH.set (by simp);have bl5:(h4.set l (.loop {rec with state:=.busy})) l=some (.loop {rec with state:=.busy}):=gB;generalize h4.set l (.loop {rec with state:=.busy})=h5 at *;have bB5:h5 B=_:=u5.get (u4.get j2) (by simpa using Ne.symm hlB);have c0:eA h5 ⟨B,0,none⟩=some v:=by simp[eA,bB5]
  have hO5:=(j3.ext u4).upd u5 (λb hb=>by simp;rintro rfl;exact j5 hb);have b5:=b4.upd u5 (by simpa using hrl);simp only[dC.load,c0,b5.it,aUD,dF,reduceIte];intro r6 hr6;refine jC ?_
  try rw[dY]
  have u6:eM h5 (h5.set r6 (.cells x.cells.toArray dJ)):=eH.new hr6;have s1:jE (h5.set r6 (.cells x.cells.toArray dJ)) 5 (.slice (some ⟨r6,0,none⟩) 1 1) ([x].map It.cells):=(fY.lit (It.rows [x]) gB (by simp) (by decide) (by simp)).slR;generalize h5.set r6 (.cells x.cells.toArray dJ)=h6 at *;refine mQ dC.und dC.und dJ.info dJ.size dJ.bytes dJ.zero rfl (by decide) (hO5.ext u6) s1 (It.isCell _) (by simp;omega) ?_;intro v7 h7 F7 hO7 u7 hF7 _;rw[←xX] at hO7;have bB7:h7 B=_:=u7.get (u6.get bB5) j6;have bl7:h7 l=_:=u7.get (u6.get bl5) j5;refine lX dC.und rfl bB7 (by simp) (by obtain⟨_,_,rfl,-⟩:=hO7.slR.here;rfl) dC.info dC.size ?_;have notIn:∀b,h6 b≠none->b∉F->b∉F7:=λb h1 h2 hm=>by rcases hF7 b hm with h3|h3;exact h2 h3;exact h1 h3
  have kn6:∀b,h3 b≠none->b≠l->h6 b≠none:=λb hb hbl=>by
   cases e:h3 b with
   | none=>exact absurd e hb
   | some o=>rw[u6.get (u5.get (u4.get e) (by simpa using hbl))];simp
  have nB:B∉F7:=notIn B (by rw[u6.get bB5];simp) j6;have nl:l∉F7:=notIn l (by rw[u6.get bl5];simp) j5;have ni:it∉F7:=notIn it (kn6 it hkn j8) j7;have u8:eH [B] h7 (h7.set B (.cells (#[v].setIfInBounds 0 v7) dC (0,0))):=eH.set (by simp);have bB8:(h7.set B (.cells (#[v].setIfInBounds 0 v7) dC (0,0))) B=some (.cells #[v7] dC (0,0)):=gB;generalize h7.set B (.cells (#[v].setIfInBounds 0 v7) dC (0,0))=h8 at *;have hO8:=hO7.upd u8 (λb hb=>by simp;rintro rfl;exact nB hb);have bl8:=u8.get bl7 (by simpa using hlB);refine aUC bl8 ?_;have u9:eH [l] h8 (h8.set l (.loop {{rec with state:=.busy} with state:=if (none:Option Code).isNone then .ready else .done,pending:=none})):=eH.set (by simp);have bl9:(h8.set l (.loop {{rec with state:=.busy} with state:=if (none:Option Code).isNone then .ready else .done,pending:=none})) l=some (.loop rec):=by rw[gB,hrec];rfl
  generalize h8.set l (.loop {{rec with state:=.busy} with state:=if (none:Option Code).isNone then .ready else .done,pending:=none})=h9 at *;have hfr7:fX h F7:=λb hb=>by
   rcases hF7 b hb with h1|h1
   ·exact j4 b h1
   ·cases e:h b with
    | none=>rfl
    | some o=>
     have:=kn6 b (by rw[j11.get e];simp) (by rintro rfl;rw[hlh] at e;cases e);exact absurd h1 this
  have hall:eH (l::B::F) h3 h9:=by
   intro b o hb hn;simp only[jW,not_or] at hn;exact u9.get (u8.get (u7.get (u6.get (u5.get (u4.get hb) (by simpa using hn.1))) hn.2.2) (by simpa using hn.2.1)) (by simpa using hn.1)
  have hext:eM h h9:=j11.fresh hall (λb hb=>by
   rcases jW.1 hb with rfl|hb
   ·exact hlh
   ·rcases jW.1 hb with rfl|hb
    ·exact hB
    ·exact j4 b hb)
  refine hk' h9 (l::B::F) ⟨v7,F7,bl9,u9.get bB8 (by simpa using Ne.symm hlB),hO8.upd u9 (λb hb=>by simp;rintro rfl;exact nl hb),hfr7,nl,nB,ni,j8,j9,j10,hext⟩ hall ?_ ?_
  ·intro hmm;have hkm:=qB.known hm;rcases jW.1 hmm with rfl|hmm
   ·exact hkm hlh
   ·rcases jW.1 hmm with rfl|hmm
    ·exact hkm hB
    ·exact hkm (j4 m hmm)
  ·simp only[jW,not_or];exact⟨j8,j9,j7⟩
 ·obtain⟨v,F,j1,j2,j3,j4,j5,j6,j7,j8,j9,j10,j11⟩:=hJ;refine aNH j1 (by rw[hrec];exact .inl rfl) ?_;have ep:rec.pending=none:=by rw[hrec]
  have u5:eH [l] h3 (h3.set l (.loop {rec with state:=.exhausted})):=eH.set (by simp);generalize h3.set l (.loop {rec with state:=.exhausted})=h5 at *;rw[ep];show dA _ _;have bB5:h5 B=_:=u5.get j2 (by simpa using Ne.symm hlB);have c0:eA h5 ⟨B,0,none⟩=some v:=by simp[eA,bB5]
  simp only[dC.load,c0,dF,reduceIte];exact hk v l' h5 F hp (j3.upd u5 (λb hb=>by simp;rintro rfl;exact j5 hb)) j4 (j11.fresh u5 (fX.one hlh))
end
section
open Go Go.Shelf
def aIo:Go.Shelf.Ren:=⟨fun|6=>117|15=>169|14=>168|28=>209|29=>210|20=>201|21=>202|22=>203|23=>204|24=>205|25=>206|26=>207|27=>208|46=>220|47=>221|48=>222|49=>223|50=>224|57=>235|n=>n,fun|22=>38|24=>83|25=>223|3=>3|39=>191|0=>0|53=>251|55=>22|4=>4|46=>297|45=>296|50=>165|5=>5|9=>9|66=>316|70=>319|76=>332|77=>105|n=>n,fun|n=>n⟩
def aUR:Go.Proofs.SlLaysF0.n6 Tryz.prog aIo:={
 mixed:=by kernel_rfl
 f6:=⟨Tryz.f117.name,by decide,Tryz.func117.trans (congrArg some (by kernel_rfl))⟩
 f14:=⟨Tryz.f168.name,by decide,Tryz.func168.trans (congrArg some (by kernel_rfl))⟩
 f15:=Tryz.func169.trans (congrArg some (by kernel_rfl))
 f20:=⟨Tryz.f201.name,by decide,Tryz.func201.trans (congrArg some (by kernel_rfl))⟩
 f21:=⟨Tryz.f202.name,by decide,Tryz.func202.trans (congrArg some (by kernel_rfl))⟩
 f22:=⟨Tryz.f203.name,by decide,Tryz.func203.trans (congrArg some (by kernel_rfl))⟩
 f23:=⟨Tryz.f204.name,by decide,Tryz.func204.trans (congrArg some (by kernel_rfl))⟩
 f24:=⟨Tryz.f205.name,by decide,Tryz.func205.trans (congrArg some (by kernel_rfl))⟩
 f25:=⟨Tryz.f206.name,by decide,Tryz.func206.trans (congrArg some (by kernel_rfl))⟩
 f26:=⟨Tryz.f207.name,by decide,Tryz.func207.trans (congrArg some (by kernel_rfl))⟩
 f27:=⟨Tryz.f208.name,by decide,Tryz.func208.trans (congrArg some (by kernel_rfl))⟩
 f28:=Tryz.func209.trans (congrArg some (by kernel_rfl))
 f29:=Tryz.func210.trans (congrArg some (by kernel_rfl))
 f46:=⟨Tryz.f220.name,by decide,Tryz.func220.trans (congrArg some (by kernel_rfl))⟩
 f47:=Tryz.func221.trans (congrArg some (by kernel_rfl))
 f48:=Tryz.func222.trans (congrArg some (by kernel_rfl))
 f49:=⟨Tryz.f223.name,by decide,Tryz.func223.trans (congrArg some (by kernel_rfl))⟩
 f50:=⟨Tryz.f224.name,by decide,Tryz.func224.trans (congrArg some (by kernel_rfl))⟩
 f57:=⟨Tryz.f235.name,by decide,Tryz.func235.trans (congrArg some (by kernel_rfl))⟩
 t0:=Tryz.underlying0
 a0:=Tryz.isAgg0
 z0:=Tryz.sizeOf0
 v0:=Tryz.zeroValue0
 t3:=Tryz.underlying3
 a3:=Tryz.isAgg3
 z3:=Tryz.sizeOf3
 v3:=Tryz.zeroValue3
 t4:=Tryz.underlying4
 a4:=Tryz.isAgg4
 z4:=Tryz.sizeOf4
 v4:=Tryz.zeroValue4
 t5:=Tryz.underlying5
 a5:=Tryz.isAgg5
 z5:=Tryz.sizeOf5
 v5:=Tryz.zeroValue5
 t9:=Tryz.underlying9
 a9:=Tryz.isAgg9
 z9:=Tryz.sizeOf9
 v9:=Tryz.zeroValue9
 t22:=Tryz.underlying38
 a22:=Tryz.isAgg38
 z22:=Tryz.sizeOf38
 v22:=Tryz.zeroValue38
 t25:=Tryz.underlying223
 a25:=Tryz.isAgg223
 z25:=Tryz.sizeOf223
 v25:=Tryz.zeroValue223
 t39:=Tryz.underlying191
 a39:=Tryz.isAgg191
 z39:=Tryz.sizeOf191
 v39:=Tryz.zeroValue191
 t45:=Tryz.underlying296
 a45:=Tryz.isAgg296
 z45:=Tryz.sizeOf296
 v45:=Tryz.zeroValue296
 t46:=Tryz.underlying297
 a46:=Tryz.isAgg297
 z46:=Tryz.sizeOf297
 v46:=Tryz.zeroValue297
 t50:=Tryz.underlying165
 a50:=Tryz.isAgg165
 z50:=Tryz.sizeOf165
 v50:=Tryz.zeroValue165
 t53:=Tryz.underlying251
 a53:=Tryz.isAgg251
 z53:=Tryz.sizeOf251
 v53:=Tryz.zeroValue251
 t55:=Tryz.underlying22
 a55:=Tryz.isAgg22
 z55:=Tryz.sizeOf22
 v55:=Tryz.zeroValue22
 t66:=Tryz.underlying316
 a66:=Tryz.isAgg316
 z66:=Tryz.sizeOf316
 v66:=Tryz.zeroValue316
 t70:=Tryz.underlying319
 a70:=Tryz.isAgg319
 z70:=Tryz.sizeOf319
 v70:=Tryz.zeroValue319
 t76:=Tryz.underlying332
 a76:=Tryz.isAgg332
 z76:=Tryz.sizeOf332
 v76:=Tryz.zeroValue332
 t77:=Tryz.underlying105
 a77:=Tryz.isAgg105
 z77:=Tryz.sizeOf105
 v77:=Tryz.zeroValue105}
def aYX(w:World):(isAgg (aIo.t 24)).run PG w= .ok true w:=Tryz.isAgg83 w
def aXH(w:World):(Go.sizeOf (aIo.t 24)).run PG w= .ok 5 w:=Tryz.sizeOf83 w
end
section
open Go Go.Sort Go.Shelf
def ltI(a b:It):Bool:=decide (a.p.f<b.p.f)||(decide (a.p.f=b.p.f)&&decide (a.p.s<b.p.s))
def aLk(a b:It):ltOf cfI a b=ltI a b:=by
 unfold ltOf cfI aEG ltI;by_cases h1:a.p.f<b.p.f
 ·simp[h1]
 ·by_cases h2:b.p.f<a.p.f
  ·have h3:¬a.p.f=b.p.f:=by omega
   simp[h1,h2,h3]
  ·have h3:a.p.f=b.p.f:=by omega
   simp only[h1,h2,if_false,ne_eq,not_true,h3];by_cases h4:a.p.s<b.p.s
   ·simp[h4]
   ·by_cases h5:b.p.s<a.p.s
    ·simp[h4,h5]
    ·simp[h4,h5]
def aY7:SWO (ltOf cfI) where
 irrefl x:=by rw[aLk];simp[ltI]
 trans x y z h1 h2:=by
  rw[aLk] at *;simp only[ltI,aHb,tM,decide_eq_true_eq] at *;omega
 ntrans x y z h1 h2:=by
  rw[aLk] at *;simp only[ltI,Bool.or_eq_false_iff,Bool.and_eq_false_iff,decide_eq_false_iff_not] at *;omega
def aWs{h:PH}{v:Value}{F:List Nat}{l:List It}(H:fY h dJ 5 v (l.map It.cells) F)(hl:l.length≤1000000){k:dI}
  (hk:∀(l':List It) h',l'.Perm l->l'.Pairwise (λa b=>ltI b a=false)->fY h' dJ 5 v (l'.map It.cells) F->eH F h h'->k (.tuple #[]) h'):
  bR PG pG #[v,.func (.func sC) #[] #[]] h k:=by
 refine aQi (P:=PG) aUR (f:=pG) rfl (k:=5) (by decide) aYX aXH It.cells (λ_=>rfl) (λx v hv=>?_) cfI aY7 (g:=sC) (by kernel_rfl)
  (λx y=>aWK x y λh' _=>rfl) (by kernel_rfl) H (by omega) (λl' h' hp hs hO u=>hk l' h' hp ?_ hO u)
 ·have:=x.allCell v (by simpa using hv);cases v<;>first|rfl|cases this
 ·refine hs.imp fun {a b} hab=>?_;rw[←aLk];exact hab
def aSy{h:PH}{m:Nat}{k:dI}(hk:∀bx h',h bx=none->Bx h' bx [.map (some m)]->eM h h'->k (.func (.func iO) #[] #[pT bx 0]) h'):
  bR PG lZ #[.map (some m)] h k:=by
 apply kP.call;unfold kP;intro r hr;rw[dY];simp only[dF,reduceIte];exact hk r _ hr ⟨_,gB⟩ (eH.new hr)
def aRn{h:PH}{bx m:Nat}{L:List It}(hb:Bx h bx [.map (some m)])(hm:MAt h m L)(hL:L.length≤1000000){k:dI}
  (hk:∀v (l':List It) h' F,l'.Perm L->fY h' dJ 5 v (l'.map It.cells) F->fX h F->eM h h'->k v h'):
  bR PG xT #[.func (.func iO) #[] #[pT bx 0]] h k:=by
 apply uL.call;unfold uL;exact aQL hb hm hL hk
end
section
open Go
def kl(a b:Ky):Prop:=a.1<b.1∨a.1=b.1∧a.2<b.2
instance (a b:Ky):Decidable (kl a b):=by unfold kl;exact inferInstance
def aHC(a:Ky):¬kl a a:=by unfold kl;omega
def aIW{a b c:Ky}(h1:kl a b)(h2:kl b c):kl a c:=by unfold kl at *;omega
def aJ8{a b:Ky}(h:kl a b):a≠b:=by rintro rfl;exact aHC _ h
def aGg{a b:Ky}(h:kl a b):¬kl b a:=λh2=>aHC _ (aIW h h2)
def aKC{a b:Ky}(h:a≠b):kl a b∨kl b a:=by
 have:¬(a.1=b.1∧a.2=b.2):=λe=>h (Prod.ext e.1 e.2);unfold kl;omega
def nK(L:List It):Prop:=L.Pairwise λa b=>kl a.key b.key
def jK(L:List It)(k:Ky):Option It:=L.find? λi=>decide (k=i.key)
def sI(L:List It)(k:Ky):List It:=L.filter λi=>decide (i.key≠k)
def rL(L:List It)(i:It):List It:=(L.filter λj=>decide (kl j.key i.key))++i::(L.filter λj=>decide (kl i.key j.key))
def nK.unique:∀{A B:List It},nK A->nK B->A.Perm B->A=B
 | [],B,_,_,h=>by rw[List.nil_perm.1 h]
 | a::A,[],_,_,h=>by have:=h.length_eq;simp at this
 | a::A,b::B,hA,hB,h=>by
  unfold nK at hA hB;rw[List.pairwise_cons] at hA hB;have e:a=b:=by
   have h1:a∈b::B:=h.mem_iff.1 (by simp);have h2:b∈a::A:=h.mem_iff.2 (by simp);rcases jW.1 h1 with h1|h1
   ·exact h1
   ·rcases jW.1 h2 with h2|h2
    ·exact h2.symm
    ·exact absurd (hA.1 b h2) (aGg (hB.1 a h1))
  subst e;rw[nK.unique hA.2 hB.2 (h.cons_inv)]
def nK.filter{L:List It}(h:nK L)(p:It->Bool):nK (L.filter p):=List.Pairwise.filter p h
def nK.del{L:List It}(h:nK L)(k:Ky):nK (sI L k):=h.filter _
def nK.ins{L:List It}(h:nK L)(i:It):nK (rL L i):=by
 unfold rL nK;rw[List.pairwise_append];refine⟨h.filter _,?_,?_⟩
 ·rw[List.pairwise_cons];exact⟨λx hx=>by simpa using(zLY.1 hx).2,h.filter _⟩
 ·intro x hx y hy;have h1:kl x.key i.key:=by simpa using(zLY.1 hx).2
  rcases jW.1 hy with rfl|hy
  ·exact h1
  ·exact aIW h1 (by simpa using(zLY.1 hy).2)
def nK.nodup{L:List It}(h:nK L):(L.map It.key).Nodup:=by
 unfold List.Nodup;rw[List.pairwise_map];exact h.imp λh=>aJ8 h
def aLV{α:Type}(p q:α->Bool)(hd:∀a,p a=true->q a=false):∀l:List α,(l.filter p++l.filter q).Perm (l.filter λa=>p a||q a)
 | []=>List.Perm.refl _
 | a::l=>by
  have ih:=aLV p q hd l;cases hp:p a with
  | true=>
   have hq:=hd a hp;simp only[zLr,hp,hq,Bool.true_or,if_true,zLs,if_false,zLT];exact ih.cons a
  | false=>
   cases hq:q a with
   | true=>
    simp only[zLr,hp,hq,Bool.false_or,if_true,zLs,if_false];exact List.perm_middle.trans (ih.cons a)
   | false=>simp only[zLr,hp,hq,Bool.or_self,zLs,if_false];exact ih
def aGS(L:List It)(i:It):(rL L i).Perm (i::sI L i.key):=by
 unfold rL sI;refine List.perm_middle.trans (List.Perm.cons i ?_);refine(aLV _ _ (λa ha=>?_) L).trans ?_
 ·simp only[decide_eq_true_eq] at ha;simp only[decide_eq_false_iff_not];exact aGg ha
 ·have:(L.filter λa=>decide (kl a.key i.key)||decide (kl i.key a.key))=L.filter λj=>decide (j.key≠i.key):=by
   apply List.filter_congr;intro x _;rw[yA];simp only[aHb,decide_eq_true_eq];constructor
   ·rintro(h|h)
    ·exact aJ8 h
    ·exact(aJ8 h).symm
   ·exact aKC
  rw[this]
def aBB{L:List It}{k:Ky}{x:It}(h:jK L k=some x):x∈L∧x.key=k:=by
 unfold jK at h;exact⟨List.mem_of_find?_eq_some h,by simpa using(by simpa using List.find?_some h:k=x.key).symm⟩
def aB8{L:List It}{k:Ky}:jK L k=none↔∀x∈L,x.key≠k:=by
 unfold jK;rw[List.find?_eq_none];simp only[decide_eq_true_eq];exact⟨λh x hx e=>h x hx e.symm,λh x hx e=>h x hx e.symm⟩
def aWA{L:List It}(hn:(L.map It.key).Nodup){x:It}(hx:x∈L):jK L x.key=some x:=by
 cases h:jK L x.key with
 | none=>exact absurd rfl (aB8.1 h x hx)
 | some y=>obtain⟨h1,h2⟩:=aBB h;rw[aG5 (f:=It.key) hn h1 hx h2]
def aJL{l L:List It}(hp:l.Perm L)(hn:(L.map It.key).Nodup)(k:Ky):jK l k=jK L k:=by
 cases h:jK L k with
 | none=>exact aB8.2 λx hx=>aB8.1 h x (hp.mem_iff.1 hx)
 | some y=>
  obtain⟨h1,rfl⟩:=aBB h;exact aWA ((hp.map It.key).nodup_iff.2 hn) (hp.mem_iff.2 h1)
def aKH{L:List It}{k:Ky}(h:jK L k=none):sI L k=L:=by
 unfold sI;rw[aMh];intro x hx;simpa using aB8.1 h x hx
def aKu{i:It}:∀{l:List It},(l.map It.key).Nodup->(∃x∈l,x.key=i.key)->(l.map λj=>if j.key=i.key then i else j).Perm (i::sI l i.key)
 | [],_,⟨x,hx,_⟩=>by cases hx
 | y::l,hn,⟨x,hx,e⟩=>by
  simp only[jF,aGT] at hn;by_cases hy:y.key=i.key
  ·have hno:∀z∈l,z.key≠i.key:=λz hz e=>hn.1 (by rw[hy,←e];exact zL3 hz);have h1:(l.map λj=>if j.key=i.key then i else j)=l:=by
    rw[zL0 (g:=id) λz hz=>by simp[hno z hz],List.map_id]
   have h2:sI (y::l) i.key=l:=by
    unfold sI;simp only[zLr,hy,ne_eq,not_true,decide_false,zLs,if_false];rw[aMh];intro z hz;simpa using hno z hz
   rw[jF,if_pos hy,h1,h2]
  ·have hx':∃x∈l,x.key=i.key:=by
    rcases jW.1 hx with rfl|hx
    ·exact absurd e hy
    ·exact⟨x,hx,e⟩
   have ih:=aKu hn.2 hx';have h2:sI (y::l) i.key=y::sI l i.key:=by
    unfold sI;simp[zLr,hy]
   rw[jF,if_neg hy,h2];exact(ih.cons y).trans (List.Perm.swap i y _)
def aCv(L:List It)(room:Int)(i:It):Int:=if jK L i.key=none∧room≤L.length then 2 else 0
def tH(L:List It)(room:Int)(i:It):List It:=if jK L i.key=none∧room≤L.length then L else rL L i
def vE(L:List It)(room:Int)(n:Nt):Int:=
 if n.right=false then 1
 else if n.k=1 then(if (jK L n.p.key).isSome then 0 else aCv L room ⟨n.p,1⟩)
 else if n.k=2 then(if (jK L n.p.key).isSome then 0 else aCv L room ⟨n.p,2⟩)
 else 0
def rP(L:List It)(room:Int)(n:Nt):List It:=
 if n.right=false then L
 else if n.k=1 then(if (jK L n.p.key).isSome then L else tH L room ⟨n.p,1⟩)
 else if n.k=2 then(match jK L n.p.key with
  | some x=>rL L ⟨x.p,2⟩
  | none=>tH L room ⟨n.p,2⟩)
 else sI L n.p.key
def nK.put{L:List It}(h:nK L)(room:Int)(i:It):nK (tH L room i):=by
 unfold tH;split
 ·exact h
 ·exact h.ins i
def nK.app{L:List It}(h:nK L)(room:Int)(n:Nt):nK (rP L room n):=by
 unfold rP;split
 ·exact h
 ·split
  ·split
   ·exact h
   ·exact h.put room _
  ·split
   ·split
    ·exact h.ins _
    ·exact h.put room _
   ·exact h.del _
def aHc{L:List It}(hs:nK L)(i:It):(rL L i).length=if (jK L i.key).isSome then L.length else L.length+1:=by
 rw[(aGS L i).length_eq,jY];cases h:jK L i.key with
 | none=>rw[aKH h];rfl
 | some x=>
  obtain⟨h1,h2⟩:=aBB h;have:=(aKu (i:=i) hs.nodup ⟨x,h1,h2⟩).length_eq;rw[jJ,jY] at this;simp only[aNq,if_true];omega
def aQ4{L:List It}(hs:nK L){room:Int}(h0:L.length≤room)(i:It):(tH L room i).length≤room:=by
 unfold tH;split
 ·exact h0
 ·rename_i hn;rw[aHc hs];split
  ·exact h0
  ·rename_i hx;have:jK L i.key=none:=by cases h:jK L i.key with
    | none=>rfl
    | some x=>rw[h] at hx;simp at hx
   have:¬room≤L.length:=λh=>hn ⟨this,h⟩;omega
def aRN(L:List It)(k:Ky):(sI L k).length≤L.length:=List.length_filter_le _ _
def aRL{L:List It}(hs:nK L){room:Int}(h0:L.length≤room)(n:Nt):(rP L room n).length≤room:=by
 unfold rP;split
 ·exact h0
 ·split
  ·split
   ·exact h0
   ·exact aQ4 hs h0 _
  ·split
   ·split
    ·rename_i x hx;rw[aHc hs];obtain⟨h1,h2⟩:=aBB hx;have:jK L (⟨x.p,2⟩:It).key=some x:=by show jK L x.key=some x;rw[h2];exact hx
     rw[this];simpa using h0
    ·exact aQ4 hs h0 _
   ·have:=aRN L n.p.key;omega
structure TAt(h:PH)(a:Nat)(L:List It)(room:Int)(F:List Nat):Prop where
 here:∃m l,h a=some (.cells #[.map (some m),.int .i64 room] iH (0,0))∧MAt h m l∧l.Perm L∧F=[a,m]∧a≠m
 srt:nK L
def TAt.upd{h h':PH}{a:Nat}{L:List It}{room:Int}{F G:List Nat}(H:TAt h a L room F)(u:eH G h h')(hd:∀b∈F,b∉G):TAt h' a L room F:=by
 obtain⟨m,l,ha,hm,hp,rfl,hn⟩:=H.here;exact⟨⟨m,l,u.get ha (hd a (by simp)),qB.upd hm u (hd m (by simp)),hp,rfl,hn⟩,H.srt⟩
def TAt.ext{h h':PH}{a:Nat}{L:List It}{room:Int}{F:List Nat}(H:TAt h a L room F)(u:eM h h'):TAt h' a L room F:=H.upd u (by simp)
def TAt.known{h:PH}{a:Nat}{L:List It}{room:Int}{F:List Nat}(H:TAt h a L room F):∀b∈F,h b≠none:=by
 obtain⟨m,l,ha,hm,hp,rfl,hn⟩:=H.here;intro b hb;simp only[jW,zLg,or_false] at hb;rcases hb with rfl|rfl
 ·rw[ha];simp
 ·exact qB.known hm
def aWJ(l:List It)(k:Ky):aMU (l.map It.pr) k=(jK l k).map It.val:=by
 unfold aMU jK;rw[List.find?_map,Option.map_map];rfl
def aLt{h:PH}{m:Nat}{l:List It}(hm:MAt h m l)(k:Ky):dH PG h (Instr.lookup fB (.map (some m)) (tO k) true)=some (.tuple #[((jK l k).getD default).val,.bool (jK l k).isSome]):=by
 rw[aSd aNO fB.und dJ.info dJ.zero hm k true,aWJ];cases jK l k<;>rfl
def aX3(l:List It)(k:Ky):aNn (l.map It.pr) k=(sI l k).map It.pr:=by
 unfold aNn sI;rw[List.filter_map];rfl
def aPc{l L:List It}(hp:l.Perm L)(hs:nK L)(i:It):∃l':List It,aLa (l.map It.pr) i.key i.val=l'.map It.pr∧l'.Perm (rL L i):=by
 have hnl:(l.map It.key).Nodup:=(hp.map It.key).nodup_iff.2 hs.nodup;have hk:aC8 (l.map It.pr)=l.map It.key:=by unfold aC8;rw[zLZ];rfl
 have hdel:(sI l i.key).Perm (sI L i.key):=hp.filter _;unfold aLa;rw[hk];split
 ·rename_i hm;refine⟨l.map λj=>if j.key=i.key then i else j,?_,?_⟩
  ·rw[zLZ,zLZ];apply zL0;intro x _;show(if x.key=i.key then(i.key,i.val) else(x.key,x.val))=It.pr (if x.key=i.key then i else x);by_cases hc:x.key=i.key
   ·rw[if_pos hc,if_pos hc];rfl
   ·rw[if_neg hc,if_neg hc];rfl
  ·obtain⟨x,hx,e⟩:=rS.1 hm;exact((aKu hnl ⟨x,hx,e⟩).trans (hdel.cons i)).trans (aGS L i).symm
 ·rename_i hm;refine⟨l++[i],by rw[xX];rfl,?_⟩;have hno:jK l i.key=none:=aB8.2 λx hx e=>hm (by rw[←e];exact zL3 hx);rw[aKH hno] at hdel;exact(List.perm_append_singleton i l).trans ((hdel.cons i).trans (aGS L i).symm)
def aUv(k:Ky):dE PG (build gR #[(0,.int .i64 k.1),(1,.int .u64 k.2)])=some (tO k):=by kernel_rfl
def aIt(p:Pk)(g:Int):dE PG (build dJ #[(0,.agg p.cells.toArray),(1,.int .i64 g)])=some (It.val ⟨p,g⟩):=by kernel_rfl
def aXN{h:PH}(room:Int){k:dI}(hbad:(room<1∨40<room)->k (.tuple #[.pointer none,.int .i64 1]) h)
  (hk:1≤room->room≤40->∀a h' F,TAt h' a [] room F->fX h F->eM h h'->k (.tuple #[pT a 0,.int .i64 0]) h'):bR PG aIN #[.int .i64 room] h k:=by
 apply aI8.call;unfold aI8;by_cases d1:room<1
 ·simp only[d1,dF,reduceIte];exact hbad (.inl d1)
 ·by_cases d2:40<room
  ·simp only[d1,d2,dF,reduceIte];exact hbad (.inr d2)
  ·simp only[d1,d2,aSf,dF,reduceIte];intro m hm;refine jC ?_
   try rw[dY]
   have hb:dE PG (build iH #[(0,.map (some m)),(1,.int .i64 room)])=some (.agg #[.map (some m),.int .i64 room]):=by kernel_rfl
   rw[hb,jQ];intro a ha
   try rw[dY]
   have ham:a≠m:=by rintro rfl;rw[gB] at ha;cases ha
   have u1:eM h (h.set m (.map #[] 0)):=eH.new hm;have hma:(h.set m (.map #[] 0)) a=none:=ha;refine hk (by omega) (by omega) a _ [a,m] ⟨⟨m,[],gB,?_,List.Perm.refl _,rfl,ham⟩,List.Pairwise.nil⟩ (λb hb=>?_) (u1.trans (eH.new ha))
   ·exact qB.ext qB.new (eH.new ha)
   ·simp only[jW,zLg,or_false] at hb;rcases hb with rfl|rfl
    ·exact u1.none hma
    ·exact hm
def aNf{h:PH}{a:Nat}{L:List It}{room:Int}{F:List Nat}(H:TAt h a L room F)(i:It){k:dI}
  (hk:∀h',TAt h' a (tH L room i) room F->eH F h h'->k (.int .i64 (aCv L room i)) h'):bR PG aAu #[pT a 0,tO i.key,i.val] h k:=by
 apply xI.call;unfold xI;intro r1 hr1;rw[dY];intro r3 hr3;rw[dY];have u1:eM h (h.set r1 (.cells (Value.cells (tO i.key)) gR)):=eH.new hr1;have b1:Bx (h.set r1 (.cells (Value.cells (tO i.key)) gR)) r1 [.int .i64 i.key.1,.int .u64 i.key.2]:=Bx.new;generalize h.set r1 (.cells (Value.cells (tO i.key)) gR)=h1 at *;have u2:eM h1 (h1.set r3 (.cells (Value.cells i.val) dJ)):=eH.new hr3;have b3:Bx (h1.set r3 (.cells (Value.cells i.val) dJ)) r3 i.cells:=Bx.new;generalize h1.set r3 (.cells (Value.cells i.val) dJ)=h2 at *;have b1:=b1.ext u2;have u:=u1.trans u2;have H2:=H.ext u;have hs:=H.srt;obtain⟨m,l,ha,hm,hp,rfl,ham⟩:=H2.here;have hgl:=λk=>aJL hp hs.nodup k;have c0:eA h2 ⟨a,0,none⟩=some (.map (some m)):=by simp[eA,ha]
 simp only[iH.f0,fB.load,c0,b1.id,aLt hm,hgl,dF,reduceIte];intro r12 hr12
 try rw[dY]
 refine aIT hr12 _ λh5 b5 u5=>?_;have ha5:=u5.get ha;have hm5:=qB.ext hm u5;have b1:=b1.ext u5;have b3:=b3.ext u5;have c0:eA h5 ⟨a,0,none⟩=some (.map (some m)):=by simp[eA,ha5]
 have c1:eA h5 ⟨a,0+1,none⟩=some (.int .i64 room):=by simp[eA,ha5]
 have lm:=qB.len hm5 (t':=aR) fB.und;rw[jJ,hp.length_eq] at lm;have uu:=u.trans u5;have fin:¬(jK L i.key=none∧room≤L.length)->dT PG (aJi fB (.map (some m)) (tO i.key) i.val) h5 λv61 h62=>k (.int .i64 0) h62:=λhc=>by
  refine aRY aNO fB.und hm5 i.key i.val λh6 hm6 u6=>?_;obtain⟨l',e1,e2⟩:=aPc hp hs i;rw[e1] at hm6;have:aCv L room i=0:=by unfold aCv;rw[if_neg hc]
  rw[←this];have:tH L room i=rL L i:=by unfold tH;rw[if_neg hc]
  refine hk h6 ⟨⟨m,l',u6.get ha5 (by simpa using ham),hm6,by rw[this];exact e2,rfl,ham⟩,by rw[this];exact hs.ins i⟩ ?_;exact eH.then (eM.upd uu) u6 (λb hb=>by left;simp at hb;simp[hb])
 by_cases hx:(jK L i.key).isSome=true
 ·have hc:¬(jK L i.key=none∧room≤L.length):=λhc=>by rw[hc.1] at hx;cases hx
  have hf:=fin hc;simp only[hx,iH.f0,iH.f1,fB.load,c0,b1.id,b3.it,dF,reduceIte];exact hf
 ·have hx':(jK L i.key).isSome=false:=by simpa using hx
  have hnone:jK L i.key=none:=by simpa using hx'
  by_cases hr:room≤L.length
  ·have e1:(room≤(L.length:Int))=True:=by apply eq_true;exact hr
   simp only[hx',iH.f0,iH.f1,fB.load,aR.load,c0,c1,lm,e1,b1.id,b3.it,dF,reduceIte];have h1:aCv L room i=2:=by unfold aCv;rw[if_pos ⟨hnone,hr⟩]
   have h2:tH L room i=L:=by unfold tH;rw[if_pos ⟨hnone,hr⟩]
   rw[←h1];refine hk h5 ?_ (eM.upd uu);rw[h2];exact H.ext uu
  ·have e1:(room≤(L.length:Int))=False:=by apply eq_false;exact hr
   have hf:=fin (λhc=>hr hc.2);simp only[hx',iH.f0,iH.f1,fB.load,aR.load,c0,c1,lm,e1,b1.id,b3.it,dF,reduceIte];exact hf
def aV6{h:PH}{a:Nat}{L:List It}{room:Int}{F:List Nat}(H:TAt h a L room F)(p:Pk){k:dI}
  (hk:∀h',TAt h' a (if (jK L p.key).isSome then L else tH L room ⟨p,1⟩) room F->eH F h h'->k (.int .i64 (if (jK L p.key).isSome then 0 else aCv L room ⟨p,1⟩)) h'):
  bR PG lS #[pT a 0,tO p.key,.agg p.cells.toArray] h k:=by
 apply vL.call;unfold vL;intro r1 hr1;rw[dY];intro r3 hr3;rw[dY];have u1:eM h (h.set r1 (.cells (Value.cells (tO p.key)) gR)):=eH.new hr1;have b1:Bx (h.set r1 (.cells (Value.cells (tO p.key)) gR)) r1 [.int .i64 p.key.1,.int .u64 p.key.2]:=Bx.new;generalize h.set r1 (.cells (Value.cells (tO p.key)) gR)=h1 at *;have u2:eM h1 (h1.set r3 (.cells (Value.cells (.agg p.cells.toArray)) cT)):=eH.new hr3;have b3:Bx (h1.set r3 (.cells (Value.cells (.agg p.cells.toArray)) cT)) r3 p.cells:=Bx.new;generalize h1.set r3 (.cells (Value.cells (.agg p.cells.toArray)) cT)=h2 at *;have b1:=b1.ext u2;have u:=u1.trans u2;have H2:=H.ext u;have hs:=H.srt;obtain⟨m,l,ha,hm,hp,hF,ham⟩:=H2.here;have hgl:=λk=>aJL hp hs.nodup k;have c0:eA h2 ⟨a,0,none⟩=some (.map (some m)):=by simp[eA,ha]
 simp only[iH.f0,fB.load,c0,b1.id,aLt hm,hgl,dF,reduceIte];intro r12 hr12
 try rw[dY]
 refine aIT hr12 _ λh5 b5 u5=>?_;have b1:=b1.ext u5;have p3:=(b3.ext u5).pk (o:=0) (p:=p) rfl;have uu:=u.trans u5;by_cases hx:(jK L p.key).isSome=true
 ·simp only[hx,dF,reduceIte] at hk ⊢;exact hk h5 (H.ext uu) (eM.upd uu)
 ·have hx':(jK L p.key).isSome=false:=by simpa using hx
  simp only[hx',b1.id,p3,aIt,dF,reduceIte] at hk ⊢;refine aNf (H.ext uu) ⟨p,1⟩ λh6 H6 u6=>hk h6 H6 (eH.then (eM.upd uu) u6 λb hb=>.inl hb)
def aQa{h:PH}{a:Nat}{L:List It}{room:Int}{F:List Nat}(H:TAt h a L room F)(p:Pk){k:dI}
  (hk:∀h',TAt h' a (match jK L p.key with
   | some x=>rL L ⟨x.p,2⟩
   | none=>tH L room ⟨p,2⟩) room F->eH F h h'->k (.int .i64 (if (jK L p.key).isSome then 0 else aCv L room ⟨p,2⟩)) h'):
  bR PG kA #[pT a 0,tO p.key,.agg p.cells.toArray] h k:=by
 apply rN.call;unfold rN;intro r1 hr1;rw[dY];intro r3 hr3;rw[dY];have u1:eM h (h.set r1 (.cells (Value.cells (tO p.key)) gR)):=eH.new hr1;have b1:Bx (h.set r1 (.cells (Value.cells (tO p.key)) gR)) r1 [.int .i64 p.key.1,.int .u64 p.key.2]:=Bx.new;generalize h.set r1 (.cells (Value.cells (tO p.key)) gR)=h1 at *;have u2:eM h1 (h1.set r3 (.cells (Value.cells (.agg p.cells.toArray)) cT)):=eH.new hr3;have b3:(h1.set r3 (.cells (Value.cells (.agg p.cells.toArray)) cT)) r3=some (.cells p.cells.toArray cT (0,0)):=gB;have n3:h r3=none:=u1.none hr3;have n13:r1≠r3:=by rintro rfl;exact b1.known hr3
 generalize h1.set r3 (.cells (Value.cells (.agg p.cells.toArray)) cT)=h2 at *;have b1:=b1.ext u2;have u:=u1.trans u2;have H2:=H.ext u;have hs:=H.srt;obtain⟨m,l,ha,hm,hp,hF,ham⟩:=H2.here;have hgl:=λk=>aJL hp hs.nodup k;have c0:eA h2 ⟨a,0,none⟩=some (.map (some m)):=by simp[eA,ha]
 simp only[iH.f0,fB.load,c0,b1.id,aLt hm,hgl,dF,reduceIte];intro r12 hr12
 try rw[dY]
 refine aIT hr12 _ λh5 b5 u5=>?_;have b1:=b1.ext u5;have b3:=u5.get b3;have uu:=u.trans u5;cases hx:jK L p.key with
 | none=>
  have p3:=(Bx.mk ⟨_,b3⟩:Bx h5 r3 p.cells).pk (o:=0) (p:=p) rfl;simp only[hx,zLv,dF,reduceIte] at hk ⊢;unfold tR;simp only[b1.id,p3,aIt,dF,reduceIte];refine aNf (H.ext uu) ⟨p,2⟩ λh6 H6 u6=>hk h6 H6 (eH.then (eM.upd uu) u6 λb hb=>.inl hb)
 | some x=>
  obtain⟨hx1,hx2⟩:=aBB hx;have p5:=b5.pk (o:=0) (p:=x.p) (by rw[hx];rfl);simp only[hx,aNq,dJ.f0,p5,dF,reduceIte] at hk ⊢;refine aHL b3 cT.info (by show 4=4;rfl) (by show 0<4;decide) (by rfl) x.p.allCell ?_;have u6:eH [r3] h5 (h5.set r3 (.cells x.p.cells.toArray cT (0,0))):=eH.set (by simp);have b6:Bx (h5.set r3 (.cells x.p.cells.toArray cT (0,0))) r3 x.p.cells:=⟨_,gB⟩;generalize h5.set r3 (.cells x.p.cells.toArray cT (0,0))=h6 at *;have uu6:=uu.fresh u6 (fX.one n3);have b1:=b1.upd u6 (by simpa using n13);have p6:=b6.pk (o:=0) (p:=x.p) rfl;unfold tR;simp only[b1.id,p6,aIt,dF,reduceIte];have hkey:tO p.key=tO (⟨x.p,2⟩:It).key:=by rw[←hx2];rfl
  rw[hkey];have hsome:jK L (⟨x.p,2⟩:It).key=some x:=by show jK L x.key=some x;rw[hx2];exact hx
  have e1:aCv L room ⟨x.p,2⟩=0:=by unfold aCv;rw[hsome];simp
  have e2:tH L room ⟨x.p,2⟩=rL L ⟨x.p,2⟩:=by unfold tH;rw[hsome];simp
  refine aNf (H.ext uu6) ⟨x.p,2⟩ λh7 H7 u7=>?_;rw[e2] at H7;rw[e1];exact hk h7 H7 (eH.then (eM.upd uu6) u7 λb hb=>.inl hb)
def aW2{h:PH}{a:Nat}{L:List It}{room:Int}{F:List Nat}(H:TAt h a L room F)(p:Pk){k:dI}
  (hk:∀h',TAt h' a (sI L p.key) room F->eH F h h'->k (.int .i64 0) h'):
  bR PG iS #[pT a 0,tO p.key,.agg p.cells.toArray] h k:=by
 apply vM.call;unfold vM;intro r1 hr1;rw[dY];intro r3 hr3;rw[dY];have u1:eM h (h.set r1 (.cells (Value.cells (tO p.key)) gR)):=eH.new hr1;have b1:Bx (h.set r1 (.cells (Value.cells (tO p.key)) gR)) r1 [.int .i64 p.key.1,.int .u64 p.key.2]:=Bx.new;generalize h.set r1 (.cells (Value.cells (tO p.key)) gR)=h1 at *;have u2:eM h1 (h1.set r3 (.cells (Value.cells (.agg p.cells.toArray)) cT)):=eH.new hr3;generalize h1.set r3 (.cells (Value.cells (.agg p.cells.toArray)) cT)=h2 at *;have b1:=b1.ext u2;have u:=u1.trans u2;have H2:=H.ext u;have hs:=H.srt;obtain⟨m,l,ha,hm,hp,rfl,ham⟩:=H2.here;have c0:eA h2 ⟨a,0,none⟩=some (.map (some m)):=by simp[eA,ha]
 simp only[iH.f0,fB.load,c0,b1.id,dF,reduceIte];refine aWb aNO fB.und hm p.key rfl λh3 hm3 u3=>?_;rw[aX3] at hm3;refine hk h3 ⟨⟨m,sI l p.key,u3.get ha (by simpa using ham),hm3,hp.filter _,rfl,ham⟩,hs.del _⟩ ?_;exact eH.then (eM.upd u) u3 (λb hb=>by left;simp at hb;simp[hb])
def aVc:dE PG (build fI #[(1,(Value.func (Fn.func lS) #[] #[])),(2,(Value.func (Fn.func kA) #[] #[])),(3,(Value.func (Fn.func iS) #[] #[])),(4,(Value.func (Fn.func iS) #[] #[]))])=
  some (.agg #[.nilFunc,.func (.func lS) #[] #[],.func (.func kA) #[] #[],.func (.func iS) #[] #[],.func (.func iS) #[] #[]]):=by kernel_rfl
def aSi{f:FuncId}{args:Array Value}{h:PH}{k:dI}(hc:bR PG f args h k):aAK PG (.func (.func f) #[] #[]) args h k:=by
 unfold aAK;simpa using hc
def aLY(p:Pk):dE PG (build gR #[(0,.int .i64 p.f),(1,.int .u64 p.s)])=some (tO p.key):=aUv p.key
def aUz{h:PH}{a:Nat}{L:List It}{room:Int}{F:List Nat}(H:TAt h a L room F)(n:Nt){k:dI}
  (hk:∀h',TAt h' a (rP L room n) room F->eH F h h'->k (.int .i64 (vE L room n)) h'):bR PG aCL #[pT a 0,.agg n.cells.toArray] h k:=by
 apply tX.call;unfold tX;intro r1 hr1;rw[dY];have u1:eM h (h.set r1 (.cells (Value.cells (.agg n.cells.toArray)) dP)):=eH.new hr1;have b1:Bx (h.set r1 (.cells (Value.cells (.agg n.cells.toArray)) dP)) r1 n.cells:=Bx.new;generalize h.set r1 (.cells (Value.cells (.agg n.cells.toArray)) dP)=h1 at *;simp only[b1.nt,dF,reduceIte];refine aTe n λh2 u2=>?_;have uu:=u1.trans u2;have b2:=b1.ext u2;cases hr:n.right with
 | false=>
  have e1:vE L room n=1:=by unfold vE;rw[if_pos hr]
  have e2:rP L room n=L:=by unfold rP;rw[if_pos hr]
  rw[e1,e2] at hk;simp only[zLs,if_false,dF,reduceIte];exact hk h2 (H.ext uu) (eM.upd uu)
 | true=>
  simp only[if_true,aVc,dF,reduceIte];intro r8 hr8
  try rw[dY]
  refine aHL gB fI.info (by show 5=5;rfl) (by show 0<5;decide) (by rw[fI.zc];rfl) (by simp[gN]) ?_;rw[aDb];have u3:eM h2 (h2.set r8 (.cells #[.nilFunc,.func (.func lS) #[] #[],.func (.func kA) #[] #[],.func (.func iS) #[] #[],.func (.func iS) #[] #[]] fI (0,0))):=eH.new hr8;have b8:Bx (h2.set r8 (.cells #[.nilFunc,.func (.func lS) #[] #[],.func (.func kA) #[] #[],.func (.func iS) #[] #[],.func (.func iS) #[] #[]] fI (0,0))) r8
   [.nilFunc,.func (.func lS) #[] #[],.func (.func kA) #[] #[],.func (.func iS) #[] #[],.func (.func iS) #[] #[]]:=⟨_,gB⟩
  generalize h2.set r8 (.cells #[.nilFunc,.func (.func lS) #[] #[],.func (.func kA) #[] #[],.func (.func iS) #[] #[],.func (.func iS) #[] #[]] fI (0,0))=h3 at *;have b3:=b2.ext u3;have uu3:=uu.trans u3;have H3:=H.ext uu3;have c0:eA h3 ⟨r1,0,none⟩=some (.int .i64 n.k):=b3.cell 0;have c1:eA h3 ⟨r1,0+1,none⟩=some (.int .i64 n.p.f):=b3.cell 1;have c2:eA h3 ⟨r1,0+1+1,none⟩=some (.int .u64 n.p.s):=b3.cell 2;have p1:=b3.pk (o:=0+1) (p:=n.p) rfl;have hkr:1≤n.k∧n.k≤4:=by
   unfold Nt.right at hr;simp only[tM,decide_eq_true_eq] at hr;exact hr.1
  have ix:dE PG (indexAt fI (pT r8 0) (.int .i64 n.k))=some (pT r8 (0+n.k.toNat*1)):=
   uI fI.und gI.info gI.size (by omega) (by omega)
  have hf:∀(id:FuncId),[.nilFunc,.func (.func lS) #[] #[],.func (.func kA) #[] #[],.func (.func iS) #[] #[],.func (.func iS) #[] #[]][0+n.k.toNat*1]? =some (Value.func (.func id) #[] #[])->
    bR PG id #[pT a 0,tO n.p.key,.agg n.p.cells.toArray] h3 k->
    dA (dE PG (fieldAt dP (pT r1 0) 0)) λv12=>
 dA (dH PG h3 (loadAt aR v12)) λv13=>
 dA (dE PG (indexAt fI (pT r8 0) v13)) λv14=>
 dA (dH PG h3 (loadAt gI v14)) λv15=>
 dA (dE PG (fieldAt dP (pT r1 0) 1)) λv16=>
 dA (dE PG (fieldAt cT v16 0)) λv17=>
 dA (dH PG h3 (loadAt aR v17)) λv18=>
 dA (dE PG (fieldAt dP (pT r1 0) 1)) λv19=>
 dA (dE PG (fieldAt cT v19 1)) λv20=>
 dA (dH PG h3 (loadAt dN v20)) λv21=>
 dA (dE PG (build gR #[(0,v18),(1,v21)])) λv22=>
 dA (dE PG (fieldAt dP (pT r1 0) 1)) λv23=>
 dA (dH PG h3 (loadAt cT v23)) λv24=>
 aAK PG v15 #[pT a 0,v22,v24] h3 λv25 h26=>(k v25 h26):=λid hid hc=>by
   have c3:eA h3 ⟨r8,0+n.k.toNat*1,none⟩=some (.func (.func id) #[] #[]):=(b8.cell _).trans hid;simp only[dP.f0,dP.f1,cT.f0,cT.f1,aR.load,dN.load,gI.load,c0,c1,c2,c3,ix,aLY,p1,dF,reduceIte];exact aSi hc
  have hx:n.k=1∨n.k=2∨n.k=3∨n.k=4:=by omega
  have hrt:¬n.right=false:=by rw[hr];simp
  rcases hx with hA|hA|hA|hA
  ·refine hf lS (by rw[hA];rfl) (aV6 H3 n.p λh4 H4 u4=>?_);have e1:vE L room n=(if (jK L n.p.key).isSome then 0 else aCv L room ⟨n.p,1⟩):=by unfold vE;rw[if_neg hrt,if_pos hA]
   have e2:rP L room n=(if (jK L n.p.key).isSome then L else tH L room ⟨n.p,1⟩):=by unfold rP;rw[if_neg hrt,if_pos hA]
   rw[←e1];exact hk h4 (by rw[e2];exact H4) (eH.then (eM.upd uu3) u4 λb hb=>.inl hb)
  ·have n1:¬n.k=1:=by omega
   refine hf kA (by rw[hA];rfl) (aQa H3 n.p λh4 H4 u4=>?_);have e1:vE L room n=(if (jK L n.p.key).isSome then 0 else aCv L room ⟨n.p,2⟩):=by unfold vE;rw[if_neg hrt,if_neg n1,if_pos hA]
   have e2:rP L room n=(match jK L n.p.key with
    | some x=>rL L ⟨x.p,2⟩
    | none=>tH L room ⟨n.p,2⟩):=by unfold rP;rw[if_neg hrt,if_neg n1,if_pos hA];try rfl
   rw[←e1];exact hk h4 (by rw[e2];exact H4) (eH.then (eM.upd uu3) u4 λb hb=>.inl hb)
  all_goals
   have n1:¬n.k=1:=by omega
   have n2:¬n.k=2:=by omega
   refine hf iS (by rw[hA];rfl) (aW2 H3 n.p λh4 H4 u4=>?_);have e1:vE L room n=0:=by unfold vE;rw[if_neg hrt,if_neg n1,if_neg n2]
   have e2:rP L room n=sI L n.p.key:=by unfold rP;rw[if_neg hrt,if_neg n1,if_neg n2]
   rw[←e1];exact hk h4 (by rw[e2];exact H4) (eH.then (eM.upd uu3) u4 λb hb=>.inl hb)
def aXn(a b:It):ltI a b=decide (kl a.key b.key):=by
 unfold ltI;rw[yA];simp only[aHb,tM,decide_eq_true_eq];rfl
def aXf{l L:List It}(hp:l.Perm L)(hs:nK L)(ho:l.Pairwise λa b=>ltI b a=false):l=L:=by
 have hn:(l.map It.key).Nodup:=(hp.map It.key).nodup_iff.2 hs.nodup;refine nK.unique ?_ hs hp;unfold List.Nodup at hn;rw[List.pairwise_map] at hn;refine ho.imp₂ (λa b h1 h2=>?_) hn;rw[aXn] at h1;have h1:=of_decide_eq_false h1;rcases aKC h2 with h3|h3
 ·exact h3
 ·exact absurd h3 h1
def aQU{h:PH}{a:Nat}{L:List It}{room:Int}{F:List Nat}(H:TAt h a L room F)(hL:L.length≤1000000){k:dI}
  (hk:∀v h' G,fY h' dJ 5 v (L.map It.cells) G->fX h G->eM h h'->k v h'):bR PG yJ #[pT a 0] h k:=by
 apply aBe.call;unfold aBe;have hs:=H.srt;obtain⟨m,l,ha,hm,hp,rfl,ham⟩:=H.here;have hll:l.length≤1000000:=by rw[hp.length_eq];exact hL
 have c0:eA h ⟨a,0,none⟩=some (.map (some m)):=by simp[eA,ha]
 simp only[iH.f0,fB.load,c0,dF,reduceIte];refine aSy λbx h1 hbx hb u1=>?_;refine aRn hb (qB.ext hm u1) hll λv l1 h2 F2 hp2 hO f2 u2=>?_;refine aWs hO (by rw[hp2.length_eq];exact hll) λl2 h3 hp3 ho hO3 u3=>?_;have hl2:l2=L:=aXf ((hp3.trans hp2).trans hp) hs ho;subst hl2;have uu:=(u1.trans u2).fresh u3 (f2.of u1);have lv:=hO3.slR.len (t':=aR) dC.und;rw[jJ] at lv;obtain⟨zs,hz1,hz2⟩:=aFf (P:=PG) (n:=l2.length) dC.und dJ.info dJ.size dJ.bytes dJ.zero rfl (by decide) (by omega) (by omega);simp only[lv,hz1,dF,reduceIte];intro r hr;refine jC ?_
 try rw[dY]
 have u4:eM h3 (h3.set r (.cells zs dJ)):=eH.new hr;have hR:fY (h3.set r (.cells zs dJ)) dJ 5 (.slice (some ⟨r,0,none⟩) l2.length l2.length) (List.replicate l2.length [.int .i64 0,.int .u64 0,.int .u64 0,.string ⟨#[]⟩,.int .i64 0]) [r]:=
  fY.lit (λx hx=>by rw[List.eq_of_mem_replicate hx];rfl) gB (by simp) (by simp[xS];omega) (by rw[hz2];rfl)
 have hO4:=hO3.ext u4;have fr:h r=none:=uu.none hr;generalize h3.set r (.cells zs dJ)=h4 at *;have hsl:=aHt (P:=PG) (t:=dC) (a:=some ⟨r,0,none⟩) (len:=l2.length) (cap:=l2.length) (l:=0) (hh:=l2.length) (lo:=some (.int .i64 (0:Nat))) (hi:=some (.int .i64 l2.length)) dC.und dJ.info (.inr ⟨.i64,rfl⟩) (.inr ⟨.i64,rfl⟩) (mK _) (nQ _);have e1:(if l2.length=0 then some (⟨r,0,none⟩:Addr) else(some (⟨r,0,none⟩:Addr)).map (·.add (0*Tryz.t83.size)))=some ⟨r,0,none⟩:=by
  split
  ·rfl
  ·simp[lV]
 rw[e1] at hsl;refine aVi (n:=l2.length) (l:=0) (m:=l2.length) dC.und dJ.info dJ.size hR ⟨.i64,.i64,by simpa using hsl⟩ (mK _) (by simp) hO4.slR (It.isCell _) (by simp) ?_;intro h5 hR5 u5;have e2:List.take 0 (List.replicate l2.length ([.int .i64 0,.int .u64 0,.int .u64 0,.string ⟨#[]⟩,.int .i64 0]:List Value))++List.take l2.length (l2.map It.cells)++List.drop (0+l2.length) (List.replicate l2.length [.int .i64 0,.int .u64 0,.int .u64 0,.string ⟨#[]⟩,.int .i64 0])=l2.map It.cells:=by
  simp[sU]
 rw[e2] at hR5;exact hk _ h5 [r] hR5 (fX.one fr) ((uu.trans u4).fresh u5 (fX.one fr))
def Pk.eqIn{h:PH}{d:Nat}(m m':Pk):dH PG h (Op.equalIn (d+1+1) cT (.agg m.cells.toArray) (.agg m'.cells.toArray))=some (m.f==m'.f&&(m.s==m'.s&&(m.t==m'.t&&(m.d==m'.d&&true)))):=by
 refine(aBJ cT.und (by kernel_rfl) (λf=>match f.offset with|0=>m.f==m'.f|1=>m.s==m'.s|2=>m.t==m'.t|_=>m.d==m'.d) ?_);intro f hf;simp only[jW,zLg,or_false] at hf;rcases hf with rfl|rfl|rfl|rfl
 ·exact⟨by decide,_,_,jO aR.und rfl rfl,jO aR.und rfl rfl,sH aR.und⟩
 ·exact⟨by decide,_,_,jO dN.und rfl rfl,jO dN.und rfl rfl,sH dN.und⟩
 ·exact⟨by decide,_,_,jO dN.und rfl rfl,jO dN.und rfl rfl,sH dN.und⟩
 ·exact⟨by decide,_,_,jO aT.und rfl rfl,jO aT.und rfl rfl,aL6 aT.und⟩
def It.eqIn{h:PH}(m m':It):dH PG h (Op.equalIn (9999+1) dJ m.val m'.val)=some (decide (m=m')):=by
 have hm:dH PG h (Op.equalIn (9999+1) dJ (.agg m.cells.toArray) (.agg m'.cells.toArray))=some ((m.p.f==m'.p.f&&(m.p.s==m'.p.s&&(m.p.t==m'.p.t&&(m.p.d==m'.p.d&&true))))&&(m.g==m'.g&&true)):=by
  refine(aBJ dJ.und (by kernel_rfl) (λf=>match f.offset with|0=>(m.p.f==m'.p.f&&(m.p.s==m'.p.s&&(m.p.t==m'.p.t&&(m.p.d==m'.p.d&&true))))|_=>m.g==m'.g) ?_);intro f hf;simp only[jW,zLg,or_false] at hf;rcases hf with rfl|rfl
  ·exact⟨by decide,_,_,aA9 cT.und rfl cT.info cT.size,aA9 cT.und rfl cT.info cT.size,Pk.eqIn (d:=9997) m.p m'.p⟩
  ·exact⟨by decide,_,_,jO aR.und rfl rfl,jO aR.und rfl rfl,sH aR.und⟩
 show dH PG h (Op.equalIn (9999+1) dJ (.agg m.cells.toArray) (.agg m'.cells.toArray))=_;rw[hm];congr 1;simp only[aOE];rw[yA];obtain⟨⟨a,b,c,d⟩,g⟩:=m;obtain⟨⟨a',b',c',d'⟩,g'⟩:=m';simp[and_assoc]
def It.neq{h:PH}{x y:Operand}(m m':It):dH PG h (gV .neq dJ x y m.val m'.val)=some (.bool (!decide (m=m'))):=aKy (by kernel_rfl) (It.eqIn m m')
def jE.it{h:PH}{x:Value}{xs:List It}(H:jE h 5 x (xs.map It.cells)){k:IntKind}{j:Nat}{m:It}(hm:xs[j]? =some m):
  ∃a,dE PG (indexAt dC x (.int k j))=some (.pointer (some a))∧dH PG h (loadAt dJ (.pointer (some a)))=some m.val:=
 H.loadAgg dC.und dJ.info dJ.size dJ.und rfl (by omega) (by rw[xB,xZ,hm];rfl)
def aRT{h:PH}{x y:Value}{xs ys:List It}(hx:jE h 5 x (xs.map It.cells))(hy:jE h 5 y (ys.map It.cells))(hl:xs.length≤1000000){k:dI}
  (hk:k (.bool (decide (xs=ys))) h):bR PG tE #[x,y] h k:=by
 have lx:=hx.len (t':=aR) dC.und;have ly:=hy.len (t':=aR) dC.und;rw[jJ] at lx ly;apply pM.call;unfold pM;by_cases hlen:xs.length=ys.length
 ·have e1:((xs.length:Int) !=(ys.length:Int))=false:=by simp[hlen]
  simp only[lx,ly,e1,dF,reduceIte];refine⟨λvs h'=>∃i:Nat,i≤xs.length∧vs=[x,y,.int .i64 i]∧h'=h∧xs.take i=ys.take i,gT xs.length 2,⟨0,by omega,rfl,rfl,by simp⟩,?_⟩;rintro ρ h' ⟨i,hi,hvs,rfl,he⟩;simp only[jF,kF,lT,and_true] at hvs;obtain⟨e0,e1,e5⟩:=hvs;rw[e0,e1,e5];unfold aC3;by_cases hlt:i<xs.length
  ·have hd:((i:Int)<(xs.length:Int))=True:=by apply eq_true;omega
   obtain⟨m,hm⟩:∃m,xs[i]? =some m:=⟨_,lG hlt⟩;obtain⟨m',hm'⟩:∃m,ys[i]? =some m:=⟨_,lG (by omega)⟩;obtain⟨a,a1,a2⟩:=hx.it (k:=.i64) hm;obtain⟨b,b1,b2⟩:=hy.it (k:=.i64) hm';have e2:=oM (i:=i) (by omega);by_cases hc:m=m'
   ·have e3:(!decide (m=m'))=false:=by simp[hc]
    simp only[lx,hd,a1,a2,b1,b2,e2,It.neq,e3,dF,reduceIte];exact⟨⟨i+1,by omega,rfl,by trivial,by rw[zLR,zLR,he,hm,hm',hc]⟩,by simp[gT,e5];omega⟩
   ·have e3:(!decide (m=m'))=true:=by simp[hc]
    simp only[lx,hd,a1,a2,b1,b2,It.neq,e3,dF,reduceIte];have:decide (xs=ys)=false:=by
     simp only[decide_eq_false_iff_not];rintro rfl;rw[hm] at hm';cases hm';exact hc rfl
    rw[this] at hk;exact hk
  ·have hd:((i:Int)<(xs.length:Int))=False:=by apply eq_false;omega
   simp only[lx,hd,dF,reduceIte];rw[sU (by omega),sU (by omega)] at he;rw[he] at hk;simpa using hk
 ·have e1:((xs.length:Int) !=(ys.length:Int))=true:=by simp;omega
  simp only[lx,ly,e1,dF,reduceIte];have:decide (xs=ys)=false:=by
   simp only[decide_eq_false_iff_not];rintro rfl;exact hlen rfl
  rw[this] at hk;exact hk
def pA(L:List It)(k:Ky):List It:=L.filter λj=>decide (kl j.key k)
def pC(L:List It)(k:Ky):List It:=L.filter λj=>decide (kl k j.key)
def aFq:∀{L:List It},nK L->∀k,L=pA L k++((jK L k).toList++pC L k)
 | [],_,k=>rfl
 | x::L,hs,k=>by
  unfold nK at hs;rw[List.pairwise_cons] at hs;have ih:=aFq (L:=L) hs.2 k;by_cases h1:kl x.key k
  ·have e1:pA (x::L) k=x::pA L k:=by unfold pA;simp[zLr,h1]
   have e2:pC (x::L) k=pC L k:=by unfold pC;simp[zLr,aGg h1]
   have e3:jK (x::L) k=jK L k:=by unfold jK;simp[List.find?_cons,(aJ8 h1).symm]
   rw[e1,e2,e3,zLT,←ih]
  ·have hnA:pA L k=[]:=by
    unfold pA;rw[List.filter_eq_nil_iff];intro y hy hk;exact h1 (aIW (hs.1 y hy) (by simpa using hk))
   by_cases h2:x.key=k
   ·have e1:pA (x::L) k=[]:=by unfold pA at *;simp[zLr,h1];simpa using hnA
    have e2:pC (x::L) k=L:=by
     unfold pC;have:¬kl k x.key:=by rw[h2];exact aHC _
     simp only[zLr,this,decide_false,zLs,if_false];rw[aMh];intro y hy;have:=hs.1 y hy;rw[h2] at this;simpa using this
    have e3:jK (x::L) k=some x:=by unfold jK;simp[List.find?_cons,h2]
    rw[e1,e2,e3];rfl
   ·have h3:kl k x.key:=(aKC h2).resolve_left h1;have hno:jK L k=none:=aB8.2 λy hy e=>by
     have:=hs.1 y hy;rw[e] at this;exact aGg this h3
    have e1:pA (x::L) k=[]:=by unfold pA at *;simp[zLr,h1];simpa using hnA
    have e2:pC (x::L) k=x::L:=by
     unfold pC;rw[aMh];intro y hy;rcases jW.1 hy with rfl|hy
     ·simpa using h3
     ·simpa using aIW h3 (hs.1 y hy)
    have e3:jK (x::L) k=none:=by
     unfold jK at *;simp only[List.find?_cons,show(k=x.key)=False from eq_false (λe=>h2 e.symm),decide_false];exact hno
    rw[e1,e2,e3];rfl
def aVp(L:List It)(k:Ky):(pA L k).length≤L.length:=List.length_filter_le _ _
def aYv{L:List It}(hs:nK L){k:Ky}{i:Nat}{m:It}(hi:i<(pA L k).length)(hm:L[i]? =some m):kl m.key k:=by
 rw[aFq hs k,List.getElem?_append_left hi] at hm;have:=wE hm;unfold pA at this;simpa using(zLY.1 this).2
def aYW{L:List It}(hs:nK L){k:Ky}{m:It}(hm:L[(pA L k).length]? =some m):¬kl m.key k∧(jK L k).isSome=decide (m.key=k)∧(m.key=k->jK L k=some m):=by
 have h:=hm;have h:(pA L k++((jK L k).toList++pC L k))[(pA L k).length]? =some m:=by rw[←aFq hs k];exact hm
 rw[List.getElem?_append_right (nQ _),aJS] at h;cases hg:jK L k with
 | some x=>
  rw[hg] at h;simp only[Option.toList_some,zLT,zLU,zLK,zL4] at h;subst h;obtain⟨_,h2⟩:=aBB hg;subst h2;exact⟨aHC _,by simp,λ_=>rfl⟩
 | none=>
  rw[hg] at h;simp only[Option.toList_none,zLU] at h;have:=wE h;unfold pC at this;have h3:kl k m.key:=by simpa using(zLY.1 this).2
  refine⟨aGg h3,by simp[(aJ8 h3).symm],λe=>?_⟩;rw[e] at h3;exact absurd h3 (aHC _)
def aXt{L:List It}(hs:nK L){k:Ky}(hm:(pA L k).length=L.length):jK L k=none:=by
 have h:=congrArg List.length (aFq hs k);simp only[kO] at h;cases hg:jK L k with
 | none=>rfl
 | some x=>rw[hg] at h;simp at h;omega
def aN1{L:List It}(hs:nK L)(k:Ky):L.take (pA L k).length=pA L k:=by
 conv=>lhs;arg 2;rw[aFq hs k]
 rw[List.take_left'];rfl
def aNl{L:List It}(hs:nK L)(k:Ky):L.drop (pA L k).length=(jK L k).toList++pC L k:=by
 conv=>lhs;arg 2;rw[aFq hs k]
 rw[List.drop_left'];rfl
def aWn{L:List It}(hs:nK L){i:It}(hg:jK L i.key=none):L.take (pA L i.key).length++[i]++L.drop (pA L i.key).length=rL L i:=by
 rw[aN1 hs,aNl hs,hg];unfold rL pA pC;simp
def aV7{L:List It}(hs:nK L){k:Ky}{x:It}(hg:jK L k=some x):L.take (pA L k).length++L.drop ((pA L k).length+1)=sI L k:=by
 have h1:L.drop ((pA L k).length+1)=pC L k:=by
  rw[←rQ,aNl hs,hg];rfl
 rw[aN1 hs,h1];unfold sI;have hp:=(aLV (λj:It=>decide (kl j.key k)) (λj=>decide (kl k j.key)) (λa ha=>by
  simp only[decide_eq_true_eq] at ha;simp only[decide_eq_false_iff_not];exact aGg ha) L)
 have he:(L.filter λa=>decide (kl a.key k)||decide (kl k a.key))=L.filter λi=>decide (i.key≠k):=by
  apply List.filter_congr;intro y _;rw[yA];simp only[aHb,decide_eq_true_eq];exact⟨λh=>by rcases h with h|h;exact aJ8 h;exact(aJ8 h).symm,aKC⟩
 rw[he] at hp;refine nK.unique ?_ (hs.filter _) hp;unfold nK;rw[List.pairwise_append];refine⟨hs.filter _,hs.filter _,λa ha b hb=>?_⟩;exact aIW (by simpa using(zLY.1 ha).2) (by simpa using(zLY.1 hb).2)
def aW0{L:List It}(hs:nK L){i:It}{x:It}(hg:jK L i.key=some x):L.take (pA L i.key).length++i::L.drop ((pA L i.key).length+1)=rL L i:=by
 have h1:L.drop ((pA L i.key).length+1)=pC L i.key:=by
  rw[←rQ,aNl hs,hg];rfl
 rw[aN1 hs,h1];rfl
structure RAt(h:PH)(a:Nat)(L:List It)(room:Int)(F:List Nat):Prop where
 here:∃v G,h a=some (.cells #[v,.int .i64 room] eR (0,0))∧fY h dJ 5 v (L.map It.cells) G∧F=a::G∧a∉G
 srt:nK L
def RAt.upd{h h':PH}{a:Nat}{L:List It}{room:Int}{F G:List Nat}(H:RAt h a L room F)(u:eH G h h')(hd:∀b∈F,b∉G):RAt h' a L room F:=by
 obtain⟨v,G',ha,hO,rfl,hn⟩:=H.here;exact⟨⟨v,G',u.get ha (hd a (by simp)),hO.upd u (λb hb=>hd b (by simp[hb])),rfl,hn⟩,H.srt⟩
def RAt.ext{h h':PH}{a:Nat}{L:List It}{room:Int}{F:List Nat}(H:RAt h a L room F)(u:eM h h'):RAt h' a L room F:=H.upd u (by simp)
def RAt.known{h:PH}{a:Nat}{L:List It}{room:Int}{F:List Nat}(H:RAt h a L room F):∀b∈F,h b≠none:=by
 obtain⟨v,G',ha,hO,rfl,hn⟩:=H.here;intro b hb;rcases jW.1 hb with rfl|hb
 ·rw[ha];simp
 ·exact hO.known b hb
def jE.itf{h:PH}{x:Value}{xs:List It}(H:jE h 5 x (xs.map It.cells)){k:IntKind}{j:Nat}{m:It}(hm:xs[j]? =some m):
  ∃b o,dE PG (indexAt dC x (.int k j))=some (pT b o)∧eA h ⟨b,o,none⟩=some (.int .i64 m.p.f)∧eA h ⟨b,o+1,none⟩=some (.int .u64 m.p.s)∧eA h ⟨b,o+3,none⟩=some (.string m.p.d)∧
   dH PG h (loadAt dJ (pT b o))=some m.val:=by
 obtain⟨b,o,h1,h2,h3⟩:=H.fields dC.und dJ.info dJ.size (k:=k) (j:=j) (r:=m.cells) (by rw[xB,hm];rfl);exact⟨b,o,h1,h2 0 _ rfl,h2 1 _ rfl,h2 3 _ rfl,h3 _ dJ.und rfl⟩
def aMg{h:PH}{a:Nat}{L:List It}{room:Int}{F:List Nat}(H:RAt h a L room F)(hL:L.length≤1000000)(key:Ky){k:dI}
  (hk:k (.tuple #[.int .i64 (pA L key).length,.bool (jK L key).isSome]) h):bR PG oR #[pT a 0,.int .i64 key.1,.int .u64 key.2] h k:=by
 have hs:=H.srt;obtain⟨v,G,ha,hO,rfl,hn⟩:=H.here;have lv:=hO.slR.len (t':=aR) dC.und;rw[jJ] at lv;have c0:eA h ⟨a,0,none⟩=some v:=by simp[eA,ha]
 apply oD.call;unfold oD;refine⟨λvs h'=>∃i:Nat,i≤(pA L key).length∧vs=[pT a 0,.int .i64 key.1,.int .u64 key.2,.int .i64 i]∧h'=h,gT (pA L key).length 3,⟨0,by omega,rfl,rfl⟩,?_⟩;rintro ρ h' ⟨i,hi,hvs,rfl⟩;simp only[jF,kF,lT,and_true] at hvs;obtain⟨e0,e1,e2,e3⟩:=hvs;rw[e0,e1,e2,e3];unfold aB5;have hpl:=aVp L key;by_cases hlt:i<(pA L key).length
 ·have hd:((i:Int)<(L.length:Int))=True:=by apply eq_true;omega
  obtain⟨m,hm⟩:∃m,L[i]? =some m:=⟨_,lG (by omega)⟩;obtain⟨b,o,a1,a2,a3,_,_⟩:=hO.slR.itf (k:=.i64) hm;have hkl:=aYv hs hlt hm;have e5:=oM (i:=i) (by omega);rcases hkl with h1|⟨h1,h2⟩
  ·have d1:(m.p.f<key.1)=True:=eq_true h1;simp only[eR.f0,dC.load,c0,lv,hd,a1,dJ.f0,cT.f0,cT.f1,aR.load,dN.load,a2,a3,d1,e5,dF,reduceIte];exact⟨⟨i+1,by omega,rfl,by trivial⟩,by simp[gT,e3];omega⟩
  ·have h1':m.p.f=key.1:=h1;have h2':m.p.s<key.2:=h2;have d1:(m.p.f<key.1)=False:=by apply eq_false;omega
   have d2:(m.p.f==key.1)=true:=by simp[h1']
   have d3:(m.p.s<key.2)=True:=eq_true h2';simp only[eR.f0,dC.load,c0,lv,hd,a1,dJ.f0,cT.f0,cT.f1,aR.load,dN.load,a2,a3,d1,d2,d3,e5,dF,reduceIte];exact⟨⟨i+1,by omega,rfl,by trivial⟩,by simp[gT,e3];omega⟩
 ·have hil:i=(pA L key).length:=by omega
  subst hil;by_cases hend:(pA L key).length<L.length
  ·have hd:(((pA L key).length:Int)<(L.length:Int))=True:=by apply eq_true;omega
   obtain⟨m,hm⟩:∃m,L[(pA L key).length]? =some m:=⟨_,lG hend⟩;obtain⟨b,o,a1,a2,a3,_,_⟩:=hO.slR.itf (k:=.i64) hm;obtain⟨hnk,hsm,_⟩:=aYW hs hm;rw[hsm] at hk;have hnf:¬(m.p.f<key.1∨m.p.f=key.1∧m.p.s<key.2):=hnk;have d1:(m.p.f<key.1)=False:=by apply eq_false;omega
   by_cases hf:m.p.f=key.1
   ·have d2:(m.p.f==key.1)=true:=by simp[hf]
    have d3:(m.p.s<key.2)=False:=by apply eq_false;omega
    by_cases hq:m.p.s=key.2
    ·have d4:(m.p.s==key.2)=true:=by simp[hq]
     have:decide (m.key=key)=true:=by simp only[decide_eq_true_eq];exact Prod.ext hf hq
     rw[this] at hk;simp only[eR.f0,dC.load,c0,lv,hd,a1,dJ.f0,cT.f0,cT.f1,aR.load,dN.load,a2,a3,d1,d2,d3,d4,dF,reduceIte];exact hk
    ·have d4:(m.p.s==key.2)=false:=by simp[hq]
     have:decide (m.key=key)=false:=by simp only[decide_eq_false_iff_not];rintro rfl;exact hq rfl
     rw[this] at hk;simp only[eR.f0,dC.load,c0,lv,hd,a1,dJ.f0,cT.f0,cT.f1,aR.load,dN.load,a2,a3,d1,d2,d3,d4,dF,reduceIte];exact hk
   ·have d2:(m.p.f==key.1)=false:=by simp[hf]
    have:decide (m.key=key)=false:=by simp only[decide_eq_false_iff_not];rintro rfl;exact hf rfl
    rw[this] at hk;simp only[eR.f0,dC.load,c0,lv,hd,a1,dJ.f0,cT.f0,cT.f1,aR.load,dN.load,a2,a3,d1,d2,dF,reduceIte];exact hk
  ·have hd:(((pA L key).length:Int)<(L.length:Int))=False:=by apply eq_false;omega
   have hno:=aXt hs (k:=key) (by omega);rw[hno] at hk;simp only[eR.f0,dC.load,c0,lv,hd,aCb,aA1,dF,reduceIte];exact hk
def aI3{h:PH}(p:Pk)(hs0:0≤p.s)(ht0:0≤p.t){k:dI}(hk:∀h',eM h h'->k (.bool p.right) h'):bR PG sP #[.agg p.cells.toArray] h k:=by
 apply aAz.call;unfold aAz;intro r hr;rw[dY];have u:eM h (h.set r (.cells (Value.cells (.agg p.cells.toArray)) cT)):=eH.new hr;have b:Bx (h.set r (.cells (Value.cells (.agg p.cells.toArray)) cT)) r p.cells:=Bx.new;generalize h.set r (.cells (Value.cells (.agg p.cells.toArray)) cT)=h1 at *;have c0:eA h1 ⟨r,0,none⟩=some (.int .i64 p.f):=b.cell 0;have c1:eA h1 ⟨r,0+1,none⟩=some (.int .u64 p.s):=b.cell 1;have c2:eA h1 ⟨r,0+2,none⟩=some (.int .u64 p.t):=b.cell 2;have c3:eA h1 ⟨r,0+3,none⟩=some (.string p.d):=b.cell 3;have hk:=hk h1 u;unfold Pk.right at hk;have hf:(p.f=0∨p.f=1)∨(p.f<0∨1<p.f):=by omega
 rcases hf with hf|hf
 ·have g1:(0≤p.f)=True:=by apply eq_true;omega
  have g2:(p.f≤1)=True:=by apply eq_true;omega
  have go:dH PG h1 (loadAt aR (pT r 0))=some (.int .i64 p.f):=by rw[aR.load,c0]
  have first:∀X:Prop,X->X:=λ_ x=>x
  by_cases h3:p.s=0
  ·have e3:((0:Int)<p.s)=False:=by apply eq_false;omega
   have e3':(p.s≠0)=False:=by simp[h3]
   simp only[g1,g2,e3',decide_false,zLn,aJY,dF,reduceIte] at hk;rcases hf with hf|hf
   ·have d0:(p.f==0)=true:=by simp[hf]
    simp only[cT.f0,cT.f1,cT.f2,cT.f3,aR.load,dN.load,aT.load,c0,d0,c1,e3,dF,reduceIte];exact hk
   ·have d0:(p.f==0)=false:=by simp[hf]
    have d1:(p.f==1)=true:=by simp[hf]
    simp only[cT.f0,cT.f1,cT.f2,cT.f3,aR.load,dN.load,aT.load,c0,d0,d1,c1,e3,dF,reduceIte];exact hk
  ·have e3:((0:Int)<p.s)=True:=by apply eq_true;omega
   have e3':(p.s≠0)=True:=by simp[h3]
   by_cases h4:p.t=0
   ·have e4:((0:Int)<p.t)=False:=by apply eq_false;omega
    have e4':(p.t≠0)=False:=by simp[h4]
    simp only[g1,g2,e3',e4',decide_false,zLn,aJY,dF,reduceIte] at hk;rcases hf with hf|hf
    ·have d0:(p.f==0)=true:=by simp[hf]
     simp only[cT.f0,cT.f1,cT.f2,cT.f3,aR.load,dN.load,aT.load,c0,d0,c1,e3,c2,e4,dF,reduceIte];exact hk
    ·have d0:(p.f==0)=false:=by simp[hf]
     have d1:(p.f==1)=true:=by simp[hf]
     simp only[cT.f0,cT.f1,cT.f2,cT.f3,aR.load,dN.load,aT.load,c0,d0,d1,c1,e3,c2,e4,dF,reduceIte];exact hk
   ·have e4:((0:Int)<p.t)=True:=by apply eq_true;omega
    have e4':(p.t≠0)=True:=by simp[h4]
    have e5:decide ((p.d.size:Int)≤64)=decide (p.d.size≤64):=by
     rw[yA];simp only[decide_eq_true_eq];omega
    simp only[g1,g2,e3',e4',Bool.and_self,zLo,dF,reduceIte] at hk;rcases hf with hf|hf
    ·have d0:(p.f==0)=true:=by simp[hf]
     simp only[cT.f0,cT.f1,cT.f2,cT.f3,aR.load,dN.load,aT.load,c0,d0,c1,e3,c2,e4,c3,vP aT.und,e5,dF,reduceIte];exact hk
    ·have d0:(p.f==0)=false:=by simp[hf]
     have d1:(p.f==1)=true:=by simp[hf]
     simp only[cT.f0,cT.f1,cT.f2,cT.f3,aR.load,dN.load,aT.load,c0,d0,d1,c1,e3,c2,e4,c3,vP aT.und,e5,dF,reduceIte];exact hk
 ·have d0:(p.f==0)=false:=by simp;omega
  have d1:(p.f==1)=false:=by simp;omega
  have g:(decide (0≤p.f)&&decide (p.f≤1))=false:=by
   rw[Bool.and_eq_false_iff];simp only[decide_eq_false_iff_not];omega
  simp only[g,zLn] at hk;simp only[cT.f0,aR.load,c0,d0,d1,dF,reduceIte];exact hk
def aMw{h:PH}(n:Nt)(hs0:0≤n.p.s)(ht0:0≤n.p.t){k:dI}(hk:∀h',eM h h'->k (.bool n.right) h'):bR PG wU #[.agg n.cells.toArray] h k:=by
 apply aAy.call;unfold aAy;intro r hr;rw[dY];have u:eM h (h.set r (.cells (Value.cells (.agg n.cells.toArray)) dP)):=eH.new hr;have b:Bx (h.set r (.cells (Value.cells (.agg n.cells.toArray)) dP)) r n.cells:=Bx.new;generalize h.set r (.cells (Value.cells (.agg n.cells.toArray)) dP)=h1 at *;have c0:eA h1 ⟨r,0,none⟩=some (.int .i64 n.k):=b.cell 0;have p1:=b.pk (o:=0+1) (p:=n.p) rfl;unfold Nt.right at hk;by_cases d1:1≤n.k
 ·by_cases d2:n.k≤4
  ·simp only[dP.f0,dP.f1,aR.load,c0,d1,d2,p1,zLo,Bool.and_self,dF,reduceIte] at hk ⊢;exact aI3 n.p hs0 ht0 λh2 u2=>hk h2 (u.trans u2)
  ·simp only[dP.f0,dP.f1,aR.load,c0,d1,d2,zLn,aJY,decide_false,dF,reduceIte] at hk ⊢;exact hk _ u
 ·simp only[dP.f0,dP.f1,aR.load,c0,d1,zLn,decide_false,dF,reduceIte] at hk ⊢;exact hk _ u
def It.right(i:It):Bool:=(decide (i.g=1)||decide (i.g=2))&&i.p.right
def aMm{h:PH}(i:It)(hs0:0≤i.p.s)(ht0:0≤i.p.t){k:dI}(hk:∀h',eM h h'->k (.bool i.right) h'):bR PG tF #[i.val] h k:=by
 apply vR.call;unfold vR;intro r hr;rw[dY];have u:eM h (h.set r (.cells (Value.cells i.val) dJ)):=eH.new hr;have b:Bx (h.set r (.cells (Value.cells i.val) dJ)) r i.cells:=Bx.new;generalize h.set r (.cells (Value.cells i.val) dJ)=h1 at *;have c0:eA h1 ⟨r,0+4,none⟩=some (.int .i64 i.g):=b.cell 4;have p1:=b.pk (o:=0) (p:=i.p) rfl;unfold It.right at hk;by_cases d1:i.g=1
 ·have e1:(i.g==1)=true:=by simp[d1]
  simp only[dJ.f0,dJ.f1,aR.load,c0,e1,p1,dF,reduceIte];refine aI3 i.p hs0 ht0 λh2 u2=>?_;have:=hk h2 (u.trans u2);simpa[d1] using this
 ·have e1:(i.g==1)=false:=by simp[d1]
  by_cases d2:i.g=2
  ·have e2:(i.g==2)=true:=by simp[d2]
   simp only[dJ.f0,dJ.f1,aR.load,c0,e1,e2,p1,dF,reduceIte];refine aI3 i.p hs0 ht0 λh2 u2=>?_;have:=hk h2 (u.trans u2);simpa[d2] using this
  ·have e2:(i.g==2)=false:=by simp[d2]
   simp only[dJ.f0,dJ.f1,aR.load,c0,e1,e2,dF,reduceIte];have:=hk _ u;simpa[d1,d2] using this
def aKw:lH PG (buildSlice dC 0 #[])=some (.cells #[] dJ (0,0),λr=>pure (.slice (some ⟨r,0,none⟩) 0 0)):=by kernel_rfl
def aJq{h:PH}{v x:Value}{F:List Nat}{xs ys:List It}(H:fY h dJ 5 v (xs.map It.cells) F)(S:jE h 5 x (ys.map It.cells))(hl:xs.length+ys.length≤1000000){k:dI}
  (hk:∀v' h' F',fY h' dJ 5 v' ((xs++ys).map It.cells) F'->eH F h h'->(∀b∈F',b∈F∨h b=none)->k v' h'):dT PG (Builtin.append_ #[dC,dC] dC #[v,x]) h k:=by
 refine mQ dC.und dC.und dJ.info dJ.size dJ.bytes dJ.zero rfl (by decide) H S (It.isCell _) (by simp;omega) ?_;intro v' h' F' hO u f _;rw[←xX] at hO;exact hk v' h' F' hO u f
def fY.cutIt{h:PH}{v:Value}{F:List Nat}{L:List It}(H:fY h dJ 5 v (L.map It.cells) F){lo hi:Option Value}{l m:Nat}
  (hlo:lo=none∧l=0∨∃k,lo=some (.int k l)) (hhi:hi=none∧m=L.length∨∃k,hi=some (.int k m)) (h1:l≤m) (h2:m≤L.length):
  ∃v',dE PG (Instr.sliceAt dC v lo hi none)=some v'∧jE h 5 v' (((L.take m).drop l).map It.cells)∧∀x n c,v'= .slice (some x) n c->x.block∈F:=by
 obtain⟨v',e1,e2,e3⟩:=H.slR.cut dC.und dJ.info dJ.size (l:=l) (m:=m) hlo (by rcases hhi with⟨a,b⟩|h;exact .inl ⟨a,by rw[jJ];exact b⟩;exact .inr h) h1 (by rw[jJ];exact h2);refine⟨v',e1,?_,?_⟩
 ·rw[←List.map_take,←List.map_drop] at e2;exact e2
 ·intro x n c hx;obtain⟨x0,n0,c0,hx0,hb⟩:=e3 x n c hx;rcases H.here with⟨h3,_⟩|⟨b,cap,cs,h3,h4,_⟩
  ·rw[h3] at hx0;cases hx0
  ·rw[h3] at hx0;simp only[Value.slice.injEq,zL4] at hx0;rw[hb,←hx0.1,h4];simp
def aN7{h:PH}{a:Nat}{L:List It}{room:Int}{F:List Nat}(H:RAt h a L room F)(hL:L.length≤1000)(i:It)(hg:jK L i.key=none){k:dI}
  (hk:∀h' F',RAt h' a (tH L room i) room F'->eH F h h'->(∀b∈F',b∈F∨h b=none)->k (.int .i64 (aCv L room i)) h'):bR PG pZ #[pT a 0,i.val] h k:=by
 apply pS.call;unfold pS;intro r1 hr1;rw[dY];have u1:eM h (h.set r1 (.cells (Value.cells i.val) dJ)):=eH.new hr1;have b1:Bx (h.set r1 (.cells (Value.cells i.val) dJ)) r1 i.cells:=Bx.new;generalize h.set r1 (.cells (Value.cells i.val) dJ)=h1 at *;have H1:=H.ext u1;have hs:=H.srt;have HK:=H.known;obtain⟨v,G,ha,hO,rfl,hn⟩:=H1.here;have c0:eA h1 ⟨a,0,none⟩=some v:=by simp[eA,ha]
 have c1:eA h1 ⟨a,0+1,none⟩=some (.int .i64 room):=by simp[eA,ha]
 have lv:=hO.slR.len (t':=aR) dC.und;rw[jJ] at lv;by_cases hr:room≤L.length
 ·have e1:(room≤(L.length:Int))=True:=eq_true hr;simp only[eR.f0,eR.f1,dC.load,aR.load,c0,c1,lv,e1,dF,reduceIte];have h1:aCv L room i=2:=by unfold aCv;rw[if_pos ⟨hg,hr⟩]
  have h2:tH L room i=L:=by unfold tH;rw[if_pos ⟨hg,hr⟩]
  rw[←h1];exact hk _ _ (by rw[h2];exact H1) (eM.upd u1) (λb hb=>.inl hb)
 ·have e1:(room≤(L.length:Int))=False:=eq_false hr;have q1:eA h1 ⟨r1,0,none⟩=some (.int .i64 i.p.f):=b1.cell 0;have q2:eA h1 ⟨r1,0+1,none⟩=some (.int .u64 i.p.s):=b1.cell 1;simp only[eR.f0,eR.f1,dC.load,aR.load,dN.load,dJ.f0,cT.f0,cT.f1,c0,c1,lv,e1,q1,q2,dF,reduceIte];refine aMg H1 (by omega) i.key ?_;have hpl:=aVp L i.key;obtain⟨w1,s1,s2,s3⟩:=hO.cutIt (lo:=none) (hi:=some (.int .i64 (pA L i.key).length)) (l:=0) (m:=(pA L i.key).length) (.inl ⟨rfl,rfl⟩) (.inr ⟨.i64,rfl⟩) (mK _) hpl;obtain⟨w2,t1,t2,t3⟩:=hO.cutIt (lo:=some (.int .i64 (pA L i.key).length)) (hi:=none) (l:=(pA L i.key).length) (m:=L.length) (.inr ⟨.i64,rfl⟩) (.inl ⟨rfl,rfl⟩) hpl (nQ _);rw[zLb] at s2;rw[sU (nQ _)] at t2;simp only[eR.f0,dC.load,c0,s1,t1,b1.it,aKw,dF,reduceIte];intro r2 hr2;refine jC ?_
  try rw[dY]
  have u2:eM h1 (h1.set r2 (.cells #[] dJ)):=eH.new hr2;have hE:fY (h1.set r2 (.cells #[] dJ)) dJ 5 (.slice (some ⟨r2,0,none⟩) 0 0) (([]:List It).map It.cells) [r2]:=fY.lit (It.rows []) gB rfl (by decide) rfl;generalize h1.set r2 (.cells #[] dJ)=h2 at *;refine aJq hE (s2.ext u2) (by simp;omega) ?_;intro v3 h3 F3 hO3 u3 f3;have ha2:=u2.get ha;have n2:a∉[r2]:=by simp;rintro rfl;rw[ha] at hr2;cases hr2
  have ha3:h3 a=some (.cells #[v,.int .i64 room] eR (0,0)):=u3.get ha2 n2;have nr:r1∉[r2]:=by simp;rintro rfl;exact b1.known hr2
  have b3:=(b1.ext u2).upd u3 nr;have c03:eA h3 ⟨a,0,none⟩=some v:=by simp[eA,ha3]
  refine⟨c03,b3.it,?_⟩;rw[aUD,jQ];intro r4 hr4;refine jC ?_
  try rw[dY]
  have u4:eM h3 (h3.set r4 (.cells i.cells.toArray dJ)):=eH.new hr4;have s4:jE (h3.set r4 (.cells i.cells.toArray dJ)) 5 (.slice (some ⟨r4,0,none⟩) 1 1) ([i].map It.cells):=(fY.lit (It.rows [i]) gB (by simp) (by decide) (by simp)).slR;have s4':=s4;show dT PG (Builtin.append_ #[dC,dC] dC #[v3,.slice (some ⟨r4,0,none⟩) 1 1]) (h3.set r4 (.cells i.cells.toArray dJ)) _;generalize h3.set r4 (.cells i.cells.toArray dJ)=h4 at *;have ha4:=u4.get ha3;refine aJq (hO3.ext u4) s4 (by simp;omega) ?_;intro v5 h5 F5 hO5 u5 f5
  -- what lay at h1 lies there still
  have fresh3:∀b∈F3,h1 b=none:=λb hb=>by
   rcases f3 b hb with h6|h6
   ·simp at h6;subst h6;exact hr2
   ·exact u2.none h6
  have na3:a∉F3:=λhm=>by rw[fresh3 a hm] at ha;cases ha
  have ha5:h5 a=some (.cells #[v,.int .i64 room] eR (0,0)):=u5.get ha4 na3;have E2:eM h1 h3:=u2.fresh u3 (fX.one hr2);have E4:eM h1 h4:=E2.trans u4;have E5:eM h1 h5:=E4.fresh u5 fresh3;have c05:eA h5 ⟨a,0,none⟩=some v:=by simp[eA,ha5]
  refine⟨c05,?_⟩;have fresh5:∀b∈F5,h1 b=none:=λb hb=>by
   rcases f5 b hb with h6|h6
   ·exact fresh3 b h6
   ·exact E4.none h6
  refine aJq hO5 (t2.ext E5) (by simp;omega) ?_;intro v6 h6 F6 hO6 u6 f6;have na5:a∉F5:=λhm=>by rw[fresh5 a hm] at ha;cases ha
  have ha6:=u6.get ha5 na5;have E6:eM h1 h6:=E5.fresh u6 fresh5;have fresh6:∀b∈F6,h1 b=none:=λb hb=>by
   rcases f6 b hb with h7|h7
   ·exact fresh5 b h7
   ·exact E5.none h7
  have na6:a∉F6:=λhm=>by rw[fresh6 a hm] at ha;cases ha
  refine lX dC.und rfl ha6 (by simp) (by obtain⟨_,_,rfl,-⟩:=hO6.slR.here;rfl) dC.info dC.size ?_;have u7:eH [a] h6 (h6.set a (.cells (#[v,.int .i64 room].setIfInBounds 0 v6) eR (0,0))):=eH.set (by simp);have ha7:(h6.set a (.cells (#[v,.int .i64 room].setIfInBounds 0 v6) eR (0,0))) a=some (.cells #[v6,.int .i64 room] eR (0,0)):=gB;generalize h6.set a (.cells (#[v,.int .i64 room].setIfInBounds 0 v6) eR (0,0))=h7 at *;have e2:aCv L room i=0:=by unfold aCv;rw[if_neg (λhc=>hr hc.2)]
  have e3:tH L room i=rL L i:=by unfold tH;rw[if_neg (λhc=>hr hc.2)]
  have e4:([]:List It)++L.take (pA L i.key).length++[i]++L.drop (pA L i.key).length=rL L i:=by rw[zLU];exact aWn hs hg
  rw[e4] at hO6;rw[←e2];refine hk h7 (a::F6) ⟨⟨v6,F6,ha7,by rw[e3];exact hO6.upd u7 (λb hb=>by simp;rintro rfl;exact na6 hb),rfl,na6⟩,by rw[e3];exact hs.ins i⟩ ?_ ?_
  ·exact eH.then (eM.upd (u1.trans E6)) u7 (λb hb=>by left;simp at hb;simp[hb])
  ·intro b hb;rcases jW.1 hb with rfl|hb
   ·left;simp
   ·right;exact u1.none (fresh6 b hb)
def aUn{h2:PH}{a:Nat}{L:List It}{room:Int}{F:List Nat}(H:RAt h2 a L room F)(hL:L.length≤1000){key:Ky}{x:It}(hg:jK L key=some x){K:PH->Prop}
  (hk:∀h' F',RAt h' a (sI L key) room F'->eH F h2 h'->(∀b∈F',b∈F∨h2 b=none)->K h'):
  dA (dE PG (gW (pT a 0))) λv6=>
 dA (dE PG (fieldAt eR v6 0)) λv7=>
 dA (dH PG h2 (loadAt dC v7)) λv8=>
 dA (dE PG (Instr.sliceAt dC v8 none (some (.int .i64 (pA L key).length)) none)) λv9=>
 dA (dE PG (gW (pT a 0))) λv10=>
 dA (dE PG (fieldAt eR v10 0)) λv11=>
 dA (dH PG h2 (loadAt dC v11)) λv12=>
 dA (dE PG (binOp BinOp.add aR (.int .i64 (pA L key).length) (Value.int IntKind.i64 1))) λv13=>
 dA (dE PG (Instr.sliceAt dC v12 (some v13) none none)) λv14=>
 dA (lH PG (buildSlice dC 0 #[])) λx16=>∀r15,h2 r15=none->dA (dE PG (x16.2 r15)) λv17=>fK (PH.set h2 r15 x16.1) λh18=>
 dT PG (Builtin.append_ #[dC,dC] dC #[v17,v9]) h18 λv19 h20=>
 dH PG h20 (loadAt dC v11)=some v12∧(dT PG (Builtin.append_ #[dC,dC] dC #[v19,v14]) h20 λv21 h22=>
 (dA (dE PG (gW (pT a 0))) λv23=>
 dA (dE PG (fieldAt eR v23 0)) λv24=>
 dT PG (dX dC v24 v21) h22 λv25 h26=>
 (K h26))):=by
 have hs:=H.srt;have HK:=H.known;obtain⟨v,G,ha,hO,rfl,hn⟩:=H.here;have c0:eA h2 ⟨a,0,none⟩=some v:=by simp[eA,ha]
 have hlt:(pA L key).length<L.length:=by
  have:=congrArg List.length (aFq hs key);rw[hg] at this;simp only[kO,Option.toList_some,jY,lU] at this;omega
 have e5:IntKind.i64.wrap (((pA L key).length:Int)+1)=(((pA L key).length+1:Nat):Int):=by rw[fW (by omega) (by omega)];omega
 obtain⟨w1,s1,s2,s3⟩:=hO.cutIt (lo:=none) (hi:=some (.int .i64 (pA L key).length)) (l:=0) (m:=(pA L key).length) (.inl ⟨rfl,rfl⟩) (.inr ⟨.i64,rfl⟩) (mK _) (by omega);obtain⟨w2,t1,t2,t3⟩:=hO.cutIt (lo:=some (.int .i64 ((pA L key).length+1:Nat))) (hi:=none) (l:=(pA L key).length+1) (m:=L.length) (.inr ⟨.i64,rfl⟩) (.inl ⟨rfl,rfl⟩) (by omega) (nQ _);rw[zLb] at s2;rw[sU (nQ _)] at t2;simp only[eR.f0,dC.load,c0,s1,e5,t1,aKw,dF,reduceIte];intro r2 hr2;refine jC ?_
 try rw[dY]
 have u2:eM h2 (h2.set r2 (.cells #[] dJ)):=eH.new hr2;have hE:fY (h2.set r2 (.cells #[] dJ)) dJ 5 (.slice (some ⟨r2,0,none⟩) 0 0) (([]:List It).map It.cells) [r2]:=fY.lit (It.rows []) gB rfl (by decide) rfl;generalize h2.set r2 (.cells #[] dJ)=h3 at *;refine aJq hE (s2.ext u2) (by simp;omega) ?_;intro v4 h4 F4 hO4 u4 f4;have ha3:=u2.get ha;have n2:a∉[r2]:=by simp;rintro rfl;rw[ha] at hr2;cases hr2
 have ha4:h4 a=some (.cells #[v,.int .i64 room] eR (0,0)):=u4.get ha3 n2;have c04:eA h4 ⟨a,0,none⟩=some v:=by simp[eA,ha4]
 refine⟨c04,?_⟩;have E4:eM h2 h4:=u2.fresh u4 (fX.one hr2);have fresh4:∀b∈F4,h2 b=none:=λb hb=>by
  rcases f4 b hb with h6|h6
  ·simp at h6;subst h6;exact hr2
  ·exact u2.none h6
 have na4:a∉F4:=λhm=>by rw[fresh4 a hm] at ha;cases ha
 refine aJq hO4 (t2.ext E4) (by simp;omega) ?_;intro v6 h6 F6 hO6 u6 f6;have ha6:=u6.get ha4 na4;have E6:eM h2 h6:=E4.fresh u6 fresh4;have fresh6:∀b∈F6,h2 b=none:=λb hb=>by
  rcases f6 b hb with h7|h7
  ·exact fresh4 b h7
  ·exact E4.none h7
 have na6:a∉F6:=λhm=>by rw[fresh6 a hm] at ha;cases ha
 refine lX dC.und rfl ha6 (by simp) (by obtain⟨_,_,rfl,-⟩:=hO6.slR.here;rfl) dC.info dC.size ?_;have u7:eH [a] h6 (h6.set a (.cells (#[v,.int .i64 room].setIfInBounds 0 v6) eR (0,0))):=eH.set (by simp);have ha7:(h6.set a (.cells (#[v,.int .i64 room].setIfInBounds 0 v6) eR (0,0))) a=some (.cells #[v6,.int .i64 room] eR (0,0)):=gB;generalize h6.set a (.cells (#[v,.int .i64 room].setIfInBounds 0 v6) eR (0,0))=h7 at *;have e4:([]:List It)++L.take (pA L key).length++L.drop ((pA L key).length+1)=sI L key:=by rw[zLU];exact aV7 hs hg
 rw[e4] at hO6;refine hk h7 (a::F6) ⟨⟨v6,F6,ha7,hO6.upd u7 (λb hb=>by simp;rintro rfl;exact na6 hb),rfl,na6⟩,hs.del _⟩ ?_ ?_
 ·exact eH.then (eM.upd E6) u7 (λb hb=>by left;simp at hb;simp[hb])
 ·intro b hb;rcases jW.1 hb with rfl|hb
  ·left;simp
  ·right;exact fresh6 b hb
def aSz{L:List It}{p:Nat}{x:It}(hlt:p<L.length)(hat:L[p]? =some x)(g:Int):(L.map It.cells).flatten.set (p*5+4) (.int .i64 g)=((L.take p++⟨x.p,g⟩::L.drop (p+1)).map It.cells).flatten:=by
 have h2:((L.take p).map It.cells).flatten.length=p*5:=by
  rw[(It.rows _).flat,jJ,mT];congr 1;omega
 have h1:(L.map It.cells).flatten=((L.take p).map It.cells).flatten++(x.cells++((L.drop (p+1)).map It.cells).flatten):=by
  have h3:L=L.take p++x::L.drop (p+1):=by
   have:L.drop p=x::L.drop (p+1):=by
    rw[aBE hlt];have:L[p]=x:=by rw[lG hlt] at hat;simpa using hat
    rw[this]
   rw[←this,zL6]
  conv=>lhs;rw[h3]
  simp only[xX,zLG,jF,aEw]
 rw[h1,List.set_append_right _ _ (by rw[h2];omega),h2];simp only[xX,zLG,jF,aEw];congr 1;rw[show p*5+4-p*5=4 by omega];rfl
set_option maxHeartbeats 1000000 in
theorem aSw{h:PH}{a:Nat}{L:List It}{room:Int}{F:List Nat}(H:RAt h a L room F)(hL:L.length≤1000)(n:Nt)(hs0:0≤n.p.s)(ht0:0≤n.p.t){k:dI}
  (hk:∀h' F',RAt h' a (rP L room n) room F'->eH F h h'->(∀b∈F',b∈F∨h b=none)->k (.int .i64 (vE L room n)) h'):bR PG wG #[pT a 0,.agg n.cells.toArray] h k:=by
 apply oE.call;unfold oE;intro r1 hr1;rw[dY];have u1:eM h (h.set r1 (.cells (Value.cells (.agg n.cells.toArray)) dP)):=eH.new hr1;have b1:Bx (h.set r1 (.cells (Value.cells (.agg n.cells.toArray)) dP)) r1 n.cells:=Bx.new;generalize h.set r1 (.cells (Value.cells (.agg n.cells.toArray)) dP)=h1 at *;simp only[b1.nt,dF,reduceIte];refine aMw n hs0 ht0 λh2 u2=>?_;have uu:=u1.trans u2;have b2:=b1.ext u2;have H2:=H.ext uu;have hs:=H.srt;cases hr:n.right with
 | false=>
  have e1:vE L room n=1:=by unfold vE;rw[if_pos hr]
  have e2:rP L room n=L:=by unfold rP;rw[if_pos hr]
  rw[e1,e2] at hk;simp only[dF,reduceIte];exact hk h2 F H2 (eM.upd uu) (λb hb=>.inl hb)
 | true=>
  have c0:eA h2 ⟨r1,0,none⟩=some (.int .i64 n.k):=b2.cell 0;have c1:eA h2 ⟨r1,0+1,none⟩=some (.int .i64 n.p.f):=b2.cell 1;have c2:eA h2 ⟨r1,0+1+1,none⟩=some (.int .u64 n.p.s):=b2.cell 2;have p1:=b2.pk (o:=0+1) (p:=n.p) rfl;simp only[dP.f1,cT.f0,cT.f1,aR.load,dN.load,c1,c2,dF,reduceIte];refine aMg H2 (by omega) n.p.key ?_;have hkr:1≤n.k∧n.k≤4:=by
   unfold Nt.right at hr;simp only[tM,decide_eq_true_eq] at hr;exact hr.1
  have hrt:¬n.right=false:=by rw[hr];simp
  have hx:n.k=1∨n.k=2∨2<n.k:=by omega
  have fin:∀{h':PH} {F':List Nat} {X:List It} {E:Int},rP L room n=X->vE L room n=E->RAt h' a X room F'->eH F h2 h'->(∀b∈F',b∈F∨h2 b=none)->k (.int .i64 E) h':=by
   intro h' F' X E e1 e2 H' u' f';rw[←e2];exact hk h' F' (by rw[e1];exact H') (eH.then (eM.upd uu) u' λb hb=>.inl hb) (λb hb=>by
    rcases f' b hb with h|h
    ·exact .inl h
    ·exact .inr (uu.none h))
  rcases hx with hA|hA|hA
  ·have d1:(n.k==1)=true:=by simp[hA]
   have d2:(n.k==2)=false:=by simp[hA]
   have d3:((2:Int)<n.k)=False:=by apply eq_false;omega
   cases hg:jK L n.p.key with
   | none=>
    simp only[dP.f0,dP.f1,aR.load,c0,d1,zLv,p1,aIt,dF,reduceIte];refine aN7 H2 hL ⟨n.p,1⟩ hg λh3 F3 H3 u3 f3=>fin ?_ ?_ H3 u3 f3
    ·unfold rP;rw[if_neg hrt,if_pos hA,hg];rfl
    ·unfold vE;rw[if_neg hrt,if_pos hA,hg];rfl
   | some x=>
    simp only[dP.f0,dP.f1,aR.load,c0,d1,d2,d3,aNq,dF,reduceIte];unfold lW oB;refine fin ?_ ?_ H2 eH.refl (λb hb=>.inl hb)
    ·unfold rP;rw[if_neg hrt,if_pos hA,hg];rfl
    ·unfold vE;rw[if_neg hrt,if_pos hA,hg];rfl
  ·have d1:(n.k==1)=false:=by simp[hA]
   have d2:(n.k==2)=true:=by simp[hA]
   have n1:¬n.k=1:=by omega
   cases hg:jK L n.p.key with
   | none=>
    simp only[dP.f0,dP.f1,aR.load,c0,d1,d2,zLv,p1,aIt,dF,reduceIte];refine aN7 H2 hL ⟨n.p,2⟩ hg λh3 F3 H3 u3 f3=>fin ?_ ?_ H3 u3 f3
    ·unfold rP;rw[if_neg hrt,if_neg n1,if_pos hA,hg]
    ·unfold vE;rw[if_neg hrt,if_neg n1,if_pos hA,hg];rfl
   | some x=>
    obtain⟨hx1,hx2⟩:=aBB hg;have eL:rP L room n=rL L ⟨x.p,2⟩:=by unfold rP;rw[if_neg hrt,if_neg n1,if_pos hA,hg]
    have eE:vE L room n=0:=by unfold vE;rw[if_neg hrt,if_neg n1,if_pos hA,hg];rfl
    simp only[dP.f0,dP.f1,aR.load,c0,d1,d2,aNq,aKw,dF,reduceIte];intro r2 hr2;refine jC ?_
    try rw[dY]
    obtain⟨v,G,ha,hO,rfl,hn⟩:=H2.here;have u3:eM h2 (h2.set r2 (.cells #[] dJ)):=eH.new hr2;have hE:fY (h2.set r2 (.cells #[] dJ)) dJ 5 (.slice (some ⟨r2,0,none⟩) 0 0) (([]:List It).map It.cells) [r2]:=fY.lit (It.rows []) gB rfl (by decide) rfl;generalize h2.set r2 (.cells #[] dJ)=h3 at *;have ha3:=u3.get ha;have c03:eA h3 ⟨a,0,none⟩=some v:=by simp[eA,ha3]
    simp only[eR.f0,dC.load,c03,dF,reduceIte];refine aJq hE (hO.slR.ext u3) (by simp;omega) ?_;intro v4 h4 F4 hO4 u4 f4;rw[zLU] at hO4;have E4:eM h2 h4:=u3.fresh u4 (fX.one hr2);have fresh4:∀b∈F4,h2 b=none:=λb hb=>by
     rcases f4 b hb with h6|h6
     ·simp at h6;subst h6;exact hr2
     ·exact u3.none h6
    have na4:a∉F4:=λhm=>by rw[fresh4 a hm] at ha;cases ha
    have ha4:=E4.get ha;have hlt:(pA L n.p.key).length<L.length:=by
     have:=congrArg List.length (aFq hs n.p.key);rw[hg] at this;simp only[kO,Option.toList_some,jY,lU] at this;omega
    have hat:L[(pA L n.p.key).length]? =some x:=by
     have:(pA L n.p.key++((jK L n.p.key).toList++pC L n.p.key))[(pA L n.p.key).length]? =some x:=by
      rw[List.getElem?_append_right (nQ _),aJS,hg];rfl
     rwa [←aFq hs n.p.key] at this
    -- the copy's stage is set
    obtain⟨b',cap,cs,hv4,hF4,hb4,hle4,hcm4,hcs4,htk4⟩:∃b cap cs,v4= .slice (some ⟨b,0,none⟩) (L.map It.cells).length cap∧F4=[b]∧h4 b=some (.cells cs dJ (0,0))∧(L.map It.cells).length≤cap∧cap≤xS∧cs.size=cap*5∧cs.toList.take ((L.map It.cells).length*5)=(L.map It.cells).flatten:=by
     rcases hO4.here with⟨_,h2,_⟩|h2
     ·exfalso;have:L=[]:=List.map_eq_nil_iff.1 h2;subst this;simp at hlt
     ·exact h2
    rw[jJ] at hv4 hle4 htk4;have ix:dE PG (indexAt dC v4 (.int .i64 (pA L n.p.key).length))=some (.pointer (some ⟨b',0+(pA L n.p.key).length*5,none⟩)):=by
     rw[hv4];exact aHW dC.und dJ.info dJ.size (by omega) (by omega)
    have hbound:(pA L n.p.key).length*5+5≤cap*5:=by
     have:((pA L n.p.key).length+1)*5≤cap*5:=yE 5 (by omega);omega
    simp only[ix,dJ.f1,dF,reduceIte];refine lX aR.und rfl hb4 (by rw[hcs4];omega) rfl aR.info aR.size ?_;have u5:eH [b'] h4 (h4.set b' (.cells (cs.setIfInBounds (0+(pA L n.p.key).length*5+4) (.int .i64 2)) dJ (0,0))):=eH.set (by simp);have hb5:(h4.set b' (.cells (cs.setIfInBounds (0+(pA L n.p.key).length*5+4) (.int .i64 2)) dJ (0,0))) b'=some (.cells (cs.setIfInBounds (0+(pA L n.p.key).length*5+4) (.int .i64 2)) dJ (0,0)):=gB;generalize h4.set b' (.cells (cs.setIfInBounds (0+(pA L n.p.key).length*5+4) (.int .i64 2)) dJ (0,0))=h5 at *;have nab:a≠b':=by rintro rfl;exact na4 (by rw[hF4];simp)
    have ha5:=u5.get ha4 (by simpa using nab);have hO5:fY h5 dJ 5 v4 ((rL L ⟨x.p,2⟩).map It.cells) [b']:=by
     have hk2:(⟨x.p,2⟩:It).key=n.p.key:=hx2;have hins:=aW0 hs (i:=⟨x.p,2⟩) (x:=x) (by rw[hk2];exact hg);rw[hk2] at hins;have hlen:(rL L ⟨x.p,2⟩).length=L.length:=by
      rw[←hins];simp only[kO,mT,jY,kD];omega
     refine⟨It.rows _,.inr ⟨b',cap,_,by rw[hv4,jJ,hlen],rfl,hb5,by rw[jJ,hlen];exact hle4,hcm4,by simpa using hcs4,?_⟩⟩;rw[jJ,hlen]
     -- the cells
     have e0:(L.map It.cells).flatten.set ((pA L n.p.key).length*5+4) (.int .i64 2)=((rL L ⟨x.p,2⟩).map It.cells).flatten:=by
      rw[←hins];exact aSz hlt hat 2
     rw[←e0,←htk4,Array.toList_setIfInBounds,kB,List.take_set]
    have na5:a∉[b']:=by simpa using nab
    refine lX dC.und rfl ha5 (by simp) (by rw[hv4];rfl) dC.info dC.size ?_;have u7:eH [a] h5 (h5.set a (.cells (#[v,.int .i64 room].setIfInBounds 0 v4) eR (0,0))):=eH.set (by simp);have ha7:(h5.set a (.cells (#[v,.int .i64 room].setIfInBounds 0 v4) eR (0,0))) a=some (.cells #[v4,.int .i64 room] eR (0,0)):=gB;generalize h5.set a (.cells (#[v,.int .i64 room].setIfInBounds 0 v4) eR (0,0))=h7 at *;unfold lW oB;have fb:h2 b'=none:=fresh4 b' (by rw[hF4];simp);have E5:eM h2 h5:=E4.fresh u5 (fX.one fb);refine fin eL eE (F':=[a,b']) ⟨⟨v4,[b'],ha7,hO5.upd u7 (λb hb=>by simp at hb;subst hb;simpa using Ne.symm nab),rfl,na5⟩,hs.ins _⟩ ?_ ?_
    ·exact eH.then (eM.upd E5) u7 (λb hb=>by left;simp at hb;simp[hb])
    ·intro b hb;simp only[jW,zLg,or_false] at hb;rcases hb with rfl|rfl
     ·left;simp
     ·right;exact fb
  ·have d1:(n.k==1)=false:=by simp;omega
   have d2:(n.k==2)=false:=by simp;omega
   have d3:((2:Int)<n.k)=True:=by apply eq_true;omega
   have n1:¬n.k=1:=by omega
   have n2:¬n.k=2:=by omega
   have eL:rP L room n=sI L n.p.key:=by unfold rP;rw[if_neg hrt,if_neg n1,if_neg n2]
   have eE:vE L room n=0:=by unfold vE;rw[if_neg hrt,if_neg n1,if_neg n2]
   cases hg:jK L n.p.key with
   | none=>
    simp only[dP.f0,dP.f1,aR.load,c0,d1,d2,d3,zLv,dF,reduceIte];unfold lW oB;rw[aKH hg] at eL;exact fin eL eE H2 eH.refl (λb hb=>.inl hb)
   | some x=>
    have hx15:∀X:Prop,X->X:=λ_ x=>x;simp only[dP.f0,dP.f1,aR.load,c0,d1,d2,d3,aNq,aJO,aI7,jQ,gX,aNa,aN2,aNs,aNm,aNe,aJg,aKS,aPB,decide_true];exact aUn H2 hL hg λh' F' H' u f=>by
     unfold lW oB;exact fin eL eE H' u f
def pF(l:List It):List It:=l.foldl rL []
def aPn(l:List It)(x:It):pF (l++[x])=rL (pF l) x:=by unfold pF;rw[List.foldl_append];rfl
def aII(l:List It):nK (pF l):=by
 unfold pF;have:∀(l:List It) (L:List It),nK L->nK (l.foldl rL L):=by
  intro l;induction l with
  | nil=>intro L h;exact h
  | cons x l ih=>intro L h;exact ih _ (h.ins x)
 exact this l [] List.Pairwise.nil
def aWI(L:List It)(i:It)(k:Ky):k∈(rL L i).map It.key↔k=i.key∨k∈L.map It.key:=by
 rw[((aGS L i).map It.key).mem_iff,jF,jW];constructor
 ·rintro(h|h)
  ·exact .inl h
  ·obtain⟨x,hx,rfl⟩:=rS.1 h;unfold sI at hx;exact .inr (zL3 (zLY.1 hx).1)
 ·rintro(h|h)
  ·exact .inl h
  ·obtain⟨x,hx,rfl⟩:=rS.1 h;by_cases e:x.key=i.key
   ·exact .inl e
   ·right;unfold sI;exact zL3 (zLY.2 ⟨hx,by simpa using e⟩)
def aRW(l:List It)(k:Ky):k∈(pF l).map It.key↔k∈l.map It.key:=by
 unfold pF;have:∀(l L:List It),k∈(l.foldl rL L).map It.key↔(k∈l.map It.key∨k∈L.map It.key):=by
  intro l;induction l with
  | nil=>intro L;simp
  | cons x l ih=>
   intro L;rw[zLt,ih,aWI,jF,jW];constructor
   ·rintro(h|h|h)
    ·exact .inl (.inr h)
    ·exact .inl (.inl h)
    ·exact .inr h
   ·rintro((h|h)|h)
    ·exact .inr (.inl h)
    ·exact .inl h
    ·exact .inr (.inr h)
 rw[this];simp
def aRD(l:List It)(k:Ky):(jK (pF l) k).isSome=decide (k∈l.map It.key):=by
 cases h:jK (pF l) k with
 | some x=>
  obtain⟨h1,h2⟩:=aBB h;have:k∈l.map It.key:=(aRW l k).1 (by rw[←h2];exact zL3 h1);simp only[aNq];exact(decide_eq_true this).symm
 | none=>
  have:k∉l.map It.key:=λhm=>by
   obtain⟨x,hx,e⟩:=rS.1 ((aRW l k).2 hm);exact aB8.1 h x hx e
  simp only[zLv];exact(decide_eq_false this).symm
def aNM{l:List It}{x:It}:((l++[x]).map It.key).Nodup↔(l.map It.key).Nodup∧x.key∉l.map It.key:=by
 rw[xX,List.nodup_append];simp only[jF,kF,aGT,zLg,not_false_eq_true,List.nodup_nil,and_self,true_and,jI];constructor
 ·rintro⟨h1,h2⟩;exact⟨h1,λhm=>h2 _ hm _ rfl rfl⟩
 ·rintro⟨h1,h2⟩;refine⟨h1,?_⟩;rintro a ha b rfl rfl;exact h2 ha
def aWk{L:List It}(hs:nK L):pF L=L:=by
 have hp:∀(l L:List It),(L.map It.key++l.map It.key).Nodup->(l.foldl rL L).Perm (L++l):=by
  intro l;induction l with
  | nil=>intro L _;simp
  | cons x l ih=>
   intro L hn;rw[jF] at hn;have hx:x.key∉L.map It.key:=λhm=>by
    rw[List.nodup_append] at hn;exact hn.2.2 _ hm _ (by simp) rfl
   have hg:jK L x.key=none:=aB8.2 λy hy e=>hx (by rw[←e];exact zL3 hy);have h3:=aGS L x;rw[aKH hg] at h3;rw[zLt];refine(ih (rL L x) ?_).trans ((h3.append_right l).trans List.perm_middle.symm);refine(((h3.map It.key).append_right (l.map It.key)).nodup_iff).2 ?_;rw[jF,zLT];exact(List.perm_middle.nodup_iff).1 hn
 exact nK.unique (aII L) hs (hp L [] (by simpa using hs.nodup))
def aPw{L:List It}(hs:nK L)(i:It):(rL L i).length≤L.length+1:=by
 rw[aHc hs];split<;>omega
def aIH(l:List It):(pF l).length≤l.length:=by
 unfold pF;have:∀(l L:List It),nK L->(l.foldl rL L).length≤L.length+l.length:=by
  intro l;induction l with
  | nil=>intro L _;simp
  | cons x l ih=>
   intro L hs;rw[zLt];have h1:=ih _ (hs.ins x);have h2:=aPw hs x;simp only[jY];omega
 simpa using this l [] List.Pairwise.nil
def oJ(room:Int)(l:List It):Int:=
 if room<1∨40<room then 1 else if l.all It.right=false then 1 else if ¬(l.map It.key).Nodup then 4 else if room<l.length then 2 else 0
def aVm{h:PH}{room:Int}{x:Value}{l:List It}(hx:jE h 5 x (l.map It.cells))(hl:l.length≤1000){k:dI}
  (hbad:∀h',eM h h'->oJ room l≠0->k (.tuple #[.pointer none,.int .i64 (oJ room l)]) h')
  (hk:∀a h' F,oJ room l=0->TAt h' a (pF l) room F->fX h F->eM h h'->k (.tuple #[pT a 0,.int .i64 0]) h'):bR PG aGm #[.int .i64 room,x] h k:=by
 have lx:=hx.len (t':=aR) dC.und;rw[jJ] at lx;apply aGZ.call;unfold aGZ;have z1:((1:Int) !=0)=true:=by decide
 have z0:((0:Int) !=0)=false:=by decide
 refine aXN room (λhb=>?_) λg1 g2 a h1 F H1 f1 u1=>?_
 ·have e:oJ room l=1:=by unfold oJ;rw[if_pos hb]
  simp only[z1,dF,reduceIte];have:=hbad h eH.refl (by rw[e];decide);rw[e] at this;exact this
 have hroom:¬(room<1∨40<room):=by omega
 simp only[z0,lx,dF,reduceIte];refine⟨λvs h'=>∃(i:Nat) (tw:Bool),i≤l.length∧vs=[.int .i64 room,x,pT a 0,.bool tw,x,.int .i64 l.length,.int .i64 i]∧TAt h' a (pF (l.take i)) room F∧eM h h'∧(l.take i).all It.right=true∧tw=!decide (((l.take i).map It.key).Nodup),gT l.length 6,
  ⟨0,false,by omega,rfl,H1,u1,by simp,by simp⟩,?_⟩
 rintro ρ h' ⟨i,tw,hi,hvs,HT,w,har,htw⟩;simp only[jF,kF,lT,and_true] at hvs;obtain⟨e0,e1,e2,e3,e4,e5,e6⟩:=hvs;rw[e0,e1,e2,e3,e4,e5,e6];unfold aME;by_cases hlt:i<l.length
 ·have hd:((i:Int)<(l.length:Int))=True:=by apply eq_true;omega
  obtain⟨m,hm⟩:∃m,l[i]? =some m:=⟨_,lG hlt⟩;obtain⟨y,y1,y2⟩:=(hx.ext w).it (k:=.i64) hm;have htake:l.take (i+1)=l.take i++[m]:=by rw[zLR,hm];rfl
  have ei:=oM (i:=i) (by omega);simp only[hd,y1,y2,dF,reduceIte];intro r hr
  try rw[dY]
  refine aIT hr m λh2 b2 u2=>?_;have w2:=w.trans u2;have c4:eA h2 ⟨r,0+4,none⟩=some (.int .i64 m.g):=b2.cell 4;have p2:=b2.pk (o:=0) (p:=m.p) rfl;have bad:m.right=false->oJ room l=1:=λhmr=>by
   unfold oJ;rw[if_neg hroom,if_pos];rw[List.all_eq_false];exact⟨m,wE hm,by simp[hmr]⟩
  have fail:∀h3,eM h h3->m.right=false->k (.tuple #[.pointer none,.int .i64 1]) h3:=λh3 w3 hmr=>by
   have e:=bad hmr;have:=hbad h3 w3 (by rw[e];decide);rw[e] at this;exact this
  have hcase:(m.g≠1∧m.g≠2)∨(m.g=1∨m.g=2):=by omega
  rcases hcase with⟨n1,n2⟩|hgg
  ·have e1:(m.g !=1)=true:=by simp[n1]
   have e2:(m.g !=2)=true:=by simp[n2]
   have hmr:m.right=false:=by unfold It.right;simp[n1,n2]
   simp only[dJ.f1,aR.load,c4,e1,e2,dF,reduceIte];exact fail h2 w2 hmr
  have z11:((1:Int) !=1)=false:=by decide
  have z21:((2:Int) !=1)=true:=by decide
  have z22:((2:Int) !=2)=false:=by decide
  have hmr:m.right=m.p.right:=by unfold It.right;rcases hgg with h|h<;>simp[h]
  rcases hgg with hg|hg<;>rw[hg] at c4<;>simp only[dJ.f0,dJ.f1,aR.load,c4,z11,z21,z22,p2,dF,reduceIte]<;>refine aJ5 m.p λh3 u3=>?_
  all_goals
   cases hpr:m.p.right with
   | false=>
    simp only[zLs,if_false,z1,dF,reduceIte];exact fail h3 (w2.trans u3) (by rw[hmr];exact hpr)
   | true=>
    have b3:=b2.ext u3;have c0:eA h3 ⟨r,0,none⟩=some (.int .i64 m.p.f):=b3.cell 0;have c1:eA h3 ⟨r,0+1,none⟩=some (.int .u64 m.p.s):=b3.cell 1;simp only[if_true,z0,dJ.f0,cT.f0,cT.f1,aR.load,dN.load,c0,c1,aLY,dF,reduceIte];intro r5 hr5
    try rw[dY]
    refine aHL gB gR.info (by show 2=2;rfl) (by show 0<2;decide) (by rw[gR.zc];rfl) (by simp[gN,Pk.key]) ?_;rw[aDb];have u5:eM h3 (h3.set r5 (.cells #[.int .i64 m.p.key.1,.int .u64 m.p.key.2] gR (0,0))):=eH.new hr5;have b5:Bx (h3.set r5 (.cells #[.int .i64 m.p.key.1,.int .u64 m.p.key.2] gR (0,0))) r5 [.int .i64 m.p.key.1,.int .u64 m.p.key.2]:=⟨_,gB⟩;generalize h3.set r5 (.cells #[.int .i64 m.p.key.1,.int .u64 m.p.key.2] gR (0,0))=h5 at *;have U5:=(u2.trans u3).trans u5;have H5:=HT.ext U5;have hs:=HT.srt;obtain⟨mm,ll,ha,hmm,hp,hF,ham⟩:=H5.here;have hgl:=λk=>aJL hp hs.nodup k;have cm:eA h5 ⟨a,0,none⟩=some (.map (some mm)):=by simp[eA,ha]
    simp only[iH.f0,fB.load,cm,b5.id,aLt hmm,hgl,dF,reduceIte];intro r7 hr7
    try rw[dY]
    refine aIT hr7 _ λh7 b7 u7=>?_;have ha7:=u7.get ha;have hm7:=qB.ext hmm u7;have b57:=b5.ext u7;have b37:=(b3.ext u5).ext u7;have cm7:eA h7 ⟨a,0,none⟩=some (.map (some mm)):=by simp[eA,ha7]
    have hgt:(jK (pF (l.take i)) m.p.key).isSome=decide (m.key∈(l.take i).map It.key):=aRD (l.take i) m.p.key;have hn:= @aNM (l.take i) m;have hFf:fX h F:=f1;have rest:∀(K:dI),(∀h9,TAt h9 a (pF (l.take (i+1))) room F->eM h h9->K undef h9)->dT PG (aJi fB (.map (some mm)) (tO m.p.key) m.val) h7 K:=λK hK=>by
     refine aRY aNO fB.und hm7 m.key m.val λh9 hm9 u9=>?_;obtain⟨l',q1,q2⟩:=aPc hp hs m;rw[q1] at hm9;refine hK h9 ⟨⟨mm,l',u9.get ha7 (by simpa using ham),hm9,by rw[htake,aPn];exact q2,hF,ham⟩,aII _⟩ ?_;exact((w.trans U5).trans u7).fresh u9 (fX.one (hFf mm (by rw[hF];simp)))
    have hall:(l.take (i+1)).all It.right=true:=by rw[htake,List.all_append,har];simp[hmr,hpr]
    cases tw with
    | true=>
     simp only[iH.f0,fB.load,cm7,b57.id,b37.it,dF,reduceIte];refine rest _ λh9 H9 w9=>?_;simp only[ei,dF,reduceIte];have hnd:¬((l.take i).map It.key).Nodup:=by intro h;rw[decide_eq_true h] at htw;cases htw
     exact⟨⟨i+1,true,by omega,rfl,H9,w9,hall,by rw[htake,decide_eq_false (λh=>hnd (hn.1 h).1)];rfl⟩,by simp[gT,e6];omega⟩
    | false=>
     have hnd:((l.take i).map It.key).Nodup:=by
      have:decide (((l.take i).map It.key).Nodup)=true:=by simpa using htw.symm
      exact of_decide_eq_true this
     simp only[iH.f0,fB.load,cm7,b57.id,b37.it,dF,reduceIte];refine rest _ λh9 H9 w9=>?_;simp only[ei,dF,reduceIte];refine⟨⟨i+1,(jK (pF (l.take i)) m.p.key).isSome,by omega,rfl,H9,w9,hall,?_⟩,by simp[gT,e6];omega⟩;rw[hgt,htake];by_cases h2:m.key∈(l.take i).map It.key
     ·rw[decide_eq_true h2,decide_eq_false (λh=>(hn.1 h).2 h2)];rfl
     ·rw[decide_eq_false h2,decide_eq_true (hn.2 ⟨hnd,h2⟩)];rfl
 ·have hil:i=l.length:=by omega
  have hd:((i:Int)<(l.length:Int))=False:=by apply eq_false;omega
  rw[hil,zLJ] at HT har htw;have har':¬l.all It.right=false:=by rw[har];simp
  simp only[hd,lx,dF,reduceIte];cases tw with
  | true=>
   have hnd:¬(l.map It.key).Nodup:=by intro h;rw[decide_eq_true h] at htw;cases htw
   have e:oJ room l=4:=by unfold oJ;rw[if_neg hroom,if_neg har',if_pos hnd]
   simp only[dF,reduceIte];have:=hbad h' w (by rw[e];decide);rw[e] at this;exact this
  | false=>
   have hnd:(l.map It.key).Nodup:=by
    have:decide ((l.map It.key).Nodup)=true:=by simpa using htw.symm
    exact of_decide_eq_true this
   by_cases hfull:room<(l.length:Int)
   ·have e:oJ room l=2:=by unfold oJ;rw[if_neg hroom,if_neg har',if_neg (λh=>h hnd),if_pos hfull]
    simp only[hfull,dF,reduceIte];have:=hbad h' w (by rw[e];decide);rw[e] at this;exact this
   ·have e:oJ room l=0:=by unfold oJ;rw[if_neg hroom,if_neg har',if_neg (λh=>h hnd),if_neg hfull]
    simp only[hfull,dF,reduceIte];exact hk a h' F e HT f1 w
def aUq{h:PH}{x y:Value}{xs ys:List It}(hx:kV h x xs)(hy:kV h y ys)(hl:xs.length≤1000000){k:dI}(hk:k (.bool (decide (xs=ys))) h):bR PG qN #[x,y] h k:=by
 apply lP.call;unfold lP;have lx:=It.len hx;have ly:=It.len hy;by_cases hle:xs.length=ys.length
 ·have q:((xs.length:Int) !=(ys.length:Int))=false:=by simp[hle]
  simp only[lx,ly,fZ,q,dF,reduceIte];refine⟨λvs h'=>∃i:Nat,i≤xs.length∧vs=[x,y,.int .i64 (xs.length:Int),.int .i64 (i:Int)]∧h'=h∧xs.take i=ys.take i,gT xs.length 3,⟨0,by omega,rfl,rfl,by simp⟩,?_⟩;rintro ρ h' ⟨i,hi,hvs,rfl,ht⟩;simp only[jF,kF,lT,and_true] at hvs;obtain⟨v0,v1,v12,v13⟩:=hvs;simp only[v0,v1,v12,v13,jF,kF];unfold wC;by_cases hlt:i<xs.length
  ·have g1:((i:Int)<(xs.length:Int))=True:=eq_true (by omega);have gi:=oM (i:=i) (by omega);have e1:xs[i]? =some xs[i]:=lG hlt;have hlt2:i<ys.length:=by omega
   have e2:ys[i]? =some ys[i]:=lG hlt2;obtain⟨a1,p1,q1⟩:=hx.wItem e1;obtain⟨a2,p2,q2⟩:=hy.wItem e2;have t1:xs.take (i+1)=xs.take i++[xs[i]]:=zL7 hlt;have t2:ys.take (i+1)=ys.take i++[ys[i]]:=zL7 hlt2;have hn:=It.neq (h:=h') (x:=.tmp 19) (y:=.tmp 23) xs[i] ys[i];unfold It.val at hn;simp only[g1,p1,q1,p2,q2,hn,dF,reduceIte];by_cases he:xs[i]=ys[i]
   ·simp only[he,decide_true,gi,dF,reduceIte,dM,Nat.reduceAdd];refine⟨⟨i+1,by omega,rfl,(by trivial),by rw[t1,t2,ht,he]⟩,?_⟩;simp only[gT,zLL,zLK];omega
   ·have hne:¬xs=ys:=λe=>he (by subst e;rfl);simp only[he,decide_false,dF,reduceIte,dM,Nat.reduceAdd];simpa[hne] using hk
  ·have g1:((i:Int)<(xs.length:Int))=False:=eq_false (by omega);rw[sU (by omega),sU (by omega)] at ht;simp only[g1,dF,reduceIte];simpa[ht] using hk
 ·have q:((xs.length:Int) !=(ys.length:Int))=true:=by rw[bne_iff_ne];omega
  have hne:¬xs=ys:=λe=>hle (by rw[e]);simp only[lx,ly,fZ,q,dF,reduceIte];simpa[hne] using hk
def It.b0:lH PG (buildSlice dC 0 #[])=some (.cells #[] dJ,λr=>pure (.slice (some ⟨r,0,none⟩) 0 0)):=by kernel_rfl
def aON{h:PH}{v:Value}{l:List It}(S:kV h v l)(hl:l.length≤1000000){k:dI}(hk:∀v' h',kV h' v' l->jV h v'->eM h h'->k v' h'):bR PG nE #[v] h k:=by
 apply oN.call;unfold oN;have hS:=S;obtain⟨va,c,hv,hc1,hc2,hc3,-⟩:=S.here;rw[jJ] at hv;subst hv;cases va with
 | none=>
  have hnil:l.map It.cells=[]:=by
   by_cases h0:l.map It.cells=[]
   ·exact h0
   ·obtain⟨b,o,cs,e,fr,e1,_⟩:=hc3 h0;cases e1
  have hl0:l=[]:=List.map_eq_nil_iff.1 hnil;subst hl0;simp only[aUM dC.und,Option.isNone_none,dF,reduceIte];exact hk _ _ aEE jV.nil eH.refl
 | some va=>
  simp only[aUM dC.und,aMf,It.b0,dF,reduceIte];intro r hr;refine jC ?_
  try rw[dY]
  have u1:eM h (h.set r (.cells #[] dJ)):=eH.new hr;have O1:fY (h.set r (.cells #[] dJ)) dJ 5 (.slice (some ⟨r,0,none⟩) 0 0) (([]:List It).map It.cells) [r]:=fY.lit (n:=0) (It.rows []) gB (by simp) (by decide) rfl;generalize h.set r (.cells #[] dJ)=h1 at *;refine mQ dC.und dC.und dJ.info dJ.size dJ.bytes dJ.zero rfl (by decide) O1 (hS.ext u1) (It.isC l) (by simp;omega) ?_;intro v2 h2 F2 O2 u2 k2 _;rw[kF,zLU] at O2;have f2:fX h F2:=λb hb=>by
   rcases k2 b hb with h1|h1
   ·simp only[jI] at h1;subst h1;exact hr
   ·exact u1.none h1
  exact hk _ _ O2.slR (O2.newV f2) (u1.fresh u2 (fX.one hr))
def chk(d:Dm)(room:Int):Int:=
 if oJ room d.its=1∨¬(kX d.p0∧kX d.p1) then 1 else if oJ room d.its≠0 then oJ room d.its else if pF d.its≠d.its then 15 else 0
def aUg{h:PH}(q:Pl){k:dI}(hk:∀h',eM h h'->k (.bool (!decide (kX q))) h'):bR PG uF #[.agg q.cells.toArray] h k:=by
 apply aDl.call;unfold aDl;intro r hr
 try rw[dY]
 have u1:eM h (h.set r (.cells (Value.cells (.agg q.cells.toArray)) dK)):=eH.new hr;have B1:Bx (h.set r (.cells (Value.cells (.agg q.cells.toArray)) dK)) r q.cells:=Bx.new;generalize h.set r (.cells (Value.cells (.agg q.cells.toArray)) dK)=h1 at *;have hk:=hk _ u1;simp only[dK.f1,aR.load,B1.cell,Pl.cells,dF,reduceIte,dM,Nat.reduceAdd];by_cases h1':q.i<0
 ·have:¬kX q:=λh=>by have:=h.1;omega
  simp only[this,decide_false,Bool.not_false] at hk;simp only[h1',dF,reduceIte,dM,Nat.reduceAdd];exact hk
 ·by_cases h2':65535<q.i
  ·have:¬kX q:=λh=>by have:=h.2;omega
   simp only[this,decide_false,Bool.not_false] at hk;simp only[h1',h2',aR.load,B1.cell,Pl.cells,dF,reduceIte,dM,Nat.reduceAdd];exact hk
  ·have:kX q:=⟨by omega,by omega⟩;simp only[this,decide_true,Bool.not_true] at hk;simp only[h1',h2',aR.load,B1.cell,Pl.cells,dF,reduceIte,dM,Nat.reduceAdd];exact hk
def aX7{r o:Nat}:dE PG (Instr.sliceAt eD (pT r o) none none none)=some (.slice (some ⟨r,o,none⟩) 2 2):=by kernel_rfl
def Pl.rows(l:List Pl):Rows 2 (l.map Pl.cells):=λr hr=>by obtain⟨m,_,rfl⟩:=rS.1 hr;rfl
def aMo{h:PH}{v:Value}{l:List Pl}(S:jE h 2 v (l.map Pl.cells))(hl:l.length≤100){k:dI}(hk:∀h',eM h h'->k (.bool (l.any λq=>!decide (kX q))) h'):bR PG nJ #[v,.func (.func uF) #[] #[]] h k:=by
 apply mI.call;unfold mI;apply mO.call;unfold mO;have lv:=S.len (t':=aR) zF.und;rw[jJ] at lv;simp only[lv,dF,reduceIte];refine⟨λvs h'=>∃i:Nat,i≤l.length∧vs=[v,.func (.func uF) #[] #[],.int .i64 (l.length:Int),.int .i64 (i:Int)]∧eM h h'∧∀q∈l.take i,kX q,gT l.length 3,⟨0,by omega,rfl,eH.refl,by simp⟩,?_⟩;rintro ρ h' ⟨i,hi,hvs,u,hq⟩;simp only[jF,kF,lT,and_true] at hvs;obtain⟨v0,v1,v7,v8⟩:=hvs;simp only[v0,v1,v7,v8,jF,kF];unfold sK;by_cases hlt:i<l.length
 ·have g1:((i:Int)<(l.length:Int))=True:=eq_true (by omega);have gi:=oM (i:=i) (by omega);have g0:((0:Int)≤(i:Int))=True:=eq_true (by omega);have e1:l[i]? =some l[i]:=lG hlt;have hmem:l[i]∈l:=aIQ hlt;have t1:l.take (i+1)=l.take i++[l[i]]:=zL7 hlt;obtain⟨a,p1,q1⟩:=(S.ext u).loadAgg (k:=.i64) (j:=(i:Int)) (r:=(l[i]).cells) zF.und dK.info dK.size dK.und rfl (by omega) (by rw[xZ,xB,e1];rfl);generalize l[i]=q at *;simp only[g1,p1,q1,dF,reduceIte];show bR PG uF #[.agg q.cells.toArray] h' _;refine aUg q λh2 u2=>?_;by_cases hok:kX q
  ·simp only[hok,decide_true,gi,dF,reduceIte,dM,Nat.reduceAdd];refine⟨⟨i+1,by omega,rfl,u.trans u2,λy hy=>?_⟩,?_⟩
   ·rw[t1,wQ,jI] at hy;rcases hy with hy|rfl
    ·exact hq y hy
    ·exact hok
   ·simp only[gT,zLL,zLK];omega
  ·have:(l.any λq=>!decide (kX q))=true:=List.any_eq_true.2 ⟨q,hmem,by simp[hok]⟩;rw[this] at hk;simp only[hok,decide_false,g0,dF,reduceIte,dM,Nat.reduceAdd];exact hk _ (u.trans u2)
 ·have g1:((i:Int)<(l.length:Int))=False:=eq_false (by omega);rw[sU (by omega)] at hq;have:(l.any λq=>!decide (kX q))=false:=by
   rw[List.any_eq_false];intro q hm;simp[hq q hm]
  rw[this] at hk;simp only[g1,show((0:Int)≤ -1)=False from eq_false (by decide),dF,reduceIte];exact hk _ u
def aKO{h:PH}{d:Dm}{v:Value}{room:Int}(V:kV h v d.its)(hl:d.its.length≤1000){k:dI}(hk:∀h',eM h h'->k (.int .i64 (chk d room)) h'):bR PG xG #[d.v v,.int .i64 room] h k:=by
 apply aBv.call;unfold aBv;intro r hr
 try rw[dY]
 have u1:eM h (h.set r (.cells (Value.cells (d.v v)) cR)):=eH.new hr;have B1:Bx (h.set r (.cells (Value.cells (d.v v)) cR)) r (d.cells v):=Bx.new;generalize h.set r (.cells (Value.cells (d.v v)) cR)=h1 at *;simp only[cR.f1,cR.f0,dC.load,B1.cell,Dm.cells,aX7,dF,reduceIte,dM,Nat.reduceAdd];have places:∀{h2:PH},eM h1 h2->jE h2 2 (.slice (some ⟨r,0,none⟩) 2 2) ([d.p0,d.p1].map Pl.cells):=by
  intro h2 u2;obtain⟨e,hb⟩:=B1.ext u2;exact⟨Pl.rows _,_,2,rfl,by simp,by decide,λ_=>⟨r,0,_,e,(0,0),rfl,hb,by simp[Dm.cells],by simp[Dm.cells,Pl.cells]⟩,trivial⟩
 have hany:([d.p0,d.p1].any λq=>!decide (kX q))=!decide (kX d.p0∧kX d.p1):=by
  by_cases a:kX d.p0<;>by_cases b:kX d.p1<;>simp[a,b]
 refine aVm (V.ext u1) hl (λh2 u2 hne=>?_) (λa h2 F h0 H2 f2 u2=>?_)
 ·simp only[dF,reduceIte];refine aMo (places u2) (by simp) λh3 u3=>?_;rw[hany];have u:=(u1.trans u2).trans u3;have hk:=hk _ u;unfold chk at hk;by_cases e1:oJ room d.its=1
  ·rw[if_pos (.inl e1)] at hk;simp only[e1,gX,dF,reduceIte,dM,Nat.reduceAdd];exact hk
  ·have q:(oJ room d.its==1)=false:=by simp[e1]
   by_cases hp:kX d.p0∧kX d.p1
   ·rw[if_neg (by simp[e1,hp]),if_pos hne] at hk;have q0:(oJ room d.its !=0)=true:=by simp[hne]
    simp only[q,q0,hp,gX,fZ,decide_true,dF,reduceIte,dM,Nat.reduceAdd];exact hk
   ·rw[if_pos (.inr hp)] at hk;simp only[q,hp,gX,decide_false,dF,reduceIte,dM,Nat.reduceAdd];exact hk
 ·simp only[dF,reduceIte];refine aMo (places u2) (by simp) λh3 u3=>?_;rw[hany];have u:=(u1.trans u2).trans u3;have B3:=(B1.ext u2).ext u3;by_cases hp:kX d.p0∧kX d.p1
  ·simp only[hp,gX,fZ,decide_true,show((0:Int)==1)=false from rfl,cR.f1,dC.load,B3.cell,Dm.cells,dF,reduceIte,dM,Nat.reduceAdd];refine aQU (H2.ext u3) (by have:=aIH d.its;omega) λv2 h4 G O4 f4 u4=>?_;have B4:=B3.ext u4;refine⟨by simp only[dC.load,B4.cell,Dm.cells,dF,reduceIte,dM,Nat.reduceAdd],?_⟩;refine aUq O4.slR (V.ext (u.trans u4)) (by have:=aIH d.its;omega) ?_;have hk:=hk _ (u.trans u4);unfold chk at hk;rw[if_neg (by simp[h0,hp]),if_neg (by simp[h0])] at hk;by_cases he:pF d.its=d.its
   ·rw[if_neg (by simp[he])] at hk;simp only[he,decide_true,dF,reduceIte,dM,Nat.reduceAdd];exact hk
   ·rw[if_pos he] at hk;simp only[he,decide_false,dF,reduceIte,dM,Nat.reduceAdd];exact hk
  ·have hk:=hk _ u;unfold chk at hk;rw[if_pos (.inr hp)] at hk;simp only[hp,gX,decide_false,show((0:Int)==1)=false from rfl,dF,reduceIte,dM,Nat.reduceAdd];exact hk
def mY(room:Int):List It->List Nt->List It×Int
 | L,[]=>(L,0)
 | L,n::ns=>if vE L room n≠0 then(rP L room n,vE L room n) else mY room (rP L room n) ns
def aQE{L:List It}(hs:nK L)(room:Int)(n:Nt):(rP L room n).length≤L.length+1:=by
 have hp:∀i:It,(tH L room i).length≤L.length+1:=λi=>by
  unfold tH;split
  ·omega
  ·exact aPw hs i
 unfold rP;split
 ·omega
 ·split
  ·split
   ·omega
   ·exact hp _
  ·split
   ·split
    ·exact aPw hs _
    ·exact hp _
   ·have:=aRN L n.p.key;omega
def aPb(room:Int):∀{L:List It},nK L->∀l:List Nt,(mY room L l).1.length≤L.length+l.length
 | L,hs,[]=>by simp[mY]
 | L,hs,n::ns=>by
  have h1:=aQE hs room n;unfold mY;split
  ·simp only[jY];omega
  ·have h2:=aPb room (hs.app room n) ns;simp only[jY];omega
def jE.ntb{h:PH}{v:Value}{l:List Nt}(S:wX h v l){j:Nat}{x:Nt}(hx:l[j]? =some x):
  ∃a,dE PG (indexAt eK v (.int .i64 (j:Int)))=some (.pointer (some a))∧dH PG h (loadAt dP (.pointer (some a)))=some (.agg x.cells.toArray):=S.wNote hx
def aSx{h:PH}{a:Nat}{L:List It}{room:Int}{F:List Nat}(H:TAt h a L room F){v:Value}{l:List Nt}(S:wX h v l)(hv:l≠[]->∀x n c,v= .slice (some x) n c->x.block∉F)(hl:l.length≤1000000){k:dI}
  (hk:∀h' (n:Int),TAt h' a (mY room L l).1 room F->eH F h h'->k (.tuple #[.int .i64 n,.int .i64 (mY room L l).2]) h'):bR PG aHh #[pT a 0,v] h k:=by
 apply aH4.call;unfold aH4;have lv:=Nt.len S;simp only[lv,dF,reduceIte];refine⟨λvs h'=>∃(i:Nat) (L':List It),i≤l.length∧vs=[pT a 0,v,v,.int .i64 (l.length:Int),.int .i64 (i:Int)]∧TAt h' a L' room F∧eH F h h'∧mY room L l=mY room L' (l.drop i),gT l.length 4,⟨0,L,by omega,rfl,H,eH.refl,by simp⟩,?_⟩;rintro ρ h' ⟨i,L',hi,hvs,H',u,hap⟩;simp only[jF,kF,lT,and_true] at hvs;obtain⟨v0,v1,v9,v10,v11⟩:=hvs;simp only[v0,v1,v9,v10,v11,jF,kF];unfold aKm;by_cases hlt:i<l.length
 ·have g1:((i:Int)<(l.length:Int))=True:=eq_true (by omega);have gi:=oM (i:=i) (by omega);have e1:l[i]? =some l[i]:=lG hlt;obtain⟨pa,p1,q1⟩:=jE.ntb (jE.upd0 S u λhne=>hv (by simpa using hne)) e1;have hdrop:l.drop i=l[i]::l.drop (i+1):=aBE hlt;generalize l[i]=n at *;rw[hdrop] at hap;simp only[g1,p1,q1,dF,reduceIte];intro r hr
  try rw[dY]
  refine dP.fill hr rfl (by simp[Nt.cells,gN]) λh2 B2 u2=>?_;have l2:dH PG h2 (loadAt dP (pT r 0))=some (.agg n.cells.toArray):=dP.agg B2 (by show 0+5≤5;decide);simp only[l2,dF,reduceIte];refine aUz (H'.ext u2) n λh3 H3 u3=>?_;have u':eH F h h3:=(u.trans u2.upd).trans u3;by_cases h0:vE L' room n=0
  ·have q:(vE L' room n !=0)=false:=by simp[h0]
   simp only[mY,h0,ne_eq,not_true_eq_false,if_false] at hap;simp only[fZ,h0,gi,dF,reduceIte,dM,Nat.reduceAdd];refine⟨⟨i+1,_,by omega,rfl,H3,u',hap⟩,?_⟩;simp only[gT,zLL,zLK];omega
  ·have q:(vE L' room n !=0)=true:=by simp[h0]
   simp only[mY,ne_eq,h0,not_false_eq_true,if_true] at hap;simp only[fZ,q,dF,reduceIte,dM,Nat.reduceAdd];have:=hk h3 (i:Int) (by rw[hap];exact H3) u';rw[hap] at this;exact this
 ·have g1:((i:Int)<(l.length:Int))=False:=eq_false (by omega);rw[zO (by omega)] at hap;simp only[g1,lv,dF,reduceIte];have:=hk h' (l.length:Int) (by rw[hap];exact H') u;rw[hap] at this;exact this
def mS(d:Dm)(room:Int)(r:Rc):Dm×Int:=
 if chk d room≠0 then(Dm.zero,chk d room)
 else if r.bytes.2≠0 then(Dm.zero,r.bytes.2)
 else if r.k=1 then(if chk r.s room≠0 then(Dm.zero,chk r.s room) else(r.s,0))
 else if (mY room (pF d.its) r.ns).2≠0 then(Dm.zero,(mY room (pF d.its) r.ns).2)
 else(⟨if r.ch=0 then r.pl else d.p0,if r.ch=0 then d.p1 else r.pl,(mY room (pF d.its) r.ns).1⟩,0)
def aQe{r:Rc}(h:r.bytes.2=0):r.plain=true:=by
 unfold Rc.bytes at h;cases e:r.plain with
 | true=>rfl
 | false=>rw[e] at h;cases h
def tA{r:Rc}(h:r.plain=true)(h1:¬r.k=1):r.k=2∧r.s=Dm.zero∧(r.ch=0∨r.ch=1)∧r.ns.length≤16:=by
 unfold Rc.plain at h;rw[if_neg h1] at h;split at h
 ·rename_i h2;simp only[tM,decide_eq_true_eq,aHb] at h;obtain⟨⟨⟨⟨a,b⟩,c⟩,d⟩,e⟩:=h;refine⟨h2,?_,d,e⟩;obtain⟨k,⟨p0,p1,its⟩,ch,pl,ns⟩:=r;simp only at a b c;subst a b;rw[List.length_eq_zero_iff] at c;subst c;rfl
 ·cases h
def yG{r:Rc}(h:r.plain=true)(h1:r.k=1):r.ch=0∧r.pl=Pl.zero∧r.ns=[]∧r.s.its.length≤40:=by
 unfold Rc.plain at h;rw[if_pos h1] at h;simp only[tM,decide_eq_true_eq] at h;exact⟨h.1.1.1,h.1.1.2,List.length_eq_zero_iff.1 h.1.2,h.2⟩
def Dm.load{h:PH}{r:Nat}{cs:List Value}(B:Bx h r cs){o:Nat}{d:Dm}{v:Value}(ho:(cs.drop o).take 5=d.cells v):dH PG h (loadAt cR (pT r o))=some (d.v v):=by
 have hl:o+5≤cs.length:=by
  have:((cs.drop o).take 5).length=5:=by rw[ho];rfl
  rw[mT,kD] at this;omega
 rw[cR.agg B hl,ho];rfl
def aRb{h:PH}{d:Dm}{v:Value}{room:Int}{r:Rc}{vi vn:Value}(V:kV h v d.its)(VI:kV h vi r.s.its)(VN:wX h vn r.ns)(wf:r.wf)(hl:d.its.length≤1000){k:dI}
  (hk:∀h' v',kV h' v' (mS d room r).1.its->jV h v'->eM h h'->k (.tuple #[(mS d room r).1.v v',.int .i64 (mS d room r).2]) h'):bR PG aDj #[d.v v,.int .i64 room,r.v vi vn] h k:=by
 apply aGp.call;unfold aGp;intro r1 hr1
 try rw[dY]
 have u1:eM h (h.set r1 (.cells (Value.cells (d.v v)) cR)):=eH.new hr1;have B1:Bx (h.set r1 (.cells (Value.cells (d.v v)) cR)) r1 (d.cells v):=Bx.new;generalize h.set r1 (.cells (Value.cells (d.v v)) cR)=h1 at *;intro r3 hr3
 try rw[dY]
 have u3:eM h1 (h1.set r3 (.cells (Value.cells (r.v vi vn)) bT)):=eH.new hr3;have B3:Bx (h1.set r3 (.cells (Value.cells (r.v vi vn)) bT)) r3 (r.cells vi vn):=Bx.new;have B13:=B1.ext u3;have n13:r1≠r3:=B1.apart hr3;generalize h1.set r3 (.cells (Value.cells (r.v vi vn)) bT)=h3 at *;intro r5 hr5
 try rw[dY]
 have u5:eM h3 (h3.set r5 (.cells (eX PG cR) cR)):=eH.new hr5;have Z:=cR.zbox (h:=h3) (r:=r5);have B15:=B13.ext u5;have B35:=B3.ext u5;have n15:r1≠r5:=B13.apart hr5;have n35:r3≠r5:=B3.apart hr5;generalize h3.set r5 (.cells (eX PG cR) cR)=h5 at *;have e5:=(u1.trans u3).trans u5;have f1:fX h [r1]:=fX.one hr1;have f3:fX h [r3]:=fX.one (u1.none hr3);have f5:fX h [r5]:=fX.one ((u1.trans u3).none hr5);have K1:h5 r1≠none:=B15.known;have K3:h5 r3≠none:=B35.known;have K5:h5 r5≠none:=Z.known
 -- an error's answer
 have bad:∀{h':PH} {e:Int},eM h5 h'->mS d room r=(Dm.zero,e)->dT PG (dX cR (pT r5 0) (Dm.v Dm.zero (.slice none 0 0))) h' λv12 h13=>dA (dH PG h13 (loadAt cR (pT r5 0))) λv14=>k (.tuple #[v14,.int .i64 e]) h13:=by
  intro h' e u hs;refine cR.put (Z.ext u) rfl (by show 0+5≤5;decide) (Dm.isC _ rfl) λh2 B2 u2=>?_;simp only[Dm.load (o:=0) (d:=Dm.zero) (v:=.slice none 0 0) B2 rfl,dF,reduceIte];rw[hs] at hk;exact hk h2 _ aEE jV.nil ((e5.trans u).fresh u2 f5)
 have hdef:mS d room r=if chk d room≠0 then(Dm.zero,chk d room) else if r.bytes.2≠0 then(Dm.zero,r.bytes.2) else if r.k=1 then(if chk r.s room≠0 then(Dm.zero,chk r.s room) else(r.s,0)) else if (mY room (pF d.its) r.ns).2≠0 then(Dm.zero,(mY room (pF d.its) r.ns).2) else(⟨if r.ch=0 then r.pl else d.p0,if r.ch=0 then d.p1 else r.pl,(mY room (pF d.its) r.ns).1⟩,0):=rfl
 simp only[Dm.load (o:=0) (d:=d) (v:=v) B15 rfl,dF,reduceIte];refine aKO (V.ext e5) hl λh6 u6=>?_;by_cases c0:chk d room=0
 ·rw[if_neg (by simp[c0])] at hdef;have lr:dH PG h6 (loadAt bT (pT r3 0))=some (r.v vi vn):=bT.agg (B35.ext u6) (by show 0+10≤10;decide);simp only[c0,fZ,lr,dF,reduceIte,dM,Nat.reduceAdd];refine aMQ (VI.ext (e5.trans u6)) (VN.ext (e5.trans u6)) wf λh7 u7=>?_;have e57:=u6.trans u7;by_cases c1:r.bytes.2=0
  ·rw[if_neg (by simp[c1])] at hdef;have hp:=aQe c1;simp only[c1,fZ,bT.f0,aR.load,(B35.ext e57).cell,Rc.cells,gX,dF,reduceIte,dM,Nat.reduceAdd];by_cases k1:r.k=1
   ·rw[if_pos k1] at hdef;obtain⟨q0,q1,q2,q40⟩:=yG hp k1;have q:(r.k==1)=true:=by simp[k1]
    simp only[q,bT.f1,Dm.load (o:=1) (d:=r.s) (v:=vi) (B35.ext e57) rfl,dF,reduceIte,dM,Nat.reduceAdd];refine aKO (VI.ext (e5.trans e57)) (by omega) λh8 u8=>?_;have e58:=e57.trans u8;by_cases c2:chk r.s room=0
    ·rw[if_neg (by simp[c2])] at hdef;simp only[c2,fZ,bT.f1,cR.f1,dC.load,(B35.ext e58).cell,Rc.cells,dF,reduceIte,dM,Nat.reduceAdd];refine aON (VI.ext (e5.trans e58)) (by omega) λv' h9 V9 nv u9=>?_;have e59:=e58.trans u9;have nv5:=nv.of e58
     try simp only[bT.f1,cR.f1,dF,reduceIte,dM,Nat.reduceAdd]
     refine dC.put (B35.ext e59) (o:=5) (by show 5<10;decide) V9.isc λh10 B10 u10=>?_;simp only[bT.f1,Dm.load (o:=1) (d:=r.s) (v:=v') B10 rfl,dF,reduceIte,dM,Nat.reduceAdd];refine cR.put ((Z.ext e59).upd u10 (by simpa using n35.symm)) rfl (by show 0+5≤5;decide) (Dm.isC _ V9.isc) λh11 B11 u11=>?_;simp only[Dm.load (o:=0) (d:=r.s) (v:=v') B11 rfl,dF,reduceIte];rw[hdef] at hk;refine hk h11 v' ((V9.upd u10 λx n c e=>?_).upd u11 λx n c e=>?_) (nv5.of e5) (((e5.trans e59).fresh u10 f3).fresh u11 f5)
     ·simp only[jI];intro e';exact K3 (by rw[←e'];exact nv5 x n c e)
     ·simp only[jI];intro e';exact K5 (by rw[←e'];exact nv5 x n c e)
    ·rw[if_pos c2] at hdef;have q2':(chk r.s room !=0)=true:=by simp[c2]
     simp only[fZ,q2',rX,dF,reduceIte,dM,Nat.reduceAdd];exact bad e58 hdef
   ·rw[if_neg k1] at hdef;obtain⟨k2,q0,q1,q16⟩:=tA hp k1;have q:(r.k==1)=false:=by simp[k1]
    simp only[q,cR.f1,dC.load,(B15.ext e57).cell,Dm.cells,dF,reduceIte,dM,Nat.reduceAdd];have hof:oJ room d.its=0:=by
     unfold chk at c0;by_cases h0:oJ room d.its=0
     ·exact h0
     ·by_cases h1:oJ room d.its=1∨¬(kX d.p0∧kX d.p1)
      ·rw[if_pos h1] at c0;cases c0
      ·rw[if_neg h1,if_pos h0] at c0;exact c0
    refine aVm (V.ext (e5.trans e57)) hl (λh8 u8 hne=>absurd hof hne) (λa h8 F h0 H8 f8 u8=>?_);have e58:=e57.trans u8;simp only[bT.f4,eK.load,(B35.ext e58).cell,Rc.cells,dF,reduceIte,dM,Nat.reduceAdd];have VN8:=VN.ext (e5.trans e58);refine aSx H8 VN8 (λhne x n c e hm=>?_) (by omega) λh9 n H9 u9=>?_
    ·exact(VN.ext (e5.trans e57)).known (by simpa using hne) e (f8 _ hm)
    ·have fF:fX h5 F:=f8.of e57;have e59:=e58.fresh u9 fF;by_cases c3:(mY room (pF d.its) r.ns).2=0
     ·rw[if_neg (by simp[c3])] at hdef;simp only[c3,fZ,dF,reduceIte,dM,Nat.reduceAdd];refine aQU H9 (by
       have a1:=aPb room (aII d.its) r.ns;have a2:=aIH d.its;omega) λv' h10 G O10 f10 u10=>?_
      have e510:=e59.trans u10;have nv:=(O10.newV f10).of e59
      try simp only[cR.f1,dF,reduceIte,dM,Nat.reduceAdd]
      refine dC.put (B15.ext e510) (o:=4) (by show 4<5;decide) O10.slR.isc λh11 B11 u11=>?_;have C11:=(B35.ext e510).upd u11 (by simpa using n13.symm);have Z11:=(Z.ext e510).upd u11 (by simpa using n15.symm);have l11:dH PG h11 (loadAt dK (pT r3 7))=some (.agg r.pl.cells.toArray):=dK.agg C11 (by show 7+2≤10;decide);simp only[bT.f2,bT.f3,aR.load,C11.cell,Rc.cells,l11,cR.f0,dF,reduceIte,dM,Nat.reduceAdd];have fin:∀{d':Dm} {h12:PH},mS d room r=(d',0)->d'.its=(mY room (pF d.its) r.ns).1->Bx h12 r1 (d'.cells v')->eH [r1] h11 h12->dA (dH PG h12 (loadAt cR (pT r1 0))) λv81=>dT PG (dX cR (pT r5 0) v81) h12 λv82 h83=>dA (dH PG h83 (loadAt cR (pT r5 0))) λv84=>k (.tuple #[v84,.int .i64 0]) h83:=by
       intro d' h12 hs hi B12 u12;simp only[Dm.load (o:=0) (d:=d') (v:=v') B12 rfl,dF,reduceIte];refine cR.put (Z11.upd u12 (by simpa using n15.symm)) rfl (by show 0+5≤5;decide) (Dm.isC _ O10.slR.isc) λh13 B13' u13=>?_;simp only[Dm.load (o:=0) (d:=d') (v:=v') B13' rfl,dF,reduceIte];rw[hs] at hk;have V':kV h13 v' d'.its:=by
        rw[hi];refine((jE.upd O10.slR u11 λx n c e=>?_).upd u12 λx n c e=>?_).upd u13 λx n c e=>?_
        ·simp only[jI];intro e';exact K1 (by rw[←e'];exact nv x n c e)
        ·simp only[jI];intro e';exact K1 (by rw[←e'];exact nv x n c e)
        ·simp only[jI];intro e';exact K5 (by rw[←e'];exact nv x n c e)
       exact hk h13 v' V' (nv.of e5) ((((e5.trans e510).fresh u11 f1).fresh u12 f1).fresh u13 f5)
      rcases q1 with q1|q1
      ·have ix:=uI (P:=PG) (t:=eD) (b:=r1) (o:=0) (k:=.i64) (j:=0) eD.und dK.info dK.size (by omega) (by omega);simp only[q1,ix,dF,reduceIte,dM,Nat.reduceAdd];refine dK.put B11 (o:=0) rfl (by show 0+2≤5;decide) (by simp[Pl.cells,gN]) λh12 B12 u12=>?_;exact fin (d':=⟨r.pl,d.p1,(mY room (pF d.its) r.ns).1⟩) (by rw[hdef,if_pos q1,if_pos q1]) rfl B12 u12
      ·have ix:=uI (P:=PG) (t:=eD) (b:=r1) (o:=0) (k:=.i64) (j:=1) eD.und dK.info dK.size (by omega) (by omega);have hn0:¬r.ch=0:=by omega
       simp only[q1,ix,dF,reduceIte,dM,Nat.reduceAdd];refine dK.put B11 (o:=2) rfl (by show 2+2≤5;decide) (by simp[Pl.cells,gN]) λh12 B12 u12=>?_;exact fin (d':=⟨d.p0,r.pl,(mY room (pF d.its) r.ns).1⟩) (by rw[hdef,if_neg hn0,if_neg hn0]) rfl B12 u12
     ·rw[if_pos c3] at hdef;have q3:((mY room (pF d.its) r.ns).2 !=0)=true:=by simp[c3]
      simp only[fZ,q3,rX,dF,reduceIte,dM,Nat.reduceAdd];exact bad e59 hdef
  ·rw[if_pos c1] at hdef;have q1:(r.bytes.2 !=0)=true:=by simp[c1]
   simp only[fZ,q1,rX,dF,reduceIte,dM,Nat.reduceAdd];exact bad e57 hdef
 ·rw[if_pos c0] at hdef;have q0:(chk d room !=0)=true:=by simp[c0]
  simp only[fZ,q0,rX,dF,reduceIte,dM,Nat.reduceAdd];exact bad u6 hdef
def jX(p:Tx):List Value:=[.string (tx p)]
def aGH{h:PH}{v:Value}{l:List Tx}(S:jE h 1 v (l.map jX)){i:Nat}{x:Tx}(hx:l[i]? =some x):∃a,dE PG (indexAt eB v (.int .i64 (i:Int)))=some (.pointer (some a))∧dH PG h (loadAt aT (.pointer (some a)))=some (.string (tx x)):=
 S.loadCell (t:=eB) (k:=.i64) (j:=(i:Int)) eB.und aT.info aT.size aT.und rfl (by omega) (by rw[xZ,xB,hx];rfl)
def uM{h:PH}{v:Value}{l:List Tx}(S:jE h 1 v (l.map jX)):dE PG (Builtin.len_ #[eB] aR #[v])=some (.int .i64 l.length):=by
 have:=S.len (t':=aR) eB.und;rw[jJ] at this;exact this
def aYf(a b c:Nat)(hb:b<18446744073709551616)(hc:c<18446744073709551616)(d:ByteArray):(⟨(a:Int),(b:Int),(c:Int),d⟩:Pk).wf:=⟨by simp,by simp only;omega,by simp,by simp only;omega⟩
def Pk.wf_zero:(default:Pk).wf:=⟨by decide,by decide,by decide,by decide⟩
def Pl.wf_zero:Pl.zero.wf:=⟨by decide,by decide⟩
def aYr(a:Nat)(b:Int)(h:a<18446744073709551616):(⟨(a:Int),b⟩:Pl).wf:=⟨by simp,by simp only;omega⟩
def aXz{c:Prop}[Decidable c]{p q:Pk}(hp:p.wf)(hq:q.wf):(if c then p else q).wf:=by split<;>assumption
def aPx{c:Prop}[Decidable c]{p q:Pl}(hp:p.wf)(hq:q.wf):(if c then p else q).wf:=by split<;>assumption
def aXK(st:iX):(pU st).1.wf:=by
 have h1:=wZ (gO st 1).2 8;have h2:=wZ (gO (gO st 1).2 8).2 8;have hc:(rC st).1.wf:=aYf _ _ _ h1 h2 _;unfold pU;exact aXz hc Pk.wf_zero
def aP8(g:Int):∀(n:Nat) (st:iX) (acc:List (Int×Pk)),(∀x∈acc,x.2.wf)->∀x∈(kT g n st acc).1,x.2.wf
 | 0,st,acc,h=>h
 | n+1,st,acc,h=>by
  unfold kT;split
  ·refine aP8 g n _ _ λx hx=>?_;rcases wQ.1 hx with hx|hx
   ·exact h x hx
   ·simp only[jI] at hx;subst hx;exact aXK _
  ·exact h
def aPf(g:Int)(st:iX):∀x∈(gM g st).1,x.2.wf:=by
 unfold gM;simp only;split
 ·exact aP8 g _ _ _ (by simp)
 ·simp
def aQN(st:iX):(iR st).1.wf:=by
 have h1:=wZ st 8;unfold iR;exact aPx (aYr _ _ h1) Pl.wf_zero
def Dm.wf_zero:Dm.zero.wf:=⟨Pl.wf_zero,Pl.wf_zero,by simp[Dm.zero]⟩
def Rc.wf_zero:Rc.zero.wf:=⟨Dm.wf_zero,Pl.wf_zero,by simp[Rc.zero]⟩
def aYQ(s:Tx):(Rc.rd s).1.wf:=by
 unfold Rc.rd;split
 ·refine⟨⟨aQN _,aQN _,λx hx=>?_⟩,Pl.wf_zero,by simp⟩;obtain⟨y,hy,rfl⟩:=rS.1 hx;exact aPf _ _ y hy
 ·split
  ·refine⟨Dm.wf_zero,aQN _,λx hx=>?_⟩;obtain⟨y,hy,rfl⟩:=rS.1 hx;exact aPf _ _ y hy
  ·exact⟨Dm.wf_zero,Pl.wf_zero,by simp⟩
def aKX(s:Tx):(iK s).1.wf:=by
 unfold iK;split
 ·exact Rc.wf_zero
 ·exact aYQ s
structure OkD(d:Dm)(room:Int):Prop where
 r1:1≤room
 r2:room≤40
 len:(d.its.length:Int)≤room
 all:d.its.all It.right=true
 p0:kX d.p0
 p1:kX d.p1
 srt:pF d.its=d.its
 nd:(d.its.map It.key).Nodup
def aEN{d:Dm}{room:Int}:chk d room=0↔OkD d room:=by
 unfold chk;constructor
 ·intro h;by_cases h1:oJ room d.its=1∨¬(kX d.p0∧kX d.p1)
  ·rw[if_pos h1] at h;cases h
  ·rw[if_neg h1] at h;by_cases h2:oJ room d.its=0
   ·rw[if_neg (by simp[h2])] at h;by_cases h3:pF d.its=d.its
    ·have hp:kX d.p0∧kX d.p1:=Classical.byContradiction λhn=>h1 (.inr hn);unfold oJ at h2;by_cases a:room<1∨40<room
     ·rw[if_pos a] at h2;cases h2
     ·rw[if_neg a] at h2;by_cases b:d.its.all It.right=false
      ·rw[if_pos b] at h2;cases h2
      ·rw[if_neg b] at h2;by_cases c:¬(d.its.map It.key).Nodup
       ·rw[if_pos c] at h2;cases h2
       ·rw[if_neg c] at h2;by_cases e:room<d.its.length
        ·rw[if_pos e] at h2;cases h2
        ·exact⟨by omega,by omega,by omega,by simpa using b,hp.1,hp.2,h3,Classical.byContradiction c⟩
    ·rw[if_pos h3] at h;cases h
   ·rw[if_pos h2] at h;exact absurd h h2
 ·intro H;have e:oJ room d.its=0:=by
   unfold oJ;rw[if_neg (by have:=H.r1;have:=H.r2;omega),if_neg (by simp[H.all]),if_neg (by simpa using H.nd),if_neg (by have:=H.len;omega)]
  rw[if_neg (by simp[e,H.p0,H.p1]),if_neg (by simp[e]),if_neg (by simp[H.srt])]
def aLc{room:Int}:∀{L:List It},nK L->(L.length:Int)≤room->∀l:List Nt,((mY room L l).1.length:Int)≤room
 | L,hs,h,[]=>h
 | L,hs,h,n::ns=>by
  unfold mY;split
  ·exact aRL hs h n
  ·exact aLc (hs.app room n) (aRL hs h n) ns
def aW3{d:Dm}{room:Int}{r:Rc}:(mS d room r).1.its.length≤40:=by
 unfold mS;split
 ·simp[Dm.zero]
 ·rename_i h0;have H:=aEN.1 (Classical.byContradiction λh=>h0 h);split
  ·simp[Dm.zero]
  ·split
   ·split
    ·simp[Dm.zero]
    ·rename_i h1;have H1:=aEN.1 (Classical.byContradiction λh=>h1 h);have a:=H1.len;have b:=H1.r2;show r.s.its.length≤40;omega
   ·split
    ·simp[Dm.zero]
    ·have a:=aLc (room:=room) (aII d.its) (by rw[H.srt];exact H.len) r.ns;have b:=H.r2;show(mY room (pF d.its) r.ns).1.length≤40;omega
def mW(room:Int)(s:Tx):Dm×Int:=
 if (iK s).2≠0 then(Dm.zero,(iK s).2) else if (iK s).1.k≠1 then(Dm.zero,5) else if chk (iK s).1.s room≠0 then(Dm.zero,chk (iK s).1.s room) else((iK s).1.s,0)
def nS(room:Int)(st:Dm×Int)(s:Tx):Dm×Int:=if st.2=0 then(if (iK s).2=0 then mS st.1 room (iK s).1 else(st.1,(iK s).2)) else st
def zS(room:Int):List Tx->Dm×Int
 | []=>(Dm.zero,3)
 | s::l=>if (l.foldl (nS room) (mW room s)).2≠0 then(Dm.zero,(l.foldl (nS room) (mW room s)).2) else l.foldl (nS room) (mW room s)
def aSC{room:Int}{s:Tx}:(mW room s).1.its.length≤40:=by
 unfold mW;split
 ·simp[Dm.zero]
 ·split
  ·simp[Dm.zero]
  ·split
   ·simp[Dm.zero]
   ·rename_i h1;have H1:=aEN.1 (Classical.byContradiction λh=>h1 h);have a:=H1.len;have b:=H1.r2;show(iK s).1.s.its.length≤40;omega
def aTJ{s:Tx}:(iK s).1.s.its.length≤1000:=by
 unfold iK;split
 ·simp[Rc.zero,Dm.zero]
 ·have:(gM 2 (iR (iR (gO (0,s) 1).2).2).2).1.length≤1000:=by
   unfold gM;simp only;have hn:=wZ (iR (iR (gO (0,s) 1).2).2).2 1;split
   ·have key:∀(n:Nat) (st:iX) (acc:List (Int×Pk)),(kT 2 n st acc).1.length≤acc.length+n:=by
     intro n;induction n with
     | zero=>intro st acc;simp[kT]
     | succ n ih=>
      intro st acc;unfold kT;split
      ·have:=ih (aBM 2 st).2 (acc++[(aBM 2 st).1]);simp only[kO,jY,lU] at this;omega
      ·simp only;omega
    have:=key (gO (iR (iR (gO (0,s) 1).2).2).2 1).1 (gO (iR (iR (gO (0,s) 1).2).2).2 1).2 [];simp only[lU] at this;omega
   ·simp
  unfold Rc.rd;split
  ·simpa using this
  ·split
   ·simp[Dm.zero]
   ·simp[Dm.zero]
def aQX{h:PH}{room:Int}{s:Tx}{k:dI}(hk:∀h' v',kV h' v' (mW room s).1.its->jV h v'->eM h h'->k (.tuple #[(mW room s).1.v v',.int .i64 (mW room s).2]) h'):bR PG aF1 #[.int .i64 room,.string (tx s)] h k:=by
 apply aFP.call;unfold aFP;intro r1 hr1
 try rw[dY]
 have u1:eM h (h.set r1 (.cells (eX PG cR) cR)):=eH.new hr1;have Z:=cR.zbox (h:=h) (r:=r1);generalize h.set r1 (.cells (eX PG cR) cR)=h1 at *;have f1:fX h [r1]:=fX.one hr1;refine aP0 λh2 v w V W nv nw u2=>?_;have e2:=u1.trans u2;simp only[dF,reduceIte];intro r7 hr7
 try rw[dY]
 refine bT.fill hr7 rfl (Rc.isC _ V.isc W.isc) λh3 B3 u3=>?_;have e3:=e2.trans u3;have Z3:=(Z.ext u2).ext u3;have hn1:∀x n c,v= .slice (some x) n c->x.block≠r1:=λx n c e hb=>Z.known (by rw[←hb];exact nv x n c e);have bad:∀{h':PH} {e:Int},eM h3 h'->mW room s=(Dm.zero,e)->dT PG (dX cR (pT r1 0) (Dm.v Dm.zero (.slice none 0 0))) h' λv12 h13=>dA (dH PG h13 (loadAt cR (pT r1 0))) λv14=>k (.tuple #[v14,.int .i64 e]) h13:=by
  intro h' e u hs;refine cR.put (Z3.ext u) rfl (by show 0+5≤5;decide) (Dm.isC _ rfl) λh2 B2 u2=>?_;simp only[Dm.load (o:=0) (d:=Dm.zero) (v:=.slice none 0 0) B2 rfl,dF,reduceIte];rw[hs] at hk;exact hk h2 _ aEE jV.nil ((e3.trans u).fresh u2 f1)
 have hdef:mW room s=if (iK s).2≠0 then(Dm.zero,(iK s).2) else if (iK s).1.k≠1 then(Dm.zero,5) else if chk (iK s).1.s room≠0 then(Dm.zero,chk (iK s).1.s room) else((iK s).1.s,0):=rfl
 by_cases c0:(iK s).2=0
 ·rw[if_neg (by simp[c0])] at hdef;simp only[c0,fZ,bT.f0,aR.load,B3.cell,Rc.cells,dF,reduceIte,dM,Nat.reduceAdd];by_cases c1:(iK s).1.k=1
  ·rw[if_neg (by simp[c1])] at hdef;have q:((iK s).1.k !=1)=false:=by simp[c1]
   simp only[q,bT.f1,Dm.load (o:=1) (d:=(iK s).1.s) (v:=v) B3 rfl,dF,reduceIte,dM,Nat.reduceAdd];refine aKO (V.ext u3) aTJ λh4 u4=>?_;have e4:=e3.trans u4;by_cases c2:chk (iK s).1.s room=0
   ·rw[if_neg (by simp[c2])] at hdef;simp only[c2,fZ,bT.f1,Dm.load (o:=1) (d:=(iK s).1.s) (v:=v) (B3.ext u4) rfl,dF,reduceIte,dM,Nat.reduceAdd];refine cR.put (Z3.ext u4) rfl (by show 0+5≤5;decide) (Dm.isC _ V.isc) λh5 B5 u5=>?_;simp only[Dm.load (o:=0) (d:=(iK s).1.s) (v:=v) B5 rfl,dF,reduceIte];rw[hdef] at hk;exact hk h5 v (((V.ext u3).ext u4).upd u5 λx n c e=>by simpa using hn1 x n c e) (nv.of u1) (e4.fresh u5 f1)
   ·rw[if_pos c2] at hdef;have q2:(chk (iK s).1.s room !=0)=true:=by simp[c2]
    simp only[fZ,q2,rX,dF,reduceIte,dM,Nat.reduceAdd];exact bad u4 hdef
  ·rw[if_pos c1] at hdef;have q:((iK s).1.k !=1)=true:=by simp[c1]
   simp only[q,rX,dF,reduceIte,dM,Nat.reduceAdd];exact bad eH.refl hdef
 ·rw[if_pos c0] at hdef;have q0:((iK s).2 !=0)=true:=by simp[c0]
  simp only[fZ,q0,rX,dF,reduceIte,dM,Nat.reduceAdd];exact bad eH.refl hdef
def aGB(l:List It)(v:Value)(G:List Nat):Prop:=l≠[]->∀x n c,v= .slice (some x) n c->x.block∉G
def aGB.new{h:PH}{l:List It}{v:Value}{G:List Nat}(n:jV h v)(hG:∀b∈G,h b≠none):aGB l v G:=λ_ x m c e hm=>hG _ hm (n x m c e)
def kV.updG{h h':PH}{l:List It}{v:Value}{G F:List Nat}(V:kV h v l)(o:aGB l v G)(u:eH F h h')(hF:∀b∈F,b∈G):kV h' v l:=jE.upd0 V u λhne x n c e hm=>o (by simpa using hne) x n c e (hF _ hm)
def aSB{h:PH}{rE rD rM:Nat}{d:Dm}{e room:Int}{v:Value}{s:Tx}{G:List Nat}(BE:Bx h rE [.int .i64 e])(BD:Bx h rD (d.cells v))(BM:Bx h rM [.int .i64 room])(V:kV h v d.its)(n1:rE≠rD)(n2:rM≠rD)(n3:rM≠rE)(hG:∀b∈G,h b≠none)(gE:rE∈G)(gD:rD∈G)(ov:aGB d.its v G)(hl:d.its.length≤1000){k:dI}
  (hk:∀h' v',Bx h' rE [.int .i64 (nS room (d,e) s).2]->Bx h' rD ((nS room (d,e) s).1.cells v')->kV h' v' (nS room (d,e) s).1.its->aGB (nS room (d,e) s).1.its v' G->(∀{h0:PH},jV h0 v->eM h0 h->jV h0 v')->eH [rE,rD] h h'->k (.tuple #[]) h'):
  bR PG vX #[.string (tx s),pT rE 0,pT rD 0,pT rM 0] h k:=by
 apply xD.call;unfold xD;simp only[wV,eY.load,BE.cell,dF,reduceIte,dM,Nat.reduceAdd];intro r3 hr3
 try rw[dY]
 refine bT.fill hr3 rfl (Rc.isC _ rfl rfl) λh1 B1 u1=>?_;have BE1:=BE.ext u1;have BD1:=BD.ext u1;have BM1:=BM.ext u1;have n3E:r3≠rE:=(BE.apart hr3).symm;have n3D:r3≠rD:=(BD.apart hr3).symm;have hdef:nS room (d,e) s=if e=0 then(if (iK s).2=0 then mS d room (iK s).1 else(d,(iK s).2)) else(d,e):=rfl
 simp only[BE1.cell,dF,reduceIte,dM,Nat.reduceAdd];have last:∀{h2:PH} {d':Dm} {e':Int} {v':Value},nS room (d,e) s=(d',e')->Bx h2 rD (d'.cells v')->Bx h2 rE [.int .i64 e]->kV h2 v' d'.its->aGB d'.its v' G->(∀{h0:PH},jV h0 v->eM h0 h->jV h0 v')->eH [rE,rD] h h2->aAN k (pT rE 0) (.int .i64 e') h2:=by
  intro h2 d' e' v' hs B2 E2 V2 o2 w2 u2;unfold aAN;refine eY.put E2 (o:=0) (by show 0<1;decide) rfl λh3 B3 u3=>?_;rw[hs] at hk;exact hk h3 v' B3 (B2.upd u3 (by simpa using n1.symm)) (kV.updG V2 o2 u3 λb hb=>by simp only[jI] at hb;subst hb;exact gE) o2 w2 (u2.trans (u3.mono λb hb=>.inl (by simp only[jI] at hb;simp[hb])))
 have u1':eH [rE,rD] h h1:=u1.upd;by_cases c0:e=0
 ·subst c0;rw[if_pos rfl] at hdef;simp only[gX,BE1.cell,dF,reduceIte,dM,Nat.reduceAdd];refine⟨by trivial,?_⟩;refine aP0 λh2 vi vn VI VN ni nn u2=>?_;simp only[dF,reduceIte];have B2:=B1.ext u2;refine bT.put B2 rfl (by show 0+10≤10;decide) (Rc.isC _ VI.isc VN.isc) λh3 B3 u3=>?_;have hn3:∀{x:Addr},h1 x.block=none->x.block∉[r3]:=λhx=>by
   simp only[jI];intro hb;rw[hb] at hx;exact B1.known hx
  have VI3:=jE.upd VI u3 λx n c e=>hn3 (ni x n c e);have VN3:=jE.upd VN u3 λx n c e=>hn3 (nn x n c e);have BE3:=(BE1.ext u2).upd u3 (by simpa using n3E.symm);have BD3:=(BD1.ext u2).upd u3 (by simpa using n3D.symm);have BM3:=(BM1.ext u2).upd u3 (by simpa using(BM.apart hr3));have e3:eM h h3:=(u1.trans u2).fresh u3 (fX.one hr3);unfold aAF;by_cases c1:(iK s).2=0
  ·rw[if_pos c1] at hdef;have q:((iK s).2==0)=true:=by simp[c1]
   have lr:dH PG h3 (loadAt bT (pT r3 0))=some ((iK s).1.v vi vn):=bT.agg B3 (by show 0+10≤10;decide);simp only[gX,q,Dm.load (o:=0) (d:=d) (v:=v) BD3 rfl,aR.load,BM3.cell,lr,dF,reduceIte,dM,Nat.reduceAdd];refine aRb (V.ext e3) VI3 VN3 (aKX s) hl λh4 v' V4 nv u4=>?_;simp only[dF,reduceIte];have o4:aGB (mS d room (iK s).1).1.its v' G:=aGB.new (nv.of e3) hG;refine cR.put (BD3.ext u4) rfl (by show 0+5≤5;decide) (Dm.isC _ V4.isc) λh5 B5 u5=>?_;refine last (d':=(mS d room (iK s).1).1) (e':=(mS d room (iK s).1).2) (v':=v') hdef B5 ((BE3.ext u4).upd u5 (by simpa using n1)) (kV.updG V4 o4 u5 λb hb=>by simp only[jI] at hb;subst hb;exact gD) o4 (λ_ e0=>(nv.of e3).of e0) ?_;exact((e3.trans u4).upd).trans (u5.mono λb hb=>.inl (by simp only[jI] at hb;simp[hb]))
  ·rw[if_neg c1] at hdef;have q:((iK s).2==0)=false:=by simp[c1]
   simp only[gX,q,dF,reduceIte,dM,Nat.reduceAdd];exact last (d':=d) (e':=(iK s).2) (v':=v) hdef BD3 BE3 (V.ext e3) ov (λn _=>n) e3.upd
 ·rw[if_neg c0] at hdef;have q:(e==0)=false:=by simp[c0]
  simp only[gX,q,dF,reduceIte,dM,Nat.reduceAdd];refine⟨by trivial,?_⟩;unfold aAF;simp only[gX,q,dF,reduceIte,dM,Nat.reduceAdd];exact last (d':=d) (e':=e) (v':=v) hdef BD1 BE1 (V.ext u1) ov (λn _=>n) u1'
def aTr{h:PH}{room:Int}{x:Value}{l:List Tx}(S:jE h 1 x (l.map jX))(hl:l.length≤1000){k:dI}
  (hk:∀h' v',kV h' v' (zS room l).1.its->jV h v'->eM h h'->k (.tuple #[(zS room l).1.v v',.int .i64 (zS room l).2]) h'):bR PG aE3 #[.int .i64 room,x] h k:=by
 apply aAX.call;unfold aAX;have lx:=uM S;intro r1 hr1
 try rw[dY]
 have u1:eM h (h.set r1 (.cells (Value.cells (.int .i64 room)) aR)):=eH.new hr1;have B1:Bx (h.set r1 (.cells (Value.cells (.int .i64 room)) aR)) r1 [.int .i64 room]:=Bx.new;generalize h.set r1 (.cells (Value.cells (.int .i64 room)) aR)=h1 at *;intro r3 hr3
 try rw[dY]
 have u3:eM h1 (h1.set r3 (.cells (eX PG cR) cR)):=eH.new hr3;have Z:=cR.zbox (h:=h1) (r:=r3);have B13:=B1.ext u3;have n13:r1≠r3:=B1.apart hr3;generalize h1.set r3 (.cells (eX PG cR) cR)=h3 at *;have e3:=u1.trans u3;have f3:fX h [r3]:=fX.one (u1.none hr3);cases l with
 | nil=>
  simp only[lx,lU,gX,show(((0:Nat):Int)==0)=true from rfl,rX,dF,reduceIte,dM,Nat.reduceAdd];refine cR.put Z rfl (by show 0+5≤5;decide) (Dm.isC _ rfl) λh4 B4 u4=>?_;simp only[Dm.load (o:=0) (d:=Dm.zero) (v:=.slice none 0 0) B4 rfl,dF,reduceIte];exact hk h4 _ aEE jV.nil (e3.fresh u4 f3)
 | cons s l=>
  have q:(((s::l).length:Int)==0)=false:=by
   rw[beq_eq_false_iff_ne];simp only[jY];omega
  obtain⟨a0,p0,q0⟩:=aGH (S.ext e3) (i:=0) (x:=s) rfl;rw[show((0:Nat):Int)=0 from rfl] at p0;simp only[lx,gX,q,aR.load,B13.cell,p0,q0,dF,reduceIte,dM,Nat.reduceAdd];refine aQX λh4 v V4 nv u4=>?_;have e4:=e3.trans u4;simp only[dF,reduceIte];intro rD hrD
  try rw[dY]
  intro rE hrE
  try rw[dY]
  have uD:eM h4 (h4.set rD (.cells (eX PG cR) cR)):=eH.new hrD;have ZD:=cR.zbox (h:=h4) (r:=rD);generalize h4.set rD (.cells (eX PG cR) cR)=h5 at *;have uE:eM h5 (h5.set rE (.cells (eX PG eY) eY)):=eH.new hrE;have ZE:=eY.zbox (h:=h5) (r:=rE);have ZD6:=ZD.ext uE;have nED:rE≠rD:=(ZD.apart hrE).symm;generalize h5.set rE (.cells (eX PG eY) eY)=h6 at *;have e46:=uD.trans uE;have B6:=(B13.ext u4).ext e46;have Z6:=(Z.ext u4).ext e46;have n1D:r1≠rD:=(B13.ext u4).apart hrD;have n1E:r1≠rE:=((B13.ext u4).ext uD).apart hrE;have n3D:r3≠rD:=(Z.ext u4).apart hrD;have n3E:r3≠rE:=((Z.ext u4).ext uD).apart hrE;have K4:∀b∈[r1,r3,rD,rE],h6 b≠none:=by
   intro b hb;simp only[jW,zLg,or_false] at hb;rcases hb with rfl|rfl|rfl|rfl
   ·exact B6.known
   ·exact Z6.known
   ·exact ZD6.known
   ·exact ZE.known
  have ov:aGB (mW room s).1.its v [r1,r3,rD,rE]:=λhne y n c e hm=>by
   have hn:=nv y n c e;have hk4:=V4.known (by simpa using hne) e;simp only[jW,zLg,or_false] at hm;rcases hm with hm|hm|hm|hm
   ·rw[hm] at hn;exact B13.known hn
   ·rw[hm] at hn;exact Z.known hn
   ·rw[hm] at hk4;exact hk4 hrD
   ·rw[hm] at hk4;exact hk4 (uD.none hrE)
  have nvh:jV h v:=nv.of e3;have fG:fX h [rE,rD]:=λb hb=>by
   simp only[jW,zLg,or_false] at hb;rcases hb with rfl|rfl
   ·exact(e4.trans uD).none hrE
   ·exact e4.none hrD
  have V6:=(V4.ext uD).ext uE;refine cR.put ZD6 rfl (by show 0+5≤5;decide) (Dm.isC _ V4.isc) λh7 B7 u7=>?_;refine eY.put (ZE.upd u7 (by simpa using nED)) (o:=0) (by show 0<1;decide) rfl λh8 B8 u8=>?_;have BD8:=B7.upd u8 (by simpa using nED.symm);have V8:kV h8 v (mW room s).1.its:=kV.updG (kV.updG V6 ov u7 λb hb=>by simp only[jI] at hb;subst hb;simp) ov u8 λb hb=>by simp only[jI] at hb;subst hb;simp
  have B18:=(B6.upd u7 (by simpa using n1D)).upd u8 (by simpa using n1E);have Z8:=(Z6.upd u7 (by simpa using n3D)).upd u8 (by simpa using n3E);have e8:eM h h8:=(((e4.trans e46).fresh u7 λb hb=>fG b (by simp only[jI] at hb;simp[hb]))).fresh u8 λb hb=>fG b (by simp only[jI] at hb;simp[hb]);have hcut:=S.cut (lo:=some (.int .i64 ((1:Nat):Int))) (hi:=none) (l:=1) (m:=(s::l).length) eB.und aT.info aT.size (.inr ⟨_,rfl⟩) (.inl ⟨rfl,by simp⟩) (by simp) (by simp);obtain⟨x',s1,t1,-⟩:=hcut;have hrows:(((s::l).map jX).take (s::l).length).drop 1=l.map jX:=by
   rw[sU (by simp)];rfl
  rw[hrows] at t1;rw[show((1:Nat):Int)=1 from rfl] at s1;have lx':=uM t1;have e7':mW room s=((mW room s).1,(mW room s).2):=rfl;simp only[s1,lx',dF,reduceIte,dM,Nat.reduceAdd];refine⟨λvs h'=>∃(i:Nat) (d:Dm) (e:Int) (v:Value),i≤l.length∧vs=[pT r3 0,pT rD 0,pT rE 0,.func (.func vX) #[] #[pT rE 0,pT rD 0,pT r1 0],x',.int .i64 (l.length:Int),.int .i64 (i:Int)]∧Bx h' rE [.int .i64 e]∧Bx h' rD (d.cells v)∧Bx h' r1 [.int .i64 room]∧Bx h' r3 (Dm.zero.cells (.slice none 0 0))∧kV h' v d.its∧aGB d.its v [r1,r3,rD,rE]∧jV h v∧eM h h'∧(d,e)=(l.take i).foldl (nS room) (mW room s)∧d.its.length≤1000,gT l.length 6,⟨0,_,_,v,by omega,rfl,B8,BD8,B18,Z8,V8,ov,nvh,e8,rfl,by have:=aSC (room:=room) (s:=s);omega⟩,?_⟩;rintro ρ h' ⟨i,d,e,v',hi,hvs,BE,BD,BM,BZ,V',o',nv',e',hst,hlen⟩;simp only[jF,kF,lT,and_true] at hvs;obtain⟨v4,v6,v7,v8,v25,v26,v27⟩:=hvs;simp only[v4,v6,v7,v8,v25,v26,v27,jF,kF];unfold aHo;have hGK:∀b∈[r1,r3,rD,rE],h' b≠none:=by
   intro b hb;simp only[jW,zLg,or_false] at hb;rcases hb with rfl|rfl|rfl|rfl
   ·exact BM.known
   ·exact BZ.known
   ·exact BD.known
   ·exact BE.known
  by_cases hlt:i<l.length
  ·have g1:((i:Int)<(l.length:Int))=True:=eq_true (by omega);have gi:IntKind.i64.wrap ((i:Int)+1)=((i+1:Nat):Int):=by rw[fW (by omega) (by simp only[jY] at hl;omega)];omega
   obtain⟨pa,p1,q1⟩:=aGH (t1.ext e') (i:=i) (x:=l[i]) (lG hlt);have htk:(l.take (i+1)).foldl (nS room) (mW room s)=nS room (d,e) l[i]:=by
    rw[zL7 hlt,List.foldl_append,←hst];rfl
   generalize l[i]=y at *;simp only[g1,p1,q1,dF,reduceIte];show bR PG vX #[.string (tx y),pT rE 0,pT rD 0,pT r1 0] h' _;refine aSB BE BD BM V' nED n1D n1E hGK (by simp) (by simp) o' hlen λh9 v9 BE9 BD9 V9 o9 nw9 u9=>?_;simp only[gi,dF,reduceIte];refine⟨⟨i+1,_,_,v9,by omega,rfl,BE9,BD9,BM.upd u9 (by simp[n1D,n1E]),BZ.upd u9 (by simp[n3D,n3E]),V9,o9,?_,e'.fresh u9 fG,htk.symm,?_⟩,?_⟩
   ·exact nw9 nv' e'
   ·unfold nS;split
    ·split
     ·have:=aW3 (d:=d) (room:=room) (r:=(iK y).1);simp only at *;omega
     ·exact hlen
    ·exact hlen
   ·simp only[gT,zLL,zLK];omega
  ·have g1:((i:Int)<(l.length:Int))=False:=eq_false (by omega);rw[sU (by omega)] at hst;have hdef:zS room (s::l)=if e≠0 then(Dm.zero,e) else(d,e):=by
    show(if (l.foldl (nS room) (mW room s)).2≠0 then _ else _)=_;rw[←hst]
   simp only[g1,eY.load,BE.cell,dF,reduceIte,dM,Nat.reduceAdd];by_cases h0:e=0
   ·rw[if_neg (by simp[h0])] at hdef;have q0':(e !=0)=false:=by simp[h0]
    simp only[fZ,q0',Dm.load (o:=0) (d:=d) (v:=v') BD rfl,dF,reduceIte,dM,Nat.reduceAdd];refine cR.put BZ rfl (by show 0+5≤5;decide) (Dm.isC _ V'.isc) λh9 B9 u9=>?_;simp only[Dm.load (o:=0) (d:=d) (v:=v') B9 rfl,dF,reduceIte];rw[hdef] at hk;subst h0;exact hk h9 v' (kV.updG V' o' u9 λb hb=>by simp only[jI] at hb;subst hb;simp) nv' (e'.fresh u9 f3)
   ·rw[if_pos h0] at hdef;have q0':(e !=0)=true:=by simp[h0]
    simp only[fZ,q0',rX,BE.cell,dF,reduceIte,dM,Nat.reduceAdd];refine cR.put BZ rfl (by show 0+5≤5;decide) (Dm.isC _ rfl) λh9 B9 u9=>?_;have BE9:=BE.upd u9 (by simpa using n3E.symm);simp only[BE9.cell,Dm.load (o:=0) (d:=Dm.zero) (v:=.slice none 0 0) B9 rfl,dF,reduceIte,dM,Nat.reduceAdd];refine⟨by trivial,?_⟩;rw[hdef] at hk;exact hk h9 _ aEE jV.nil (e'.fresh u9 f3)
def rS1(st:iX):(Pl×List (Int×Pk))×iX:=(((iR st).1,(gM 2 (iR st).2).1),(gM 2 (iR st).2).2)
def rS0(st:iX):Rc×iX:=(⟨1,⟨(iR st).1,(rS1 (iR st).2).1.1,(rS1 (iR st).2).1.2.map It.of⟩,0,Pl.zero,[]⟩,(rS1 (iR st).2).2)
def rN1(st:iX):(Pl×List (Int×Pk))×iX:=(((iR st).1,(gM 4 (iR st).2).1),(gM 4 (iR st).2).2)
def rN0(st:iX):Rc×iX:=(⟨2,Dm.zero,((gO st 1).1:Int),(rN1 (gO st 1).2).1.1,(rN1 (gO st 1).2).1.2.map Nt.of⟩,(rN1 (gO st 1).2).2)
def rdB(k:Nat)(st:iX):Rc×iX:=if k=1 then rS0 st else if k=2 then rN0 st else(⟨(k:Int),Dm.zero,0,Pl.zero,[]⟩,st)
def rdS(st:iX):Rc×iX:=(((λ_ r=>r) (gO st 1).1 (rdB (gO st 1).1 (gO st 1).2).1),(rdB (gO st 1).1 (gO st 1).2).2)
def aYn(s:Tx):Rc.rd s=rdS (0,s):=by
 unfold Rc.rd rdS rdB;split
 ·rfl
 ·split<;>rfl
def aND:uU rS1:=λe s h=>(aF5 2).keep (aKI e s h) h
def aSX:uU rS0:=λe s h=>aND.keep (aKI e s h) h
def aM0:uU rN1:=λe s h=>(aF5 4).keep (aKI e s h) h
def aSA:uU rN0:=λe s h=>aM0.keep (vN 1 e s h) h
def aM3(k:Nat):uU (rdB k):=λe s h=>by
 unfold rdB;split
 ·exact aSX e s h
 ·split
  ·exact aSA e s h
  ·rfl
def aEq(i:It):Prop:=1≤i.g∧i.g≤2∧i.p.right=true
def aGF(n:Nt):Prop:=1≤n.k∧n.k≤4∧n.p.right=true
def aPe{i:It}:aDA i.x↔aEq i:=by
 unfold aDA It.x aJK aEq;simp only;split<;>constructor<;>rintro⟨a,b,c⟩<;>refine⟨?_,?_,c⟩<;>omega
def aPa{i:Nt}:aDA i.x↔aGF i:=by
 unfold aDA Nt.x aJK aGF;simp only;split<;>constructor<;>rintro⟨a,b,c⟩<;>refine⟨?_,?_,c⟩<;>omega
def aN0{i:It}(h:aEq i):i.x=(i.g,i.p):=by
 unfold aEq at h;unfold It.x aJK;rw[if_neg (by omega)]
def aNv{i:Nt}(h:aGF i):i.x=(i.k,i.p):=by
 unfold aGF at h;unfold Nt.x aJK;rw[if_neg (by omega)]
def aYh{i:It}(h:aEq i):It.of i.x=i:=by rw[aN0 h];rfl
def aYP{i:Nt}(h:aGF i):Nt.of i.x=i:=by rw[aNv h];rfl
def aXV{l:List It}(h:∀i∈l,aEq i):(l.map It.x).map It.of=l:=by
 rw[zLZ]
 conv=>rhs;rw[←List.map_id l]
 exact zL0 λi hi=>aYh (h i hi)
def aXo{l:List Nt}(h:∀i∈l,aGF i):(l.map Nt.x).map Nt.of=l:=by
 rw[zLZ]
 conv=>rhs;rw[←List.map_id l]
 exact zL0 λi hi=>aYP (h i hi)
def aOB{l:List It}(hl:l.length≤40):aHB (l.map It.x)↔∀i∈l,aEq i:=by
 unfold aHB;simp only[jJ,aJe,aPe];exact⟨λh=>h.2,λh=>⟨by omega,h⟩⟩
def aN9{l:List Nt}(hl:l.length≤16):aHB (l.map Nt.x)↔∀i∈l,aGF i:=by
 unfold aHB;simp only[jJ,aJe,aPa];exact⟨λh=>h.2,λh=>⟨by omega,h⟩⟩
structure zJ(r:Rc):Prop where
 plain:r.plain=true
 a:r.k=1->kX r.s.p0∧kX r.s.p1∧∀i∈r.s.its,aEq i
 b:r.k=2->kX r.pl∧∀i∈r.ns,aGF i
def Rc.bs(r:Rc):Tx:=if r.k=1 then be 1 1++(r.s.p0.bs++(r.s.p1.bs++tP (r.s.its.map It.x))) else be 2 1++(be r.ch.toNat 1++(r.pl.bs++tP (r.ns.map Nt.x)))
def aFz{st:iX}(h:st.1=1):aEI st=([],1):=by unfold aEI;rw[h,if_neg (by decide)]
def aAd(r:Rc):(zJ r∧r.bytes=(r.bs,0))∨(¬zJ r∧r.bytes=([],1)):=by
 by_cases hp:r.plain=true
 ·by_cases k1:r.k=1
  ·obtain⟨-,-,-,h40⟩:=yG hp k1;have e0:lQ (0,[]) r.k=(0,be 1 1):=by rw[k1];rfl
   by_cases a:kX r.s.p0
   ·by_cases b:kX r.s.p1
    ·by_cases c:aHB (r.s.its.map It.x)
     ·left;refine⟨⟨hp,λ_=>⟨a,b,(aOB h40).1 c⟩,λh=>by omega⟩,?_⟩;unfold Rc.bytes Rc.wr Rc.bs;rw[if_pos hp,if_pos k1,if_pos k1,e0,aEt a,aEt b,aM1 c];simp only[aEI,if_true,xN]
     ·right;refine⟨λh=>c ((aOB h40).2 (h.a k1).2.2),?_⟩;unfold Rc.bytes Rc.wr;rw[if_pos hp,if_pos k1,e0,aEt a,aEt b];exact aFz (aLy c _)
    ·right;refine⟨λh=>b (h.a k1).2.1,?_⟩;unfold Rc.bytes Rc.wr;rw[if_pos hp,if_pos k1,e0,aEt a];exact aFz (aLD (aLW b _) _)
   ·right;refine⟨λh=>a (h.a k1).1,?_⟩;unfold Rc.bytes Rc.wr;rw[if_pos hp,if_pos k1,e0];exact aFz (aLD (aWB (aLW a _) _) _)
  ·obtain⟨k2,-,hc,h16⟩:=tA hp k1;have e0:lQ (0,[]) r.k=(0,be 2 1):=by rw[k2];rfl
   have e1:lQ (0,be 2 1) r.ch=(0,be 2 1++be r.ch.toNat 1):=by unfold lQ;rw[if_pos (by omega)]
   by_cases a:kX r.pl
   ·by_cases c:aHB (r.ns.map Nt.x)
    ·left;refine⟨⟨hp,λh=>absurd h k1,λ_=>⟨a,(aN9 h16).1 c⟩⟩,?_⟩;unfold Rc.bytes Rc.wr Rc.bs;rw[if_pos hp,if_neg k1,if_neg k1,e0,e1,aEt a,aM1 c];simp only[aEI,if_true,xN]
    ·right;refine⟨λh=>c ((aN9 h16).2 (h.b k2).2),?_⟩;unfold Rc.bytes Rc.wr;rw[if_pos hp,if_neg k1,e0,e1,aEt a];exact aFz (aLy c _)
   ·right;refine⟨λh=>a (h.b k2).1,?_⟩;unfold Rc.bytes Rc.wr;rw[if_pos hp,if_neg k1,e0,e1];exact aFz (aLD (aLW a _) _)
 ·right;refine⟨λh=>hp h.plain,?_⟩;unfold Rc.bytes;rw[if_neg hp]
def aSY{r:Rc}(h:r.bytes.2=0):zJ r∧r.bytes.1=r.bs:=by
 rcases aAd r with⟨a,b⟩|⟨a,b⟩
 ·exact⟨a,by rw[b]⟩
 ·rw[b] at h;cases h
def aVI{r:Rc}(h:zJ r)(w:r.wf):sE rdS r.bs r:=by
 have hp:=h.plain;by_cases k1:r.k=1
 ·obtain⟨a,b,c⟩:=h.a k1;obtain⟨q0,q1,q2,q3⟩:=yG hp k1;have hl:=aL1 (g:=2) (by decide) (l:=r.s.its.map It.x) (by simp;omega) λx hx=>by
   obtain⟨i,hi,rfl⟩:=rS.1 hx;have:=c i hi;rw[aN0 this];exact⟨this.1,this.2.1,this.2.2,w.s.i i hi⟩
  have s1:sE rS1 _ _:=(aLH b w.s.b.1 w.s.b.2).bind (S:=λ_ st=>gM 2 st) (f:=λp l=>(p,l)) hl λ_=>aF5 2;have s0:sE rS0 _ _:=(aLH a w.s.a.1 w.s.a.2).bind (S:=λ_ st=>rS1 st) (f:=λp x=>(⟨1,⟨p,x.1,x.2.map It.of⟩,0,Pl.zero,[]⟩:Rc)) s1 λ_=>aND;have sB:sE (rdB 1) _ _:=s0;have sS:sE rdS _ _:=(nD (n:=1) (c:=1) (by decide)).bind (S:=λk st=>rdB k st) (f:=λ_ r=>r) sB λk=>aM3 k;have er:(⟨1,⟨r.s.p0,r.s.p1,(r.s.its.map It.x).map It.of⟩,0,Pl.zero,[]⟩:Rc)=r:=by
   rw[aXV c];obtain⟨k,⟨p0,p1,its⟩,ch,pl,ns⟩:=r;simp only at k1 q0 q1 q2;subst k1 q0 q1 q2;rfl
  simp only at sS;rw[er] at sS;unfold Rc.bs;rw[if_pos k1];exact sS
 ·obtain⟨k2,q0,q1,q2⟩:=tA hp k1;obtain⟨a,c⟩:=h.b k2;have hl:=aL1 (g:=4) (by decide) (l:=r.ns.map Nt.x) (by simp;omega) λx hx=>by
   obtain⟨i,hi,rfl⟩:=rS.1 hx;have:=c i hi;rw[aNv this];exact⟨this.1,this.2.1,this.2.2,w.n i hi⟩
  have s1:sE rN1 _ _:=(aLH a w.pl.1 w.pl.2).bind (S:=λ_ st=>gM 4 st) (f:=λp l=>(p,l)) hl λ_=>aF5 4;have s0:sE rN0 _ _:=(nD (n:=r.ch.toNat) (c:=1) (by omega)).bind (S:=λ_ st=>rN1 st) (f:=λ(k:Nat) (x:Pl×List (Int×Pk))=>(⟨2,Dm.zero,(k:Int),x.1,x.2.map Nt.of⟩:Rc)) s1 λ_=>aM0;have sB:sE (rdB 2) _ _:=s0;have sS:sE rdS _ _:=(nD (n:=2) (c:=1) (by decide)).bind (S:=λk st=>rdB k st) (f:=λ_ r=>r) sB λk=>aM3 k;have er:(⟨2,Dm.zero,(r.ch.toNat:Int),r.pl,(r.ns.map Nt.x).map Nt.of⟩:Rc)=r:=by
   rw[aXo c,zLu (by omega)];obtain⟨k,⟨p0,p1,its⟩,ch,pl,ns⟩:=r;simp only at k2 q0;subst k2;rw[←q0]
  simp only at sS;rw[er] at sS;unfold Rc.bs;rw[if_neg k1];exact sS
def aNF{r:Rc}(h:zJ r)(w:r.wf):iK r.bs=(r,0):=by
 have hr:=(aVI h w).all [];rw[zLQ] at hr;unfold iK xA;rw[aYn,hr];simp only[h.plain,if_true];rfl
def aIb{h:PH}{r:Nat}{cs:List Value}(B:Bx h r cs){o:Nat}{p q:Pl}(ho:(cs.drop o).take 4=p.cells++q.cells):dH PG h (loadAt eD (pT r o))=some (mP p q):=by
 have hl:o+4≤cs.length:=by
  have:((cs.drop o).take 4).length=4:=by rw[ho];rfl
  rw[mT,kD] at this;omega
 rw[eD.agg B hl,ho];rfl
def aCn{h:PH}{r:Nat}{cs:List Value}(B:Bx h r cs){o:Nat}{p:Pl}(ho:(cs.drop o).take 2=p.cells):dH PG h (loadAt dK (pT r o))=some (.agg p.cells.toArray):=by
 have hl:o+2≤cs.length:=by
  have:((cs.drop o).take 2).length=2:=by rw[ho];rfl
  rw[mT,kD] at this;omega
 rw[dK.agg B hl,ho]
def aPD{h:PH}{d d':Dm}{v v':Value}(V:kV h v d.its)(V':kV h v' d'.its)(hl:d.its.length≤1000000){k:dI}(hk:∀h',eM h h'->k (.bool (decide (d=d'))) h'):bR PG yK #[d.v v,d'.v v'] h k:=by
 apply vT.call;unfold vT;intro r1 hr1
 try rw[dY]
 have u1:eM h (h.set r1 (.cells (Value.cells (d.v v)) cR)):=eH.new hr1;have B1:Bx (h.set r1 (.cells (Value.cells (d.v v)) cR)) r1 (d.cells v):=Bx.new;generalize h.set r1 (.cells (Value.cells (d.v v)) cR)=h1 at *;intro r3 hr3
 try rw[dY]
 have u3:eM h1 (h1.set r3 (.cells (Value.cells (d'.v v')) cR)):=eH.new hr3;have B3:Bx (h1.set r3 (.cells (Value.cells (d'.v v')) cR)) r3 (d'.cells v'):=Bx.new;have B13:=B1.ext u3;generalize h1.set r3 (.cells (Value.cells (d'.v v')) cR)=h3 at *;have u:=u1.trans u3;have hk:=hk _ u;have la:dH PG h3 (loadAt eD (pT r1 0))=some (mP d.p0 d.p1):=aIb B13 rfl;have lb:dH PG h3 (loadAt eD (pT r3 0))=some (mP d'.p0 d'.p1):=aIb B3 rfl;simp only[cR.f0,la,lb,mP.eql,dF,reduceIte,dM,Nat.reduceAdd];by_cases c0:d.p0=d'.p0∧d.p1=d'.p1
 ·simp only[c0,decide_true,cR.f1,dC.load,B13.cell,B3.cell,Dm.cells,dF,reduceIte,dM,Nat.reduceAdd];refine aRT (V.ext u) (V'.ext u) hl ?_;have e:decide (d.its=d'.its)=decide (d=d'):=by
   rw[yA];obtain⟨a,b,c⟩:=d;obtain⟨a',b',c'⟩:=d';simp only at c0;simp[c0.1,c0.2]
  rw[e];exact hk
 ·have hne:¬d=d':=λe=>c0 (by rw[e];exact⟨rfl,rfl⟩);simp only[hne,decide_false] at hk;simp only[c0,decide_false,dF,reduceIte,dM,Nat.reduceAdd];exact hk
def aQj{r:Rc}(h:zJ r):r.bytes=(r.bs,0):=by
 rcases aAd r with⟨_,b⟩|⟨a,_⟩
 ·exact b
 ·exact absurd h a
def ixP{r i:Nat}(hi:i<2):dE PG (indexAt eD (pT r 0) (.int .i64 (i:Int)))=some (pT r (i*2)):=by
 have ix:=uI (P:=PG) (t:=eD) (b:=r) (o:=0) (k:=.i64) (j:=(i:Int)) eD.und dK.info dK.size (by omega) (by omega);rw[ix,xZ,kB]
def aYy{r:Nat}:dE PG (indexAt eD (pT r 0) (.int .i64 0))=some (pT r 0):=ixP (i:=0) (by decide)
def aY8{r:Nat}:dE PG (indexAt eD (pT r 0) (.int .i64 1))=some (pT r 2):=ixP (i:=1) (by decide)
def aUf(p q:Pl)(b:Option Addr)(n c:Nat):dE PG (build cR #[(0,mP p q),(1,.slice b n c)])=some (Dm.v ⟨p,q,[]⟩ (.slice b n c)):=by kernel_rfl
def aRu{l:List It}{i:Nat}(h:¬((l.take i).map It.key).Nodup):¬(l.map It.key).Nodup:=λhn=>by
 apply h;exact List.Nodup.sublist (List.Sublist.map _ (List.take_sublist i l)) hn
def aTa{h:PH}{room:Int}{x:Value}{l:List It}(hx:jE h 5 x (l.map It.cells))(hl:l.length≤900)(hw:∀m∈l,m.p.ok){k:dI}
  (hbad:∀h',eM h h'->oJ room l≠0->k (.tuple #[.pointer none,.int .i64 (oJ room l)]) h')
  (hk:∀a h' F,oJ room l=0->RAt h' a (pF l) room F->fX h F->eM h h'->k (.tuple #[pT a 0,.int .i64 0]) h'):bR PG aAm #[.int .i64 room,x] h k:=by
 have lx:=hx.len (t':=aR) dC.und;rw[jJ] at lx;apply wO.call;unfold wO;by_cases hroom:room<1∨40<room
 ·have e:oJ room l=1:=by unfold oJ;rw[if_pos hroom]
  have:=hbad h eH.refl (by rw[e];decide);rw[e] at this;by_cases d2:room<1
  ·simp only[d2,dF,reduceIte];exact this
  ·have d3:(40<room)=True:=by apply eq_true;omega
   simp only[d2,d3,dF,reduceIte];exact this
 have d2:(room<1)=False:=by apply eq_false;omega
 have d3:(40<room)=False:=by apply eq_false;omega
 simp only[d2,d3,dF,reduceIte];refine⟨λvs h'=>∃i:Nat,i≤l.length∧vs=[.int .i64 room,x,.int .i64 i]∧eM h h'∧(l.take i).all It.right=true,gT l.length 2,⟨0,by omega,rfl,eH.refl,by simp⟩,?_⟩;rintro ρ h' ⟨i,hi,hvs,w,har⟩;simp only[jF,kF,lT,and_true] at hvs;obtain⟨e0,e1,e2⟩:=hvs;rw[e0,e1,e2];unfold aGJ;by_cases hlt:i<l.length
 ·have hd:((i:Int)<(l.length:Int))=True:=by apply eq_true;omega
  obtain⟨m,hm⟩:∃m,l[i]? =some m:=⟨_,lG hlt⟩;obtain⟨y,y1,y2⟩:=(hx.ext w).it (k:=.i64) hm;have htake:l.take (i+1)=l.take i++[m]:=by rw[zLR,hm];rfl
  have ei:=oM (i:=i) (by omega);have hwm:=hw m (wE hm);simp only[lx,hd,y1,y2,dF,reduceIte];refine aMm m hwm.1 hwm.2 λh2 u2=>?_;cases hr:m.right with
  | false=>
   have e:oJ room l=1:=by
    unfold oJ;rw[if_neg hroom,if_pos];rw[List.all_eq_false];exact⟨m,wE hm,by simp[hr]⟩
   simp only[dF,reduceIte];have:=hbad h2 (w.trans u2) (by rw[e];decide);rw[e] at this;exact this
  | true=>
   simp only[ei,dF,reduceIte];exact⟨⟨i+1,by omega,rfl,w.trans u2,by rw[htake,List.all_append,har];simp[hr]⟩,by simp[gT,e2];omega⟩
 ·have hil:i=l.length:=by omega
  have hd:((i:Int)<(l.length:Int))=False:=by apply eq_false;omega
  rw[hil,zLJ] at har;have har':¬l.all It.right=false:=by rw[har];simp
  have el:IntKind.i64.wrap ((l.length:Int)+1)=((l.length+1:Nat):Int):=by rw[fW (by omega) (by omega)];omega
  have rb:dE PG (build eR #[(1,.int .i64 (l.length+1:Nat))])=some (.agg #[.slice none 0 0,.int .i64 (l.length+1:Nat)]):=by kernel_rfl
  simp only[lx,hd,el,rb,dF,reduceIte];intro r hr
  try rw[dY]
  have u4:eM h' (h'.set r (.cells (Value.cells (.agg #[.slice none 0 0,.int .i64 (l.length+1:Nat)])) eR)):=eH.new hr;have R4:RAt (h'.set r (.cells (Value.cells (.agg #[.slice none 0 0,.int .i64 (l.length+1:Nat)])) eR)) r [] (l.length+1:Nat) [r]:=⟨⟨.slice none 0 0,[],gB,fY.nil,rfl,by simp⟩,List.Pairwise.nil⟩;have fr0:h r=none:=w.none hr;generalize h'.set r (.cells (Value.cells (.agg #[.slice none 0 0,.int .i64 (l.length+1:Nat)])) eR)=h4 at *;refine⟨λvs h'=>∃(i:Nat) (G:List Nat),i≤l.length∧vs=[.int .i64 room,x,pT r 0,.int .i64 i]∧RAt h' r (pF (l.take i)) (l.length+1:Nat) G∧fX h G∧eM h h'∧((l.take i).map It.key).Nodup,gT l.length 3,
   ⟨0,[r],by omega,rfl,R4,fX.one fr0,w.trans u4,by simp⟩,?_⟩
  rintro ρ2 h5 ⟨q,G,hq,hvs2,HR,fG,w5,hnd⟩;simp only[jF,kF,lT,and_true] at hvs2;obtain⟨g0,g1,g2,g3⟩:=hvs2;rw[g0,g1,g2,g3];unfold aGN;have hlen:(pF (l.take q)).length≤q:=by
   have h1:=aIH (l.take q);have h2:(l.take q).length≤q:=by rw[mT];omega
   omega
  by_cases hqlt:q<l.length
  ·have hd:((q:Int)<(l.length:Int))=True:=by apply eq_true;omega
   obtain⟨m,hm⟩:∃m,l[q]? =some m:=⟨_,lG hqlt⟩;obtain⟨b,o,a1,a2,a3,_,a5⟩:=(hx.ext w5).itf (k:=.i64) hm;have htake:l.take (q+1)=l.take q++[m]:=by rw[zLR,hm];rfl
   have ei:=oM (i:=q) (by omega);have hn:= @aNM (l.take q) m;simp only[lx,hd,a1,dJ.f0,cT.f0,cT.f1,aR.load,dN.load,a2,a3,dF,reduceIte];refine aMg HR (by omega) m.key ?_;have hgt:(jK (pF (l.take q)) m.key).isSome=decide (m.key∈(l.take q).map It.key):=aRD (l.take q) m.key;rw[hgt];by_cases hmem:m.key∈(l.take q).map It.key
   ·have hdup:¬(l.map It.key).Nodup:=aRu (i:=q+1) (by rw[htake];exact λh=>(hn.1 h).2 hmem);have e:oJ room l=4:=by unfold oJ;rw[if_neg hroom,if_neg har',if_pos hdup]
    simp only[hmem,dF,reduceIte];have:=hbad h5 w5 (by rw[e];decide);rw[e] at this;exact this
   ·have hg:jK (pF (l.take q)) m.key=none:=by
     rw[decide_eq_false hmem] at hgt;simpa using hgt
    simp only[hmem,a1,a5,dF,reduceIte];refine aN7 HR (by omega) m hg λh6 G6 H6 u6 f6=>?_;have e2:tH (pF (l.take q)) ((l.length+1:Nat):Int) m=rL (pF (l.take q)) m:=by unfold tH;rw[if_neg (λhc=>by have:=hc.2;omega)]
    rw[e2] at H6;simp only[ei,dF,reduceIte];exact⟨⟨q+1,G6,by omega,rfl,by rw[htake,aPn];exact H6,fG.grow w5 f6,w5.fresh u6 fG,by rw[htake];exact hn.2 ⟨hnd,hmem⟩⟩,by simp[gT,g3];omega⟩
  ·have hql:q=l.length:=by omega
   have hd:((q:Int)<(l.length:Int))=False:=by apply eq_false;omega
   rw[hql,zLJ] at HR hnd;by_cases hfull:room<(l.length:Int)
   ·have e:oJ room l=2:=by unfold oJ;rw[if_neg hroom,if_neg har',if_neg (λh=>h hnd),if_pos hfull]
    simp only[lx,hd,hfull,dF,reduceIte];have:=hbad h5 w5 (by rw[e];decide);rw[e] at this;exact this
   ·have e:oJ room l=0:=by unfold oJ;rw[if_neg hroom,if_neg har',if_neg (λh=>h hnd),if_neg hfull]
    obtain⟨v,G',ha,hO,hG,hna⟩:=HR.here;simp only[lx,hd,hfull,eR.f1,dF,reduceIte];refine lX aR.und rfl ha (by simp) rfl aR.info aR.size ?_;have u7:eH [r] h5 (h5.set r (.cells (#[v,.int .i64 (l.length+1:Nat)].setIfInBounds (0+1) (.int .i64 room)) eR (0,0))):=eH.set (by simp);have ha7:(h5.set r (.cells (#[v,.int .i64 (l.length+1:Nat)].setIfInBounds (0+1) (.int .i64 room)) eR (0,0))) r=some (.cells #[v,.int .i64 room] eR (0,0)):=gB;generalize h5.set r (.cells (#[v,.int .i64 (l.length+1:Nat)].setIfInBounds (0+1) (.int .i64 room)) eR (0,0))=h7 at *;exact hk r h7 G e ⟨⟨v,G',ha7,hO.upd u7 (λb hb=>by simp;rintro rfl;exact hna hb),hG,hna⟩,aII _⟩ fG (w5.fresh u7 (fX.one fr0))
def AR(L:List It):Prop:=∀i∈L,i.right=true
def aQ9{L:List It}{i x:It}(h:x∈rL L i):x=i∨x∈L:=by
 have:=(aGS L i).mem_iff.1 h;rcases jW.1 this with h|h
 ·exact .inl h
 ·unfold sI at h;exact .inr (zLY.1 h).1
def AR.ins{L:List It}(h:AR L){i:It}(hi:i.right=true):AR (rL L i):=λx hx=>by
 rcases aQ9 hx with rfl|hx
 ·exact hi
 ·exact h x hx
def AR.del{L:List It}(h:AR L)(k:Ky):AR (sI L k):=λx hx=>h x (by unfold sI at hx;exact(zLY.1 hx).1)
def AR.put{L:List It}(h:AR L){i:It}(hi:i.right=true)(room:Int):AR (tH L room i):=by
 unfold tH;split
 ·exact h
 ·exact h.ins hi
def AR.app{L:List It}(h:AR L)(room:Int)(n:Nt):AR (rP L room n):=by
 unfold rP;by_cases hr:n.right=false
 ·rw[if_pos hr];exact h
 ·rw[if_neg hr];have hp:n.p.right=true:=by
   have:n.right=true:=by simpa using hr
   unfold Nt.right at this;simp only[tM] at this;exact this.2
  split
  ·split
   ·exact h
   ·exact h.put (by unfold It.right;simp[hp]) room
  ·split
   ·split
    ·rename_i x hx;obtain⟨h1,_⟩:=aBB hx;have:=h x h1;unfold It.right at this;simp only[tM] at this;exact h.ins (by unfold It.right;simp[this.2])
    ·exact h.put (by unfold It.right;simp[hp]) room
   ·exact h.del _
def AR.aply{room:Int}:∀{L:List It} (l:List Nt),AR L->AR (mY room L l).1
 | L,[],h=>h
 | L,n::ns,h=>by
  unfold mY;split
  ·exact h.app room n
  ·exact AR.aply ns (h.app room n)
def nK.aply{room:Int}:∀{L:List It} (l:List Nt),nK L->nK (mY room L l).1
 | L,[],h=>h
 | L,n::ns,h=>by
  unfold mY;split
  ·exact h.app room n
  ·exact nK.aply ns (h.app room n)
def OkD.ar{d:Dm}{room:Int}(H:OkD d room):AR d.its:=λi hi=>aKJ.1 H.all i hi
def OkD.sorted{d:Dm}{room:Int}(H:OkD d room):nK d.its:=by rw[←H.srt];exact aII _
def aEp{d:Dm}{room:Int}{r:Rc}(h:(mS d room r).2=0):OkD d room∧zJ r∧OkD (mS d room r).1 room∧
  ((r.k=1∧(mS d room r).1=r.s)∨(r.k=2∧(r.ch=0∨r.ch=1)∧(mY room d.its r.ns).2=0∧(mS d room r).1=⟨if r.ch=0 then r.pl else d.p0,if r.ch=0 then d.p1 else r.pl,(mY room d.its r.ns).1⟩)):=by
 unfold mS at *;by_cases c0:chk d room=0
 ·have H:=aEN.1 c0;rw[if_neg (by simp[c0])] at *;by_cases c1:r.bytes.2=0
  ·have hr:=(aSY c1).1;rw[if_neg (by simp[c1])] at *;by_cases k1:r.k=1
   ·rw[if_pos k1] at *;by_cases c2:chk r.s room=0
    ·rw[if_neg (by simp[c2])];exact⟨H,hr,aEN.1 c2,.inl ⟨k1,rfl⟩⟩
    ·rw[if_pos c2] at h;exact absurd h c2
   ·obtain⟨k2,-,hc,-⟩:=tA hr.plain k1;obtain⟨hpl,-⟩:=hr.b k2;rw[if_neg k1] at *;rw[H.srt] at *;by_cases c3:(mY room d.its r.ns).2=0
    ·rw[if_neg (by simp[c3])];have hs:=nK.aply (room:=room) r.ns H.sorted;refine⟨H,hr,⟨H.r1,H.r2,aLc H.sorted H.len r.ns,aKJ.2 λi hi=>AR.aply (room:=room) r.ns H.ar i hi,?_,?_,aWk hs,hs.nodup⟩,.inr ⟨k2,hc,c3,rfl⟩⟩
     ·show kX (if r.ch=0 then r.pl else d.p0);split
      ·exact hpl
      ·exact H.p0
     ·show kX (if r.ch=0 then d.p1 else r.pl);split
      ·exact H.p1
      ·exact hpl
    ·rw[if_pos c3] at h;exact absurd h c3
  ·rw[if_pos c1] at h;exact absurd h c1
 ·rw[if_pos c0] at h;exact absurd h c0
def aOp(a b:Tx):((tx a).toList==(tx b).toList)=decide (a=b):=by
 have e:∀l:Tx,(tx l).toList=l:=λl=>by rw[ByteArray.toList_eq];simp[tx]
 rw[e,e,yA];simp
def aKY{h:PH}{t:TypeId}{x y:Operand}(a b:Tx):dH PG h (gV .neq t x y (.string (tx a)) (.string (tx b)))=some (.bool (!decide (a=b))):=by
 rw[←aOp];rfl
def aFs{h:PH}{t:TypeId}{x y:Operand}(a b:Tx):dH PG h (gV .eql t x y (.string (tx a)) (.string (tx b)))=some (.bool (decide (a=b))):=by
 rw[←aOp];rfl
def aWt{x:Int×Pk}(h:aDA x):(aD2 x).length≤84:=by
 have:=(Pk.right_iff.1 h.2.2).2.2.2.2;simp only[aD2,Pk.bs,kO,iZ,aIp];omega
def aMZ:∀{l:List (Int×Pk)},(∀x∈l,aDA x)->(mL l).length≤84*l.length
 | [],_=>by simp[mL]
 | x::l,h=>by
  have h1:=aWt (h x (by simp));have h2:=aMZ (l:=l) λy hy=>h y (by simp[hy]);simp only[mL,kO,jY];omega
def wz:List Value->List Value:=id
def aED(i:Nat):List Value:=(List.range i).map (λn=>wv (aGA n))++List.replicate (256-i) (.int .u32 0)
def aJX:List Value:=(List.range 256).map λn=>wv (aGA n)
def aMX{i:Nat}(h:i≤256):(aED i).length=256:=by
 unfold aED;rw[kO,jJ,List.length_range,aHT];omega
def aGc:aJX.length=256:=by
 unfold aJX;rw[jJ,List.length_range]
def aPN:aED 256=aJX:=by
 unfold aED aJX;rw[aJS,List.replicate_zero,zLQ]
def aVe{i:Nat}(h:i<256):(aED i).set i (wv (aGA i))=aED (i+1):=by
 unfold aED;rw[List.set_append,if_neg (by rw[jJ,List.length_range];omega),jJ,List.length_range,aJS];obtain⟨k,hk⟩:∃k,256-i=k+1:=⟨256-i-1,by omega⟩;rw[hk,List.replicate_succ,List.set_cons_zero,show 256-(i+1)=k by omega,List.range_succ,xX,xN];rfl
def aTL{i:Nat}(hi:i≤256):∀v∈aED i,gN v=true:=λv hv=>by
 unfold aED at hv;rcases wQ.1 hv with hv|hv
 ·obtain⟨n,-,rfl⟩:=rS.1 hv;rfl
 ·rw[List.eq_of_mem_replicate hv];rfl
def aOU:∀v∈aJX,gN v=true:=λv hv=>aTL (nQ _) v (by rw[aPN];exact hv)
def aWD{j:Nat}(h:j<256):aJX[j]? =some (wv (aGA j)):=by
 unfold aJX;rw[xB,List.getElem?_range h];rfl
def aVx:(Value.agg (List.replicate 256 (Value.int IntKind.u32 0)).toArray).cells.toList=aED 0:=rfl
def aVw{k:IntKind}{b j:Nat}(h1:j<256):dE PG (indexAt gL (pT b 0) (.int k (j:Int)))=some (pT b j):=by
 rw[uI gL.und gP.info gP.size (by omega) (by omega)];simp
def aZA{k:IntKind}{b j:Nat}(h1:j<4):dE PG (indexAt oO (pT b 0) (.int k (j:Int)))=some (pT b j):=by
 rw[uI oO.und eZ.info eZ.size (by omega) (by omega)];simp
def aYV{P:Program}{t:TypeId}{x y:W}:dE P (binOp .mul t (wv x) (wv y))=some (wv (x*y)):=by
 unfold wv;rw[oQ,aGY,BitVec.toNat_mul,←Int.natCast_mul];rfl
def aYD{t:TypeId}{x:W}:dE PG (binOp .and t (wv x) (.int .u32 1))=some (wv (x &&& 1)):=aYT (y:=1)
def aY3{t:TypeId}{x:W}:dE PG (binOp .mul t (wv x) (.int .u32 3988292384))=some (wv (x*3988292384)):=aYV (y:=3988292384)
def aY2{t:TypeId}{x:W}{k:IntKind}:dE PG (binOp .shr t (wv x) (.int k 1))=some (wv (x>>>1)):=aSP (n:=1) (by decide)
def aY4{t:TypeId}{x:W}{k:IntKind}:dE PG (binOp .shr t (wv x) (.int k 8))=some (wv (x>>>8)):=aSP (n:=8) (by decide)
def aVV{n:Nat}:dE PG (convert aR gP (.int .i64 (n:Int)))=some (wv (BitVec.ofNat 32 n)):=by
 have e:dE PG (convert aR gP (.int .i64 (n:Int)))=some (.int .u32 (IntKind.u32.wrap (n:Int))):=by kernel_rfl
 rw[e];unfold wv;rw[aGY,BitVec.toNat_ofNat];rfl
def aVq(x:W):dE PG (convert gP eZ (wv x))=some (.int .u8 ((UInt8.ofNat x.toNat).toNat:Int)):=by
 have e:dE PG (convert gP eZ (.int .u32 (x.toNat:Int)))=some (.int .u8 (IntKind.u8.wrap (x.toNat:Int))):=by kernel_rfl
 unfold wv;rw[e,aJy,UInt8.toNat_ofNat'];congr 1
def aY6{t:TypeId}(a b:UInt8):dE PG (binOp .xor t (.int .u8 (a.toNat:Int)) (.int .u8 (b.toNat:Int)))=some (.int .u8 ((a ^^^ b).toNat:Int)):=by
 have e:dE PG (binOp .xor t (.int .u8 (a.toNat:Int)) (.int .u8 (b.toNat:Int)))=some (.int .u8 (IntKind.u8.wrap ((BitVec.ofInt 8 (a.toNat:Int) ^^^ BitVec.ofInt 8 (b.toNat:Int)).toNat:Int))):=rfl;have h:∀c:UInt8,BitVec.ofInt 8 (c.toNat:Int)=c.toBitVec:=λc=>by
  apply BitVec.eq_of_toNat_eq;rw[BitVec.toNat_ofInt];have:=c.toNat_lt;have e:c.toBitVec.toNat=c.toNat:=rfl;rw[e];omega
 rw[e,h,h,aJy];have h2:(a.toBitVec ^^^ b.toBitVec).toNat=(a ^^^ b).toNat:=rfl;rw[h2];have:=(a ^^^ b).toNat_lt;congr 2;omega
def aUB{h:PH}{r1 r3 i:Nat}{n5:iC}{R:dI}(hi:i<256)(B1:Bx h r1 (aED 0))(B3:Bx h r3 (aED i))(n13:r1≠r3)
  (hk:∀h',Bx h' r1 (aED 0)->Bx h' r3 (aED (i+1))->eH [r3] h h'->n5 [pT r1 0,pT r3 0,.int .i64 ((i+1:Nat):Int)] h'):
  iV [0,1,2,3,4,9] (λn9 ρ h=>aHk R n5 n9 (ρ 0) (ρ 1) (ρ 2) (ρ 3) (ρ 4) (ρ 9) h) [pT r1 0,pT r3 0,.int .i64 (i:Int),wv (BitVec.ofNat 32 i),.int .i64 (i:Int),.int .i64 0] h:=by
 refine⟨λvs h'=>∃k:Nat,k≤8∧vs=[pT r1 0,pT r3 0,.int .i64 (i:Int),wv (zG k (BitVec.ofNat 32 i)),.int .i64 (i:Int),.int .i64 (k:Int)]∧h'=h,gT 8 5,⟨0,by omega,rfl,rfl⟩,?_⟩;rintro ρ h' ⟨k,hkk,hvs,rfl⟩;simp only[jF,kF,lT,and_true] at hvs;obtain⟨x0,x1,x2,x3,x4,x9⟩:=hvs;unfold aHk;rw[x0,x1,x2,x3,x4,x9];by_cases hlt:k<8
 ·have g:((k:Int)<8)=True:=eq_true (by omega);have gi:=oM (i:=k) (by omega);simp only[g,aY2,aYD,aY3,aO9,gi,dF,reduceIte,dM,Nat.reduceAdd];exact⟨⟨k+1,by omega,rfl,by first|rfl|trivial⟩,by simp[gT,x9];omega⟩
 ·have g:((k:Int)<8)=False:=eq_false (by omega);have gi:=oM (i:=i) (by omega);obtain rfl:k=8:=by omega
  simp only[g,aVw hi,dF,reduceIte,dM,Nat.reduceAdd];refine gP.put B3 (by rw[aMX (by omega)];exact hi) rfl λh2 B u=>?_;rw[show wv (zG 8 (BitVec.ofNat 32 i))=wv (aGA i) from rfl,aVe hi] at B;simp only[gi,dF,reduceIte,dM,Nat.reduceAdd];exact hk h2 (B1.upd u (by simpa using n13)) B u
def aVg{h:PH}{k:dI}(hk:∀h',eM h h'->k (.agg aJX.toArray) h'):bR PG aIh #[] h k:=by
 apply aFD.call;unfold aFD;intro r1 hr1
 try rw[dY]
 have B1:=gL.zbox (h:=h) (r:=r1);rw[aVx] at B1;have u1:eM h (h.set r1 (.cells (eX PG gL) gL)):=eH.new hr1;generalize h.set r1 (.cells (eX PG gL) gL)=h1 at *;intro r3 hr3
 try rw[dY]
 have B3:=gL.zbox (h:=h1) (r:=r3);rw[aVx] at B3;have u3:eM h1 (h1.set r3 (.cells (eX PG gL) gL)):=eH.new hr3;have C1:=B1.ext u3;have n13:r1≠r3:=B1.apart hr3;generalize h1.set r3 (.cells (eX PG gL) gL)=h3 at *;have e3:=u1.trans u3;have f1:fX h [r1]:=fX.one hr1;have f3:fX h [r3]:=fX.one (u1.none hr3);refine⟨λvs h'=>∃i:Nat,i≤256∧vs=[pT r1 0,pT r3 0,.int .i64 (i:Int)]∧Bx h' r1 (aED 0)∧Bx h' r3 (aED i)∧eM h h',gT 256 2,⟨0,by omega,rfl,C1,B3,e3⟩,?_⟩;rintro ρ h' ⟨i,hi,hvs,D1,D3,w⟩;simp only[jF,kF,lT,and_true] at hvs;obtain⟨x0,x1,x4⟩:=hvs;unfold aK8;rw[x0,x1,x4];by_cases hlt:i<256
 ·have g:((i:Int)<256)=True:=eq_true (by omega);simp only[g,aVV,dF,reduceIte,dM,Nat.reduceAdd];refine aUB hlt D1 D3 n13 λh2 E1 E3 u=>?_;exact⟨⟨i+1,by omega,rfl,E1,E3,w.fresh u f3⟩,by simp[gT,x4];omega⟩
 ·have g:((i:Int)<256)=False:=eq_false (by omega);obtain rfl:i=256:=by omega
  rw[aPN] at D3;have l3:dH PG h' (loadAt gL (pT r3 0))=some (.agg aJX.toArray):=by
   rw[gL.agg D3 (by rw[aGc];decide),zLb,sU (Nat.le_of_eq aGc)]
  simp only[g,l3,dF,reduceIte,dM,Nat.reduceAdd];refine gL.put D1 (o:=0) aGc (by rw[aMX (by omega)];decide) aOU λh2 E1 u=>?_;rw[zLd,zLU,zO (by rw[aMX (by omega)];decide),zLQ] at E1;have l1:dH PG h2 (loadAt gL (pT r1 0))=some (.agg aJX.toArray):=by
   rw[gL.agg E1 (by rw[aGc];decide),zLb,sU (Nat.le_of_eq aGc)]
  simp only[l1,dF,reduceIte,dM,Nat.reduceAdd];exact hk h2 (w.fresh u f1)
def aWG{h:PH}(x:W)(s:Tx){k:dI}(hs:s.length≤1000000)(hk:∀h',eM h h'->k (wv (tD x s)) h'):bR PG aJf #[wv x,.string (tx s)] h k:=by
 apply aKK.call;unfold aKK;refine aVg λh2 u2=>?_;intro r3 hr3
 try rw[dY]
 refine gL.fill hr3 aGc aOU λh4 B4 u4=>?_;have e4:=u2.trans u4;have ls:dE PG (Builtin.len_ #[aT] aR #[.string (tx s)])=some (.int .i64 (s.length:Int)):=by rw[vP aT.und,mF]
 simp only[ls,dF,reduceIte,dM,Nat.reduceAdd];refine⟨λvs h'=>∃i:Nat,i≤s.length∧vs=[wv (tD x (s.take i)),.string (tx s),pT r3 0,.int .i64 (s.length:Int),.int .i64 (i:Int)]∧h'=h4,gT s.length 4,⟨0,by omega,rfl,rfl⟩,?_⟩;rintro ρ h' ⟨i,hi,hvs,rfl⟩;simp only[jF,kF,lT,and_true] at hvs;obtain⟨x0,x1,x5,x9,x10⟩:=hvs;unfold aLz;rw[x0,x1,x5,x9,x10];by_cases hlt:i<s.length
 ·have g:((i:Int)<(s.length:Int))=True:=eq_true (by omega);have gi:=oM (i:=i) (by omega);obtain⟨b,hb⟩:∃b,s[i]? =some b:=⟨_,lG hlt⟩;have ib:dE PG (Instr.index aT (.string (tx s)) (.int .i64 (i:Int)))=some (.int .u8 b.toNat):=oZ aT.und hb;have et:tD x (s.take (i+1))=aJl (tD x (s.take i)) b:=by
   unfold tD;rw[zLR,hb,List.foldl_append];rfl
  have ha:=aVw (k:=.u8) (b:=r3) (j:=((UInt8.ofNat (tD x (s.take i)).toNat) ^^^ b).toNat) (UInt8.toNat_lt _);have hc:eA h' ⟨r3,((UInt8.ofNat (tD x (s.take i)).toNat) ^^^ b).toNat,none⟩=some (wv (aGA ((UInt8.ofNat (tD x (s.take i)).toNat) ^^^ b).toNat)):=by rw[B4.cell,aWD (UInt8.toNat_lt _)]
  simp only[g,aY4,aVq,ib,aY6,ha,gP.load,hc,aO9,gi,dF,reduceIte,dM,Nat.reduceAdd];rw[show((tD x (s.take i))>>>8 ^^^ aGA ((UInt8.ofNat (tD x (s.take i)).toNat) ^^^ b).toNat)=tD x (s.take (i+1)) from et.symm];exact⟨⟨i+1,by omega,rfl,by first|rfl|trivial⟩,by simp[gT,x10];omega⟩
 ·have g:((i:Int)<(s.length:Int))=False:=eq_false (by omega);simp only[g,dF,reduceIte,dM,Nat.reduceAdd];rw[sU (by omega)];exact hk h' e4
def aRS{h:PH}{v:Value}{s:Tx}(S:jE h 1 v [[.string (tx s)]])(hs:s.length≤1000000){k:dI}(hk:∀h',eM h h'->k (wv (aNj s)) h'):bR PG aH9 #[v] h k:=by
 apply aLu.call;unfold aLu;have lv:dE PG (Builtin.len_ #[eB] aR #[v])=some (.int .i64 1):=S.len (t':=aR) eB.und;simp only[lv,dF,reduceIte,dM,Nat.reduceAdd];refine⟨λvs h'=>∃i:Nat,i≤1∧vs=[wv (if i=0 then 4294967295 else tD 4294967295 s),v,.int .i64 1,.int .i64 (i:Int)]∧eM h h',gT 1 3,⟨0,by omega,rfl,eH.refl⟩,?_⟩;rintro ρ h' ⟨i,hi,hvs,w⟩;simp only[jF,kF,lT,and_true] at hvs;obtain⟨x3,x6,x7,x8⟩:=hvs;unfold aM6;rw[x3,x6,x7,x8];have:i=0∨i=1:=by omega
 rcases this with rfl|rfl
 ·have g:(((0:Nat):Int)<1)=True:=eq_true (by decide);obtain⟨a',j1,j2⟩:=aGH (l:=[s]) (i:=0) (S.ext w) rfl;have gi:IntKind.i64.wrap (((0:Nat):Int)+1)=((1:Nat):Int):=rfl;simp only[g,j1,j2,if_true,dF,reduceIte,dM,Nat.reduceAdd];refine aWG _ s hs λh2 u2=>?_;simp only[gi,dF,reduceIte,dM,Nat.reduceAdd];exact⟨⟨1,by omega,rfl,w.trans u2⟩,by simp[gT,x8]⟩
 ·have g:(((1:Nat):Int)<1)=False:=eq_false (by decide);have e:(if (1:Nat)=0 then(4294967295:W) else tD 4294967295 s)=tD 4294967295 s:=rfl;simp only[g,e,aYb,dF,reduceIte,dM,Nat.reduceAdd];exact hk h' w
def aOJ{h:PH}(x:W){k:dI}(hk:∀h',eM h h'->k (.string (tx (aGX x))) h'):bR PG aFN #[wv x] h k:=by
 apply aJN.call;unfold aJN;intro r1 hr1
 try rw[dY]
 have B1:=oO.zbox (h:=h) (r:=r1);have u1:eM h (h.set r1 (.cells (eX PG oO) oO)):=eH.new hr1;generalize h.set r1 (.cells (eX PG oO) oO)=h1 at *;have f1:fX h [r1]:=fX.one hr1;let c:Nat->Value:=λi=>.int .u8 ((UInt8.ofNat (x>>>(8*i)).toNat).toNat:Int);refine⟨λvs h'=>∃i:Nat,i≤4∧vs=[wv x,pT r1 0,.int .i64 (i:Int)]∧Bx h' r1 ((List.range i).map c++List.replicate (4-i) (.int .u8 0))∧eM h h',gT 4 2,⟨0,by omega,rfl,B1,u1⟩,?_⟩;rintro ρ h' ⟨i,hi,hvs,B,w⟩;simp only[jF,kF,lT,and_true] at hvs;obtain⟨x0,x3,x5⟩:=hvs;unfold aKv;rw[x0,x3,x5];by_cases hlt:i<4
 ·have g:((i:Int)<4)=True:=eq_true (by omega);have gi:=oM (i:=i) (by omega);have gm:IntKind.i64.wrap (8*(i:Int))=((8*i:Nat):Int):=by rw[fW (by omega) (by omega)];omega
  have hsh:dE PG (binOp .shr gP (wv x) (.int .i64 ((8*i:Nat):Int)))=some (wv (x>>>(8*i))):=aSP (by omega);simp only[g,oQ,gm,hsh,aVq,aZA hlt,gi,dF,reduceIte,dM,Nat.reduceAdd];refine eZ.put B (by simp;omega) rfl λh2 B2 u2=>?_;have es:((List.range i).map c++List.replicate (4-i) (Value.int .u8 0)).set i (.int .u8 ((UInt8.ofNat (x>>>(8*i)).toNat).toNat:Int))=(List.range (i+1)).map c++List.replicate (4-(i+1)) (Value.int .u8 0):=by
   rw[List.set_append,if_neg (by rw[jJ,List.length_range];omega),jJ,List.length_range,aJS];obtain⟨m,hm⟩:∃m,4-i=m+1:=⟨4-i-1,by omega⟩;rw[hm,List.replicate_succ,List.set_cons_zero,show 4-(i+1)=m by omega,List.range_succ,xX,xN];rfl
  rw[es] at B2;exact⟨⟨i+1,by omega,rfl,B2,w.fresh u2 f1⟩,by simp[gT,x5];omega⟩
 ·have g:((i:Int)<4)=False:=eq_false (by omega);obtain rfl:i=4:=by omega
  have es:(List.range 4).map c++List.replicate (4-4) (Value.int .u8 0)=((aGX x).map lA).flatten:=by
   show [c 0,c 1,c 2,c 3]=_;unfold aGX;simp[lA,c]
  rw[es] at B;obtain⟨e,hb⟩:=B;have O:fY h' e 1 (.slice (some ⟨r1,0,none⟩) 4 4) ((aGX x).map lA) [r1]:=fY.lit (n:=4) (λr hr=>by obtain⟨m,_,rfl⟩:=rS.1 hr;rfl) hb rfl (by decide) rfl;have sl:dE PG (Instr.sliceAt oO (pT r1 0) none none none)=some (.slice (some ⟨r1,0,none⟩) 4 4):=by kernel_rfl
  have hcv:dH PG h' (convert eJ aT (.slice (some ⟨r1,0,none⟩) 4 4))=some (.string (tx (aGX x))):=aFm eJ.und eZ.und aT.und O.slR;simp only[g,sl,hcv,dF,reduceIte,dM,Nat.reduceAdd];exact hk h' w
def aGo(a:ByteArray):lH PG (buildSlice eB 1 #[(0,.string a)])=some (.cells #[.string a] aT,λr=>pure (.slice (some ⟨r,0,none⟩) 1 1)):=by kernel_rfl
def aGi{h:PH}{r:Nat}(s:Tx):fY (h.set r (.cells #[.string (tx s)] aT)) aT 1 (.slice (some ⟨r,0,none⟩) 1 1) [[.string (tx s)]] [r]:=fY.lit (n:=1) (λr hr=>by simp only[jI] at hr;rw[hr];rfl) gB rfl (by decide) rfl
def aQ0{h:PH}(s:Tx)(hs:s.length≤1000000){k:dI}(hk:∀h',eM h h'->k (.string (tx (oI s))) h'):bR PG aGn #[.string (tx s)] h k:=by
 apply aKD.call;unfold aKD;simp only[aGo,jQ,zPP];intro r1 hr1;refine jC ?_
 try rw[dY]
 have u1:eM h (h.set r1 (.cells #[.string (tx s)] aT)):=eH.new hr1;refine aRS (aGi s).slR hs λh2 u2=>?_;refine aOJ _ λh3 u3=>?_;have ea:dE PG (binOp .add aT (.string (tx s)) (.string (tx (aGX (aNj s)))))=some (.string (tx (oI s))):=kZ (by show s.length+4≤_;omega);simp only[ea,dF,reduceIte,dM,Nat.reduceAdd];exact hk h3 ((u1.trans u2).trans u3)
def aQO{h:PH}(s:Tx)(hs:s.length≤1000000){k:dI}(hk:∀h',eM h h'->k (.bool (pH s)) h'):bR PG aFg #[.string (tx s)] h k:=by
 apply aFJ.call;unfold aFJ;have ls:dE PG (Builtin.len_ #[aT] aR #[.string (tx s)])=some (.int .i64 (s.length:Int)):=by rw[vP aT.und,mF]
 have gs:IntKind.i64.wrap ((s.length:Int)-4)=(s.length:Int)-4:=fW (by omega) (by omega);by_cases h4:4≤s.length
 ·have g:((0:Int)≤(s.length:Int)-4)=True:=eq_true (by omega);have e4:(s.length:Int)-4=((s.length-4:Nat):Int):=by omega
  have c1:dE PG (Instr.sliceAt aT (.string (tx s)) none (some (.int .i64 ((s.length-4:Nat):Int))) none)=some (.string (tx (s.take (s.length-4)))):=by
   have:=lE (P:=PG) (t:=aT) (l:=s) (i:=0) (j:=s.length-4) (lo:=none) (hi:=some (.int .i64 ((s.length-4:Nat):Int))) aT.und (.inl ⟨rfl,rfl⟩) (.inr ⟨_,rfl⟩) (by omega) (by omega);rw[this,zLb]
  have c2:dE PG (Instr.sliceAt aT (.string (tx s)) (some (.int .i64 ((s.length-4:Nat):Int))) none none)=some (.string (tx (s.drop (s.length-4)))):=by
   have:=lE (P:=PG) (t:=aT) (l:=s) (i:=s.length-4) (j:=s.length) (lo:=some (.int .i64 ((s.length-4:Nat):Int))) (hi:=none) aT.und (.inr ⟨_,rfl⟩) (.inl ⟨rfl,rfl⟩) (by omega) (by omega);rw[this,zLJ]
  have gs':IntKind.i64.wrap ((s.length-4:Nat):Int)=((s.length-4:Nat):Int):=fW (by omega) (by omega);have g':((0:Int)≤((s.length-4:Nat):Int))=True:=eq_true (by omega);simp only[ls,e4,gs',g',c1,c2,aGo,dF,reduceIte,dM,Nat.reduceAdd];intro r1 hr1;refine jC ?_
  try rw[dY]
  have u1:eM h (h.set r1 (.cells #[.string (tx (s.take (s.length-4)))] aT)):=eH.new hr1
  try simp only[dF,reduceIte,dM,Nat.reduceAdd]
  refine aRS (aGi _).slR (by rw[mT];omega) λh2 u2=>?_
  try simp only[dF,reduceIte,dM,Nat.reduceAdd]
  refine aOJ _ λh3 u3=>?_;have ed:decide (aGX (aNj (s.take (s.length-4)))=s.drop (s.length-4))=pH s:=by
   unfold pH;rw[yA,decide_eq_true_iff,decide_eq_true_iff];exact⟨λh=>⟨h4,h⟩,λh=>h.2⟩
  simp only[aFs,ed,dF,reduceIte,dM,Nat.reduceAdd];exact hk h3 ((u1.trans u2).trans u3)
 ·have g:((0:Int)≤(s.length:Int)-4)=False:=eq_false (by omega);have ed:pH s=false:=by
   unfold pH;simp[h4]
  rw[ed] at hk;simp only[ls,gs,g,dF,reduceIte,dM,Nat.reduceAdd];exact hk h eH.refl
end
end Go.Proofs.YtiohehjhlghikaaGreatDoor
