/- The texts of this claim, put together. -/
import Derived.Test.YtppgkeodaejgcaaGreatDoorSnOVC6
import Derived.Shelf.SlSortCmp.NoneTotal
set_option linter.all false
set_option maxRecDepth 100000
open Go.Instr (loadAt fieldAt indexAt extract buildSlice build)
namespace Go.Proofs.YtppgkeodaejgcaaGreatDoor
section
open Go Go.Sort Go.Shelf
def aPY{α:Type}[Inhabited α](enc:α->List Value)(k:Nat)(hk0:0<k)(hlen:∀x,(enc x).length=k)(l:List α):(l.map enc).flatten=(flatK enc k l.toArray).toList:=by
 have hr:Rows k (l.map enc):=λr hr=>by obtain⟨x,_,rfl⟩:=mG.1 hr;exact hlen x
 apply List.ext_getElem?;intro j;have hfl:(l.map enc).flatten.length=l.length*k:=by rw[hr.flat,jB]
 by_cases hj:j<l.length*k
 ·have hi:j/k<l.length:=(Nat.div_lt_iff_lt_mul hk0).2 hj;have hat:=hr.at (i:=j/k) (r:=enc l[j/k]) (by simp[hi]);have hc:j%k<k:=zLB _ hk0;have e1:(l.map enc).flatten[j]? =(enc l[j/k])[j%k]?:=by
   rw[←hat,aJb,if_pos hc,aNo];congr 1;rw[zLS];exact(Nat.div_add_mod j k).symm
  have hs:j<(flatK enc k l.toArray).size:=by rw[size_flatK];exact hj
  have hg:=get_flatK enc k l.toArray j (by simpa using hj);rw[getElem!_pos _ j hs] at hg;have hle:j%k<(enc l[j/k]).length:=by rw[hlen];exact hc
  have hx:l.toArray[j/k]! =l[j/k]:=by rw[getElem!_pos l.toArray (j/k) (by simpa using hi)];rfl
  have e2:(flatK enc k l.toArray).toList[j]? =(flatK enc k l.toArray)[j]?:=by simp
  rw[e1,e2,Array.getElem?_eq_getElem hs,hg,hx,lU hle,getElem!_pos (enc l[j/k]) (j%k) hle]
 ·rw[List.getElem?_eq_none (by omega),aLY,Array.getElem?_eq_none (by simp;omega)]
def aQC(F c:Array Value)(hle:F.size≤c.size):(putCells id 0 F c).toList.take F.size=F.toList:=by
 apply List.ext_getElem?;intro j;rw[aJb,aLY,aLY];by_cases hj:j<F.size
 ·rw[if_pos hj];simp only[putCells,Array.getElem?_mapIdx,fO,aG9,true_and,Nat.sub_zero,hj,if_true,id];rw[Array.getElem?_eq_getElem (by omega),Array.getElem?_eq_getElem hj,getElem!_pos F j hj];rfl
 ·rw[if_neg hj,Array.getElem?_eq_none (by omega)]
def aVf{w w':World}(os:w'.os=w.os)(tape:w'.tape=w.tape)(output:w'.output=w.output)(drawn:w.drawn≤w'.drawn)(size:w.heap.size≤w'.heap.size)(far:∀b,b<w.heap.size->w'.heap[b]? =w.heap[b]?):
  ∃q os',w'=grow (w.drewN q) os':=by
 refine⟨w'.drawn-w.drawn,w'.heap.extract w.heap.size w'.heap.size,?_⟩;cases w with|mk heap tp dr o ou=>cases w' with|mk heap' tp' dr' o' ou'=>
 simp only at *;subst os tape output;unfold grow World.drewN;simp only[World.mk.injEq,and_true,true_and];refine⟨?_,by omega⟩;apply Array.ext_getElem?;intro i;rw[Array.getElem?_append];split
 ·rename_i hi;exact far i hi
 ·rename_i hi;rw[Array.getElem?_extract];split
  ·congr 1;omega
  ·rw[Array.getElem?_eq_none (by omega)]
def aNM{P:Program}{ρ:Ren}{α:Type}[Inhabited α](L:SlLaysF0.n6 P ρ){f:FuncId}(hf:ρ.f 6=f){k:Nat}(hk0:0<k)(aE:∀w,(isAgg (ρ.t 24)).run P w= .ok true w)(zE:∀w,(Go.sizeOf (ρ.t 24)).run P w= .ok k w)
  (enc:α->List Value) (hlen:∀x,(enc x).length=k) (h1:∀x,∀v∈enc x,v.oneCell'=true) (cf:α->α->Int) (hO:SWO (ltOf cf)) {g:FuncId} (eg:aEd P g=true)
  (hcmp:∀x y,aT P g #[.agg (enc x).toArray,.agg (enc y).toArray] (λ_=>none) λv _=>v= .int .i64 (cf x y)) (hen:aEd P f=true)
  {e:TypeId} {v:Value} {F:List Nat} {l:List α} {h:PH} (H:eO h e k v (l.map enc) F) (hsz:l.length<4611686018427387904) {R:cD}
  (hk:∀(l':List α) h',l'.Perm l->l'.Pairwise (λa b=>ltOf cf b a=false)->eO h' e k v (l'.map enc) F->cT F h h'->R (.tuple #[]) h'):aT P f #[v,.func (.func g) #[] #[]] h R:=by
 subst hf;refine .inl ⟨hen,λw hs=>?_⟩;have heg:∀(args:Array Value) (w:World),(callFunc g args).run P w= .ok (.enter g args) w:=λargs w=>
  cH.run (h:=λ_=>none) (aIu eg) (λ_ _ hb=>by cases hb)
 rcases H.here with⟨hv,hr,hF⟩|⟨b,cap,cs,hv,hF,hb,hle,hcm,hcs,htk⟩
 ·have hl:l=[]:=List.map_eq_nil_iff.1 hr;subst hl hv hF;refine(AnyF.slices_SortFunc_none L none 0 _ w).mono λe1 w' ⟨he,hw⟩=>?_;subst hw;exact⟨_,h,he,hk [] h (List.Perm.refl _) List.Pairwise.nil H cT.refl,hs,Fr.refl _ _⟩
 ·subst hF;have hfl:=aPY enc k hk0 hlen l;have hrl:(l.map enc).length=l.length:=jB _;rw[hrl] at hv hle htk;have hwb:=hs b _ hb;have hblk:b<w.heap.size:=hs.lt hb;have hH:HoldsK enc k w b 0 l.toArray:=by
   intro j hj;have hj':j<l.length*k:=by simpa using hj
   have hc:cs[j]? =some ((flatK enc k l.toArray)[j]!):=by
    have e1:cs.toList[j]? =(l.map enc).flatten[j]?:=by rw[←htk,aJb,if_pos hj']
    rw[aLY] at e1;rw[e1,hfl,aLY,Array.getElem?_eq_getElem hj,getElem!_pos _ j hj]
   constructor
   ·unfold World.cell?;simp only[fO,hwb,zLv];simpa using hc
   ·unfold World.frozen?;simp only[hwb];simp
  have hcm':CmpLays P g #[] enc k cf b 0 l.toArray.size w:=by
   intro m os dk _ x y;have hc:=(hcmp x y).calls eg (sortWorldK enc k w b 0 m dk os) (λ_ _ hb=>by cases hb);refine hc.mono λe1 w' ⟨v1,h1,he,hv1,_,fr⟩=>⟨by rw[he,hv1],aVf fr.os fr.tape fr.output fr.drawn fr.size λi hi=>fr.far i hi rfl⟩
  have hS:=AnyQ.slices_SortFunc L k aE zE enc hlen h1 cf hO g #[] b 0 cap l.toArray w heg hcm' hH hblk (by simpa using hsz);subst hv;have hz:l.toArray.size=l.length:=by simp
  rw[hz] at hS;refine hS.mono λe1 w' ⟨he,d',n,os,hp,hso,hw⟩=>?_;obtain⟨hps,_,hpp⟩:=hp;have hds:d'.toList.length=l.length:=by simpa using hps
  let c':=putCells id 0 (flatK enc k d') cs;have hmod:∀i,w'.heap[i]? =if i<w.heap.size then(if i=b then some (.cells c' e (0,0)) else w.heap[i]?) else os[i-w.heap.size]?:=by
   intro i;subst hw;show((w.heap.modify b (onCells (putCells id 0 (flatK enc k d'))))++os)[i]? =_;rw[Array.getElem?_append,Array.size_modify,Array.getElem?_modify];by_cases hi:i<w.heap.size
   ·rw[if_pos hi,if_pos hi];by_cases hib:i=b
    ·subst hib;rw[if_pos rfl,if_pos rfl,hwb];rfl
    ·rw[if_neg (Ne.symm hib),if_neg hib]
   ·rw[if_neg hi,if_neg hi]
  have hsub:pV (h.set b (.cells c' e (0,0))) w':=by
   intro i o hi;rw[hmod];unfold PH.set at hi;split at hi
   ·rename_i e1;subst e1;rw[if_pos hblk,if_pos rfl];exact hi
   ·rename_i e1;rw[if_pos (hs.lt hi),if_neg e1];exact hs _ _ hi
  have hfr:Fr h w (h.set b (.cells c' e (0,0))) w':=by
   subst hw;refine⟨rfl,rfl,rfl,?_,?_,λi hi hn=>?_,λi hi hn=>?_⟩
   ·show w.drawn≤w.drawn+n;omega
   ·show w.heap.size≤((w.heap.modify b _)++os).size;simp
   ·rw[hmod,if_pos hi,if_neg (λe1=>by subst e1;rw[hb] at hn;cases hn)]
   ·rw[qL (λe1=>by subst e1;rw[hb] at hn;cases hn)];exact hn
  refine⟨_,_,he,hk d'.toList _ ?_ ?_ ⟨λr hr=>?_,.inr ⟨b,cap,c',?_,rfl,dJ,?_,hcm,?_,?_⟩⟩ (cT.set (by simp)),hsub,hfr⟩
  ·have e1:d'.extract 0 l.length=d':=by rw[←hz,←hps];simp
   have e2:l.toArray.extract 0 l.length=l.toArray:=by rw[←hz];simp
   rw[e1,e2] at hpp;simpa using hpp
  ·rw[List.pairwise_iff_getElem];intro i j hi hj hij;have:=hso i j (aG9 _) hij (by rw[←hz,←hps];simpa using hj);rw[getElem!_pos d' i (by simpa using hi),getElem!_pos d' j (by simpa using hj)] at this;simpa using this
  ·obtain⟨x,_,rfl⟩:=mG.1 hr;exact hlen x
  ·rw[jB,hds]
  ·rw[jB,hds];exact hle
  ·show(putCells id 0 (flatK enc k d') cs).size=_;unfold putCells;rw[Array.size_mapIdx];exact hcs
  ·rw[jB,hds];have hfd:=aPY enc k hk0 hlen d'.toList;rw[hfd];have hsz2:(flatK enc k d').size=l.length*k:=by rw[size_flatK,hps,hz]
   have:=aQC (flatK enc k d') cs (by rw[hsz2,hcs];exact zLP _ hle);rw[hsz2] at this;simpa using this
end
section
open Go Go.Shelf
def aKM:Go.Shelf.Ren:=⟨fun|6=>65|15=>128|14=>127|28=>202|29=>203|20=>194|21=>195|22=>196|23=>197|24=>198|25=>199|26=>200|27=>201|46=>252|47=>253|48=>254|49=>255|50=>256|57=>290|n=>n,fun|22=>65|24=>130|25=>147|3=>3|39=>54|0=>0|53=>246|55=>22|4=>4|46=>299|45=>298|50=>127|5=>5|9=>9|66=>342|70=>345|76=>383|77=>384|n=>n,fun|n=>n⟩
def aXq:Go.Proofs.SlLaysF0.n6 Tryz.prog aKM:={
 mixed:=by kernel_rfl
 f6:=⟨Tryz.f65.name,by decide,Tryz.func65.trans (congrArg some (by kernel_rfl))⟩
 f14:=⟨Tryz.f127.name,by decide,Tryz.func127.trans (congrArg some (by kernel_rfl))⟩
 f15:=Tryz.func128.trans (congrArg some (by kernel_rfl))
 f20:=⟨Tryz.f194.name,by decide,Tryz.func194.trans (congrArg some (by kernel_rfl))⟩
 f21:=⟨Tryz.f195.name,by decide,Tryz.func195.trans (congrArg some (by kernel_rfl))⟩
 f22:=⟨Tryz.f196.name,by decide,Tryz.func196.trans (congrArg some (by kernel_rfl))⟩
 f23:=⟨Tryz.f197.name,by decide,Tryz.func197.trans (congrArg some (by kernel_rfl))⟩
 f24:=⟨Tryz.f198.name,by decide,Tryz.func198.trans (congrArg some (by kernel_rfl))⟩
 f25:=⟨Tryz.f199.name,by decide,Tryz.func199.trans (congrArg some (by kernel_rfl))⟩
 f26:=⟨Tryz.f200.name,by decide,Tryz.func200.trans (congrArg some (by kernel_rfl))⟩
 f27:=⟨Tryz.f201.name,by decide,Tryz.func201.trans (congrArg some (by kernel_rfl))⟩
 f28:=Tryz.func202.trans (congrArg some (by kernel_rfl))
 f29:=Tryz.func203.trans (congrArg some (by kernel_rfl))
 f46:=⟨Tryz.f252.name,by decide,Tryz.func252.trans (congrArg some (by kernel_rfl))⟩
 f47:=Tryz.func253.trans (congrArg some (by kernel_rfl))
 f48:=Tryz.func254.trans (congrArg some (by kernel_rfl))
 f49:=⟨Tryz.f255.name,by decide,Tryz.func255.trans (congrArg some (by kernel_rfl))⟩
 f50:=⟨Tryz.f256.name,by decide,Tryz.func256.trans (congrArg some (by kernel_rfl))⟩
 f57:=⟨Tryz.f290.name,by decide,Tryz.func290.trans (congrArg some (by kernel_rfl))⟩
 t0:=Tryz.underlying0
 a0:=Tryz.isAgg0
 z0:=Tryz.sizeOf0
 v0:=Tryz.zeroValue0
 t3:=Tryz.underlying3
 a3:=Tryz.isAgg3
 z3:=Tryz.sizeOf3
 v3:=Tryz.zeroValue3
 t4:=Tryz.underlying4
 a4:=Tryz.isAgg4
 z4:=Tryz.sizeOf4
 v4:=Tryz.zeroValue4
 t5:=Tryz.underlying5
 a5:=Tryz.isAgg5
 z5:=Tryz.sizeOf5
 v5:=Tryz.zeroValue5
 t9:=Tryz.underlying9
 a9:=Tryz.isAgg9
 z9:=Tryz.sizeOf9
 v9:=Tryz.zeroValue9
 t22:=Tryz.underlying65
 a22:=Tryz.isAgg65
 z22:=Tryz.sizeOf65
 v22:=Tryz.zeroValue65
 t25:=Tryz.underlying147
 a25:=Tryz.isAgg147
 z25:=Tryz.sizeOf147
 v25:=Tryz.zeroValue147
 t39:=Tryz.underlying54
 a39:=Tryz.isAgg54
 z39:=Tryz.sizeOf54
 v39:=Tryz.zeroValue54
 t45:=Tryz.underlying298
 a45:=Tryz.isAgg298
 z45:=Tryz.sizeOf298
 v45:=Tryz.zeroValue298
 t46:=Tryz.underlying299
 a46:=Tryz.isAgg299
 z46:=Tryz.sizeOf299
 v46:=Tryz.zeroValue299
 t50:=Tryz.underlying127
 a50:=Tryz.isAgg127
 z50:=Tryz.sizeOf127
 v50:=Tryz.zeroValue127
 t53:=Tryz.underlying246
 a53:=Tryz.isAgg246
 z53:=Tryz.sizeOf246
 v53:=Tryz.zeroValue246
 t55:=Tryz.underlying22
 a55:=Tryz.isAgg22
 z55:=Tryz.sizeOf22
 v55:=Tryz.zeroValue22
 t66:=Tryz.underlying342
 a66:=Tryz.isAgg342
 z66:=Tryz.sizeOf342
 v66:=Tryz.zeroValue342
 t70:=Tryz.underlying345
 a70:=Tryz.isAgg345
 z70:=Tryz.sizeOf345
 v70:=Tryz.zeroValue345
 t76:=Tryz.underlying383
 a76:=Tryz.isAgg383
 z76:=Tryz.sizeOf383
 v76:=Tryz.zeroValue383
 t77:=Tryz.underlying384
 a77:=Tryz.isAgg384
 z77:=Tryz.sizeOf384
 v77:=Tryz.zeroValue384}
def aXO(w:World):(isAgg (aKM.t 24)).run PG w= .ok true w:=Tryz.isAgg130 w
def aVz(w:World):(Go.sizeOf (aKM.t 24)).run PG w= .ok 2 w:=Tryz.sizeOf130 w
end
section
open Go Bld Go.Sort Go.Shelf
def cfP(p q:Pr):Int:=if p.k<q.k then -1 else if q.k<p.k then 1 else 0
def aOq{h:PH}{a b:Tx}{k:cD}(hk:k (.int .i64 (if a<b then -1 else if b<a then 1 else 0)) h):aT PG zG #[.string (tx a),.string (tx b)] h k:=by
 apply aBS.call;unfold aBS;apply wY.call;unfold wY;simp only[aFz,decide_true,cE,reduceIte];apply wY.call;unfold wY;simp only[aFz,decide_true,cE,reduceIte];by_cases h1:a<b
 ·rw[if_pos h1] at hk;simp only[yE,h1,cE,reduceIte];exact hk
 ·rw[if_neg h1] at hk;by_cases h2:b<a
  ·rw[if_pos h2] at hk;simp only[yE,aOU,h1,h2,cE,reduceIte];exact hk
  ·rw[if_neg h2] at hk;simp only[yE,aOU,h1,h2,cE,reduceIte];exact hk
def aVU(p q:Pr){h:PH}{k:cD}(hk:∀h',dC h h'->k (.int .i64 (cfP p q)) h'):aT PG rD #[p.val,q.val] h k:=by
 apply aAE.call;unfold aAE;rw[aMw,aMw];intro r1 hr1
 try rw[cW]
 have u1:dC h (h.set r1 (.cells #[.string (tx p.k),.string (tx p.v)] cM)):=cT.new hr1;have a1:(h.set r1 (.cells #[.string (tx p.k),.string (tx p.v)] cM)) r1=some (.cells #[.string (tx p.k),.string (tx p.v)] cM (0,0)):=dJ;generalize h.set r1 (.cells #[.string (tx p.k),.string (tx p.v)] cM)=h1 at *;intro r2 hr2
 try rw[cW]
 have u2:dC h1 (h1.set r2 (.cells #[.string (tx q.k),.string (tx q.v)] cM)):=cT.new hr2;have a2:(h1.set r2 (.cells #[.string (tx q.k),.string (tx q.v)] cM)) r2=some (.cells #[.string (tx q.k),.string (tx q.v)] cM (0,0)):=dJ;generalize h1.set r2 (.cells #[.string (tx q.k),.string (tx q.v)] cM)=h2 at *;have b1:=u2.get a1;have c0:dB h2 ⟨r1,0,none⟩=some (.string (tx p.k)):=by simp[dB,b1]
 have c1:dB h2 ⟨r2,0,none⟩=some (.string (tx q.k)):=by simp[dB,a2]
 simp only[cM.f0,bR.load,c0,c1,cE,reduceIte];exact aOq (hk _ (u1.trans u2))
def aK4(a b:Pr):ltOf cfP a b=decide (a.k<b.k):=by
 unfold ltOf cfP;by_cases h1:a.k<b.k
 ·simp[h1]
 ·by_cases h2:b.k<a.k
  ·simp[h1,h2]
  ·simp[h1,h2]
def aUh{x y z:Tx}(h1:¬x<y)(h2:¬y<z):¬x<z:=by
 intro h;rcases aHc x y with h3|rfl|h3
 ·exact h1 h3
 ·exact h2 h
 ·exact h2 (List.lt_trans h3 h)
def bAO:SWO (ltOf cfP) where
 irrefl x:=by rw[aK4];simp[zL1]
 trans x y z h1 h2:=by
  rw[aK4] at *;simp only[decide_eq_true_eq] at *;exact List.lt_trans h1 h2
 ntrans x y z h1 h2:=by
  rw[aK4] at *;simp only[decide_eq_false_iff_not] at *;exact aUh h1 h2
instance:Inhabited Pr:=⟨⟨[],[]⟩⟩
def aV3{h:PH}{v:Value}{F:List Nat}{l:List Pr}(H:eO h cM 2 v (l.map Pr.cells) F)(hl:l.length≤1000000){k:cD}
  (hk:∀(l':List Pr) h',l'.Perm l->l'.Pairwise (λa b=>¬b.k<a.k)->eO h' cM 2 v (l'.map Pr.cells) F->cT F h h'->k (.tuple #[]) h'):
  aT PG pG #[v,.func (.func rD) #[] #[]] h k:=by
 refine aNM (P:=PG) aXq (f:=pG) rfl (k:=2) (by decide) aXO aVz Pr.cells (λ_=>rfl) (λx v hv=>?_) cfP bAO (g:=rD) (by kernel_rfl)
  (λx y=>aVU x y λh' _=>rfl) (by kernel_rfl) H (by omega) (λl' h' hp hs hO u=>hk l' h' hp ?_ hO u)
 ·simp only[Pr.cells,gU,lH,or_false] at hv;rcases hv with rfl|rfl<;>rfl
 ·refine hs.imp fun {a b} hab=>?_;rw[aK4] at hab;simpa using hab
end
section
open Go Bld
def sK(l:List Pr):Prop:=l.Pairwise λa b=>a.k<b.k
def oP(L:List Pr)(p:Pr):List Pr:=L.filter (λq=>decide (q.k<p.k))++p::L.filter (λq=>decide (p.k<q.k))
def uE(L:List Pr)(k:Tx):List Pr:=L.filter λq=>decide (q.k≠k)
def iI(L:List Pr)(k:Tx):Option Pr:=L.find? λq=>decide (k=q.k)
def sK.irr{L:List Pr}(h:sK L):L.Nodup:=by
 refine List.Pairwise.imp (fun {a b} hab=>?_) h;rintro rfl;exact zL1 _ hab
def sK.keys{L:List Pr}(h:sK L):(L.map Pr.k).Nodup:=by
 unfold List.Nodup;rw[List.pairwise_map];refine List.Pairwise.imp (fun {a b} hab e=>?_) h;rw[e] at hab;exact zL1 _ hab
def sK.ext{A B:List Pr}(ha:sK A)(hb:sK B)(h:∀p,p∈A↔p∈B):A=B:=by
 have hp:A.Perm B:=(List.perm_ext_iff_of_nodup ha.irr hb.irr).2 h;unfold sK at ha hb;exact List.Perm.eq_of_pairwise (le:=λa b:Pr=>a.k<b.k) (λa b _ _ (h1:a.k<b.k) h2=>absurd h2 (List.lt_asymm h1)) ha hb hp
def sK.one{L:List Pr}(h:sK L){p q:Pr}(hp:p∈L)(hq:q∈L)(e:p.k=q.k):p=q:=aEn h.keys hp hq e
def aIA{L:List Pr}{p q:Pr}:q∈oP L p↔q=p∨(q∈L∧q.k≠p.k):=by
 unfold oP;simp only[kA,gU,zL2,decide_eq_true_eq];constructor
 ·rintro(⟨h1,h2⟩|rfl|⟨h1,h2⟩)
  ·exact .inr ⟨h1,λe=>by rw[e] at h2;exact zL1 _ h2⟩
  ·exact .inl rfl
  ·exact .inr ⟨h1,λe=>by rw[e] at h2;exact zL1 _ h2⟩
 ·rintro(rfl|⟨h1,h2⟩)
  ·exact .inr (.inl rfl)
  ·rcases aHc q.k p.k with h|h|h
   ·exact .inl ⟨h1,h⟩
   ·exact absurd h h2
   ·exact .inr (.inr ⟨h1,h⟩)
def aPr{L:List Pr}{k:Tx}{q:Pr}:q∈uE L k↔q∈L∧q.k≠k:=by
 unfold uE;simp[zL2]
def sK.del{L:List Pr}(h:sK L)(k:Tx):sK (uE L k):=List.Pairwise.filter _ h
def sK.set{L:List Pr}(h:sK L)(p:Pr):sK (oP L p):=by
 unfold oP sK;rw[List.pairwise_append,zL3];refine⟨List.Pairwise.filter _ h,⟨λq hq=>?_,List.Pairwise.filter _ h⟩,λa ha b hb=>?_⟩
 ·simpa using(zL2.1 hq).2
 ·have h1:a.k<p.k:=by simpa using(zL2.1 ha).2
  rcases gU.1 hb with rfl|hb
  ·exact h1
  ·have h2:p.k<b.k:=by simpa using(zL2.1 hb).2
   exact List.lt_trans h1 h2
def aE7{L:List Pr}{k:Tx}:iI L k=none↔∀p∈L,p.k≠k:=by
 unfold iI;rw[List.find?_eq_none];simp only[decide_eq_true_eq];exact⟨λh p hp e=>h p hp e.symm,λh p hp e=>h p hp e.symm⟩
def aBd{L:List Pr}(h:sK L){k:Tx}{p:Pr}:iI L k=some p↔p∈L∧p.k=k:=by
 constructor
 ·intro e;have h1:=List.mem_of_find?_eq_some e;have h2:=List.find?_some e;exact⟨h1,by simpa using Eq.symm (by simpa using h2)⟩
 ·rintro⟨h1,h2⟩;cases e:iI L k with
  | none=>exact absurd h2 (aE7.1 e p h1)
  | some q=>
   have h3:=List.mem_of_find?_eq_some e;have h4:k=q.k:=by simpa using List.find?_some e
   rw[h.one h3 h1 (by rw[h2];exact h4.symm)]
def aK5{l L:List Pr}(hp:l.Perm L)(hn:sK L)(k:Tx):iI l k=iI L k:=by
 have hnl:(l.map Pr.k).Nodup:=(hp.map Pr.k).nodup_iff.2 hn.keys;cases e:iI L k with
 | none=>
  rw[aE7] at e ⊢;exact λp h=>e p (hp.mem_iff.1 h)
 | some q=>
  obtain⟨h1,h2⟩:=(aBd hn).1 e;cases e2:iI l k with
  | none=>exact absurd h2 (aE7.1 e2 q (hp.mem_iff.2 h1))
  | some r=>
   have h3:=List.mem_of_find?_eq_some e2;have h4:k=r.k:=by simpa using List.find?_some e2
   rw[aEn hnl h3 (hp.mem_iff.2 h1) (by rw[h2];exact h4.symm)]
def Pr.pr(p:Pr):Tx×Value:=(p.k,sN p.v)
abbrev aPO(h:PH)(m:Nat)(l:List Pr):Prop:=jP sN h m (l.map Pr.pr)
def aV9(l:List Pr)(k:Tx):aBC (l.map Pr.pr) k=(iI l k).map λp=>sN p.v:=by
 unfold aBC iI;rw[List.find?_map,Option.map_map];rfl
def aRv(l:List Pr)(k:Tx):aMX (l.map Pr.pr) k=(uE l k).map Pr.pr:=by
 unfold aMX uE;rw[List.filter_map];rfl
def aXd(l:List Pr):uT (l.map Pr.pr)=l.map Pr.k:=by unfold uT;rw[zL4];rfl
def aPu{l L:List Pr}(hp:l.Perm L)(hs:sK L)(p:Pr):∃l':List Pr,aDe (l.map Pr.pr) p.k (sN p.v)=l'.map Pr.pr∧l'.Perm (oP L p):=by
 have hnl:(l.map Pr.k).Nodup:=(hp.map Pr.k).nodup_iff.2 hs.keys;have hnd:l.Nodup:=aGx Pr.k hnl;unfold aDe;rw[aXd];split
 ·rename_i hm;refine⟨l.map λq=>if q.k=p.k then p else q,?_,?_⟩
  ·rw[zL4,zL4];apply zL5;intro x _;show(if x.k=p.k then(p.k,sN p.v) else(x.k,sN x.v))=Pr.pr (if x.k=p.k then p else x);by_cases hc:x.k=p.k
   ·rw[if_pos hc,if_pos hc];rfl
   ·rw[if_neg hc,if_neg hc];rfl
  ·have hk:(l.map λq=>if q.k=p.k then p else q).map Pr.k=l.map Pr.k:=by
    rw[zL4];apply zL5;intro x _;show(if x.k=p.k then p else x).k=x.k;split
    ·rename_i e;exact e.symm
    ·rfl
   have hn2:(l.map λq=>if q.k=p.k then p else q).Nodup:=aGx Pr.k (by rw[hk];exact hnl);refine(List.perm_ext_iff_of_nodup hn2 (hs.set p).irr).2 λq=>?_;rw[aIA,mG];constructor
   ·rintro⟨x,hx,e⟩;by_cases hc:x.k=p.k
    ·rw[if_pos hc] at e;exact .inl e.symm
    ·rw[if_neg hc] at e;subst e;exact .inr ⟨hp.mem_iff.1 hx,hc⟩
   ·rintro(rfl|⟨h1,h2⟩)
    ·obtain⟨x,hx,e⟩:=mG.1 hm;exact⟨x,hx,by rw[if_pos e]⟩
    ·exact⟨q,hp.mem_iff.2 h1,by rw[if_neg h2]⟩
 ·rename_i hm;refine⟨l++[p],by rw[pY];rfl,?_⟩;have hno:∀x∈l,x.k≠p.k:=λx hx e=>hm (by rw[←e];exact zL8 hx);have hn2:(l++[p]).Nodup:=by
   rw[List.nodup_append];refine⟨hnd,by simp,λa ha b hb e=>?_⟩;simp only[gE] at hb;subst hb;subst e;exact hno _ ha rfl
  refine(List.perm_ext_iff_of_nodup hn2 (hs.set p).irr).2 λq=>?_;rw[aIA,kA,gE];constructor
  ·rintro(h1|rfl)
   ·exact .inr ⟨hp.mem_iff.1 h1,hno q h1⟩
   ·exact .inl rfl
  ·rintro(rfl|⟨h1,h2⟩)
   ·exact .inr rfl
   ·exact .inl (hp.mem_iff.2 h1)
def aHm{h:PH}{m:Nat}{l:List Pr}(hm:aPO h m l)(k:Tx):cH PG h (Instr.lookup dX (.map (some m)) (.string (tx k)) true)=some (.tuple #[.string (tx (((iI l k).map Pr.v).getD [])),.bool (iI l k).isSome]):=by
 have:=aHG aJg dX.und bR.info bR.zero hm k true;rw[aV9] at this;rw[show(.string (tx k):Value)=sN k from rfl,this];cases iI l k<;>rfl
structure St where
 now:List Pr
 blocks:List (List Pr)
 height:Nat
def aCn(s:St)(k v:Tx):St×Int:=
 if k.length<1∨16<k.length∨64<v.length then(s,1) else if iI s.now k=none∧4096≤s.now.length then(s,2) else({s with now:=oP s.now ⟨k,v⟩},0)
def aFY(s:St)(k:Tx):St×Int:=if iI s.now k=none then(s,3) else({s with now:=uE s.now k},0)
def lS(s:St):St×(Nat×Int):=
 if s.height=18446744073709551615 then(s,(0,12)) else if 4096≤s.blocks.length then(s,(0,2)) else({s with blocks:=s.blocks++[s.now],height:=s.height+1},(s.height+1,0))
def yS(s:St)(x:Nat):Option (List Pr):=if s.height<x∨s.blocks.length≤s.height-x then none else s.blocks[s.blocks.length-1-(s.height-x)]?
structure St.Ok(s:St):Prop where
 up:sK s.now
 fit:∀p∈s.now,aPI p
 few:s.now.length≤4096
 blk:∀b∈s.blocks,sK b∧(∀p∈b,aPI p)∧b.length≤4096
 h1:1≤s.blocks.length
 h2:s.blocks.length≤4096
 h3:s.blocks.length-1≤s.height
 h4:s.height<18446744073709551616
end
section
open Go
structure Pf where
 ab:Bool
 lv:List Lf
 deriving DecidableEq
def Pf.zero:Pf:=⟨false,[]⟩
def Lf.okb(f:Lf):Bool:=decide (0≤f.i)&&decide (f.i≤4096)&&decide (0≤f.n)&&decide (f.n≤4096)&&decide (f.p.k.length≤16)&&decide (f.p.v.length≤64)&&decide (f.path.length≤16)&&f.path.all λd=>decide (d.length=32)
structure Lf.Ok(f:Lf):Prop where
 i0:0≤f.i
 i1:f.i≤4096
 n0:0≤f.n
 n1:f.n≤4096
 k:f.p.k.length≤16
 v:f.p.v.length≤64
 m:f.path.length≤16
 d:∀d∈f.path,d.length=32
def Lf.ok_iff{f:Lf}:f.okb=true↔f.Ok:=by
 unfold Lf.okb;simp only[zI,decide_eq_true_eq,aEw];constructor
 ·rintro⟨⟨⟨⟨⟨⟨⟨a,b⟩,c⟩,d⟩,e⟩,g⟩,h⟩,i⟩;exact⟨a,b,c,d,e,g,h,i⟩
 ·rintro⟨a,b,c,d,e,g,h,i⟩;exact⟨⟨⟨⟨⟨⟨⟨a,b⟩,c⟩,d⟩,e⟩,g⟩,h⟩,i⟩
def aGO(f:Lf):Tx:=be f.i.toNat 8++(be f.n.toNat 8++((be f.p.k.length 2++f.p.k)++((be f.p.v.length 2++f.p.v)++(be f.path.length 1++f.path.flatten))))
def lM:List Lf->Tx
 | []=>[]
 | f::l=>aGO f++lM l
def aE1(p:Pf):Tx:=be (if p.ab then 2 else 1) 1++(be p.lv.length 1++lM p.lv)
def lV(p:Pf):Tx×Int:=if p.lv.length≤2∧p.lv.all Lf.okb=true then(aE1 p,0) else([],1)
def kX(st:kW):Nat×kW:=if 4096<(gT st 8).1 then(0,aLH (gT st 8).2 5) else gT st 8
def yR:Nat->kW->List Tx->List Tx×kW
 | 0,st,acc=>(acc,st)
 | n+1,st,acc=>if st.1=0 then yR n (jX st 32).2 (acc++[(jX st 32).1]) else(acc,st)
def aDy(st:kW):Lf×kW:=
 let a:=kX st;let b:=kX a.2;let k:=mU b.2;let v:=mU k.2;let c:=gT v.2 1;let m:=yR c.1 c.2 []
 (⟨(a.1:Int),(b.1:Int),⟨k.1,v.1⟩,m.1⟩,m.2)
def rA(st:kW):Lf×kW:=((aDy st).1,if (aDy st).1.okb then(aDy st).2 else aLH (aDy st).2 5)
def pO:Nat->kW->List Lf->List Lf×kW
 | 0,st,acc=>(acc,st)
 | n+1,st,acc=>pO n (rA st).2 (acc++[(rA st).1])
def iH(s:Tx):Pf×Int:=
 if (gT (0,s) 1).1<1∨2<(gT (0,s) 1).1∨2<(gT (gT (0,s) 1).2 1).1 then(Pf.zero,5)
 else if aMR (pO (gT (gT (0,s) 1).2 1).1 (gT (gT (0,s) 1).2 1).2 []).2≠0 then(Pf.zero,5)
 else(⟨decide ((gT (0,s) 1).1=2),(pO (gT (gT (0,s) 1).2 1).1 (gT (gT (0,s) 1).2 1).2 []).1⟩,0)
def aHy.fwd{α:Type}{R:kW->α×kW}{bs:Tx}{v:α}(h:aHy R bs v)(r:Tx):R (0,bs++r)=(v,(0,r)):=h.all r
def aOb{n:Nat}(hn:n≤4096)(r:Tx):kX (0,be n 8++r)=(n,(0,r)):=by
 unfold kX;rw[(xR (n:=n) (c:=8) (by omega)).fwd r,if_neg (by simp only;omega)]
def aPf:∀(path acc:List Tx) (r:Tx),(∀d∈path,d.length=32)->yR path.length (0,path.flatten++r) acc=(acc++path,(0,r))
 | [],acc,r,_=>by simp[yR]
 | d::path,acc,r,h=>by
  have hd:=h d (by simp);have e:jX (0,d++(path.flatten++r)) 32=(d,(0,path.flatten++r)):=by
   have:=(aI0 d).fwd (path.flatten++r);rw[hd] at this;exact this
  rw[rN,aEg,nK,yR,if_pos rfl,e];simp only;rw[aPf path (acc++[d]) r (λx hx=>h x (by simp[hx])),nK];rfl
def aUf{f:Lf}(h:f.Ok)(r:Tx):rA (0,aGO f++r)=(f,(0,r)):=by
 have e1:aDy (0,aGO f++r)=(f,(0,r)):=by
  obtain⟨i,n,p,path⟩:=f;obtain⟨i0,i1,n0,n1,k,v,m,d⟩:=h;simp only at i0 i1 n0 n1 k v m d;obtain⟨i,rfl⟩:=zLn i0;obtain⟨n,rfl⟩:=zLn n0;unfold aDy aGO;simp only[qP,nK];rw[aOb (by omega)];simp only;rw[aOb (by omega)];simp only;rw[show be p.k.length 2++(p.k++(be p.v.length 2++(p.v++(be path.length 1++(path.flatten++r)))))=(be p.k.length 2++p.k)++(be p.v.length 2++(p.v++(be path.length 1++(path.flatten++r)))) by rw[nK],
   (aHr (l:=p.k) (by omega)).fwd]
  simp only;rw[show be p.v.length 2++(p.v++(be path.length 1++(path.flatten++r)))=(be p.v.length 2++p.v)++(be path.length 1++(path.flatten++r)) by rw[nK],
   (aHr (l:=p.v) (by omega)).fwd]
  simp only;rw[(xR (n:=path.length) (c:=1) (by omega)).fwd];simp only;rw[aPf path [] r d];rfl
 unfold rA;rw[e1,if_pos (Lf.ok_iff.2 h)]
def aNR:∀(l acc:List Lf) (r:Tx),(∀f∈l,f.Ok)->pO l.length (0,lM l++r) acc=(acc++l,(0,r))
 | [],acc,r,_=>by simp[pO,lM]
 | f::l,acc,r,h=>by
  rw[rN,lM,nK,pO,aUf (h f (by simp))];simp only;rw[aNR l (acc++[f]) r (λx hx=>h x (by simp[hx])),nK];rfl
def aWD{p:Pf}(h2:p.lv.length≤2)(h:∀f∈p.lv,f.Ok):iH (aE1 p)=(p,0):=by
 have e1:gT (0,aE1 p) 1=((if p.ab then 2 else 1),(0,be p.lv.length 1++lM p.lv)):=by
  unfold aE1;exact(xR (n:=if p.ab then 2 else 1) (c:=1) (by split<;>decide)).fwd _
 have e2:gT (0,be p.lv.length 1++lM p.lv) 1=(p.lv.length,(0,lM p.lv)):=(xR (n:=p.lv.length) (c:=1) (by omega)).fwd _;have e3:pO p.lv.length (0,lM p.lv) []=(p.lv,(0,[])):=by
  have:=aNR p.lv [] [] h;rw[zLQ,uL] at this;exact this
 unfold iH;rw[e1];simp only;rw[e2];simp only;rw[e3,if_neg (by cases p.ab<;>simp<;>omega),if_neg (by simp[aMR])];obtain⟨ab,lv⟩:=p;cases ab<;>rfl
def hQ(l:List Pr)(k:Tx):Nat:=(l.filter λq=>decide (q.k<k)).length
def kQ(l:List Pr)(j:Nat):Lf:=⟨(j:Int),(l.length:Int),l.getD j ⟨[],[]⟩,oN l j⟩
def lC(l:List Pr)(k:Tx):Pf:=
 if (iI l k).isSome then⟨false,[kQ l (hQ l k)]⟩
 else if l=[] then⟨true,[]⟩ else if hQ l k=0 then⟨true,[kQ l 0]⟩ else if hQ l k=l.length then⟨true,[kQ l (l.length-1)]⟩ else⟨true,[kQ l (hQ l k-1),kQ l (hQ l k)]⟩
def oV(root:Tx)(l:List Lf):Bool:=l.all λf=>qH f==some root
def aDz(root s k v:Tx):Bool:=
 (iH s).2==0 && !(iH s).1.ab&&(match (iH s).1.lv with|[f]=>f.p==⟨k,v⟩|_=>false)&&oV root (iH s).1.lv
def aEh(root s k:Tx):Bool:=
 (iH s).2==0&&(iH s).1.ab&&decide (1≤k.length)&&decide (k.length≤16)&&oV root (iH s).1.lv&&(match (iH s).1.lv with
  | []=>root==oC []
  | [f]=>(f.i==0&&decide (k<f.p.k))||(f.i==IntKind.i64.wrap (f.n-1)&&decide (f.p.k<k))
  | f::g::_=>f.n==g.n&&(IntKind.i64.wrap (f.i+1)==g.i)&&decide (f.p.k<k)&&decide (k<g.p.k))
def aGL{k:Tx}:∀{l:List Pr},sK l->∀{j:Nat} {x:Pr},l[j]? =some x->(j<hQ l k↔x.k<k)
 | [],_,j,x,h=>by simp at h
 | a::l,hs,j,x,h=>by
  unfold sK at hs;rw[zL3] at hs;by_cases ha:a.k<k
  ·have e:hQ (a::l) k=hQ l k+1:=by unfold hQ;rw[List.filter_cons_of_pos (by simpa using ha)];rfl
   rw[e];cases j with
   | zero=>
    simp only[pU,zL9] at h;subst h;exact⟨λ_=>ha,λ_=>by omega⟩
   | succ j=>
    rw[rZ] at h;rw[Nat.add_lt_add_iff_right];exact aGL hs.2 h
  ·have hn:∀y∈l,¬y.k<k:=λy hy h'=>ha (List.lt_trans (hs.1 y hy) h');have e:hQ (a::l) k=0:=by
    unfold hQ;rw[List.filter_cons_of_neg (by simpa using ha),List.filter_eq_nil_iff.2 (λy hy=>by simpa using hn y hy)];rfl
   rw[e];have hx:¬x.k<k:=by
    cases j with
    | zero=>
     simp only[pU,zL9] at h;subst h;exact ha
    | succ j=>
     rw[rZ] at h;exact hn x (vR h)
   exact⟨λc=>by omega,λc=>absurd c hx⟩
def aJQ(l:List Pr)(k:Tx):hQ l k≤l.length:=aNr _ _
def sK.lt{l:List Pr}(h:sK l){i j:Nat}{x y:Pr}(hx:l[i]? =some x)(hy:l[j]? =some y)(hij:i<j):x.k<y.k:=by
 obtain⟨h1,e1⟩:=zLA.1 hx;obtain⟨h2,e2⟩:=zLA.1 hy;have:=List.pairwise_iff_getElem.1 h i j h1 h2 hij;rw[e1,e2] at this;exact this
def aMG{l:List Pr}(hs:sK l){k:Tx}{p:Pr}(hg:iI l k=some p):l[hQ l k]? =some p:=by
 obtain⟨hm,hk⟩:=(aBd hs).1 hg;obtain⟨j,hj⟩:=List.mem_iff_getElem?.1 hm;have h1:¬j<hQ l k:=λc=>by
  have:=(aGL hs hj).1 c;rw[hk] at this;exact zL1 _ this
 have hjl:=(zLA.1 hj).1;have h2:¬hQ l k<j:=λc=>by
  obtain⟨x,hx⟩:∃x,l[hQ l k]? =some x:=⟨_,lU (by omega)⟩;have h3:=hs.lt hx hj c;rw[hk] at h3;have:=(aGL hs hx).2 h3;omega
 have:hQ l k=j:=by omega
 rw[this];exact hj
structure MOk(l:List Pr):Prop where
 up:sK l
 len:l.length≤4096
 k:∀p∈l,p.k.length≤16
 v:∀p∈l,p.v.length≤64
def aL1{l:List Pr}{j:Nat}{p:Pr}(hj:l[j]? =some p):kQ l j=⟨(j:Int),(l.length:Int),p,oN l j⟩:=by
 unfold kQ;rw[aA7,hj];rfl
def aUq{l:List Pr}(H:MOk l){j:Nat}(hj:j<l.length):(kQ l j).Ok:=by
 have e:l[j]? =some l[j]:=lU hj;rw[aL1 e];have hm:l[j]∈l:=aMD hj;have hl:=H.len;exact⟨by simp,by simp only;omega,by simp,by simp only;omega,H.k _ hm,H.v _ hm,by
  have:=aFK 12 l j (by omega);simp only;omega,λd hd=>aT5 _ l j rfl d hd⟩
def aPb{l:List Pr}(H:MOk l)(k:Tx):(lC l k).lv.length≤2∧∀f∈(lC l k).lv,∃j,j<l.length∧f=kQ l j:=by
 have hp:=aJQ l k;unfold lC;by_cases hg:(iI l k).isSome=true
 ·obtain⟨p,hgp⟩:=Option.isSome_iff_exists.1 hg;have:=(zLA.1 (aMG H.up hgp)).1;rw[if_pos hg];exact⟨by simp,λf hf=>⟨_,this,by simpa using hf⟩⟩
 ·rw[if_neg hg];by_cases h0:l=[]
  ·rw[if_pos h0];exact⟨by simp,by simp⟩
  ·rw[if_neg h0];have hpos:=aHd.2 h0;by_cases h1:hQ l k=0
   ·rw[if_pos h1];exact⟨by simp,λf hf=>⟨0,hpos,by simpa using hf⟩⟩
   ·rw[if_neg h1];by_cases h2:hQ l k=l.length
    ·rw[if_pos h2];exact⟨by simp,λf hf=>⟨l.length-1,by omega,by simpa using hf⟩⟩
    ·rw[if_neg h2];refine⟨by simp,λf hf=>?_⟩;simp only[gU,lH,or_false] at hf;rcases hf with rfl|rfl
     ·exact⟨hQ l k-1,by omega,rfl⟩
     ·exact⟨hQ l k,by omega,rfl⟩
abbrev LV:=Lf×Value
def qI(y:LV):List Value:=y.1.cells y.2
def LfS(h:PH)(l:List LV):Prop:=∀y∈l,gB h 1 y.2 (y.1.path.map jK)
def LfS.ext{h h':PH}{l:List LV}(H:LfS h l)(u:dC h h'):LfS h' l:=λy hy=>(H y hy).ext u
def aWz{h:PH}{x fv:Value}{xs:List Tx}{f:Tx->Bool}(hx:gB h 1 x (xs.map jK))(hl:xs.length≤1000000)
  (hf:∀p∈xs,∀h',dC h h'->∀k':Value->PH->Prop,(∀h'',dC h' h''->k' (.bool (f p)) h'')->rK PG fv #[.string (tx p)] h' k') {k:cD}
  (hk:∀h',dC h h'->k (.bool (xs.any f)) h'):aT PG pJ #[x,fv] h k:=by
 have lx:=hx.len (t':=bT) cP.und;rw[jB] at lx;apply nJ.call;unfold nJ;apply oK.call;unfold oK;simp only[lx,cE,reduceIte];refine⟨λvs h'=>∃i:Nat,i≤xs.length∧vs=[x,fv,.int .i64 xs.length,.int .i64 i]∧dC h h'∧∀p∈xs.take i,f p=false,gV xs.length 3,⟨0,by omega,rfl,cT.refl,by simp⟩,?_⟩;rintro ρ h' ⟨i,hi,hvs,w,hq⟩;simp only[iJ,iZ,lP,and_true] at hvs;obtain⟨e0,e1,e2,e5⟩:=hvs;rw[e0,e1,e2,e5];unfold xZ;by_cases hlt:i<xs.length
 ·have hd:((i:Int)<(xs.length:Int))=True:=by apply eq_true;omega
  obtain⟨m,hm⟩:∃m,xs[i]? =some m:=⟨_,lU hlt⟩;obtain⟨a,a1,a2⟩:=(hx.ext w).loadCell cP.und bR.info bR.size bR.und rfl (k:=.i64) (j:=(i:Int)) (x:=.string (tx m)) (by omega) (by rw[qP,wK,hm];rfl);have ei:=qQ (i:=i) (by omega);simp only[hd,a1,a2,cE,reduceIte];refine hf m (vR hm) _ w _ λh2 u2=>?_;cases c:f m with
  | true=>
   have h0:(0≤(i:Int))=True:=by apply eq_true;omega
   have hin:xs.any f=true:=List.any_eq_true.2 ⟨m,vR hm,c⟩;have:=hk _ (w.trans u2);rw[hin] at this;simp only[h0,cE,reduceIte];exact this
  | false=>
   simp only[ei,cE,reduceIte];refine⟨⟨i+1,by omega,rfl,w.trans u2,?_⟩,by simp[gV,e5];omega⟩;intro p hp;rw[zLU,hm] at hp;rcases kA.1 hp with hp|hp
   ·exact hq p hp
   ·simp at hp;subst hp;exact c
 ·have hd:((i:Int)<(xs.length:Int))=False:=by apply eq_false;omega
  have h0:(0≤(-1:Int))=False:=by apply eq_false;omega
  rw[mX (by omega)] at hq;have hin:xs.any f=false:=by
   rw[List.any_eq_false];intro p hp;simp[hq p hp]
  have:=hk _ w;rw[hin] at this;simp only[hd,h0,cE,reduceIte];exact this
def aRt{h:PH}{x fv:Value}{xs:List LV}{f:LV->Bool}(hx:gB h 5 x (xs.map qI))(hl:xs.length≤1000000)
  (hf:∀p∈xs,∀h',dC h h'->∀k':Value->PH->Prop,(∀h'',dC h' h''->k' (.bool (f p)) h'')->rK PG fv #[p.1.val p.2] h' k') {k:cD}
  (hk:∀h',dC h h'->k (.bool (xs.any f)) h'):aT PG mA #[x,fv] h k:=by
 have lx:=hx.len (t':=bT) cN.und;rw[jB] at lx;apply mK.call;unfold mK;apply nA.call;unfold nA;simp only[lx,cE,reduceIte];refine⟨λvs h'=>∃i:Nat,i≤xs.length∧vs=[x,fv,.int .i64 xs.length,.int .i64 i]∧dC h h'∧∀p∈xs.take i,f p=false,gV xs.length 3,⟨0,by omega,rfl,cT.refl,by simp⟩,?_⟩;rintro ρ h' ⟨i,hi,hvs,w,hq⟩;simp only[iJ,iZ,lP,and_true] at hvs;obtain⟨e0,e1,e2,e5⟩:=hvs;rw[e0,e1,e2,e5];unfold uM;by_cases hlt:i<xs.length
 ·have hd:((i:Int)<(xs.length:Int))=True:=by apply eq_true;omega
  obtain⟨m,hm⟩:∃m,xs[i]? =some m:=⟨_,lU hlt⟩;obtain⟨a,a1,a2⟩:=(hx.ext w).loadAgg cN.und cB.info cB.size cB.und rfl (k:=.i64) (j:=(i:Int)) (r:=qI m) (by omega) (by rw[qP,wK,hm];rfl);have ei:=qQ (i:=i) (by omega);simp only[hd,a1,a2,cE,reduceIte];refine hf m (vR hm) _ w _ λh2 u2=>?_;cases c:f m with
  | true=>
   have h0:(0≤(i:Int))=True:=by apply eq_true;omega
   have hin:xs.any f=true:=List.any_eq_true.2 ⟨m,vR hm,c⟩;have:=hk _ (w.trans u2);rw[hin] at this;simp only[h0,cE,reduceIte];exact this
  | false=>
   simp only[ei,cE,reduceIte];refine⟨⟨i+1,by omega,rfl,w.trans u2,?_⟩,by simp[gV,e5];omega⟩;intro p hp;rw[zLU,hm] at hp;rcases kA.1 hp with hp|hp
   ·exact hq p hp
   ·simp at hp;subst hp;exact c
 ·have hd:((i:Int)<(xs.length:Int))=False:=by apply eq_false;omega
  have h0:(0≤(-1:Int))=False:=by apply eq_false;omega
  rw[mX (by omega)] at hq;have hin:xs.any f=false:=by
   rw[List.any_eq_false];intro p hp;simp[hq p hp]
  have:=hk _ w;rw[hin] at this;simp only[hd,h0,cE,reduceIte];exact this
def aPW{h:PH}{f:Lf}{fv:Value}(S:gB h 1 fv (f.path.map jK))(hl:f.path.length≤1000000){k:cD}(hk:∀h',dC h h'->k (.bool f.okb) h'):aT PG aBr #[f.val fv] h k:=by
 apply aHK.call;unfold aHK;intro r1 hr1
 try rw[cW]
 have u1:dC h (h.set r1 (.cells (Value.cells (f.val fv)) cB)):=cT.new hr1;have B1:Bx (h.set r1 (.cells (Value.cells (f.val fv)) cB)) r1 (f.cells fv):=Bx.new;generalize h.set r1 (.cells (Value.cells (f.val fv)) cB)=h1 at *;have li:cH PG h1 (loadAt bT (pT r1 0))=some (.int .i64 f.i):=by rw[bT.load,B1.cell];rfl
 have ln:cH PG h1 (loadAt bT (pT r1 1))=some (.int .i64 f.n):=by rw[bT.load,B1.cell];rfl
 have lk:cH PG h1 (loadAt bR (pT r1 2))=some (.string (tx f.p.k)):=by rw[bR.load,B1.cell];rfl
 have lv:cH PG h1 (loadAt bR (pT r1 3))=some (.string (tx f.p.v)):=by rw[bR.load,B1.cell];rfl
 have lp:cH PG h1 (loadAt cP (pT r1 4))=some fv:=by rw[cP.load,B1.cell];rfl
 have len0:∀x:Tx,dG PG (Builtin.len_ #[bR] bT #[.string (tx x)])=some (.int .i64 (x.length:Int)):=λx=>by rw[mL bR.und,iF]
 have lenp:=(S.ext u1).len (t':=bT) cP.und;rw[jB] at lenp;have bad:¬f.Ok->k (.bool false) h1:=λc=>by
  have:=hk h1 u1;rw[show f.okb=false by rw[←Bool.not_eq_true];exact λe=>c (Lf.ok_iff.1 e)] at this;exact this
 by_cases a1:f.i<0
 ·have g1:=eq_true a1;simp only[cB.f0,li,g1,cE,reduceIte,cV,Nat.reduceAdd];exact bad λc=>by have:=c.i0;omega
 have g1:=eq_false a1;by_cases a2:4096<f.i
 ·have g2:=eq_true a2;simp only[cB.f0,li,g1,g2,cE,reduceIte,cV,Nat.reduceAdd];exact bad λc=>by have:=c.i1;omega
 have g2:=eq_false a2;by_cases a3:f.n<0
 ·have g3:=eq_true a3;simp only[cB.f0,cB.f1,fO,li,ln,g1,g2,g3,cE,reduceIte,cV,Nat.reduceAdd];exact bad λc=>by have:=c.n0;omega
 have g3:=eq_false a3;by_cases a4:4096<f.n
 ·have g4:=eq_true a4;simp only[cB.f0,cB.f1,fO,li,ln,g1,g2,g3,g4,cE,reduceIte,cV,Nat.reduceAdd];exact bad λc=>by have:=c.n1;omega
 have g4:=eq_false a4;by_cases a5:16<f.p.k.length
 ·have g5:((16:Int)<(f.p.k.length:Int))=True:=eq_true (by omega);simp only[cB.f0,cB.f1,cB.f2,cM.f0,fO,li,ln,lk,len0,g1,g2,g3,g4,g5,cE,reduceIte,cV,Nat.reduceAdd];exact bad λc=>by have:=c.k;omega
 have g5:((16:Int)<(f.p.k.length:Int))=False:=eq_false (by omega);by_cases a6:64<f.p.v.length
 ·have g6:((64:Int)<(f.p.v.length:Int))=True:=eq_true (by omega);simp only[cB.f0,cB.f1,cB.f2,cM.f0,cM.f1,fO,Nat.reduceAdd,li,ln,lk,lv,len0,g1,g2,g3,g4,g5,g6,cE,reduceIte,cV,Nat.reduceAdd];exact bad λc=>by have:=c.v;omega
 have g6:((64:Int)<(f.p.v.length:Int))=False:=eq_false (by omega);by_cases a7:16<f.path.length
 ·have g7:((16:Int)<(f.path.length:Int))=True:=eq_true (by omega);simp only[cB.f0,cB.f1,cB.f2,cB.f3,cM.f0,cM.f1,fO,Nat.reduceAdd,li,ln,lk,lv,lp,len0,lenp,g1,g2,g3,g4,g5,g6,g7,cE,reduceIte,cV,Nat.reduceAdd];exact bad λc=>by have:=c.m;omega
 have g7:((16:Int)<(f.path.length:Int))=False:=eq_false (by omega);simp only[cB.f0,cB.f1,cB.f2,cB.f3,cM.f0,cM.f1,fO,Nat.reduceAdd,li,ln,lk,lv,lp,len0,lenp,g1,g2,g3,g4,g5,g6,g7,cE,reduceIte,cV,Nat.reduceAdd];refine aWz (f:=λd=>(d.length:Int) !=32) (S.ext u1) hl (λp hp h' u k' hk'=>?_) λh2 u2=>?_
 ·show aT PG aFV #[.string (tx p)] h' k';apply aFG.call;unfold aFG;simp only[len0,kP,cE,reduceIte,cV,Nat.reduceAdd];exact hk' _ cT.refl
 ·have:=hk h2 (u1.trans u2);have e:f.okb=!(f.path.any λd=>(d.length:Int) !=32):=by
   rw[zLm,Lf.ok_iff,Bool.not_eq_true',List.any_eq_false];constructor
   ·intro c d hd;have:=c.d d hd;simp[this]
   ·intro c;refine⟨by omega,by omega,by omega,by omega,by omega,by omega,by omega,λd hd=>?_⟩;have:=c d hd;simp at this;omega
  rw[e] at this;generalize (f.path.any λd=>(d.length:Int) !=32)=b at this ⊢;cases b<;>(simp only[cE,reduceIte,cV,Nat.reduceAdd];exact this)
def Pf.val(ab:Bool)(v:Value):Value:=.agg #[.bool ab,v]
def aOl(l:List Lf)(f:Lf):lM (l++[f])=lM l++aGO f:=by
 induction l with
 | nil=>simp[lM]
 | cons a l ih=>simp[lM,ih]
def aNT{l:List Tx}(h:∀d∈l,d.length=32):l.flatten.length=32*l.length:=by
 induction l with
 | nil=>rfl
 | cons a l ih=>
  rw[aEg,jS,h a (by simp),ih λd hd=>h d (by simp[hd]),rN];omega
def aQP{f:Lf}(h:f.Ok):(aGO f).length≤1000:=by
 have h1:=h.k;have h2:=h.v;have h3:=h.m;have h4:=aNT h.d;simp only[aGO,jS,jG];omega
def aL5:∀{l:List Lf},(∀f∈l,f.Ok)->(lM l).length≤1000*l.length
 | [],_=>by simp[lM]
 | f::l,h=>by
  have h1:=aQP (h f (by simp));have h2:=aL5 (l:=l) λx hx=>h x (by simp[hx]);simp only[lM,jS,rN];omega
def gB.lf{h:PH}{v:Value}{l:List LV}(S:gB h 5 v (l.map qI)){j:Nat}{y:LV}(hy:l[j]? =some y):
  ∃a,dG PG (indexAt cN v (.int .i64 (j:Int)))=some (.pointer (some a))∧cH PG h (loadAt cB (.pointer (some a)))=some (y.1.val y.2):=
 S.loadAgg cN.und cB.info cB.size cB.und rfl (k:=.i64) (j:=(j:Int)) (r:=qI y) (by omega) (by rw[qP,wK,hy];rfl)
def aJj{h:PH}{v:Value}{l:List LV}(S:gB h 5 v (l.map qI)):dG PG (Builtin.len_ #[cN] bT #[v])=some (.int .i64 l.length):=by
 have:=S.len (t':=bT) cN.und;rw[jB] at this;exact this
def Lf.isC(f:Lf){v:Value}(hv:fX v=true):∀u∈f.cells v,fX u=true:=λu hu=>by
 simp only[Lf.cells,gU,lH,or_false] at hu;rcases hu with rfl|rfl|rfl|rfl|rfl<;>first|rfl|exact hv
def gB.st{h:PH}{v:Value}{l:List Tx}(S:gB h 1 v (l.map jK)){j:Nat}{x:Tx}(hx:l[j]? =some x):
  ∃a,dG PG (indexAt cP v (.int .i64 (j:Int)))=some (.pointer (some a))∧cH PG h (loadAt bR (.pointer (some a)))=some (.string (tx x)):=
 S.loadCell cP.und bR.info bR.size bR.und rfl (k:=.i64) (j:=(j:Int)) (x:=.string (tx x)) (by omega) (by rw[qP,wK,hx];rfl)
def aOo{h:PH}{v:Value}{l:List Tx}(S:gB h 1 v (l.map jK)):dG PG (Builtin.len_ #[cP] bT #[v])=some (.int .i64 l.length):=by
 have:=S.len (t':=bT) cP.und;rw[jB] at this;exact this
def aX3{h0 h:PH}{a:Nat}{base:Tx}{F:List Nat}(W:WN h0 h a (0,base) F)(hb:base.length≤100000){fv:Value}{path:List Tx}(P:gB h0 1 fv (path.map jK))(hd:∀d∈path,d.length=32)(hm:path.length≤16){x:Value}{n i:Nat}(hi:i≤100){R:cD}{nxt:gO}
  (hn:∀h' F',WN h0 h' a (0,base++path.flatten) F'->nxt [pT a 0,x,.int .i64 (n:Int),.int .i64 ((i+1:Nat):Int)] h'):
  iR [4,28,29,30,55,56,57] (λn73 ρ h=>aG3 R nxt n73 (ρ 4) (ρ 28) (ρ 29) (ρ 30) (ρ 55) (ρ 56) (ρ 57) h) [pT a 0,x,.int .i64 (n:Int),.int .i64 (i:Int),fv,.int .i64 (path.length:Int),.int .i64 0] h:=by
 refine⟨λvs h'=>∃(j:Nat) (F':List Nat),j≤path.length∧vs=[pT a 0,x,.int .i64 (n:Int),.int .i64 (i:Int),fv,.int .i64 (path.length:Int),.int .i64 (j:Int)]∧WN h0 h' a (0,base++(path.take j).flatten) F',gV path.length 6,⟨0,F,by omega,rfl,by simpa using W⟩,?_⟩;rintro ρ h' ⟨j,F',hj,hvs,W'⟩;simp only[iJ,iZ,lP,and_true] at hvs;obtain⟨v0,v1,v2,v3,v4,v5,v6⟩:=hvs;unfold aG3;rw[v0,v1,v2,v3,v4,v5,v6];by_cases hlt:j<path.length
 ·have g:((j:Int)<(path.length:Int))=True:=eq_true (by omega);have gi:=qQ (i:=j) (by omega);obtain⟨d,hdj⟩:∃d,path[j]? =some d:=⟨_,lU hlt⟩;obtain⟨pa,p1,p2⟩:=(P.ext W'.upd).st hdj;have hd32:=hd d (vR hdj);have hfl:(path.take j).flatten.length≤32*16:=by
   rw[aNT λd hd'=>hd d (aLU hd'),nC];omega
  simp only[g,p1,p2,gi,cE,reduceIte,cV,Nat.reduceAdd];refine aWY W' (by rw[jS];omega) (by omega) λh2 F2 x2 e2 W2 _=>?_;have ex:x2=(0,base++(path.take (j+1)).flatten):=by
   rw[e2,zLU,hdj];simp[nK]
  rw[ex] at W2;exact⟨⟨j+1,F2,by omega,rfl,W2⟩,by simp[gV,v6];omega⟩
 ·have g:((j:Int)<(path.length:Int))=False:=eq_false (by omega);have gi:=qQ (i:=i) (by omega);rw[mX (by omega)] at W';simp only[g,gi,cE,reduceIte,cV,Nat.reduceAdd];exact hn h' F' W'
def aOF{st:kW}{l:Tx}(h:l.length≤65535):aKC st l=(st.1,st.2++(be l.length 2++l)):=by unfold aKC;rw[if_pos h]
def aKz{st:kW}{n:Nat}(h:n≤255):aG1 st (n:Int)=(st.1,st.2++be n 1):=by unfold aG1;rw[if_pos (by omega),qP]
def aUA{h0 h:PH}{a:Nat}{base:Tx}{F:List Nat}(W:WN h0 h a (0,base) F)(hb:base.length≤1000){v:Value}{l:List LV}(S:gB h0 5 v (l.map qI))(HS:LfS h0 l)(hok:∀y∈l,y.1.Ok)(hl:l.length≤2){R:cD}
  (hR:∀h',dC h0 h'->R (.tuple #[.string (tx (base++lM (l.map (·.1)))),.int .i64 0]) h'):
  iR [4,28,29,30] (λn36 ρ h=>aHI R n36 (ρ 4) (ρ 28) (ρ 29) (ρ 30) h) [pT a 0,v,.int .i64 (l.length:Int),.int .i64 0] h:=by
 refine⟨λvs h'=>∃(i:Nat) (F':List Nat),i≤l.length∧vs=[pT a 0,v,.int .i64 (l.length:Int),.int .i64 (i:Int)]∧WN h0 h' a (0,base++lM ((l.take i).map (·.1))) F',gV l.length 3,⟨0,F,by omega,rfl,by simpa[lM] using W⟩,?_⟩;rintro ρ h' ⟨i,F',hi,hvs,W'⟩;simp only[iJ,iZ,lP,and_true] at hvs;obtain⟨v0,v1,v2,v3⟩:=hvs;unfold aHI;rw[v0,v1,v2,v3];have hpre:(lM ((l.take i).map (·.1))).length≤2000:=by
  have:=aL5 (l:=(l.take i).map (·.1)) (by
   simp only[List.forall_mem_map];exact λy hy=>hok y (aLU hy))
  rw[jB,nC] at this;omega
 by_cases hlt:i<l.length
 ·have g:((i:Int)<(l.length:Int))=True:=eq_true (by omega);obtain⟨y,hy⟩:∃y,l[i]? =some y:=⟨_,lU hlt⟩;have hmem:=vR hy;have ok:=hok y hmem;have Py:=HS y hmem;obtain⟨pa,p1,p2⟩:=(S.ext W'.upd).lf hy;simp only[g,p1,p2,cE,reduceIte,cV,Nat.reduceAdd];intro r41 hr41
  try rw[cW]
  refine cB.fill hr41 rfl (Lf.isC _ Py.isc) λh1 B1 u1=>?_;have W1:=WS.ext W' u1;have K1:BK h1 F' r41 (y.1.cells y.2):=⟨B1,W'.box hr41⟩;obtain⟨i0,i1,n0,n1,k16,v64,m16,d32⟩:=ok;obtain⟨fi,efi⟩:=zLn i0;obtain⟨fn,efn⟩:=zLn n0;have li:∀{h':PH} {F},BK h' F r41 (y.1.cells y.2)->cH PG h' (loadAt bT (pT r41 0))=some (.int .i64 (fi:Int)):=λB=>by rw[bT.load,B.bx.cell,←efi];rfl
  have ln:∀{h':PH} {F},BK h' F r41 (y.1.cells y.2)->cH PG h' (loadAt bT (pT r41 1))=some (.int .i64 (fn:Int)):=λB=>by rw[bT.load,B.bx.cell,←efn];rfl
  have lk:∀{h':PH} {F},BK h' F r41 (y.1.cells y.2)->cH PG h' (loadAt bR (pT r41 2))=some (.string (tx y.1.p.k)):=λB=>by rw[bR.load,B.bx.cell];rfl
  have lv:∀{h':PH} {F},BK h' F r41 (y.1.cells y.2)->cH PG h' (loadAt bR (pT r41 3))=some (.string (tx y.1.p.v)):=λB=>by rw[bR.load,B.bx.cell];rfl
  have lp:∀{h':PH} {F},BK h' F r41 (y.1.cells y.2)->cH PG h' (loadAt cP (pT r41 4))=some y.2:=λB=>by rw[cP.load,B.bx.cell];rfl
  have lenp:=aOo Py;have c1:IntKind.u64.wrap (fi:Int)=(fi:Int):=gL (by omega) (by omega);have c2:IntKind.u64.wrap (fn:Int)=(fn:Int):=gL (by omega) (by omega);simp only[cB.f0,li K1,aJD,c1,cE,reduceIte,cV,Nat.reduceAdd];refine aJO W1 (by rw[jS];omega) (by omega) λh2 F2 x2 e2 W2 k2=>?_;have K2:=K1.keep k2;simp only[cB.f1,fO,ln K2,aJD,c2,cE,reduceIte,cV,Nat.reduceAdd];refine aJO W2 (by rw[e2];simp only[aId,jS,jG];omega) (by omega) λh3 F3 x3 e3 W3 k3=>?_;have K3:=K2.keep k3;simp only[cB.f2,cM.f0,fO,lk K3,cE,reduceIte,cV,Nat.reduceAdd];refine aRA W3 (by rw[e3,e2];simp only[aId,jS,jG];omega) _ λh4 F4 x4 e4 W4 k4=>?_;have K4:=K3.keep k4;rw[aOF (by omega)] at e4;simp only[cB.f2,cM.f1,fO,Nat.reduceAdd,lv K4,cE,reduceIte,cV,Nat.reduceAdd];refine aRA W4 (by rw[e4,e3,e2];simp only[aId,jS,jG];omega) _ λh5 F5 x5 e5 W5 k5=>?_;have K5:=K4.keep k5;rw[aOF (by omega)] at e5;simp only[cB.f3,fO,lp K5,lenp,cE,reduceIte,cV,Nat.reduceAdd];refine aMS W5 (by rw[e5,e4,e3,e2];simp only[aId,jS,jG];omega) _ λh6 F6 x6 e6 W6 k6=>?_;have K6:=K5.keep k6;rw[aKz (by omega)] at e6;simp only[cB.f3,fO,lp K6,lenp,cE,reduceIte,cV,Nat.reduceAdd];have ex:x6=(0,(base++lM ((l.take i).map (·.1)))++(be fi 8++(be fn 8++((be y.1.p.k.length 2++y.1.p.k)++((be y.1.p.v.length 2++y.1.p.v)++be y.1.path.length 1))))):=by
   rw[e6,e5,e4,e3,e2];simp[aId,nK]
  rw[ex] at W6;refine aX3 W6 (by simp only[jS,jG];omega) Py d32 m16 (by omega) λh7 F7 W7=>?_;have ef:((base++lM ((l.take i).map (·.1)))++(be fi 8++(be fn 8++((be y.1.p.k.length 2++y.1.p.k)++((be y.1.p.v.length 2++y.1.p.v)++be y.1.path.length 1)))))++y.1.path.flatten=base++lM ((l.take (i+1)).map (·.1)):=by
   rw[zLU,hy];simp only[Option.toList,pY,iJ,iZ,aOl,aGO,efi,efn,qP,nK]
  rw[ef] at W7;exact⟨⟨i+1,F7,by omega,rfl,W7⟩,by simp[gV,v3];omega⟩
 ·have g:((i:Int)<(l.length:Int))=False:=eq_false (by omega);rw[mX (by omega)] at W';simp only[g,cE,reduceIte,cV,Nat.reduceAdd];refine aNq W'.at_ λh2 u2=>?_;have eb:aJJ (0,base++lM (l.map (·.1)))=(base++lM (l.map (·.1)),0):=rfl;simp only[eb,cE,reduceIte,cV,Nat.reduceAdd];exact hR _ (W'.upd.fresh u2 W'.fresh)
def aTr{h:PH}{ab:Bool}{v:Value}{l:List LV}(S:gB h 5 v (l.map qI))(HS:LfS h l)(hl:l.length≤1000000)(hp:∀y∈l,y.1.path.length≤1000000){k:cD}
  (hk:∀h',dC h h'->k (.tuple #[.string (tx (lV ⟨ab,l.map (·.1)⟩).1),.int .i64 (lV ⟨ab,l.map (·.1)⟩).2]) h'):aT PG aHk #[Pf.val ab v] h k:=by
 apply aDr.call;unfold aDr;intro r1 hr1
 try rw[cW]
 have u1:dC h (h.set r1 (.cells (Value.cells (Pf.val ab v)) cC)):=cT.new hr1;have B1:Bx (h.set r1 (.cells (Value.cells (Pf.val ab v)) cC)) r1 [.bool ab,v]:=Bx.new;generalize h.set r1 (.cells (Value.cells (Pf.val ab v)) cC)=h1 at *;have la:∀{h':PH},Bx h' r1 [.bool ab,v]->cH PG h' (loadAt gQ (pT r1 0))=some (.bool ab):=λB=>by rw[gQ.load,B.cell];rfl
 have lv:∀{h':PH},Bx h' r1 [.bool ab,v]->cH PG h' (loadAt cN (pT r1 1))=some v:=λB=>by rw[cN.load,B.cell];rfl
 have ll:=aJj S;have q0:({data:=#[]}:ByteArray)=tx []:=rfl;have el:(l.map (·.1)).length=l.length:=by simp
 by_cases h2:2<l.length
 ·have g:((2:Int)<(l.length:Int))=True:=eq_true (by omega);have eb:lV ⟨ab,l.map (·.1)⟩=([],1):=by unfold lV;rw[if_neg (λc=>by have:=c.1;simp only[el] at this;omega)]
  simp only[cC.f1,fO,lv B1,ll,g,q0,cE,reduceIte,cV,Nat.reduceAdd];rw[eb] at hk;exact hk _ u1
 have g:((2:Int)<(l.length:Int))=False:=eq_false (by omega);simp only[cC.f1,fO,lv B1,ll,g,cE,reduceIte,cV,Nat.reduceAdd];refine aRt (f:=λy=>!y.1.okb) (S.ext u1) hl (λy hy h' u k' hk'=>?_) λh3 u3=>?_
 ·show aT PG aGU #[y.1.val y.2] h' k';apply aF1.call;unfold aF1;intro r hr
  try rw[cW]
  have v1:dC h' (h'.set r (.cells (Value.cells (y.1.val y.2)) cB)):=cT.new hr;have C1:Bx (h'.set r (.cells (Value.cells (y.1.val y.2)) cB)) r (y.1.cells y.2):=Bx.new;generalize h'.set r (.cells (Value.cells (y.1.val y.2)) cB)=h'' at *;have lf:cH PG h'' (loadAt cB (pT r 0))=some (y.1.val y.2):=cB.agg C1 (by show 0+5≤5;decide);simp only[lf,cE,reduceIte,cV,Nat.reduceAdd];refine aPW ((HS y hy).ext ((u1.trans u).trans v1)) (hp y hy) λh4 u4=>?_;simp only[cE,reduceIte,cV,Nat.reduceAdd];exact hk' _ (v1.trans u4)
 ·have e3:=u1.trans u3;have B3:=B1.ext u3;cases hb:l.any λy=>!y.1.okb with
  | true=>
   have eb:lV ⟨ab,l.map (·.1)⟩=([],1):=by
    unfold lV;rw[if_neg (λc=>?_)];obtain⟨y,hy,hyb⟩:=List.any_eq_true.1 hb;have:=aEw.1 c.2 y.1 (zL8 hy);rw[this] at hyb;cases hyb
   simp only[q0,cE,reduceIte,cV,Nat.reduceAdd];rw[eb] at hk;exact hk _ e3
  | false=>
   have hok:∀y∈l,y.1.Ok:=λy hy=>by
    have:=List.any_eq_false.1 hb y hy;exact Lf.ok_iff.1 (by simpa using this)
   have eb:lV ⟨ab,l.map (·.1)⟩=(aE1 ⟨ab,l.map (·.1)⟩,0):=by
    have hall:(l.map (·.1)).all Lf.okb=true:=aEw.2 λf hf=>by
     obtain⟨y,hy,rfl⟩:=mG.1 hf;exact Lf.ok_iff.2 (hok y hy)
    unfold lV;exact if_pos ⟨by simp only[el];omega,hall⟩
   rw[eb] at hk;simp only[cE,reduceIte,cV,Nat.reduceAdd];intro r21 hr21
   try rw[cW]
   have W0:=WN.start hr21;have u4:dC h3 (h3.set r21 (.cells (dS PG fQ) fQ)):=cT.new hr21;generalize h3.set r21 (.cells (dS PG fQ) fQ)=h4 at *;have out:∀kd:Nat,kd=(if ab then 2 else 1)->aED k (pT r1 0) (pT r21 0) (.int .i64 (kd:Int)) h4:=λkd hkd=>by
    have k2:kd≤2:=by rw[hkd];split<;>decide
    unfold aED;refine aMS W0 (by simp) _ λh5 F5 x5 e5 W5 _=>?_;rw[aKz (by omega)] at e5;simp only[cC.f1,fO,lv (B3.ext W5.upd),ll,cE,reduceIte,cV,Nat.reduceAdd];refine aMS W5 (by rw[e5];simp[jG]) _ λh6 F6 x6 e6 W6 _=>?_;rw[aKz (by omega)] at e6;have ex:x6=(0,be kd 1++be l.length 1):=by rw[e6,e5];simp
    rw[ex] at W6;simp only[cC.f1,fO,lv (B3.ext W6.upd),ll,cE,reduceIte,cV,Nat.reduceAdd];refine aUA W6 (by simp[jG]) (S.ext e3) (HS.ext e3) hok (by omega) λh7 u7=>?_;have ep:(be kd 1++be l.length 1)++lM (l.map (·.1))=aE1 ⟨ab,l.map (·.1)⟩:=by
     unfold aE1;simp only[el,hkd,nK]
    rw[ep];exact hk _ (e3.trans u7)
   simp only[cC.f0,la (B3.ext u4),cE,reduceIte,cV,Nat.reduceAdd];cases ab with
   | true=>simp only[cE,reduceIte,cV,Nat.reduceAdd];exact out 2 rfl
   | false=>simp only[cE,reduceIte,cV,Nat.reduceAdd];exact out 1 rfl
def aSJ{h:PH}{a:Nat}{st:kW}(R:rE h a st.1 st.2){k:cD}(hk:∀h',rE h' a (kX st).2.1 (kX st).2.2->cT [a] h h'->k (.int .i64 ((kX st).1:Int)) h'):aT PG aFD #[pT a 0,.int .u64 4096] h k:=by
 apply aHt.call;unfold aHt;unfold kX at hk;refine aSb R λh1 R1 u1=>?_;show dY (dG PG (binOp BinOp.gtr cA (.int .u64 ((gT st 8).1:Int)) (.int .u64 4096))) _;by_cases c:4096<(gT st 8).1
 ·have g:((4096:Int)<((gT st 8).1:Int))=True:=eq_true (by omega);rw[if_pos c] at hk;simp only[g,gJ.f0,cE,reduceIte,cV,Nat.reduceAdd];refine aQ1 (st:=(gT st 8).2) R1 5 λh2 R2 u2=>?_;exact hk h2 R2 (u1.trans u2)
 ·have g:((4096:Int)<((gT st 8).1:Int))=False:=eq_false (by omega);rw[if_neg c] at hk;have e1:IntKind.i64.wrap ((gT st 8).1:Int)=((gT st 8).1:Int):=fI (by omega) (by omega);simp only[g,aI9,e1,cE,reduceIte,cV,Nat.reduceAdd];exact hk h1 R1 u1
def aSc{n:Nat}{st:kW}{acc:List Tx}(h:n=0∨st.1≠0):yR n st acc=(acc,st):=by
 cases n with
 | zero=>rfl
 | succ n=>rw[yR,if_neg (by rcases h with h|h;cases h;exact h)]
def aZe(x y:Int):dG PG (build cB #[(0,.int .i64 x),(1,.int .i64 y)])=some (Lf.val ⟨x,y,⟨[],[]⟩,[]⟩ (.slice none 0 0)):=by kernel_rfl
def aYP{h:PH}{a:Nat}{st:kW}(R:rE h a st.1 st.2){k:cD}
  (hk:∀h' v F,rE h' a (rA st).2.1 (rA st).2.2->eO h' bR 1 v ((rA st).1.path.map jK) F->eN h F->cT [a] h h'->k ((rA st).1.val v) h'):aT PG aIX #[pT a 0] h k:=by
 apply aE4.call;unfold aE4;have ka:h a≠none:=by rw[R.here];simp
 intro r1 hr1
 try rw[cW]
 have u1:dC h (h.set r1 (.cells (dS PG cB) cB)):=cT.new hr1;have Z1:=cB.zbox (h:=h) (r:=r1);have R1:=R.ext u1;have na1:r1≠a:=λe=>ka (e▸hr1);generalize h.set r1 (.cells (dS PG cB) cB)=h1 at *;refine aSJ R1 λh2 R2 u2=>?_;refine aSJ R2 λh3 R3 u3=>?_;simp only[aZe,cE,reduceIte,cV,Nat.reduceAdd];have Z3:=(Z1.upd u2 (by simpa using na1)).upd u3 (by simpa using na1);have e3:cT [a] h h3:=(u1.upd.trans u2).trans u3;intro r8 hr8
 try rw[cW]
 have n18:r1≠r8:=Z3.apart hr8;have na8:r8≠a:=λe=>by
  have:=(rE.here R3);rw[←e,hr8] at this;cases this
 have k8:h r8=none:=by
  cases hx:h r8 with
  | none=>rfl
  | some o=>have:=e3 r8 o hx (by simpa using na8);rw[hr8] at this;cases this
 refine cB.fill (vs:=Lf.cells ⟨((kX st).1:Int),((kX (kX st).2).1:Int),⟨[],[]⟩,[]⟩ (.slice none 0 0)) hr8 rfl (Lf.isC _ rfl) λh4 B4 u4=>?_;have R4:=R3.ext u4;have e4:cT [a] h h4:=e3.trans u4.upd;have Z4:=Z3.ext u4;refine aQ6 R4 λh5 R5 u5=>?_;have B5:=B4.upd u5 (by simpa using na8);have Z5:=Z4.upd u5 (by simpa using na1);simp only[cB.f2,cM.f0,fO,cE,reduceIte,cV,Nat.reduceAdd];refine bR.put B5 (o:=2) (by show 2<5;decide) rfl λh6 B6 u6=>?_;have R6:=R5.upd u6 (by simpa using na8.symm);have Z6:=Z5.upd u6 (by simpa using n18);refine aQ6 R6 λh7 R7 u7=>?_;have B7:=B6.upd u7 (by simpa using na8);have Z7:=Z6.upd u7 (by simpa using na1);simp only[cB.f2,cM.f1,fO,Nat.reduceAdd,cE,reduceIte,cV,Nat.reduceAdd];refine bR.put B7 (o:=3) (by show 3<5;decide) rfl λh8 B8 u8=>?_;have R8:=R7.upd u8 (by simpa using na8.symm);have Z8:=Z7.upd u8 (by simpa using n18);refine aNd R8 λh9 R9 u9=>?_;have B9:=B8.upd u9 (by simpa using na8);have Z9:=Z8.upd u9 (by simpa using na1);have e9:cT [a] h h9:=by
  have f8:∀b∈[r8],b∈[a]∨h b=none:=λb hb=>.inr (by simp at hb;rw[hb];exact k8);exact(((((e4.trans u5).then u6 f8).trans u7).then u8 f8).trans u9)
 -- names
 obtain⟨st2,hst2⟩:∃x,x=(kX (kX st).2).2:=⟨_,rfl⟩;obtain⟨kk,hkk⟩:∃x,x=mU (kX (kX st).2).2:=⟨_,rfl⟩;obtain⟨vv,hvv⟩:∃x,x=mU kk.2:=⟨_,rfl⟩;obtain⟨cc,hcc⟩:∃x,x=gT vv.2 1:=⟨_,rfl⟩;have hc255:cc.1<256:=by rw[hcc];exact aHo _ 1
 have e1:(aDy st)=(⟨((kX st).1:Int),((kX (kX st).2).1:Int),⟨kk.1,vv.1⟩,(yR cc.1 cc.2 []).1⟩,(yR cc.1 cc.2 []).2):=by rw[hcc,hvv,hkk];rfl
 have R9':rE h9 a cc.2.1 cc.2.2:=by rw[hcc,hvv,hkk];exact R9
 have B9':Bx h9 r8 (Lf.cells ⟨((kX st).1:Int),((kX (kX st).2).1:Int),⟨kk.1,vv.1⟩,[]⟩ (.slice none 0 0)):=by rw[hvv,hkk];exact B9
 have ev:(Value.int .i64 ((gT (mU (mU (kX (kX st).2).2).2).2 1).1:Int))= .int .i64 (cc.1:Int):=by rw[hcc,hvv,hkk]
 show iR _ _ [_,_,_,(Value.int .i64 ((gT (mU (mU (kX (kX st).2).2).2).2 1).1:Int))] h9;rw[ev];clear R9 B9 ev;generalize (kX st).1=f1 at *;generalize (kX (kX st).2).1=f2 at *;refine⟨λvs h'=>∃(m:Nat) (acc:List Tx) (s':kW) (pv:Value) (F:List Nat),vs=[pT a 0,pT r1 0,pT r8 0,.int .i64 (m:Int)]∧rE h' a s'.1 s'.2∧Bx h' r8 (Lf.cells ⟨(f1:Int),(f2:Int),⟨kk.1,vv.1⟩,acc⟩ pv)∧eO h' bR 1 pv (acc.map jK) F∧eN h F∧r8∉F∧r1∉F∧Bx h' r1 (Lf.cells ⟨0,0,⟨[],[]⟩,[]⟩ (.slice none 0 0))∧cT [a] h h'∧yR cc.1 cc.2 []=yR m s' acc∧acc.length+m≤255,aWV 3,⟨cc.1,[],cc.2,_,[],rfl,R9',B9',eO.nil,(λb hb=>by cases hb),by simp,by simp,Z9,e9,rfl,by simp;omega⟩,?_⟩;rintro ρ h' ⟨m,acc,s',pv,F,hvs,R',B',O',f',n8,n1,Z',u',hp,hacc⟩;simp only[iJ,iZ,lP,and_true] at hvs;obtain⟨v0,v1,v2,v3⟩:=hvs;unfold aKj;rw[v0,v1,v2,v3];have na':a∉F:=λhm=>ka (f' a hm);by_cases hgo:0<m∧s'.1=0
 ·obtain⟨hm,hs0⟩:=hgo;obtain⟨m,rfl⟩:∃n,m=n+1:=⟨m-1,by omega⟩;have g:((0:Int)<((m+1:Nat):Int))=True:=eq_true (by omega);have gi:IntKind.i64.wrap (((m+1:Nat):Int)-1)=(m:Int):=by rw[fI (by omega) (by omega)];omega
  have lp:∀{h'':PH},Bx h'' r8 (Lf.cells ⟨(f1:Int),(f2:Int),⟨kk.1,vv.1⟩,acc⟩ pv)->cH PG h'' (loadAt cP (pT r8 4))=some pv:=λB=>by rw[cP.load,B.cell];rfl
  simp only[g,gJ.f0,cE,reduceIte,cV,Nat.reduceAdd];refine aOz R' ?_;simp only[hs0,iG,cB.f3,fO,lp B',cE,reduceIte,cV,Nat.reduceAdd];refine aQW R' 32 λh2 R2 u2=>?_;have B2:=B'.upd u2 (by simpa using na8);refine⟨lp B2,?_⟩;have O2:=O'.upd u2 (λb hb=>by simp only[gE];rintro rfl;exact na' hb);have Z2:=Z'.upd u2 (by simpa using na1);simp only[aMz,cE,reduceIte,cV,Nat.reduceAdd];intro r54 hr54;refine fT ?_
  try rw[cW]
  have u3:dC h2 (h2.set r54 (.cells #[.string (tx (jX (s'.1,s'.2) 32).1)] bR)):=cT.new hr54;have s1:gB (h2.set r54 (.cells #[.string (tx (jX (s'.1,s'.2) 32).1)] bR)) 1 (.slice (some ⟨r54,0,none⟩) 1 1) ([(jX (s'.1,s'.2) 32).1].map jK):=(eO.lit (jK.rows [(jX (s'.1,s'.2) 32).1]) dJ (by simp) (by decide) (by simp[jK])).slR;generalize h2.set r54 (.cells #[.string (tx (jX (s'.1,s'.2) 32).1)] bR)=h3 at *;refine jL cP.und cP.und bR.info bR.size bR.bytes bR.zero rfl (by decide) (O2.ext u3) s1 (λr hr u hu=>by
   obtain⟨s,-,rfl⟩:=mG.1 hr;exact jK.isC s u hu) (by simp;omega) ?_
  intro v4 h4 F4 O4 u4 g4 _;rw[←pY] at O4;have n84:r8∉F4:=λhb=>by
   rcases g4 _ hb with hx|hx
   ·exact n8 hx
   ·exact(B2.ext u3).known hx
  have n14:r1∉F4:=λhb=>by
   rcases g4 _ hb with hx|hx
   ·exact n1 hx
   ·exact(Z2.ext u3).known hx
  have e23:cT [a] h h3:=(u'.trans u2).trans u3.upd;have f4:eN h F4:=λb hb=>by
   rcases g4 b hb with hx|hx
   ·exact f' b hx
   ·cases hy:h b with
    | none=>rfl
    | some o=>
     by_cases hba:b=a
     ·rw[hba] at hx;have:=(R2.ext u3).here;rw[hx] at this;cases this
     ·have:=e23 b o hy (by simpa using hba);rw[hx] at this;cases this
  have B4:=(B2.ext u3).upd u4 n8;simp only[cB.f3,fO,gi,cE,reduceIte,cV,Nat.reduceAdd];refine cP.put B4 (o:=4) (by show 4<5;decide) O4.slR.isc λh5 B5 u5=>?_;refine⟨⟨m,acc++[(jX s' 32).1],(jX s' 32).2,v4,F4,rfl,((R2.ext u3).upd u4 na').upd u5 (by simpa using na8.symm),B5,O4.upd u5 (λb hb=>by simp only[gE];rintro rfl;exact n84 hb),f4,n84,n14,((Z2.ext u3).upd u4 n1).upd u5 (by simpa using n18),(e23.then u4 (λb hb=>.inr (f' b hb))).then u5 (λb hb=>.inr (by simp at hb;rw[hb];exact k8)),?_,by simp;omega⟩,?_⟩
  ·rw[hp,yR,if_pos hs0]
  ·simp only[aWV,rZ,pU,iJ,iZ,v3];omega
 ·have hstop:m=0∨s'.1≠0:=by omega
  rw[aSc hstop] at hp;rw[hp] at e1;simp only at e1;have ll:cH PG h' (loadAt cB (pT r8 0))=some ((aDy st).1.val pv):=by rw[e1];exact cB.agg B' (by show 0+5≤5;decide)
  have S':gB h' 1 pv ((aDy st).1.path.map jK):=by rw[e1];exact O'.slR
  have fin:dY (cH PG h' (loadAt cB (pT r8 0))) λv64=>
    aT PG aBr #[v64] h' λv65 h66=>
    dY (dG PG (Op.unary UnOp.not v65)) λv67=>
    dH v67
    (dY (dG PG (aCb (pT a 0))) λv68=>
    dY (dG PG (fieldAt gJ v68 0)) λv69=>
    aT PG lJ #[v69,(Value.int IntKind.i64 5)] h66 λv70 h71=>
    aAV k (pT r1 0) (pT r8 0) h71)
    (aAV k (pT r1 0) (pT r8 0) h66):=by
   simp only[ll,cE,reduceIte,cV,Nat.reduceAdd];have hpl:(aDy st).1.path.length≤1000000:=by rw[e1];simp only;omega
   refine aPW S' hpl λh2 u2=>?_;have last:∀{h5:PH},rE h5 a (rA st).2.1 (rA st).2.2->cT [a] h2 h5->aAV k (pT r1 0) (pT r8 0) h5:=by
    intro h5 R5 u5;unfold aAV;have B5:=(B'.ext u2).upd u5 (by simpa using na8);have Z5:=(Z'.ext u2).upd u5 (by simpa using na1);have l5:cH PG h5 (loadAt cB (pT r8 0))=some ((aDy st).1.val pv):=by rw[e1];exact cB.agg B5 (by show 0+5≤5;decide)
    simp only[l5,cE,reduceIte,cV,Nat.reduceAdd];refine cB.put (vs:=(aDy st).1.cells pv) Z5 (o:=0) rfl (by show 0+5≤5;decide) (Lf.isC _ S'.isc) λh6 B6 u6=>?_;have l6:cH PG h6 (loadAt cB (pT r1 0))=some ((aDy st).1.val pv):=cB.agg B6 (by show 0+5≤5;decide);simp only[l6,cE,reduceIte,cV,Nat.reduceAdd];refine hk h6 pv F (R5.upd u6 (by simpa using na1.symm)) ?_ f' (((u'.trans u2.upd).trans u5).then u6 (λb hb=>.inr (by simp at hb;rw[hb];exact hr1)));have:(rA st).1.path=acc:=by unfold rA;rw[e1]
    rw[this];exact((O'.ext u2).upd u5 (λb hb=>by simp only[gE];rintro rfl;exact na' hb)).upd u6 (λb hb=>by simp only[gE];rintro rfl;exact n1 hb)
   have R2:rE h2 a (aDy st).2.1 (aDy st).2.2:=by rw[e1];exact R'.ext u2
   cases hb:(aDy st).1.okb with
   | true=>
    simp only[cE,reduceIte,cV,Nat.reduceAdd];refine last ?_ cT.refl;unfold rA;rw[if_pos hb];exact R2
   | false=>
    simp only[gJ.f0,cE,reduceIte,cV,Nat.reduceAdd];refine aQ1 (st:=(aDy st).2) R2 5 λh3 R3 u3=>?_;refine last ?_ u3;unfold rA;rw[if_neg (by rw[hb];decide)];exact R3
  by_cases hm:0<m
  ·have hs:s'.1≠0:=by omega
   have g:((0:Int)<(m:Int))=True:=eq_true (by omega);have q:(s'.1==0)=false:=by simpa using hs
   simp only[g,gJ.f0,cE,reduceIte,cV,Nat.reduceAdd];refine aOz R' ?_;simp only[iG,q,cE,reduceIte,cV,Nat.reduceAdd];simp only[cE,reduceIte,cV,Nat.reduceAdd] at fin;exact fin
  ·have g:((0:Int)<(m:Int))=False:=eq_false (by omega);simp only[g,cE,reduceIte,cV,Nat.reduceAdd];simp only[cE,reduceIte,cV,Nat.reduceAdd] at fin;exact fin
def LfO(h:PH)(l:List LV)(B:List Nat):Prop:=∀y∈l,∃G,eO h bR 1 y.2 (y.1.path.map jK) G∧∀b∈G,b∉B
def LfO.upd{h h':PH}{l:List LV}{B K:List Nat}(H:LfO h l B)(u:cT K h h')(hK:∀b∈K,b∈B):LfO h' l B:=λy hy=>by
 obtain⟨G,O,hG⟩:=H y hy;exact⟨G,O.upd u (λb hb hk=>hG b hb (hK b hk)),hG⟩
def LfO.grow{h:PH}{l:List LV}{B B':List Nat}(H:LfO h l B)(hB:∀b∈B',b∈B∨h b=none):LfO h l B':=λy hy=>by
 obtain⟨G,O,hG⟩:=H y hy;exact⟨G,O,λb hb hb'=>by
  rcases hB b hb' with hx|hx
  ·exact hG b hb hx
  ·exact O.known b hb hx⟩
def LfO.lfs{h:PH}{l:List LV}{B:List Nat}(H:LfO h l B):LfS h l:=λy hy=>by
 obtain⟨G,O,-⟩:=H y hy;exact O.slR
def aHF:dG PG (build cC #[])=some (Pf.val false (.slice none 0 0)):=by kernel_rfl
def aLd(b:Bool):dG PG (build cC #[(0,.bool b)])=some (Pf.val b (.slice none 0 0)):=by kernel_rfl
def aMr(f:Lf)(v:Value):jZ PG (buildSlice cN 1 #[(0,f.val v)])=some (.cells (f.cells v).toArray cB,λr=>pure (.slice (some ⟨r,0,none⟩) 1 1)):=by kernel_rfl
def qI.rows(l:List LV):Rows 5 (l.map qI):=λr hr=>by obtain⟨m,_,rfl⟩:=mG.1 hr;rfl
def aRX{h:PH}{s:Tx}{k:cD}
  (hk:∀h' v (l:List LV),l.map (·.1)=(iH s).1.lv->gB h' 5 v (l.map qI)->LfS h' l->dC h h'->k (.tuple #[Pf.val (iH s).1.ab v,.int .i64 (iH s).2]) h'):aT PG aFJ #[.string (tx s)] h k:=by
 apply aDv.call;unfold aDv;intro r1 hr1
 try rw[cW]
 have u1:dC h (h.set r1 (.cells (dS PG cC) cC)):=cT.new hr1;have Z1:=cC.zbox (h:=h) (r:=r1);generalize h.set r1 (.cells (dS PG cC) cC)=h1 at *;refine aRT s λa h2 R2 u2 ha=>?_;have Z2:=Z1.ext u2;have na1:r1≠a:=λe=>by rw[←e] at ha;exact Z1.known ha
 have ka:h a=none:=u1.none ha;refine aNd R2 λh3 R3 u3=>?_;refine aNd R3 λh4 R4 u4=>?_;have Z4:=(Z2.upd u3 (by simpa using na1)).upd u4 (by simpa using na1);have fa:eN h [a]:=eN.one ka;have f1:eN h [r1]:=eN.one hr1;have e4:dC h h4:=((u1.trans u2).fresh u3 fa).fresh u4 fa;obtain⟨kd,hkd⟩:∃x,x=gT (0,s) 1:=⟨_,rfl⟩;obtain⟨nn,hnn⟩:∃x,x=gT kd.2 1:=⟨_,rfl⟩;have hp:iH s=if kd.1<1∨2<kd.1∨2<nn.1 then(Pf.zero,5) else if aMR (pO nn.1 nn.2 []).2≠0 then(Pf.zero,5) else(⟨decide (kd.1=2),(pO nn.1 nn.2 []).1⟩,0):=by
  unfold iH;rw[hnn,hkd]
 have R4':rE h4 a nn.2.1 nn.2.2:=by rw[hnn,hkd];exact R4
 have ev1:(Value.int .i64 ((gT (0,s) 1).1:Int))= .int .i64 (kd.1:Int):=by rw[hkd]
 have ev2:(Value.int .i64 ((gT ((gT (0,s) 1).2.1,(gT (0,s) 1).2.2) 1).1:Int))= .int .i64 (nn.1:Int):=by rw[hnn,hkd]
 rw[ev1,ev2];clear ev1 ev2 R4;have bad:∀{h5:PH},dC h h5->Bx h5 r1 (Value.cells (Pf.val false (.slice none 0 0))).toList->iH s=(Pf.zero,5)->dA PG (dR cC (pT r1 0) (Pf.val false (.slice none 0 0))) h5 λv27 h28=>dY (cH PG h28 (loadAt cC (pT r1 0))) λv29=>k (.tuple #[v29,(Value.int IntKind.i64 5)]) h28:=by
  intro h5 e5 B5 hz;refine cC.put (vs:=[.bool false,.slice none 0 0]) B5 (o:=0) rfl (by show 0+2≤2;decide) (by simp[fX]) λh6 B6 u6=>?_;have l6:cH PG h6 (loadAt cC (pT r1 0))=some (Pf.val false (.slice none 0 0)):=cC.agg B6 (by show 0+2≤2;decide);simp only[l6,cE,reduceIte,cV,Nat.reduceAdd];rw[hz] at hk;exact hk h6 _ [] rfl (eO.nil (h:=h6) (e:=cB) (size:=5)).slR (λy hy=>by cases hy) (e5.fresh u6 f1)
 by_cases c1:kd.1<1
 ·have g1:((kd.1:Int)<1)=True:=eq_true (by omega);rw[if_pos (.inl c1)] at hp;simp only[g1,aHF,cE,reduceIte,cV,Nat.reduceAdd];exact bad e4 Z4 hp
 have g1:((kd.1:Int)<1)=False:=eq_false (by omega);by_cases c2:2<kd.1
 ·have g2:((2:Int)<(kd.1:Int))=True:=eq_true (by omega);rw[if_pos (.inr (.inl c2))] at hp;simp only[g1,g2,aHF,cE,reduceIte,cV,Nat.reduceAdd];exact bad e4 Z4 hp
 have g2:((2:Int)<(kd.1:Int))=False:=eq_false (by omega);by_cases c3:2<nn.1
 ·have g3:((2:Int)<(nn.1:Int))=True:=eq_true (by omega);rw[if_pos (.inr (.inr c3))] at hp;simp only[g1,g2,g3,aHF,cE,reduceIte,cV,Nat.reduceAdd];exact bad e4 Z4 hp
 have g3:((2:Int)<(nn.1:Int))=False:=eq_false (by omega);rw[if_neg (by omega)] at hp;have eab:((kd.1:Int)==2)=decide (kd.1=2):=by rw[zLm];simp;omega
 simp only[g1,g2,g3,iG,eab,aLd,cE,reduceIte,cV,Nat.reduceAdd];intro r32 hr32
 try rw[cW]
 have n132:r1≠r32:=Z4.apart hr32;have na32:r32≠a:=λe=>by have:=R4'.here;rw[←e,hr32] at this;cases this
 have k32:h r32=none:=e4.none hr32;refine cC.fill (vs:=[.bool (decide (kd.1=2)),.slice none 0 0]) hr32 rfl (by simp[fX]) λh5 B5 u5=>?_;have f32:eN h [r32]:=eN.one k32;refine⟨λvs h'=>∃(i:Nat) (l:List LV) (s':kW) (lv:Value) (F:List Nat),i≤nn.1∧vs=[pT r1 0,pT a 0,pT r32 0,.int .i64 (nn.1:Int),.int .i64 (i:Int)]∧rE h' a s'.1 s'.2∧Bx h' r32 [.bool (decide (kd.1=2)),lv]∧eO h' cB 5 lv (l.map qI) F∧LfO h' l (a::r1::r32::F)∧eN h F∧a∉F∧r1∉F∧r32∉F∧Bx h' r1 (Value.cells (Pf.val false (.slice none 0 0))).toList∧dC h h'∧pO nn.1 nn.2 []=pO (nn.1-i) s' (l.map (·.1))∧l.length≤i,gV nn.1 4,⟨0,[],nn.2,_,[],by omega,rfl,R4'.ext u5,B5,eO.nil,(λy hy=>by cases hy),(λb hb=>by cases hb),by simp,by simp,by simp,Z4.ext u5,e4.trans u5,rfl,by simp⟩,?_⟩;rintro ρ h' ⟨i,l,s',lv,F,hi,hvs,R',B',O',L',f',na,n1,n32,Z',e',hr,hll⟩;simp only[iJ,iZ,lP,and_true] at hvs;obtain⟨v0,v1,v2,v3,v4⟩:=hvs;unfold aJ1;rw[v0,v1,v2,v3,v4];by_cases hlt:i<nn.1
 ·have g:((i:Int)<(nn.1:Int))=True:=eq_true (by omega);have gi:=qQ (i:=i) (by omega);have ll:∀{h'':PH},Bx h'' r32 [.bool (decide (kd.1=2)),lv]->cH PG h'' (loadAt cN (pT r32 1))=some lv:=λB=>by rw[cN.load,B.cell];rfl
  simp only[g,cC.f1,fO,ll B',cE,reduceIte,cV,Nat.reduceAdd];refine aYP R' λh2 pv G R2 O2 fG u2=>?_;have B2:=B'.upd u2 (by simpa using na32);refine⟨ll B2,?_⟩;have OL2:=O'.upd u2 (λb hb=>by simp only[gE];rintro rfl;exact na hb);have L2:=L'.upd u2 (λb hb=>by simp at hb;simp[hb]);have Z2':=Z'.upd u2 (by simpa using na1);have e2:=e'.fresh u2 fa;simp only[aMr,cE,reduceIte,cV,Nat.reduceAdd];intro r43 hr43;refine fT ?_
  try rw[cW]
  have u3:dC h2 (h2.set r43 (.cells ((rA s').1.cells pv).toArray cB)):=cT.new hr43;have s1:gB (h2.set r43 (.cells ((rA s').1.cells pv).toArray cB)) 5 (.slice (some ⟨r43,0,none⟩) 1 1) ([((rA s').1,pv)].map qI):=(eO.lit (qI.rows [((rA s').1,pv)]) dJ (by simp) (by decide) (by simp[qI])).slR;generalize h2.set r43 (.cells ((rA s').1.cells pv).toArray cB)=h3 at *;refine jL cN.und cN.und cB.info cB.size cB.bytes cB.zero rfl (by decide) (OL2.ext u3) s1 (λr hr u hu=>by
   obtain⟨y,hy,rfl⟩:=mG.1 hr;simp only[gE] at hy;subst hy;exact Lf.isC _ O2.slR.isc u hu) (by simp;omega) ?_
  intro v4' h4' F4 O4 u4' g4 _;rw[←pY] at O4;have R3:=R2.ext u3;have na4:a∉F4:=λhb=>by
   rcases g4 _ hb with hx|hx
   ·exact na hx
   ·have:=R3.here;rw[hx] at this;cases this
  have n14:r1∉F4:=λhb=>by
   rcases g4 _ hb with hx|hx
   ·exact n1 hx
   ·exact(Z2'.ext u3).known hx
  have n324:r32∉F4:=λhb=>by
   rcases g4 _ hb with hx|hx
   ·exact n32 hx
   ·exact(B2.ext u3).known hx
  have e3:=e2.trans u3;have f4:eN h F4:=f'.grow e3 g4
  -- the paths, the new one too
  have L3:LfO h3 (l++[((rA s').1,pv)]) (a::r1::r32::F):=λy hy=>by
   rcases kA.1 hy with hy|hy
   ·exact(L2.upd (K:=[]) u3 (λb hb=>by cases hb)) y hy
   ·simp only[gE] at hy;subst hy;refine⟨G,O2.ext u3,λb hb hb'=>?_⟩;have hb0:=fG b hb;simp only[gU] at hb';rcases hb' with rfl|rfl|rfl|hb'
    ·have:=R'.here;rw[hb0] at this;cases this
    ·exact Z'.known hb0
    ·exact B'.known hb0
    ·exact O'.known _ hb' hb0
  have L4:LfO h4' (l++[((rA s').1,pv)]) (a::r1::r32::F4):=by
   have:=L3.grow (B':=a::r1::r32::(F++F4)) (λb hb=>by
    simp only[gU,kA] at hb ⊢;rcases hb with hb|hb|hb|hb|hb
    ·exact .inl (.inl hb)
    ·exact .inl (.inr (.inl hb))
    ·exact .inl (.inr (.inr (.inl hb)))
    ·exact .inl (.inr (.inr (.inr hb)))
    ·rcases g4 b hb with hx|hx
     ·exact .inl (.inr (.inr (.inr hx)))
     ·exact .inr hx)
   exact(this.upd u4' (λb hb=>by simp[hb])).grow (λb hb=>.inl (by
    simp only[gU,kA] at hb ⊢;rcases hb with hb|hb|hb|hb
    ·exact .inl hb
    ·exact .inr (.inl hb)
    ·exact .inr (.inr (.inl hb))
    ·exact .inr (.inr (.inr (.inr hb)))))
  have B4':=(B2.ext u3).upd u4' n32;simp only[cC.f1,fO,gi,cE,reduceIte,cV,Nat.reduceAdd];refine cN.put B4' (o:=1) (by show 1<2;decide) O4.slR.isc λh5' B5' u5'=>?_;refine⟨⟨i+1,l++[((rA s').1,pv)],(rA s').2,v4',F4,by omega,rfl,(R3.upd u4' na).upd u5' (by simpa using na32.symm),B5',O4.upd u5' (λb hb=>by simp only[gE];rintro rfl;exact n324 hb),L4.upd u5' (λb hb=>by simp at hb;simp[hb]),f4,na4,n14,n324,((Z2'.ext u3).upd u4' n1).upd u5' (by simpa using n132),(e3.fresh u4' f').fresh u5' f32,?_,by simp;omega⟩,by simp[gV,v4];omega⟩;rw[hr,show nn.1-i=(nn.1-(i+1))+1 by omega,pO];simp
 ·have g:((i:Int)<(nn.1:Int))=False:=eq_false (by omega);rw[show nn.1-i=0 by omega,pO] at hr;rw[hr] at hp;simp only at hp;simp only[g,cE,reduceIte,cV,Nat.reduceAdd];refine aXy R' ?_;by_cases hz:aMR s'=0
  ·rw[if_neg (by simpa using hz)] at hp;have lf:cH PG h' (loadAt cC (pT r32 0))=some (Pf.val (decide (kd.1=2)) lv):=cC.agg B' (by show 0+2≤2;decide);simp only[hz,kP,lf,cE,reduceIte,cV,Nat.reduceAdd];refine cC.put (vs:=[.bool (decide (kd.1=2)),lv]) Z' (o:=0) rfl (by show 0+2≤2;decide) (by
    have:=O'.slR.isc;simp[fX];exact this) λh6 B6 u6=>?_
   have l6:cH PG h6 (loadAt cC (pT r1 0))=some (Pf.val (decide (kd.1=2)) lv):=cC.agg B6 (by show 0+2≤2;decide);simp only[l6,cE,reduceIte,cV,Nat.reduceAdd];rw[hp] at hk;exact hk h6 lv l rfl (O'.upd u6 (λb hb=>by simp only[gE];rintro rfl;exact n1 hb)).slR (L'.upd u6 (λb hb=>by simp at hb;simp[hb])).lfs (e'.fresh u6 f1)
  ·rw[if_pos hz] at hp;have q:(aMR s' !=0)=true:=by simp[hz]
   simp only[kP,q,aHF,cE,reduceIte,cV,Nat.reduceAdd];exact bad e' Z' hp
structure Lf.Bd(f:Lf):Prop where
 m:f.path.length≤255
 k:f.p.k.length≤65535
 v:f.p.v.length≤65535
def aP5:∀(n:Nat) (st:kW) (acc:List Tx),(yR n st acc).1.length≤acc.length+n
 | 0,st,acc=>by simp[yR]
 | n+1,st,acc=>by
  rw[yR];split
  ·have:=aP5 n (jX st 32).2 (acc++[(jX st 32).1]);rw[jS] at this;simp at this ⊢;omega
  ·simp only;omega
def aRY(st:kW):(mU st).1.length≤65535:=by
 have h1:=aJM (gT st 2).2 (gT st 2).1;have h2:=aHo st 2;unfold mU;omega
def aV4(st:kW):(rA st).1.Bd:=by
 have h1:=aP5 (gT (mU (mU (kX (kX st).2).2).2).2 1).1 (gT (mU (mU (kX (kX st).2).2).2).2 1).2 [];have h2:=aHo (mU (mU (kX (kX st).2).2).2).2 1;exact⟨by
  show(yR _ _ []).1.length≤255;simp only[zLN] at h1;omega,aRY _,aRY _⟩
def aOj:∀(n:Nat) (st:kW) (acc:List Lf),(∀f∈acc,f.Bd)->∀f∈(pO n st acc).1,f.Bd
 | 0,st,acc,h=>h
 | n+1,st,acc,h=>by
  rw[pO];refine aOj n _ _ λf hf=>?_;rcases kA.1 hf with hf|hf
  ·exact h f hf
  ·simp only[gE] at hf;subst hf;exact aV4 st
def aLe(s:Tx):∀f∈(iH s).1.lv,f.Bd:=by
 unfold iH;split
 ·intro f hf;cases hf
 ·split
  ·intro f hf;cases hf
  ·exact aOj _ _ _ (λf hf=>by cases hf)
def aNA:∀(n:Nat) (st:kW) (acc:List Lf),(pO n st acc).1.length=acc.length+n
 | 0,st,acc=>rfl
 | n+1,st,acc=>by rw[pO,aNA n];simp;omega
def aKA(s:Tx):(iH s).1.lv.length≤2:=by
 unfold iH;split
 ·decide
 ·split
  ·decide
  ·simp only[aNA];simp;omega
def Pr.eql{h:PH}{x y:Operand}(p q:Pr):cH PG h (jW .eql cM x y p.val q.val)=some (.bool (p==q)):=by
 have e:cH PG h (Op.equalIn (9999+1) cM (.agg #[.string (tx p.k),.string (tx p.v)]) (.agg #[.string (tx q.k),.string (tx q.v)]))=some ((tx p.k==tx q.k)&&((tx p.v==tx q.v)&&true)):=by
  refine(aBw cM.und (by kernel_rfl) (λf=>match f.offset with|0=>tx p.k==tx q.k|_=>tx p.v==tx q.v) ?_);intro f hf;simp only[gU,lH,or_false] at hf;rcases hf with rfl|rfl
  ·exact⟨by decide,_,_,jV bR.und rfl rfl,jV bR.und rfl rfl,aFn bR.und⟩
  ·exact⟨by decide,_,_,jV bR.und rfl rfl,jV bR.und rfl rfl,aFn bR.und⟩
 have:=aL7 (x:=x) (y:=y) (t:=cM) (P:=PG) (h:=h) (by kernel_rfl) e;rw[show p.val= .agg #[.string (tx p.k),.string (tx p.v)] from rfl,show q.val= .agg #[.string (tx q.k),.string (tx q.v)] from rfl,this];congr 2;rw[aEc,aEc,zLm];obtain⟨a,b⟩:=p;obtain⟨c,d⟩:=q;simp only[Bool.and_true,zI,decide_eq_true_eq,beq_iff_eq,Pr.mk.injEq];exact⟨λ⟨x,y⟩=>⟨aMk x,aMk y⟩,λ⟨x,y⟩=>⟨by rw[x],by rw[y]⟩⟩
def gB.lff{h:PH}{v:Value}{l:List LV}(S:gB h 5 v (l.map qI)){j:Nat}{y:LV}(hy:l[j]? =some y):
  ∃b o,dG PG (indexAt cN v (.int .i64 (j:Int)))=some (pT b o)∧(∀{h':PH},dC h h'->cH PG h' (loadAt bT (pT b o))=some (.int .i64 y.1.i)∧cH PG h' (loadAt bT (pT b (o+1)))=some (.int .i64 y.1.n)∧cH PG h' (loadAt bR (pT b (o+2)))=some (.string (tx y.1.p.k))∧cH PG h' (loadAt cM (pT b (o+2)))=some y.1.p.val):=by
 obtain⟨b,o,cs,e',fr,h1,hb,hle,hex⟩:=S.at cN.und cB.info cB.size (k:=.i64) (j:=(j:Int)) (r:=qI y) (by omega) (by rw[wK,qP,hy];rfl);have hd:∀i n,i+n≤5->(cs.extract (o+i) (o+i+n)).toList=((qI y).drop i).take n:=λi n hi=>by
  rw[←hex];simp only[zLD,zLx,aJn,zLy,aHj,aKO];congr 1;omega
 have hc:∀i,i<5->cs[o+i]? =(qI y)[i]?:=λi hi=>by
  have:=congrArg (λl:List Value=>l[0]?) (hd i 1 (by omega));simp only[zLD,zLx,aJn,aJb,aNo,Nat.add_zero] at this;simpa using this
 refine⟨b,o,h1,fun {h'} u=>?_⟩;have hb':=u.get hb;refine⟨?_,?_,?_,?_⟩
 ·rw[bT.load];unfold dB;simp only[hb'];exact hc 0 (by decide)
 ·rw[bT.load];unfold dB;simp only[hb'];exact hc 1 (by decide)
 ·rw[bR.load];unfold dB;simp only[hb'];exact hc 2 (by decide)
 ·rw[cM.loadAgg hb' (by omega)];congr 2;exact zLw (hd 2 2 (by decide))
def aOa{h:PH}{root:Tx}{v:Value}{l:List LV}(hK:oL h)(S:gB h 5 v (l.map qI))(HS:LfS h l)(hl:l.length≤1000000)(hb:∀y∈l,y.1.Bd){k:cD}(hk:∀h',dC h h'->k (.bool (oV root (l.map (·.1)))) h'):
  aT PG aE8 #[.string (tx root),v] h k:=by
 apply aH3.call;unfold aH3;intro r1 hr1
 try rw[cW]
 have u1:dC h (h.set r1 (.cells (Value.cells (.string (tx root))) bR)):=cT.new hr1;have B1:Bx (h.set r1 (.cells (Value.cells (.string (tx root))) bR)) r1 [.string (tx root)]:=Bx.new;generalize h.set r1 (.cells (Value.cells (.string (tx root))) bR)=h1 at *
 try simp only[oM,cE,reduceIte,cV,Nat.reduceAdd]
 refine aRt (f:=λy=>!(qH y.1==some root)) (S.ext u1) hl (λy hy h' u k' hk'=>?_) λh3 u3=>?_
 ·show aT PG aGP #[y.1.val y.2,pT r1 0] h' k';apply aGC.call;unfold aGC;intro r hr
  try rw[cW]
  have v1:dC h' (h'.set r (.cells (Value.cells (y.1.val y.2)) cB)):=cT.new hr;have C1:Bx (h'.set r (.cells (Value.cells (y.1.val y.2)) cB)) r (y.1.cells y.2):=Bx.new;generalize h'.set r (.cells (Value.cells (y.1.val y.2)) cB)=h'' at *;have lf:cH PG h'' (loadAt cB (pT r 0))=some (y.1.val y.2):=cB.agg C1 (by show 0+5≤5;decide);have lr:∀{h4:PH},dC h'' h4->cH PG h4 (loadAt bR (pT r1 0))=some (.string (tx root)):=λw=>by rw[bR.load,(((B1.ext u).ext v1).ext w).cell];rfl
  have bd:=hb y hy;have b1:=bd.m;have b2:=bd.k;have b3:=bd.v;simp only[lf,cE,reduceIte,cV,Nat.reduceAdd];refine aVx ((HS y hy).ext ((u1.trans u).trans v1)) (by omega) (by omega) (hK.ext ((u1.trans u).trans v1)) (λt h4 e4 _ u4=>?_) (λe4 h4 u4=>?_)
  ·have:=hk' h4 (v1.trans u4);have ed:(!(qH y.1==some root))=!decide (t=root):=by rw[e4,zLm];simp
   rw[ed] at this;simp only[lr u4,aFz,cE,reduceIte,cV,Nat.reduceAdd];exact this
  ·have:=hk' h4 (v1.trans u4);have ed:(!(qH y.1==some root))=true:=by rw[e4];rfl
   rw[ed] at this;simp only[cE,reduceIte,cV,Nat.reduceAdd];exact this
 ·have:=hk h3 (u1.trans u3);have e:oV root (l.map (·.1))=!(l.any λy=>!(qH y.1==some root)):=by
   unfold oV;rw[List.all_map,zLm];simp[aEw,List.any_eq_true]
  rw[e] at this;generalize (l.any λy=>!(qH y.1==some root))=b at this ⊢;cases b<;>(simp only[cE,reduceIte,cV,Nat.reduceAdd];exact this)
def aTb{h:PH}{root s key v:Tx}(hK:oL h){k:cD}(hk:∀h',dC h h'->k (.bool (aDz root s key v)) h'):aT PG aHN #[.string (tx root),.string (tx s),.string (tx key),.string (tx v)] h k:=by
 apply aJw.call;unfold aJw;have hbd:=aLe s;unfold aDz at hk;refine aRX λh1 lv l el S HS u1=>?_;have hl2:l.length≤2:=by have:=aKA s;rw[←el] at this;simpa using this
 rw[←el] at hk hbd;generalize iH s=P at *;obtain⟨⟨ab,_⟩,e⟩:=P;simp only at hk hbd;simp only[cE,reduceIte,cV,Nat.reduceAdd];intro r5 hr5
 try rw[cW]
 refine cC.fill (vs:=[.bool ab,lv]) hr5 rfl (by have:=S.isc;simp[fX];exact this) λh2 B2 u2=>?_;have e2:=u1.trans u2;have la:cH PG h2 (loadAt gQ (pT r5 0))=some (.bool ab):=by rw[gQ.load,B2.cell];rfl
 have ll:cH PG h2 (loadAt cN (pT r5 1))=some lv:=by rw[cN.load,B2.cell];rfl
 have ln:=aJj S;by_cases c0:e=0
 case neg=>
  have q:(e==0)=false:=by simpa using c0
  simp only[q,vN] at hk;simp only[iG,q,cE,reduceIte,cV,Nat.reduceAdd];exact hk _ e2
 subst c0;cases ab with
 | true=>
  simp only[beq_self_eq_true,Bool.not_true,aFa,vN,zLp] at hk;simp only[iG,cC.f0,la,cE,reduceIte,cV,Nat.reduceAdd];exact hk _ e2
 | false=>
  match l,hl2 with
  | [],_=>
   have q:(((([]:List LV).length:Nat):Int)==1)=false:=rfl;simp only[iZ,aFa,vN] at hk;simp only[iG,cC.f0,cC.f1,fO,la,ll,ln,q,cE,reduceIte,cV,Nat.reduceAdd];exact hk _ e2
  | [a,b],_=>
   have q:((([a,b].length:Nat):Int)==1)=false:=rfl;simp only[iJ,iZ,aFa,vN] at hk;simp only[iG,cC.f0,cC.f1,fO,la,ll,ln,q,cE,reduceIte,cV,Nat.reduceAdd];exact hk _ e2
  | [a],_=>
   have q:((([a].length:Nat):Int)==1)=true:=rfl;obtain⟨b,o,i1,i2⟩:=S.lff (j:=0) (y:=a) rfl;rw[show((0:Nat):Int)=0 from rfl] at i1;obtain⟨-,-,-,i3⟩:=i2 u2;have pb:dG PG (build cM #[(0,.string (tx key)),(1,.string (tx v))])=some (Pr.val ⟨key,v⟩):=by kernel_rfl
   simp only[iJ,iZ,beq_self_eq_true,zLq,zLp] at hk;simp only[iG,cC.f0,cC.f1,cB.f2,fO,la,ll,ln,q,i1,i3,pb,Pr.eql,cE,reduceIte,cV,Nat.reduceAdd];cases hq:(a.1.p==(⟨key,v⟩:Pr)) with
   | false=>
    rw[hq] at hk;simp only[vN] at hk;simp only[cE,reduceIte,cV,Nat.reduceAdd];exact hk _ e2
   | true=>
    rw[hq] at hk;simp only[zLp] at hk;simp only[cC.f1,fO,ll,cE,reduceIte,cV,Nat.reduceAdd];refine aOa (l:=[a]) (hK.ext e2) (S.ext u2) (HS.ext u2) (by simp) (λy hy=>hbd y.1 (zL8 hy)) λh3 u3=>?_
    try simp only[cE,reduceIte,cV,Nat.reduceAdd]
    exact hk h3 (e2.trans u3)
def aU1{h:PH}{root s key:Tx}(hK:oL h){k:cD}(hk:∀h',dC h h'->k (.bool (aEh root s key)) h'):aT PG aHe #[.string (tx root),.string (tx s),.string (tx key)] h k:=by
 apply aDq.call;unfold aDq;have hbd:=aLe s;unfold aEh at hk;refine aRX λh1 lv l el S HS u1=>?_;have hl2:l.length≤2:=by have:=aKA s;rw[←el] at this;simpa using this
 rw[←el] at hk hbd;generalize iH s=P at *;obtain⟨⟨ab,_⟩,e⟩:=P;simp only at hk hbd;simp only[cE,reduceIte,cV,Nat.reduceAdd];intro r5 hr5
 try rw[cW]
 refine cC.fill (vs:=[.bool ab,lv]) hr5 rfl (by have:=S.isc;simp[fX];exact this) λh2 B2 u2=>?_;have e2:=u1.trans u2;have la:cH PG h2 (loadAt gQ (pT r5 0))=some (.bool ab):=by rw[gQ.load,B2.cell];rfl
 have ll:∀{h':PH},dC h2 h'->cH PG h' (loadAt cN (pT r5 1))=some lv:=λu=>by rw[cN.load,(B2.ext u).cell];rfl
 have ln:=aJj S;have lk:dG PG (Builtin.len_ #[bR] bT #[.string (tx key)])=some (.int .i64 (key.length:Int)):=by rw[mL bR.und,iF]
 by_cases c0:e=0
 case neg=>
  have q:(e==0)=false:=by simpa using c0
  have q':(e !=0)=true:=by simpa using c0
  simp only[q,vN] at hk;simp only[kP,q',cE,reduceIte,cV,Nat.reduceAdd];exact hk _ e2
 subst c0;cases ab with
 | false=>
  simp only[aFa,vN] at hk;simp only[kP,cC.f0,la,cE,reduceIte,cV,Nat.reduceAdd];exact hk _ e2
 | true=>
  by_cases c1:key.length<1
  ·have g1:((key.length:Int)<1)=True:=eq_true (by omega);have d1:decide (1≤key.length)=false:=decide_eq_false (by omega);simp only[d1,aFa,vN] at hk;simp only[kP,cC.f0,la,lk,g1,cE,reduceIte,cV,Nat.reduceAdd];exact hk _ e2
  have g1:((key.length:Int)<1)=False:=eq_false (by omega);have d1:decide (1≤key.length)=true:=decide_eq_true (by omega);by_cases c2:16<key.length
  ·have g2:((16:Int)<(key.length:Int))=True:=eq_true (by omega);have d2:decide (key.length≤16)=false:=decide_eq_false (by omega);simp only[d2,aFa,vN] at hk;simp only[kP,cC.f0,la,lk,g1,g2,cE,reduceIte,cV,Nat.reduceAdd];exact hk _ e2
  have g2:((16:Int)<(key.length:Int))=False:=eq_false (by omega);have d2:decide (key.length≤16)=true:=decide_eq_true (by omega);simp only[d1,d2,beq_self_eq_true,zLp,Bool.and_self] at hk;simp only[kP,cC.f0,cC.f1,fO,la,lk,ll cT.refl,g1,g2,cE,reduceIte,cV,Nat.reduceAdd];refine aOa (l:=l) (hK.ext e2) (S.ext u2) (HS.ext u2) (by omega) (λy hy=>hbd y.1 (zL8 hy)) λh3 u3=>?_;have e3:=e2.trans u3;cases hc:oV root (l.map (·.1)) with
  | false=>
   rw[hc] at hk;simp only[vN] at hk;simp only[cE,reduceIte,cV,Nat.reduceAdd];exact hk _ e3
  | true=>
   rw[hc] at hk;simp only[zLp] at hk
   match l,hl2 with
   | [],_=>
    have q:(((([]:List LV).length:Nat):Int)==0)=true:=rfl;simp only[iZ] at hk;simp only[iG,cC.f1,fO,ll u3,ln,q,cE,reduceIte,cV,Nat.reduceAdd];refine aNW (l:=[]) (by simp) (hK.ext e3) (eO.nil (e:=cM) (size:=2)).slR (λp hp=>by cases hp) λh4 u4=>?_;have:=hk h4 (e3.trans u4);rw[show(root==oC [])=decide (root=oC []) by rw[zLm];simp] at this;simp only[aFx,cE,reduceIte,cV,Nat.reduceAdd];exact this
   | [a],_=>
    have q0:((([a].length:Nat):Int)==0)=false:=rfl;have q1:((([a].length:Nat):Int)==1)=true:=rfl;obtain⟨b,o,i1,i2⟩:=S.lff (j:=0) (y:=a) rfl;rw[show((0:Nat):Int)=0 from rfl] at i1;obtain⟨x1,x2,x3,-⟩:=i2 (u2.trans u3);have hk:=hk h3 e3;simp only[iJ,iZ] at hk;simp only[iG,cC.f1,cB.f0,cB.f1,cB.f2,cM.f0,fO,ll u3,ln,q0,q1,i1,x1,cE,reduceIte,cV,Nat.reduceAdd];cases hi:a.1.i==0 with
    | true=>
     rw[hi] at hk;by_cases c3:key<a.1.p.k
     ·have d3:=decide_eq_true c3;rw[d3] at hk;simp only[Bool.true_or,Bool.and_self] at hk;simp only[i1,cB.f2,cM.f0,x3,yE,d3,cE,reduceIte,cV,Nat.reduceAdd];exact hk
     ·have d3:=decide_eq_false c3;rw[d3] at hk;simp only[aFa,aKS] at hk;simp only[i1,cB.f0,cB.f1,cB.f2,cM.f0,x1,x2,x3,yE,d3,iG,cE,reduceIte,cV,Nat.reduceAdd];cases hj:a.1.i==IntKind.i64.wrap (a.1.n-1) with
      | true=>
       rw[hj] at hk;simp only[zLp] at hk;simp only[i1,cB.f2,cM.f0,x3,yE,cE,reduceIte,cV,Nat.reduceAdd];exact hk
      | false=>
       rw[hj] at hk;simp only[vN] at hk;simp only[cE,reduceIte,cV,Nat.reduceAdd];exact hk
    | false=>
     rw[hi] at hk;simp only[vN,aKS] at hk;simp only[i1,cB.f0,cB.f1,x1,x2,iG,cE,reduceIte,cV,Nat.reduceAdd];cases hj:a.1.i==IntKind.i64.wrap (a.1.n-1) with
     | true=>
      rw[hj] at hk;simp only[zLp] at hk;simp only[i1,cB.f2,cM.f0,x3,yE,cE,reduceIte,cV,Nat.reduceAdd];exact hk
     | false=>
      rw[hj] at hk;simp only[vN] at hk;simp only[cE,reduceIte,cV,Nat.reduceAdd];exact hk
   | [a,c],_=>
    have q0:((([a,c].length:Nat):Int)==0)=false:=rfl;have q1:((([a,c].length:Nat):Int)==1)=false:=rfl;obtain⟨b,o,i1,i2⟩:=S.lff (j:=0) (y:=a) rfl;rw[show((0:Nat):Int)=0 from rfl] at i1;obtain⟨x1,x2,x3,-⟩:=i2 (u2.trans u3);obtain⟨b',o',j1,j2⟩:=S.lff (j:=1) (y:=c) rfl;rw[show((1:Nat):Int)=1 from rfl] at j1;obtain⟨y1,y2,y3,-⟩:=j2 (u2.trans u3);have hk:=hk h3 e3;simp only[iJ,iZ] at hk;simp only[iG,cC.f1,cB.f0,cB.f1,cB.f2,cM.f0,fO,ll u3,ln,q0,q1,i1,x2,j1,y2,cE,reduceIte,cV,Nat.reduceAdd];cases h1:a.1.n==c.1.n with
    | false=>
     rw[h1] at hk;simp only[vN] at hk;simp only[cE,reduceIte,cV,Nat.reduceAdd];exact hk
    | true=>
     rw[h1] at hk;simp only[zLp] at hk;simp only[i1,j1,cB.f0,x1,y1,iG,cE,reduceIte,cV,Nat.reduceAdd];cases h2':IntKind.i64.wrap (a.1.i+1)==c.1.i with
     | false=>
      rw[h2'] at hk;simp only[vN] at hk;simp only[cE,reduceIte,cV,Nat.reduceAdd];exact hk
     | true=>
      rw[h2'] at hk;simp only[zLp] at hk;simp only[i1,j1,cB.f2,cM.f0,x3,y3,yE,cE,reduceIte,cV,Nat.reduceAdd];cases h3':decide (a.1.p.k<key) with
      | false=>
       rw[h3'] at hk;simp only[vN] at hk;simp only[cE,reduceIte,cV,Nat.reduceAdd];exact hk
      | true=>
       rw[h3'] at hk;simp only[zLp] at hk;simp only[i1,j1,cB.f2,cM.f0,x3,y3,yE,cE,reduceIte,cV,Nat.reduceAdd];exact hk
def aYB(x:Int):dG PG (convert bT nV (.int .i64 x))=some (.int .u64 (IntKind.u64.wrap x)):=by kernel_rfl
def aYE(x:Int):dG PG (convert nV bT (.int .u64 x))=some (.int .i64 (IntKind.i64.wrap x)):=by kernel_rfl
def bAS{t:TypeId}{n:Nat}:dG PG (binOp .shr t (.int .u64 (n:Int)) (.int .u64 1))=some (.int .u64 ((n/2:Nat):Int)):=by
 rw[aJS (by decide)];congr 2;show(n:Int).fdiv (2^1)=_;rw[Int.fdiv_eq_ediv_of_nonneg _ (by decide)];have:(2:Int)^1=2:=by rfl
 omega
def fnF:Value:=.func (.func yY) #[] #[]
def aSF{h:PH}{p:Pr}{key:Tx}{k:cD}(hk:∀h',dC h h'->k (.int .i64 (if p.k<key then -1 else if key<p.k then 1 else 0)) h'):aT PG yY #[p.val,.string (tx key)] h k:=by
 apply aGs.call;unfold aGs;intro r1 hr1
 try rw[cW]
 have u1:dC h (h.set r1 (.cells (Value.cells p.val) cM)):=cT.new hr1;have B1:Bx (h.set r1 (.cells (Value.cells p.val) cM)) r1 p.cells:=Bx.new;generalize h.set r1 (.cells (Value.cells p.val) cM)=h1 at *;have lk:cH PG h1 (loadAt bR (pT r1 0))=some (.string (tx p.k)):=by rw[bR.load,B1.cell];rfl
 simp only[cM.f0,lk,cE,reduceIte,cV,Nat.reduceAdd];refine aOq ?_;exact hk _ u1
def aQz{h:PH}{v:Value}{l:List Pr}(S:gB h 2 v (l.map Pr.cells))(hs:sK l)(hl:l.length≤1000000)(key:Tx){k:cD}(hk:∀h',dC h h'->k (.tuple #[.int .i64 ((hQ l key:Nat):Int),.bool (iI l key).isSome]) h'):
  aT PG aF4 #[v,.string (tx key)] h k:=by
 apply aIw.call;unfold aIw;apply kN.call;unfold kN;have lv:=S.len (t':=bT) cJ.und;rw[jB] at lv;have hple:=aJQ l key;simp only[lv,cE,reduceIte,cV,Nat.reduceAdd];refine⟨λvs h'=>∃i j:Nat,i≤hQ l key∧hQ l key≤j∧j≤l.length∧vs=[v,.string (tx key),fnF,.int .i64 (l.length:Int),.int .i64 (i:Int),.int .i64 (j:Int)]∧dC h h',λvs _=>match vs with|[_,_,_,_,.int _ i,.int _ j]=>(j-i).toNat|_=>0,⟨0,l.length,by omega,hple,by omega,rfl,cT.refl⟩,?_⟩;rintro ρ h' ⟨i,j,h1,h2,h3,hvs,u⟩;simp only[iJ,iZ,lP,and_true] at hvs;obtain⟨v0,v1,v2,v3,v4,v5⟩:=hvs;unfold oR;rw[v0,v1,v2,v3,v4,v5];by_cases hlt:i<j
 ·have g:((i:Int)<(j:Int))=True:=eq_true (by omega);have w1:IntKind.i64.wrap ((i:Int)+(j:Int))=((i+j:Nat):Int):=by rw[fI (by omega) (by omega)];omega
  have w2:IntKind.u64.wrap ((i+j:Nat):Int)=((i+j:Nat):Int):=gL (by omega) (by omega);have w3:IntKind.i64.wrap (((i+j)/2:Nat):Int)=(((i+j)/2:Nat):Int):=fI (by omega) (by omega);obtain⟨m,hm⟩:∃m,m=(i+j)/2:=⟨_,rfl⟩;have hmj:m<j:=by omega
  have him:i≤m:=by omega
  have w4:=qQ (i:=m) (by omega);rw[←hm] at w3;obtain⟨p,hp⟩:∃p,l[m]? =some p:=⟨_,lU (by omega)⟩;obtain⟨b,o,a1,-,-,a2⟩:=(S.ext u).pair hp;have hpl:=aGL (k:=key) hs hp;simp only[g,w1,aYB,w2,bAS,←hm,aYE,w3,a1,a2,cE,reduceIte,cV,Nat.reduceAdd];show aT PG yY #[p.val,.string (tx key)] h' _;refine aSF λh4 u4=>?_;unfold lQ;by_cases c:p.k<key
  ·have gc:((-1:Int)<0)=True:=eq_true (by decide);have:=hpl.2 c;rw[if_pos c];simp only[gc,w4,cE,reduceIte,cV,Nat.reduceAdd];exact⟨⟨m+1,j,by omega,h2,h3,rfl,u.trans u4⟩,by simp[v4,v5];omega⟩
  ·have hpn:¬m<hQ l key:=λx=>c (hpl.1 x);rw[if_neg c];have gc:((if key<p.k then(1:Int) else 0)<0)=False:=eq_false (by split<;>decide);simp only[gc,cE,reduceIte,cV,Nat.reduceAdd];exact⟨⟨i,m,h1,by omega,by omega,rfl,u.trans u4⟩,by simp[v4,v5];omega⟩
 ·have g:((i:Int)<(j:Int))=False:=eq_false (by omega);have ei:i=hQ l key:=by omega
  by_cases hil:i<l.length
  ·have g2:((i:Int)<(l.length:Int))=True:=eq_true (by omega);obtain⟨p,hp⟩:∃p,l[i]? =some p:=⟨_,lU hil⟩;obtain⟨b,o,a1,-,-,a2⟩:=(S.ext u).pair hp;have hpl:=aGL (k:=key) hs hp;have hnl:¬p.k<key:=λc=>by have:=hpl.2 c;omega
   simp only[g,g2,a1,a2,cE,reduceIte,cV,Nat.reduceAdd];show aT PG yY #[p.val,.string (tx key)] h' _;refine aSF λh4 u4=>?_;rw[if_neg hnl];have hk:=hk h4 (u.trans u4);rw[←ei] at hk;by_cases c:key<p.k
   ·have hno:(iI l key).isSome=false:=by
     rw[Option.isSome_eq_false_iff,Option.isNone_iff_eq_none,aE7];intro q hq e;obtain⟨x,hx⟩:=List.mem_iff_getElem?.1 hq;have hqk:¬q.k<key:=by rw[e];exact zL1 _
     have:¬x<hQ l key:=λy=>hqk ((aGL hs hx).1 y);rcases Nat.lt_or_ge i x with hix|hix
     ·have:=hs.lt hp hx hix;rw[e] at this;exact zL1 _ (List.lt_trans c this)
     ·have:x=i:=by omega
      rw[this,hp] at hx;cases hx;rw[e] at c;exact zL1 _ c
    have q1:((1:Int)==0)=false:=by decide
    rw[hno] at hk;rw[if_pos c];simp only[iG,q1,cE,reduceIte,cV,Nat.reduceAdd];exact hk
   ·have e:p.k=key:=by
     rcases aHc p.k key with h|h|h
     ·exact absurd h hnl
     ·exact h
     ·exact absurd h c
    have hyes:(iI l key).isSome=true:=by rw[(aBd hs).2 ⟨vR hp,e⟩];rfl
    have q1:((0:Int)==0)=true:=by decide
    rw[hyes] at hk;rw[if_neg c];simp only[iG,q1,cE,reduceIte,cV,Nat.reduceAdd];exact hk
  ·have g2:((i:Int)<(l.length:Int))=False:=eq_false (by omega);have hno:(iI l key).isSome=false:=by
    rw[Option.isSome_eq_false_iff,Option.isNone_iff_eq_none,aE7];intro q hq e;obtain⟨x,hx⟩:=List.mem_iff_getElem?.1 hq;have hxl:=(zLA.1 hx).1;have:=(aGL (k:=key) hs hx).1 (by omega);rw[e] at this;exact zL1 _ this
   have hk:=hk h' u;rw[←ei,hno] at hk;simp only[g,g2,cE,reduceIte,cV,Nat.reduceAdd];exact hk
def wO(j:Nat):List Value:=[.int .i64 (j:Int)]
def wO.rows(l:List Nat):Rows 1 (l.map wO):=λr hr=>by obtain⟨m,_,rfl⟩:=mG.1 hr;rfl
def gB.ic{h:PH}{v:Value}{l:List Nat}(S:gB h 1 v (l.map wO)){j:Nat}{x:Nat}(hx:l[j]? =some x):
  ∃a,dG PG (indexAt nM v (.int .i64 (j:Int)))=some (.pointer (some a))∧cH PG h (loadAt bT (.pointer (some a)))=some (.int .i64 (x:Int)):=
 S.loadCell nM.und bT.info bT.size bT.und rfl (k:=.i64) (j:=(j:Int)) (x:=.int .i64 (x:Int)) (by omega) (by rw[qP,wK,hx];rfl)
def aYk{h:PH}{v:Value}{l:List Nat}(S:gB h 1 v (l.map wO)):dG PG (Builtin.len_ #[nM] bT #[v])=some (.int .i64 l.length):=by
 have:=S.len (t':=bT) nM.und;rw[jB] at this;exact this
def LfN(h0 h:PH)(l:List LV)(B:List Nat):Prop:=∀y∈l,∃G,eO h bR 1 y.2 (y.1.path.map jK) G∧eN h0 G∧∀b∈G,b∉B
def LfN.upd{h0 h h':PH}{l:List LV}{B K:List Nat}(H:LfN h0 h l B)(u:cT K h h')(hK:∀b∈K,b∈B∨h0 b≠none):LfN h0 h' l B:=λy hy=>by
 obtain⟨G,O,f,hG⟩:=H y hy;refine⟨G,O.upd u (λb hb hk=>?_),f,hG⟩;rcases hK b hk with hx|hx
 ·exact hG b hb hx
 ·exact hx (f b hb)
def LfN.grow{h0 h:PH}{l:List LV}{B B':List Nat}(H:LfN h0 h l B)(hB:∀b∈B',b∈B∨h b=none):LfN h0 h l B':=λy hy=>by
 obtain⟨G,O,f,hG⟩:=H y hy;exact⟨G,O,f,λb hb hb'=>by
  rcases hB b hb' with hx|hx
  ·exact hG b hb hx
  ·exact O.known b hb hx⟩
def LfN.lfs{h0 h:PH}{l:List LV}{B:List Nat}(H:LfN h0 h l B):LfS h l:=λy hy=>by
 obtain⟨G,O,-⟩:=H y hy;exact O.slR
def aWn(x y:Int)(p:Pr)(b:Option Addr)(n c:Nat):dG PG (build cB #[(0,.int .i64 x),(1,.int .i64 y),(2,p.val),(3,.slice b n c)])=some (Lf.val ⟨x,y,p,[]⟩ (.slice b n c)):=by kernel_rfl
structure nZ(h0 h:PH)(v:Value)(fs:List Lf):Prop where
 here:∃(l:List LV) (F:List Nat),l.map (·.1)=fs∧eO h cB 5 v (l.map qI) F∧eN h0 F∧LfN h0 h l F
def nZ.upd{h0 h h':PH}{v:Value}{fs:List Lf}{K:List Nat}(H:nZ h0 h v fs)(u:cT K h h')(hK:∀b∈K,h0 b≠none):nZ h0 h' v fs:=by
 obtain⟨l,F,e,O,f,L⟩:=H.here;exact⟨l,F,e,O.upd u (λb hb hk=>hK b hk (f b hb)),f,L.upd u (λb hb=>.inr (hK b hb))⟩
def nZ.isc{h0 h:PH}{v:Value}{fs:List Lf}(H:nZ h0 h v fs):fX v=true:=by
 obtain⟨l,F,e,O,f,L⟩:=H.here;exact O.slR.isc
def nZ.nil{h0 h:PH}:nZ h0 h (.slice none 0 0) []:=⟨[],[],rfl,eO.nil,(λb hb=>by cases hb),(λy hy=>by cases hy)⟩
def aP4{h0 h:PH}{v av:Value}{l:List Pr}{js:List Nat}(u0:dC h0 h)(hK:oL h)(S:gB h 2 v (l.map Pr.cells))(hs:aAc l)(hl:l.length≤4096)(A:gB h 1 av (js.map wO))(hj:∀j∈js,j<l.length)(h2:js.length≤2){k:cD}
  (hk:∀h' v',nZ h0 h' v' (js.map (kQ l))->dC h h'->k v' h'):aT PG uP #[v,av] h k:=by
 apply aCS.call;unfold aCS;have la:=aYk A;have lv:=S.len (t':=bT) cJ.und;rw[jB] at lv;simp only[la,cE,reduceIte,cV,Nat.reduceAdd];refine⟨λvs h'=>∃(i:Nat) (o:Value) (r:List LV) (F:List Nat),i≤js.length∧vs=[v,o,av,.int .i64 (js.length:Int),.int .i64 (i:Int)]∧dC h h'∧r.map (·.1)=(js.take i).map (kQ l)∧eO h' cB 5 o (r.map qI) F∧eN h F∧LfN h h' r F∧r.length≤i,gV js.length 4,⟨0,_,[],[],by omega,rfl,cT.refl,rfl,eO.nil,(λb hb=>by cases hb),(λy hy=>by cases hy),by simp⟩,?_⟩;rintro ρ h' ⟨i,o,r,F,hi,hvs,u,hr,O,f,L,hrl⟩;simp only[iJ,iZ,lP,and_true] at hvs;obtain⟨v0,v1,v2,v3,v4⟩:=hvs;unfold aJ5;rw[v0,v1,v2,v3,v4];by_cases hlt:i<js.length
 ·have g:((i:Int)<(js.length:Int))=True:=eq_true (by omega);have gi:=qQ (i:=i) (by omega);obtain⟨j,hjj⟩:∃j,js[i]? =some j:=⟨_,lU hlt⟩;have hjl:=hj j (vR hjj);obtain⟨p,hp⟩:∃p,l[j]? =some p:=⟨_,lU hjl⟩;obtain⟨aa,a1,a2⟩:=(A.ext u).ic hjj;obtain⟨b,q,b1,-⟩:=S.pair hp;have b2:∀{h'':PH},dC h h''->cH PG h'' (loadAt cM (pT b q))=some p.val:=λw=>by
   obtain⟨b',q',c1,-,-,c2⟩:=(S.ext w).pair hp;rw[b1] at c1;cases c1;exact c2
  simp only[g,a1,a2,lv,b1,b2 u,cE,reduceIte,cV,Nat.reduceAdd];refine aXc hjl hl (hK.ext u) (S.ext u) hs λpv h3 G O3 fG u3=>?_;have e3:=u.trans u3;obtain⟨pa,pc,epv,-⟩:=O3.slR.here;refine⟨b2 e3,?_⟩;have hb:dG PG (build cB #[(0,.int .i64 (j:Int)),(1,.int .i64 (l.length:Int)),(2,p.val),(3,pv)])=some ((kQ l j).val pv):=by
   rw[epv,aWn,aL1 hp];rfl
  have hpath:(kQ l j).path=oN l j:=rfl;simp only[hb,aMr,cE,reduceIte,cV,Nat.reduceAdd];intro r13 hr13;refine fT ?_
  try rw[cW]
  have u4:dC h3 (h3.set r13 (.cells ((kQ l j).cells pv).toArray cB)):=cT.new hr13;have s1:gB (h3.set r13 (.cells ((kQ l j).cells pv).toArray cB)) 5 (.slice (some ⟨r13,0,none⟩) 1 1) ([(kQ l j,pv)].map qI):=(eO.lit (qI.rows [(kQ l j,pv)]) dJ (by simp) (by decide) (by simp[qI])).slR;generalize h3.set r13 (.cells ((kQ l j).cells pv).toArray cB)=h4 at *;have e4:=e3.trans u4;refine jL cN.und cN.und cB.info cB.size cB.bytes cB.zero rfl (by decide) ((O.ext u3).ext u4) s1 (λr hr u hu=>by
   obtain⟨y,hy,rfl⟩:=mG.1 hr;simp only[gE] at hy;subst hy;exact Lf.isC _ O3.slR.isc u hu) (by simp;omega) ?_
  intro v5 h5 F5 O5 u5 g5 _;rw[←pY] at O5;have L4:LfN h h4 (r++[(kQ l j,pv)]) F:=λy hy=>by
   rcases kA.1 hy with hy|hy
   ·exact((L.upd u3 (λb hb=>by cases hb)).upd u4 (λb hb=>by cases hb)) y hy
   ·simp only[gE] at hy;subst hy;exact⟨G,O3.ext u4,fG.of u,λb hb hb'=>O.known b hb' (fG b hb)⟩
  have L5:LfN h h5 (r++[(kQ l j,pv)]) F5:=by
   have:=L4.grow (B':=F++F5) (λb hb=>by
    rcases kA.1 hb with hb|hb
    ·exact .inl hb
    ·exact g5 b hb)
   exact(this.upd u5 (λb hb=>.inl (by simp[hb]))).grow (λb hb=>.inl (by simp[hb]))
  simp only[gi,cE,reduceIte,cV,Nat.reduceAdd];refine⟨⟨i+1,v5,r++[(kQ l j,pv)],F5,by omega,rfl,e4.fresh u5 f,?_,O5,f.grow e4 g5,L5,by simp;omega⟩,by simp[gV,v4];omega⟩;rw[pY,hr,zLU,hjj];simp
 ·have g:((i:Int)<(js.length:Int))=False:=eq_false (by omega);rw[mX (by omega)] at hr;simp only[g,cE,reduceIte,cV,Nat.reduceAdd];refine hk h' o ⟨r,F,hr,O,f.of u0,λy hy=>?_⟩ u;obtain⟨G,OG,fG,hG⟩:=L y hy;exact⟨G,OG,fG.of u0,hG⟩
def nZ.of{h0 h1 h:PH}{v:Value}{fs:List Lf}(H:nZ h1 h v fs)(u:dC h0 h1):nZ h0 h v fs:=by
 obtain⟨l,F,e,O,f,L⟩:=H.here;exact⟨l,F,e,O,f.of u,λy hy=>by
  obtain⟨G,OG,fG,hG⟩:=L y hy;exact⟨G,OG,fG.of u,hG⟩⟩
def MOk.small{l:List Pr}(H:MOk l):aAc l:=λp hp=>by
 have:=H.k p hp;have:=H.v p hp;omega
def il1(a:Int):jZ PG (buildSlice nM 1 #[(0,.int .i64 a)])=some (.cells #[.int .i64 a] bT,λr=>pure (.slice (some ⟨r,0,none⟩) 1 1)):=by kernel_rfl
def il2(a b:Int):jZ PG (buildSlice nM 2 #[(0,.int .i64 a),(1,.int .i64 b)])=some (.cells #[.int .i64 a,.int .i64 b] bT,λr=>pure (.slice (some ⟨r,0,none⟩) 2 2)):=by kernel_rfl
def aWb(b:Option Addr)(n c:Nat):dG PG (build cC #[(1,.slice b n c)])=some (Pf.val false (.slice b n c)):=by kernel_rfl
def aTA{h:PH}{v:Value}{l:List Pr}{key:Tx}(H:MOk l)(hK:oL h)(S:gB h 2 v (l.map Pr.cells)){kk:cD}(hno:iI l key=none->∀h',dC h h'->kk (.tuple #[Pf.val false (.slice none 0 0),.int .i64 3]) h')
  (hyes:(iI l key).isSome=true->∀h' v',nZ h h' v' [kQ l (hQ l key)]->dC h h'->kk (.tuple #[Pf.val false v',.int .i64 0]) h'):aT PG aGS #[v,.string (tx key)] h kk:=by
 apply aGA.call;unfold aGA;have hl:=H.len;intro r1 hr1
 try rw[cW]
 have u1:dC h (h.set r1 (.cells (dS PG cC) cC)):=cT.new hr1;have Z1:=cC.zbox (h:=h) (r:=r1);generalize h.set r1 (.cells (dS PG cC) cC)=h1 at *;have f1:eN h [r1]:=eN.one hr1;refine aQz (S.ext u1) H.up (by omega) key λh2 u2=>?_;have e2:=u1.trans u2;have Z2:=Z1.ext u2;cases hg:(iI l key).isSome with
 | false=>
  simp only[aHF,cE,reduceIte,cV,Nat.reduceAdd];refine cC.put (vs:=[.bool false,.slice none 0 0]) Z2 (o:=0) rfl (by show 0+2≤2;decide) (by simp[fX]) λh6 B6 u6=>?_;have l6:cH PG h6 (loadAt cC (pT r1 0))=some (Pf.val false (.slice none 0 0)):=cC.agg B6 (by show 0+2≤2;decide);simp only[l6,cE,reduceIte,cV,Nat.reduceAdd];exact hno (by simpa using hg) h6 (e2.fresh u6 f1)
 | true=>
  obtain⟨p,hp⟩:=Option.isSome_iff_exists.1 hg;have hj:=(zLA.1 (aMG H.up hp)).1;simp only[il1,cE,reduceIte,cV,Nat.reduceAdd];intro r12 hr12;refine fT ?_
  try rw[cW]
  have u3:dC h2 (h2.set r12 (.cells #[.int .i64 ((hQ l key:Nat):Int)] bT)):=cT.new hr12;have A:gB (h2.set r12 (.cells #[.int .i64 ((hQ l key:Nat):Int)] bT)) 1 (.slice (some ⟨r12,0,none⟩) 1 1) ([hQ l key].map wO):=(eO.lit (wO.rows [hQ l key]) dJ (by simp) (by decide) (by simp[wO])).slR;generalize h2.set r12 (.cells #[.int .i64 ((hQ l key:Nat):Int)] bT)=h3 at *;have e3:=e2.trans u3;refine aP4 (h0:=h1) (u2.trans u3) (hK.ext e3) (S.ext e3) H.small hl A (by simpa using hj) (by simp) λh4 v4 L4 u4=>?_;obtain⟨b,n,c,ev⟩:∃b n c,v4= .slice b n c:=by
   obtain⟨l',F,-,O,-⟩:=L4.here;obtain⟨b,c,ev,-⟩:=O.slR.here;exact⟨b,_,c,ev⟩
  have hb:dG PG (build cC #[(1,v4)])=some (Pf.val false v4):=by rw[ev];exact aWb _ _ _
  simp only[hb,cE,reduceIte,cV,Nat.reduceAdd];refine cC.put (vs:=[.bool false,v4]) ((Z2.ext u3).ext u4) (o:=0) rfl (by show 0+2≤2;decide) (by
   have:=L4.isc;simp[fX];exact this) λh6 B6 u6=>?_
  have l6:cH PG h6 (loadAt cC (pT r1 0))=some (Pf.val false v4):=cC.agg B6 (by show 0+2≤2;decide);simp only[l6,cE,reduceIte,cV,Nat.reduceAdd];exact hyes hg h6 v4 ((L4.upd u6 (λb hb=>by simp at hb;rw[hb];exact Z1.known)).of u1) ((e3.trans u4).fresh u6 f1)
def aTW{h:PH}{v:Value}{l:List Pr}{key:Tx}(H:MOk l)(hK:oL h)(S:gB h 2 v (l.map Pr.cells)){kk:cD}(hbad:¬(1≤key.length∧key.length≤16)->∀h',dC h h'->kk (.tuple #[Pf.val false (.slice none 0 0),.int .i64 1]) h')
  (hyes:(iI l key).isSome=true->∀h',dC h h'->kk (.tuple #[Pf.val false (.slice none 0 0),.int .i64 4]) h')
  (hno:1≤key.length->key.length≤16->iI l key=none->∀h' v',nZ h h' v' (lC l key).lv->dC h h'->kk (.tuple #[Pf.val true v',.int .i64 0]) h'):aT PG aHJ #[v,.string (tx key)] h kk:=by
 apply aG4.call;unfold aG4;have hl:=H.len;have hple:=aJQ l key;intro r1 hr1
 try rw[cW]
 have u1:dC h (h.set r1 (.cells (dS PG cC) cC)):=cT.new hr1;have Z1:=cC.zbox (h:=h) (r:=r1);generalize h.set r1 (.cells (dS PG cC) cC)=h1 at *;have f1:eN h [r1]:=eN.one hr1;have lk:dG PG (Builtin.len_ #[bR] bT #[.string (tx key)])=some (.int .i64 (key.length:Int)):=by rw[mL bR.und,iF]
 have lv:=S.len (t':=bT) cJ.und;rw[jB] at lv;have err:∀{h5:PH} {e:Int},dC h h5->Bx h5 r1 (Value.cells (Pf.val false (.slice none 0 0))).toList->(∀h',dC h h'->kk (.tuple #[Pf.val false (.slice none 0 0),.int .i64 e]) h')->dA PG (dR cC (pT r1 0) (Pf.val false (.slice none 0 0))) h5 λv27 h28=>dY (cH PG h28 (loadAt cC (pT r1 0))) λv29=>kk (.tuple #[v29,(Value.int IntKind.i64 e)]) h28:=by
  intro h5 e e5 B5 hk;refine cC.put (vs:=[.bool false,.slice none 0 0]) B5 (o:=0) rfl (by show 0+2≤2;decide) (by simp[fX]) λh6 B6 u6=>?_;have l6:cH PG h6 (loadAt cC (pT r1 0))=some (Pf.val false (.slice none 0 0)):=cC.agg B6 (by show 0+2≤2;decide);simp only[l6,cE,reduceIte,cV,Nat.reduceAdd];exact hk h6 (e5.fresh u6 f1)
 by_cases c1:key.length<1
 ·have g1:((key.length:Int)<1)=True:=eq_true (by omega);simp only[lk,g1,aHF,cE,reduceIte,cV,Nat.reduceAdd];exact err u1 Z1 (hbad (by omega))
 have g1:((key.length:Int)<1)=False:=eq_false (by omega);by_cases c2:16<key.length
 ·have g2:((16:Int)<(key.length:Int))=True:=eq_true (by omega);simp only[lk,g1,g2,aHF,cE,reduceIte,cV,Nat.reduceAdd];exact err u1 Z1 (hbad (by omega))
 have g2:((16:Int)<(key.length:Int))=False:=eq_false (by omega);simp only[lk,g1,g2,cE,reduceIte,cV,Nat.reduceAdd];refine aQz (S.ext u1) H.up (by omega) key λh2 u2=>?_;have e2:=u1.trans u2;have Z2:=Z1.ext u2;simp only[aLd,cE,reduceIte,cV,Nat.reduceAdd];intro r26 hr26
 try rw[cW]
 have n126:r1≠r26:=Z2.apart hr26;refine cC.fill (vs:=[.bool true,.slice none 0 0]) hr26 rfl (by simp[fX]) λh3 B3 u3=>?_;have e3:=e2.trans u3;have Z3:=Z2.ext u3;have f26:eN h [r26]:=eN.one (e2.none hr26);cases hg:(iI l key).isSome with
 | true=>
  simp only[aHF,cE,reduceIte,cV,Nat.reduceAdd];exact err e3 Z3 (hyes hg)
 | false=>
  have hgn:iI l key=none:=by simpa using hg
  have hno:=hno (by omega) (by omega) hgn;have epf:(lC l key).lv=if l=[] then [] else if hQ l key=0 then [kQ l 0] else if hQ l key=l.length then [kQ l (l.length-1)] else [kQ l (hQ l key-1),kQ l (hQ l key)]:=by
   unfold lC;rw[if_neg (by rw[hg];decide)];split
   ·rfl
   ·split
    ·rfl
    ·split<;>rfl
  -- the end
  have fin:∀{h5:PH} {v5:Value},dC h h5->Bx h5 r1 (Value.cells (Pf.val false (.slice none 0 0))).toList->Bx h5 r26 [.bool true,v5]->nZ h3 h5 v5 (lC l key).lv->sO kk (pT r1 0) (pT r26 0) h5:=by
   intro h5 v5 e5 Z5 B5 L5;unfold sO aJH;have l5:cH PG h5 (loadAt cC (pT r26 0))=some (Pf.val true v5):=cC.agg B5 (by show 0+2≤2;decide);simp only[l5,cE,reduceIte,cV,Nat.reduceAdd];refine cC.put (vs:=[.bool true,v5]) Z5 (o:=0) rfl (by show 0+2≤2;decide) (by
    have:=L5.isc;simp[fX];exact this) λh6 B6 u6=>?_
   have l6:cH PG h6 (loadAt cC (pT r1 0))=some (Pf.val true v5):=cC.agg B6 (by show 0+2≤2;decide);simp only[l6,cE,reduceIte,cV,Nat.reduceAdd];exact hno h6 v5 ((L5.upd u6 (λb hb=>by simp at hb;rw[hb];exact Z3.known)).of e3) (e5.fresh u6 f1)
  -- with leaves
  have mk:∀{h4:PH} {js:List Nat} {av:Value},dC h3 h4->gB h4 1 av (js.map wO)->(∀j∈js,j<l.length)->js.length≤2->js.map (kQ l)=(lC l key).lv->
    aT PG uP #[v,av] h4 λv47 h48=>dA PG (dR cN (pT r26 1) v47) h48 λv50 h51=>sO kk (pT r1 0) (pT r26 0) h51:=by
   intro h4 js av u4 A hj h2' ej;have e4:=e3.trans u4;refine aP4 (h0:=h3) u4 (hK.ext e4) (S.ext e4) H.small hl A hj h2' λh5 v5 L5 u5=>?_;refine cN.put ((B3.ext u4).ext u5) (o:=1) (by show 1<2;decide) L5.isc λh6 B6 u6=>?_;rw[ej] at L5;exact fin ((e4.trans u5).fresh u6 f26) (((Z3.ext u4).ext u5).upd u6 (by simpa using n126)) B6 (L5.upd u6 (λb hb=>by simp at hb;rw[hb];exact B3.known))
  by_cases h0:l=[]
  ·have q:((l.length:Int)==0)=true:=by simp[h0]
   rw[if_pos h0] at epf;simp only[lv,iG,q,cE,reduceIte,cV,Nat.reduceAdd];exact fin e3 Z3 B3 (by rw[epf];exact nZ.nil)
  ·have hpos:=aHd.2 h0;have q:((l.length:Int)==0)=false:=by simpa using h0
   rw[if_neg h0] at epf;by_cases hp0:hQ l key=0
   ·have q2:(((hQ l key:Nat):Int)==0)=true:=by simp[hp0]
    rw[if_pos hp0] at epf;simp only[lv,iG,q,q2,il1,cC.f1,fO,cE,reduceIte,cV,Nat.reduceAdd];intro r43 hr43;refine fT ?_
    try rw[cW]
    have u4:dC h3 (h3.set r43 (.cells #[.int .i64 0] bT)):=cT.new hr43;have A:gB (h3.set r43 (.cells #[.int .i64 0] bT)) 1 (.slice (some ⟨r43,0,none⟩) 1 1) ([0].map wO):=(eO.lit (wO.rows [0]) dJ (by simp) (by decide) (by simp[wO])).slR;exact mk u4 A (by simpa using hpos) (by simp) (by rw[epf];rfl)
   ·have q2:(((hQ l key:Nat):Int)==0)=false:=by rw[beq_eq_false_iff_ne];omega
    have w1:IntKind.i64.wrap (((hQ l key:Nat):Int)-1)=((hQ l key-1:Nat):Int):=by rw[fI (by omega) (by omega)];omega
    rw[if_neg hp0] at epf;by_cases hpl:hQ l key=l.length
    ·have q3:(((hQ l key:Nat):Int)==(l.length:Int))=true:=by rw[hpl];simp
     rw[if_pos hpl] at epf;simp only[lv,iG,q,q2,q3,w1,il1,cC.f1,fO,cE,reduceIte,cV,Nat.reduceAdd];intro r43 hr43;refine fT ?_
     try rw[cW]
     have u4:dC h3 (h3.set r43 (.cells #[.int .i64 ((hQ l key-1:Nat):Int)] bT)):=cT.new hr43;have A:gB (h3.set r43 (.cells #[.int .i64 ((hQ l key-1:Nat):Int)] bT)) 1 (.slice (some ⟨r43,0,none⟩) 1 1) ([hQ l key-1].map wO):=(eO.lit (wO.rows [hQ l key-1]) dJ (by simp) (by decide) (by simp[wO])).slR;exact mk u4 A (by simp;omega) (by simp) (by rw[epf,hpl];rfl)
    ·have q3:(((hQ l key:Nat):Int)==(l.length:Int))=false:=by rw[beq_eq_false_iff_ne];omega
     rw[if_neg hpl] at epf;simp only[lv,iG,q,q2,q3,w1,il2,cC.f1,fO,cE,reduceIte,cV,Nat.reduceAdd];intro r43 hr43;refine fT ?_
     try rw[cW]
     have u4:dC h3 (h3.set r43 (.cells #[.int .i64 ((hQ l key-1:Nat):Int),.int .i64 ((hQ l key:Nat):Int)] bT)):=cT.new hr43;have A:gB (h3.set r43 (.cells #[.int .i64 ((hQ l key-1:Nat):Int),.int .i64 ((hQ l key:Nat):Int)] bT)) 1 (.slice (some ⟨r43,0,none⟩) 2 2) ([hQ l key-1,hQ l key].map wO):=(eO.lit (wO.rows [hQ l key-1,hQ l key]) dJ (by simp) (by decide) (by simp[wO])).slR;exact mk u4 A (by simp;omega) (by simp) (by rw[epf];rfl)
end
section
open Go Bld
def aEu(x:Value×List Pr):List Value:=[x.1,.string (tx (oC x.2))]
def aEu.rows(l:List (Value×List Pr)):Rows 2 (l.map aEu):=λr hr=>by
 obtain⟨p,-,rfl⟩:=mG.1 hr;rfl
structure vS(h:PH)(a:Nat)(s:St)(F:List Nat):Prop where
 here:∃(m:Nat) (l:List Pr) (v:Value) (bl:List (Value×List Pr)) (Fb G:List Nat),h a=some (.cells #[.map (some m),v,.int .u64 s.height] eW (0,0))∧aPO h m l∧l.Perm s.now∧eO h dU 2 v (bl.map aEu) Fb∧(∀x∈bl,gB h 2 x.1 (x.2.map Pr.cells)∧aDf x.1 G)∧
  bl.map (·.2)=s.blocks∧F=a::m::(Fb++G)∧a≠m∧a∉Fb∧m∉Fb∧∀g∈G,g≠a∧g≠m∧g∉Fb∧h g≠none
 ok:s.Ok
def vS.upd{h h':PH}{a:Nat}{s:St}{F K:List Nat}(H:vS h a s F)(u:cT K h h')(hd:∀b∈F,b∉K):vS h' a s F:=by
 obtain⟨m,l,v,bl,Fb,G,h1,h2,h3,h4,h5,h6,rfl,h8,h9,h10,h11⟩:=H.here;refine⟨⟨m,l,v,bl,Fb,G,u.get h1 (hd _ (by simp)),jP.upd h2 u (hd _ (by simp)),h3,h4.upd u (λb hb=>hd b (by simp[hb])),λx hx=>⟨(h5 x hx).1.upd u λy n c e=>hd _ ?_,(h5 x hx).2⟩,h6,rfl,h8,h9,h10,λg hg=>⟨(h11 g hg).1,(h11 g hg).2.1,(h11 g hg).2.2.1,?_⟩⟩,H.ok⟩
 ·have:=(h5 x hx).2 y n c e;simp[this]
 ·have:=(h11 g hg).2.2.2;obtain⟨o,ho⟩:=aHi.1 this;rw[u.get ho (hd g (by simp[hg]))];simp
def vS.ext{h h':PH}{a:Nat}{s:St}{F:List Nat}(H:vS h a s F)(u:dC h h'):vS h' a s F:=H.upd u (by simp)
def vS.known{h:PH}{a:Nat}{s:St}{F:List Nat}(H:vS h a s F):∀b∈F,h b≠none:=by
 obtain⟨m,l,v,bl,Fb,G,h1,h2,h3,h4,h5,h6,rfl,h8,h9,h10,h11⟩:=H.here;intro b hb;simp only[gU,kA] at hb;rcases hb with rfl|rfl|hb|hb
 ·rw[h1];simp
 ·exact jP.known h2
 ·exact h4.known b hb
 ·exact(h11 b hb).2.2.2
def St.Ok.new(n:Nat)(hn:n<18446744073709551616):St.Ok ⟨[],[[]],n⟩:=⟨List.Pairwise.nil,by simp,by simp,by simp[sK],by simp,by simp,by simp,hn⟩
def aVp{h:PH}(n:Nat)(hn:n<18446744073709551616)(hK:oL h){k:cD}(hk:∀a h' F,vS h' a ⟨[],[[]],n⟩ F->eN h F->dC h h'->k (pT a 0) h'):aT PG aJN #[.int .u64 (n:Int)] h k:=by
 apply aKG.call;unfold aKG;simp only[aFM,cE,reduceIte];intro m hm;refine fT ?_
 try rw[cW]
 have u1:dC h (h.set m (.map #[] 0)):=cT.new hm;have m1:aPO (h.set m (.map #[] 0)) m []:=jP.new;generalize h.set m (.map #[] 0)=h1 at *;refine aNW (l:=[]) (by decide) (hK.ext u1) (eO.nil (e:=cM)).slR (λp hp=>by cases hp) λh2 u2=>?_;have b1:∀d:ByteArray,dG PG (build dU #[(1,.string d)])=some (.agg #[.slice none 0 0,.string d]):=λd=>by kernel_rfl
 have b2:∀d:ByteArray,jZ PG (buildSlice fU 1 #[(0,.agg #[.slice none 0 0,.string d])])=some (.cells #[.slice none 0 0,.string d] dU,λr=>pure (.slice (some ⟨r,0,none⟩) 1 1)):=λd=>by kernel_rfl
 simp only[b1,b2,cE,reduceIte];intro r hr;refine fT ?_
 try rw[cW]
 have u3:dC h2 (h2.set r (.cells #[.slice none 0 0,.string (tx (oC []))] dU)):=cT.new hr;have O3:eO (h2.set r (.cells #[.slice none 0 0,.string (tx (oC []))] dU)) dU 2 (.slice (some ⟨r,0,none⟩) 1 1) ([((.slice none 0 0:Value),([]:List Pr))].map aEu) [r]:=eO.lit (n:=1) (aEu.rows [((.slice none 0 0:Value),([]:List Pr))]) dJ (by simp) (by decide) rfl;generalize h2.set r (.cells #[.slice none 0 0,.string (tx (oC []))] dU)=h3 at *;have b3:dG PG (build eW #[(0,.map (some m)),(1,.slice (some ⟨r,0,none⟩) 1 1),(2,.int .u64 (n:Int))])=some (.agg #[.map (some m),.slice (some ⟨r,0,none⟩) 1 1,.int .u64 (n:Int)]):=by kernel_rfl
 simp only[b3,cE,reduceIte];intro a ha
 try rw[cW]
 have u4:dC h3 (h3.set a (.cells (Value.cells (.agg #[.map (some m),.slice (some ⟨r,0,none⟩) 1 1,.int .u64 (n:Int)])) eW)):=cT.new ha;have m3:=jP.ext m1 (u2.trans u3);have hma:a≠m:=by rintro rfl;exact jP.known m3 ha
 have har:a≠r:=by rintro rfl;exact O3.known _ (by simp) ha
 have hmr:m≠r:=by rintro rfl;exact jP.known (jP.ext m1 u2) hr
 refine hk a _ [a,m,r] ⟨⟨m,[],_,[(.slice none 0 0,[])],[r],[],dJ,jP.ext m3 u4,List.Perm.refl _,O3.ext u4,?_,rfl,rfl,hma,by simpa using har,by simpa using hmr,by simp⟩,St.Ok.new n hn⟩ (λb hb=>?_) (((u1.trans u2).trans u3).trans u4)
 ·intro x hx;simp only[gE] at hx;subst hx;exact⟨(eO.nil (e:=cM)).slR,λx n c e=>by cases e⟩
 ·simp only[gU,lH,or_false] at hb;rcases hb with rfl|rfl|rfl
  ·exact((u1.trans u2).trans u3).none ha
  ·exact hm
  ·exact(u1.trans u2).none hr
def aTV{h:PH}{m:Nat}{l L:List Pr}(hm:aPO h m l)(hp:l.Perm L):cH PG h (Builtin.len_ #[dX] bT #[.map (some m)])=some (.int .i64 L.length):=by
 have lm:=jP.len hm (t':=bT) dX.und;rw[jB,hp.length_eq] at lm;exact lm
def St.Ok.setOk{s:St}(H:s.Ok){k v:Tx}(hk:¬(k.length<1∨16<k.length∨64<v.length))(hf:¬(iI s.now k=none∧4096≤s.now.length)):St.Ok {s with now:=oP s.now ⟨k,v⟩}:=by
 refine⟨H.up.set _,λp hp=>?_,?_,H.blk,H.h1,H.h2,H.h3,H.h4⟩
 ·rcases aIA.1 hp with rfl|⟨h1,_⟩
  ·refine⟨?_,?_,?_⟩<;>simp only<;>omega
  ·exact H.fit p h1
 ·have hle:(oP s.now ⟨k,v⟩).length≤s.now.length+(if iI s.now k=none then 1 else 0):=by
   have hn:=(H.up.set ⟨k,v⟩).irr;split
   ·have:=aJ9 (oP s.now ⟨k,v⟩) (⟨k,v⟩::s.now) hn λp hp=>by
     rcases aIA.1 hp with rfl|⟨h1,_⟩
     ·simp
     ·simp[h1]
    simpa using this
   ·rename_i hne;obtain⟨q,hq⟩:=aHi.1 hne;obtain⟨q1,q2⟩:=(aBd H.up).1 hq;have:=aJ9 (oP s.now ⟨k,v⟩) (⟨k,v⟩::s.now.erase q) hn λp hp=>by
     rcases aIA.1 hp with rfl|⟨h1,h2⟩
     ·simp
     ·refine List.mem_cons_of_mem _ ?_;rw[List.mem_erase_of_ne]
      ·exact h1
      ·rintro rfl;exact h2 q2
    rw[rN,List.length_erase_of_mem q1] at this;have hpos:0<s.now.length:=List.length_pos_of_mem q1;omega
  have:=H.few;show(oP s.now ⟨k,v⟩).length≤4096;split at hle
  ·rename_i e;have:¬4096≤s.now.length:=λh=>hf ⟨e,h⟩;omega
  ·omega
def aXg{h:PH}{a:Nat}{s:St}{F:List Nat}(H:vS h a s F)(k v:Tx){kk:cD}(hk:∀h',vS h' a (aCn s k v).1 F->cT F h h'->kk (.int .i64 (aCn s k v).2) h'):
  aT PG aEo #[pT a 0,.string (tx k),.string (tx v)] h kk:=by
 apply aEV.call;unfold aEV;have fin1:(k.length<1∨16<k.length∨64<v.length)->kk (.int .i64 1) h:=λhb=>by
  have:=hk h (by unfold aCn;rw[if_pos hb];exact H) cT.refl;unfold aCn at this;rw[if_pos hb] at this;exact this
 by_cases d1:k.length<1
 ·have g1:((k.length:Int)<1)=True:=eq_true (by omega);simp only[bR.len,iF,g1,cE,reduceIte];exact fin1 (.inl d1)
 have g1:((k.length:Int)<1)=False:=eq_false (by omega);by_cases d2:16<k.length
 ·have g2:((16:Int)<(k.length:Int))=True:=eq_true (by omega);simp only[bR.len,iF,g1,g2,cE,reduceIte];exact fin1 (.inr (.inl d2))
 have g2:((16:Int)<(k.length:Int))=False:=eq_false (by omega);by_cases d3:64<v.length
 ·have g3:((64:Int)<(v.length:Int))=True:=eq_true (by omega);simp only[bR.len,iF,g1,g2,g3,cE,reduceIte];exact fin1 (.inr (.inr d3))
 have g3:((64:Int)<(v.length:Int))=False:=eq_false (by omega);have hok:=H.ok;have hr:¬(k.length<1∨16<k.length∨64<v.length):=by omega
 have hH:=H;obtain⟨m,l,vv,bl,Fb,G,ha,hm,hp,hO,hS,hbl,rfl,hn1,hn2,hn3,hG⟩:=H.here;have c0:dB h ⟨a,0,none⟩=some (.map (some m)):=by simp[dB,ha]
 have hg:=aK5 hp hok.up k;have hl:=aTV hm hp;have fin:¬(iI s.now k=none∧4096≤s.now.length)->dA PG (aFP dX (.map (some m)) (.string (tx k)) (.string (tx v))) h λv61 h62=>kk (.int .i64 0) h62:=λhc=>by
  refine aKq aJg dX.und hm k (.string (tx v)) λh6 hm6 u6=>?_;obtain⟨l',e1,e2⟩:=aPu hp hok.up ⟨k,v⟩;have e1':aDe (l.map Pr.pr) k (.string (tx v))=l'.map Pr.pr:=e1;rw[e1'] at hm6;have hs:aCn s k v=({s with now:=oP s.now ⟨k,v⟩},0):=by unfold aCn;rw[if_neg hr,if_neg hc]
  rw[hs] at hk;refine hk h6 ⟨⟨m,l',vv,bl,Fb,G,u6.get ha (by simpa using hn1),hm6,e2,hO.upd u6 (λb hb=>by simp;rintro rfl;exact hn3 hb),λx hx=>⟨(hS x hx).1.upd u6 λy n c e=>?_,(hS x hx).2⟩,hbl,rfl,hn1,hn2,hn3,λg hg=>⟨(hG g hg).1,(hG g hg).2.1,(hG g hg).2.2.1,?_⟩⟩,hok.setOk hr hc⟩ (u6.mono λb hb=>.inl (by simp at hb;simp[hb]))
  ·have:=(hG _ ((hS x hx).2 y n c e)).2.1;simpa using this
  ·obtain⟨o,ho⟩:=aHi.1 (hG g hg).2.2.2;rw[u6.get ho (by simpa using(hG g hg).2.1)];simp
 cases eg:iI s.now k with
 | some q=>
  simp only[bR.len,iF,g1,g2,g3,eW.f0,dX.load,c0,aHm hm,hg,eg,aNp,cE,reduceIte];exact fin (by simp[eg])
 | none=>
  by_cases d4:4096≤s.now.length
  ·have g4:((4096:Int)≤(s.now.length:Int))=True:=eq_true (by omega);simp only[bR.len,iF,g1,g2,g3,eW.f0,dX.load,c0,aHm hm,hg,eg,hl,g4,zLv,cE,reduceIte];have hs:aCn s k v=(s,2):=by unfold aCn;rw[if_neg hr,if_pos ⟨eg,d4⟩]
   have:=hk h (by rw[hs];exact hH) cT.refl;rw[hs] at this;exact this
  ·have g4:((4096:Int)≤(s.now.length:Int))=False:=eq_false (by omega);simp only[bR.len,iF,g1,g2,g3,eW.f0,dX.load,c0,aHm hm,hg,eg,hl,g4,zLv,cE,reduceIte];exact fin (λh=>d4 h.2)
def aSk{h:PH}{a:Nat}{s:St}{F:List Nat}(H:vS h a s F)(k:Tx){kk:cD}(hk:∀h',vS h' a (aFY s k).1 F->cT F h h'->kk (.int .i64 (aFY s k).2) h'):
  aT PG aCm #[pT a 0,.string (tx k)] h kk:=by
 apply aBZ.call;unfold aBZ;have hok:=H.ok;have hH:=H;obtain⟨m,l,vv,bl,Fb,G,ha,hm,hp,hO,hS,hbl,rfl,hn1,hn2,hn3,hG⟩:=H.here;have c0:dB h ⟨a,0,none⟩=some (.map (some m)):=by simp[dB,ha]
 have hg:=aK5 hp hok.up k;cases eg:iI s.now k with
 | none=>
  simp only[eW.f0,dX.load,c0,aHm hm,hg,eg,zLv,cE,reduceIte];have hs:aFY s k=(s,3):=by unfold aFY;rw[if_pos eg]
  have:=hk h (by rw[hs];exact hH) cT.refl;rw[hs] at this;exact this
 | some q=>
  simp only[eW.f0,dX.load,c0,aHm hm,hg,eg,aNp,cE,reduceIte];refine aO9 aJg dX.und hm k rfl λh6 hm6 u6=>?_;have hs:aFY s k=({s with now:=uE s.now k},0):=by unfold aFY;rw[if_neg (by rw[eg];simp)]
  rw[hs] at hk;rw[aRv] at hm6;refine hk h6 ⟨⟨m,uE l k,vv,bl,Fb,G,u6.get ha (by simpa using hn1),hm6,hp.filter _,hO.upd u6 (λb hb=>by simp;rintro rfl;exact hn3 hb),λx hx=>⟨(hS x hx).1.upd u6 λy n c e=>?_,(hS x hx).2⟩,hbl,rfl,hn1,hn2,hn3,λg hg=>⟨(hG g hg).1,(hG g hg).2.1,(hG g hg).2.2.1,?_⟩⟩,⟨hok.up.del _,λp hp=>hok.fit p (aPr.1 hp).1,zLE (aNr _ _) hok.few,hok.blk,hok.h1,hok.h2,hok.h3,hok.h4⟩⟩ (u6.mono λb hb=>.inl (by simp at hb;simp[hb]))
  ·have:=(hG _ ((hS x hx).2 y n c e)).2.1;simpa using this
  ·obtain⟨o,ho⟩:=aHi.1 (hG g hg).2.2.2;rw[u6.get ho (by simpa using(hG g hg).2.1)];simp
def aSa{h:PH}{a:Nat}{s:St}{F:List Nat}(H:vS h a s F)(k:Tx){kk:cD}(hk:kk (.tuple #[.string (tx (((iI s.now k).map Pr.v).getD [])),.bool (iI s.now k).isSome]) h):
  aT PG aBY #[pT a 0,.string (tx k)] h kk:=by
 apply aEI.call;unfold aEI;obtain⟨m,l,vv,bl,Fb,G,ha,hm,hp,hO,hS,hbl,rfl,hn1,hn2,hn3,hG⟩:=H.here;have c0:dB h ⟨a,0,none⟩=some (.map (some m)):=by simp[dB,ha]
 have hg:=aK5 hp H.ok.up k;simp only[eW.f0,dX.load,c0,aHm hm,hg,cE,reduceIte];exact hk
def aW4{h:PH}{a:Nat}{s:St}{F:List Nat}(H:vS h a s F){kk:cD}(hk:kk (.int .i64 s.now.length) h):aT PG aEe #[pT a 0] h kk:=by
 apply aEX.call;unfold aEX;obtain⟨m,l,vv,bl,Fb,G,ha,hm,hp,hO,hS,hbl,rfl,hn1,hn2,hn3,hG⟩:=H.here;have c0:dB h ⟨a,0,none⟩=some (.map (some m)):=by simp[dB,ha]
 simp only[eW.f0,dX.load,c0,aTV hm hp,cE,reduceIte];exact hk
def aKH{h:PH}{a:Nat}{s:St}{F:List Nat}(H:vS h a s F){kk:cD}(hk:kk (.int .u64 s.height) h):aT PG pZ #[pT a 0] h kk:=by
 apply aBV.call;unfold aBV;obtain⟨m,l,vv,bl,Fb,G,ha,-⟩:=H.here;have c2:dB h ⟨a,0+2,none⟩=some (.int .u64 s.height):=by simp[dB,ha]
 simp only[eW.f2,cA.load,c2,cE,reduceIte];exact hk
def aS9(v:Value)(d:Tx):Value:=.agg #[v,.string (tx d)]
def aOA{s:St}{x:Nat}{b:List Pr}(h:yS s x=some b):¬(s.height<x∨s.blocks.length≤s.height-x)∧s.blocks[s.blocks.length-1-(s.height-x)]? =some b:=by
 unfold yS at h;split at h
 ·cases h
 ·rename_i hn;exact⟨hn,h⟩
def aNs{s:St}(hs:1≤s.blocks.length){x:Nat}:yS s x=none↔(s.height<x∨s.blocks.length≤s.height-x):=by
 unfold yS;split
 ·simp[*]
 ·rename_i hn;simp only[hn,iff_false,ne_eq];intro h;rw[List.getElem?_eq_none_iff] at h;omega
def zbl:dS PG dU= #[.slice none 0 0,.string (tx [])]:=by rw[dU.zc];rfl
def aWZ{h:PH}{a:Nat}{s:St}{F:List Nat}(H:vS h a s F)(x:Nat)(hx:x<18446744073709551616){k:cD}(hn:yS s x=none->∀h',dC h h'->k (.tuple #[aS9 (.slice none 0 0) [],.int .i64 3]) h')
  (hk:∀b v h',yS s x=some b->gB h' 2 v (b.map Pr.cells)->fX v=true->dC h h'->k (.tuple #[aS9 v (oC b),.int .i64 0]) h'):aT PG aCO #[pT a 0,.int .u64 (x:Int)] h k:=by
 apply aAU.call;unfold aAU;rw[zbl];intro r1 hr1
 try rw[cW]
 have u1:dC h (h.set r1 (.cells #[.slice none 0 0,.string (tx [])] dU)):=cT.new hr1;have a1:(h.set r1 (.cells #[.slice none 0 0,.string (tx [])] dU)) r1=some (.cells #[.slice none 0 0,.string (tx [])] dU (0,0)):=dJ;generalize h.set r1 (.cells #[.slice none 0 0,.string (tx [])] dU)=h1 at *;have H1:=H.ext u1;have hok:=H.ok;obtain⟨m,l,vv,bl,Fb,G,ha,hm,hp,hO,hS,hbl,rfl,hn1,hn2,hn3,hG⟩:=H1.here;have c1:dB h1 ⟨a,0+1,none⟩=some vv:=by simp[dB,ha]
 have c2:dB h1 ⟨a,0+2,none⟩=some (.int .u64 s.height):=by simp[dB,ha]
 have hbn:bl.length=s.blocks.length:=by rw[←hbl,jB]
 have lv:=hO.slR.len (t':=bT) fU.und;rw[jB,hbn] at lv;have h3:=hok.h3;have h4:=hok.h4;have h2:=hok.h2;have h1':=hok.h1;have ew:IntKind.u64.wrap ((s.blocks.length:Nat):Int)=((s.blocks.length:Nat):Int):=gL (by omega) (by omega);have bz:dG PG (build dU #[])=some (.agg #[.slice none 0 0,.string (tx [])]):=by kernel_rfl
 have bad:yS s x=none->dA PG (dR dU (pT r1 0) (.agg #[.slice none 0 0,.string (tx [])])) h1 λ_ h44=>dY (cH PG h44 (loadAt dU (pT r1 0))) λv45=>k (Value.tuple #[v45,(Value.int IntKind.i64 3)]) h44:=λhs=>by
  refine rI a1 dU.info rfl (by simp) rfl (by simp[fX]) ?_;have l1:=dU.loadAgg (h:=h1.set r1 (.cells #[.slice none 0 0,.string (tx [])] dU (0,0))) (b:=r1) (o:=0) dJ (by simp);simp only[l1,cE,reduceIte];exact hn hs _ (u1.fresh (cT.set (F:=[r1]) (by simp)) (eN.one hr1))
 by_cases d1:s.height<x
 ·have g1:((s.height:Int)<(x:Int))=True:=eq_true (by omega);simp only[eW.f2,cA.load,c2,g1,bz,cE,reduceIte];exact bad ((aNs h1').2 (.inl d1))
 have g1:((s.height:Int)<(x:Int))=False:=eq_false (by omega);have e1:IntKind.u64.wrap ((s.height:Int)-(x:Int))=((s.height-x:Nat):Int):=by rw[gL (by omega) (by omega)];omega
 by_cases d2:s.blocks.length≤s.height-x
 ·have g2:(((s.blocks.length:Nat):Int)≤((s.height-x:Nat):Int))=True:=eq_true (by omega);simp only[eW.f2,eW.f1,cA.load,fU.load,c1,c2,g1,e1,lv,aBP,ew,g2,bz,cE,reduceIte];exact bad ((aNs h1').2 (.inr d2))
 have g2:(((s.blocks.length:Nat):Int)≤((s.height-x:Nat):Int))=False:=eq_false (by omega);have e2:IntKind.u64.wrap (((s.blocks.length:Nat):Int)-1)=((s.blocks.length-1:Nat):Int):=by rw[gL (by omega) (by omega)];omega
 have e3:IntKind.u64.wrap (((s.blocks.length-1:Nat):Int)-((s.height-x:Nat):Int))=((s.blocks.length-1-(s.height-x):Nat):Int):=by rw[gL (by omega) (by omega)];omega
 obtain⟨j,hj⟩:∃j,j=s.blocks.length-1-(s.height-x):=⟨_,rfl⟩;rw[←hj] at e3;have hjl:j<bl.length:=by omega
 have hrow:(bl.map aEu)[((j:Nat):Int).toNat]? =some (aEu bl[j]):=by rw[qP,wK,lU hjl];rfl
 obtain⟨pa,hpa,hload⟩:=hO.slR.loadAgg (t:=fU) (k:=.u64) (j:=((j:Nat):Int)) fU.und dU.info dU.size dU.und rfl (by omega) hrow;have hmem:bl[j]∈bl:=aMD hjl;have hsat:yS s x=some (bl[j]).2:=by
  unfold yS;rw[if_neg (by omega),←hj,←hbl,wK,lU hjl];rfl
 obtain⟨hs1,hs2⟩:=hS _ hmem;generalize bl[j]=y at *;have hyc:fX y.1=true:=by obtain⟨_,_,e,_⟩:=hs1.here;rw[e];rfl
 simp only[eW.f2,eW.f1,cA.load,fU.load,c1,c2,g1,e1,lv,aBP,ew,g2,e2,e3,hpa,hload,cE,reduceIte];refine rI a1 dU.info rfl (by simp[aEu]) rfl ?_ ?_
 ·intro v hv;simp only[aEu,gU,lH,or_false] at hv;rcases hv with rfl|rfl
  ·exact hyc
  ·rfl
 ·have ub:dC h1 h1:=cT.refl;have u2:dC h (h1.set r1 (.cells (aEu y).toArray dU (0,0))):=u1.fresh (cT.set (F:=[r1]) (by simp)) (eN.one hr1);have l1:=dU.loadAgg (h:=h1.set r1 (.cells (aEu y).toArray dU (0,0))) (b:=r1) (o:=0) dJ (by simp[aEu]);have le:((aEu y).toArray).extract 0 (0+2)=(aEu y).toArray:=rfl;rw[le] at l1;simp only[l1,cE,reduceIte];refine hk y.2 y.1 _ hsat ?_ hyc u2;refine hs1.upd (cT.set (F:=[r1]) (by simp)) λz n c e=>?_;have:=hs2 z n c e;intro hm;simp only[gE] at hm;have hkn:=H.known z.block (by simp[this]);rw[hm] at hkn;exact hkn hr1
def aUm{h:PH}{a:Nat}{s:St}{F:List Nat}(H:vS h a s F)(x:Nat)(hx:x<18446744073709551616){k:cD}(hn:yS s x=none->∀h',dC h h'->k (.tuple #[.string (tx []),.int .i64 3]) h')
  (hk:∀b h',yS s x=some b->dC h h'->k (.tuple #[.string (tx (oC b)),.int .i64 0]) h'):aT PG aEC #[pT a 0,.int .u64 (x:Int)] h k:=by
 apply aC7.call;unfold aC7;have key:∀(v:Value) (d:Tx) (e:Int) (h1:PH),fX v=true->(∀h',dC h1 h'->k (.tuple #[.string (tx d),.int .i64 e]) h')->∀r5,h1 r5=none->eM (PH.set h1 r5 (.cells (dS PG dU) dU)) λh6=>
   dA PG (dR dU (pT r5 0) (aS9 v d)) h6 λv7 h8=>dY (dG PG (fieldAt dU (pT r5 0) 1)) λv9=>dY (cH PG h8 (loadAt bR v9)) λv10=>k (Value.tuple #[v10,.int .i64 e]) h8:=by
  intro v d e h1 hv hkk r hr
  try rw[cW]
  rw[zbl];refine rI dJ dU.info rfl (by simp) rfl ?_ ?_
  ·intro y hy;simp only[gU,lH,or_false] at hy;rcases hy with rfl|rfl
   ·exact hv
   ·rfl
  ·rw[uR];have c1:dB (h1.set r (.cells #[v,.string (tx d)] dU (0,0))) ⟨r,0+1,none⟩=some (.string (tx d)):=by simp[dB,dJ]
   simp only[dU.f1,bR.load,c1,cE,reduceIte];exact hkk _ (cT.new hr)
 refine aWZ H x hx (λhs h1 u1=>?_) (λb v h1 hs S hv u1=>?_)
 ·simp only[cE,reduceIte];exact key _ _ _ h1 rfl (λh' u=>hn hs _ (u1.trans u))
 ·simp only[cE,reduceIte];exact key _ _ _ h1 hv (λh' u=>hk b _ hs (u1.trans u))
def aT4{h:PH}{v:Value}{l:List Pr}(S:gB h 2 v (l.map Pr.cells))(hl:l.length≤1000000){k:cD}(hk:∀v' h' F,eO h' cM 2 v' (l.map Pr.cells) F->eN h F->dC h h'->k v' h'):aT PG qK #[v] h k:=by
 apply oO.call;unfold oO;have hS:=S;obtain⟨va,c,hv,hc1,hc2,hc3,-⟩:=S.here;rw[jB] at hv;subst hv;cases va with
 | none=>
  have hnil:l.map Pr.cells=[]:=by
   by_cases h0:l.map Pr.cells=[]
   ·exact h0
   ·obtain⟨b,o,cs,e,fr,e1,_⟩:=hc3 h0;cases e1
  have hl0:l=[]:=List.map_eq_nil_iff.1 hnil;subst hl0;simp only[aUk cJ.und,Option.isNone_none,cE,reduceIte];exact hk _ _ [] eO.nil (λb hb=>by cases hb) cT.refl
 | some va=>
  have b0:jZ PG (buildSlice cJ 0 #[])=some (.cells #[] cM,λr=>pure (.slice (some ⟨r,0,none⟩) 0 0)):=by kernel_rfl
  simp only[aUk cJ.und,Option.isNone_some,b0,cE,reduceIte];intro r hr;refine fT ?_
  try rw[cW]
  have u1:dC h (h.set r (.cells #[] cM)):=cT.new hr;have O1:eO (h.set r (.cells #[] cM)) cM 2 (.slice (some ⟨r,0,none⟩) 0 0) (([]:List Pr).map Pr.cells) [r]:=eO.lit (n:=0) (Pr.rows []) dJ (by simp) (by decide) rfl;generalize h.set r (.cells #[] cM)=h1 at *;refine jL cJ.und cJ.und cM.info cM.size cM.bytes cM.zero rfl (by decide) O1 (hS.ext u1) (Pr.isCell l) (by simp;omega) ?_;intro v2 h2 F2 O2 u2 k2 _;rw[iZ,uL] at O2;exact hk _ _ F2 O2 (λb hb=>by
   rcases k2 b hb with h1|h1
   ·simp only[gE] at h1;subst h1;exact hr
   ·exact u1.none h1) (u1.fresh u2 (eN.one hr))
def aZW{h:PH}{a:Nat}{s:St}{F:List Nat}(H:vS h a s F)(x:Nat)(hx:x<18446744073709551616){k:cD}(hn:yS s x=none->∀v h' F',eO h' cM 2 v (([]:List Pr).map Pr.cells) F'->eN h F'->dC h h'->k (.tuple #[v,.int .i64 3]) h')
  (hk:∀b v h' F',yS s x=some b->eO h' cM 2 v (b.map Pr.cells) F'->eN h F'->dC h h'->k (.tuple #[v,.int .i64 0]) h'):aT PG aFb #[pT a 0,.int .u64 (x:Int)] h k:=by
 apply aE5.call;unfold aE5;have hok:=H.ok;have key:∀(v:Value) (b:List Pr) (d:Tx) (e:Int) (h1:PH),fX v=true->gB h1 2 v (b.map Pr.cells)->b.length≤4096->(∀v' h' F',eO h' cM 2 v' (b.map Pr.cells) F'->eN h1 F'->dC h1 h'->k (.tuple #[v',.int .i64 e]) h')->∀r5,h1 r5=none->eM (PH.set h1 r5 (.cells (dS PG dU) dU)) λh6=>
   dA PG (dR dU (pT r5 0) (aS9 v d)) h6 λv7 h8=>dY (dG PG (fieldAt dU (pT r5 0) 0)) λv9=>dY (cH PG h8 (loadAt jC v9)) λv10=>aT PG aCp #[v10] h8 λv11 h12=>k (Value.tuple #[v11,.int .i64 e]) h12:=by
  intro v b d e h1 hv S hbl hkk r hr
  try rw[cW]
  rw[zbl];refine rI dJ dU.info rfl (by simp) rfl ?_ ?_
  ·intro y hy;simp only[gU,lH,or_false] at hy;rcases hy with rfl|rfl
   ·exact hv
   ·rfl
  ·rw[uR];have u2:dC h1 (h1.set r (.cells #[v,.string (tx d)] dU (0,0))):=cT.new hr;have a2:(h1.set r (.cells #[v,.string (tx d)] dU (0,0))) r=some (.cells #[v,.string (tx d)] dU (0,0)):=dJ;generalize h1.set r (.cells #[v,.string (tx d)] dU (0,0))=h2 at *;have l1:=jC.loadAgg (o:=0) a2 (by simp);have le:(#[v,.string (tx d)]:Array Value).extract 0 (0+1)= #[v]:=rfl;rw[le] at l1;simp only[dU.f0,l1,cE,reduceIte];apply aBb.call;unfold aBb;intro r2 hr2
   try rw[cW]
   have ec:Value.cells (.agg #[v])= #[v]:=rfl;rw[ec];have u3:dC h2 (h2.set r2 (.cells #[v] jC)):=cT.new hr2;have a3:(h2.set r2 (.cells #[v] jC)) r2=some (.cells #[v] jC (0,0)):=dJ;generalize h2.set r2 (.cells #[v] jC)=h3 at *;have c0:dB h3 ⟨r2,0,none⟩=some v:=by simp[dB,a3]
   simp only[jC.f0,cJ.load,c0,cE,reduceIte];have u:=u2.trans u3;refine aT4 (S.ext u) (by omega) λv' h4 F4 O4 f4 u4=>?_;exact hkk v' h4 F4 O4 (f4.of u) (u.trans u4)
 refine aWZ H x hx (λhs h1 u1=>?_) (λb v h1 hs S hv u1=>?_)
 ·simp only[cE,reduceIte];exact key _ [] _ _ h1 rfl (eO.nil (e:=cM)).slR (by decide) (λv' h' F' O' f' u'=>hn hs v' h' F' O' (f'.of u1) (u1.trans u'))
 ·simp only[cE,reduceIte];have hb:b∈s.blocks:=vR (aOA hs).2;exact key _ b _ _ h1 hv S (hok.blk b hb).2.2 (λv' h' F' O' f' u'=>hk b v' h' F' hs O' (f'.of u1) (u1.trans u'))
def unP(q:Tx×Value):Pr:=match q.2 with
 | Value.string t=>⟨q.1,t.data.toList⟩
 | _=>⟨[],[]⟩
def aYb(p:Pr):unP p.pr=p:=by
 obtain⟨k,v⟩:=p;simp[unP,Pr.pr,sN,tx]
def aUK(l:List Pr):(l.map Pr.pr).map unP=l:=by
 rw[zL4];have:unP ∘ Pr.pr=id:=by funext p;exact aYb p
 rw[this,List.map_id]
def aXU{a b:List Pr}(h:(a.map Pr.pr).Perm (b.map Pr.pr)):a.Perm b:=by
 have:=h.map unP;rw[aUK,aUK] at this;exact this
def sK.of{l L:List Pr}(hp:l.Perm L)(hs:sK L)(ho:l.Pairwise λa b=>¬b.k<a.k):l=L:=by
 have hk:(l.map Pr.k).Nodup:=(hp.map Pr.k).nodup_iff.2 hs.keys;have hu:sK l:=by
  unfold List.Nodup at hk;rw[List.pairwise_map] at hk;have:=ho.and hk;refine List.Pairwise.imp (fun {a b} hab=>?_) this;obtain⟨h1,h2⟩:=hab;rcases aHc a.k b.k with h|h|h
  ·exact h
  ·exact absurd h h2
  ·exact absurd h h1
 exact hu.ext hs λp=>hp.mem_iff
def aQe(p:Pr):dG PG (build cM #[(0,.string (tx p.k)),(1,.string (tx p.v))])=some p.val:=by kernel_rfl
def aUr(p:Pr):jZ PG (buildSlice cJ 1 #[(0,p.val)])=some (.cells #[.string (tx p.k),.string (tx p.v)] cM,λr=>pure (.slice (some ⟨r,0,none⟩) 1 1)):=by kernel_rfl
def aVo(a:Option Addr)(n c:Nat):dG PG (build jC #[(0,.slice a n c)])=some (.agg #[.slice a n c]):=by kernel_rfl
def aWL(a:Option Addr)(n c:Nat)(d:ByteArray):dG PG (build dU #[(0,.agg #[.slice a n c]),(1,.string d)])=some (.agg #[.slice a n c,.string d]):=by kernel_rfl
def aYc(a:Option Addr)(n c:Nat)(d:ByteArray):jZ PG (buildSlice fU 1 #[(0,.agg #[.slice a n c,.string d])])=some (.cells #[.slice a n c,.string d] dU,λr=>pure (.slice (some ⟨r,0,none⟩) 1 1)):=by kernel_rfl
def aUD{h:PH}{a:Nat}{s:St}{F:List Nat}(hK:oL h)(H:vS h a s F){k:cD}(hk:∀h' F',vS h' a (lS s).1 F'->cT F h h'->(∀b∈F',b∈F∨h b=none)->k (.tuple #[.int .u64 ((lS s).2.1:Int),.int .i64 (lS s).2.2]) h'):
  aT PG aCa #[pT a 0] h k:=by
 apply tE.call;unfold tE;have hok:=H.ok;have hH:=H;have hkn:=H.known;obtain⟨m,l,vv,bl,Fb,G,ha,hm,hp,hO,hS,hbl,rfl,hn1,hn2,hn3,hG⟩:=H.here;have c0:dB h ⟨a,0,none⟩=some (.map (some m)):=by simp[dB,ha]
 have c1:dB h ⟨a,0+1,none⟩=some vv:=by simp[dB,ha]
 have c2:dB h ⟨a,0+2,none⟩=some (.int .u64 s.height):=by simp[dB,ha]
 have h4:=hok.h4;by_cases d1:s.height=18446744073709551615
 ·have g1:((s.height:Int)==18446744073709551615)=true:=by simp;omega
  simp only[eW.f2,cA.load,c2,g1,cE,reduceIte];have hs:lS s=(s,(0,12)):=by unfold lS;rw[if_pos d1]
  rw[hs] at hk;exact hk h _ hH cT.refl (λb hb=>.inl hb)
 have g1:((s.height:Int)==18446744073709551615)=false:=by simp;omega
 have lv:=hO.slR.len (t':=bT) fU.und;have hbn:bl.length=s.blocks.length:=by rw[←hbl,jB]
 rw[jB,hbn] at lv;by_cases d2:4096≤s.blocks.length
 ·have g2:((4096:Int)≤((s.blocks.length:Nat):Int))=True:=eq_true (by omega);simp only[eW.f2,eW.f1,cA.load,fU.load,c1,c2,lv,g1,g2,cE,reduceIte];have hs:lS s=(s,(0,2)):=by unfold lS;rw[if_neg d1,if_pos d2]
  rw[hs] at hk;exact hk h _ hH cT.refl (λb hb=>.inl hb)
 have g2:((4096:Int)≤((s.blocks.length:Nat):Int))=False:=eq_false (by omega);simp only[eW.f2,eW.f1,eW.f0,cA.load,fU.load,dX.load,c0,c1,c2,lv,g1,g2,cE,reduceIte];refine aQo dX.und hm λit h1 hit HI u1=>?_;have hll:l.length≤4096:=by rw[hp.length_eq];exact hok.few
 refine⟨λvs h'=>∃(pre:List Pr) (v:Value) (Fl:List Nat),vs=[pT a 0,v,pT it 0]∧aC4 sN h' m it (l.map Pr.pr) (pre.map Pr.pr)∧eO h' cM 2 v (pre.map Pr.cells) Fl∧eN h Fl∧it∉Fl∧dC h h',λ_ h'=>aOi l.length it h',⟨[],_,[],rfl,HI,eO.nil,(λb hb=>by cases hb),by simp,u1⟩,?_⟩;rintro ρ h' ⟨pre,v,Fl,hvs,HI,O,fl,hil,u⟩;simp only[iJ,iZ,lP,and_true] at hvs;obtain⟨v0,v4,v24⟩:=hvs;simp only[v0,v4,v24,iJ,iZ];unfold aFv;have hlen:=HI.le;rw[jB,jB] at hlen;refine aSS HI (λhperm=>?_) (λky vl h2 hmem hnot HI2 u2=>?_)
 ·-- all are gathered
  have hpp:pre.Perm s.now:=(aXU hperm).trans hp;simp only[cE,reduceIte];refine aV3 O (by omega) λl' h2 hp2 hs2 O2 u2=>?_;have hl':l'=s.now:=sK.of (hp2.trans hpp) hok.up hs2;subst hl';have e2:dC h h2:=u.fresh u2 fl;have ha2:=e2.get ha;have c1:dB h2 ⟨a,0+1,none⟩=some vv:=by simp[dB,ha2]
  obtain⟨va,cap,hv,-⟩:=O2.slR.here;rw[jB] at hv;have hsl:=O2.slR;rw[hv] at hsl;simp only[eW.f1,fU.load,c1,hv,aVo,cE,reduceIte];refine aNW (by have:=hok.few;omega) (hK.ext e2) hsl (λp hp=>by have:=hok.fit p hp;unfold aPI at this;omega) λh3 u3=>?_;have e3:=e2.trans u3;have ha3:=e3.get ha;refine⟨by simp[dB,ha3],?_⟩;simp only[aWL,aYc,cE,reduceIte];intro r hr;refine fT ?_
  try rw[cW]
  have u4:dC h3 (h3.set r (.cells #[.slice va s.now.length cap,.string (tx (oC s.now))] dU)):=cT.new hr;have s4:gB (h3.set r (.cells #[.slice va s.now.length cap,.string (tx (oC s.now))] dU)) 2 (.slice (some ⟨r,0,none⟩) 1 1) ([((.slice va s.now.length cap:Value),s.now)].map aEu):=(eO.lit (n:=1) (aEu.rows [((.slice va s.now.length cap:Value),s.now)]) dJ (by simp) (by decide) rfl).slR;generalize h3.set r (.cells #[.slice va s.now.length cap,.string (tx (oC s.now))] dU)=h4' at *;have e4:=e3.trans u4;have hO4:=hO.ext e4;refine jL fU.und fU.und dU.info dU.size dU.bytes dU.zero rfl (by decide) hO4 s4 ?_ (by simp only[jB,zLT];omega) ?_
  ·intro r hr u hu;obtain⟨y,hy,rfl⟩:=mG.1 hr;simp only[gE] at hy;subst hy;simp only[aEu,gU,lH,or_false] at hu;rcases hu with rfl|rfl<;>rfl
  intro v5 h5 F5 O5 u5 k5 _;have ha4:=e4.get ha;have ha5:=u5.get ha4 hn2;obtain⟨x5,y5,hv5,-⟩:=O5.slR.here;have hvc:fX v5=true:=by rw[hv5];rfl
  try simp only[eW.f1,cE,reduceIte]
  refine jD fU.und rfl ha5 (by simp) hvc fU.info fU.size ?_;have ew1:(#[(Value.map (some m)),vv,.int .u64 (s.height:Int)]:Array Value).setIfInBounds (0+1) v5= #[.map (some m),v5,.int .u64 (s.height:Int)]:=rfl;rw[ew1];have u6:cT [a] h5 (h5.set a (.cells #[.map (some m),v5,.int .u64 (s.height:Int)] eW (0,0))):=cT.set (by simp);have a6:(h5.set a (.cells #[.map (some m),v5,.int .u64 (s.height:Int)] eW (0,0))) a=some (.cells #[.map (some m),v5,.int .u64 (s.height:Int)] eW (0,0)):=dJ;generalize h5.set a (.cells #[.map (some m),v5,.int .u64 (s.height:Int)] eW (0,0))=h6 at *;have c2:dB h6 ⟨a,0+2,none⟩=some (.int .u64 s.height):=by simp[dB,a6]
  have ei:IntKind.u64.wrap ((s.height:Int)+1)=((s.height+1:Nat):Int):=by rw[gL (by omega) (by omega)];omega
  simp only[eW.f2,cA.load,c2,ei,cE,reduceIte];refine jD cA.und rfl a6 (by simp) rfl cA.info cA.size ?_;have ew2:(#[(Value.map (some m)),v5,.int .u64 (s.height:Int)]:Array Value).setIfInBounds (0+2) (.int .u64 ((s.height+1:Nat):Int))= #[.map (some m),v5,.int .u64 ((s.height+1:Nat):Int)]:=rfl;rw[ew2];have u7:cT [a] h6 (h6.set a (.cells #[.map (some m),v5,.int .u64 ((s.height+1:Nat):Int)] eW (0,0))):=cT.set (by simp);have a7:(h6.set a (.cells #[.map (some m),v5,.int .u64 ((s.height+1:Nat):Int)] eW (0,0))) a=some (.cells #[.map (some m),v5,.int .u64 ((s.height+1:Nat):Int)] eW (0,0)):=dJ;generalize h6.set a (.cells #[.map (some m),v5,.int .u64 ((s.height+1:Nat):Int)] eW (0,0))=h7 at *;have c2:dB h7 ⟨a,0+2,none⟩=some (.int .u64 ((s.height+1:Nat):Int)):=by simp[dB,a7]
  simp only[eW.f2,cA.load,c2,cE,reduceIte];have hs:lS s=({s with blocks:=s.blocks++[s.now],height:=s.height+1},(s.height+1,0)):=by unfold lS;rw[if_neg d1,if_neg d2]
  rw[hs] at hk
  -- what was changed
  have w5:cT (a::Fb) h4' h5:=u5.mono λb hb=>.inl (by simp[hb]);have w7:cT (a::Fb) h5 h7:=(u6.trans u7).mono λb hb=>.inl (by simp at hb;simp[hb]);have w:cT (a::Fb) h4' h7:=w5.trans w7;have wh:cT (a::Fb) h h7:=e4.upd.trans w;have hflh:∀b∈Fl,b≠a∧b≠m∧b∉Fb:=λb hb=>by
   have:=fl b hb;refine⟨λe=>?_,λe=>?_,λe=>?_⟩
   ·subst e;rw[ha] at this;cases this
   ·subst e;exact jP.known hm this
   ·exact hO.known b e this
  have hO4l:=(O2.ext u3).ext u4;have hFlk:∀b∈Fl,h4' b≠none:=hO4l.known;have hnoF5:∀b,h4' b≠none->b∉Fb->b∉F5:=λb h1 h2 h3=>by
   rcases k5 b h3 with h|h
   ·exact h2 h
   ·exact h1 h
  have ha4n:h4' a≠none:=by rw[ha4];simp
  have hm4n:h4' m≠none:=jP.known (jP.ext hm e4);have hG4:∀g∈G,h4' g≠none:=λg hg=>by
   obtain⟨o,ho⟩:=aHi.1 (hG g hg).2.2.2;rw[e4.get ho];simp
  have hOl7:=hO4l.upd w (λb hb=>by simp only[gU,not_or];exact⟨(hflh b hb).1,(hflh b hb).2.2⟩);refine hk h7 (a::m::(F5++(G++Fl))) ⟨⟨m,l,v5,bl++[(.slice va s.now.length cap,s.now)],F5,G++Fl,a7,jP.upd hm wh (by simp only[gU,not_or];exact⟨hn1.symm,hn3⟩),hp,?_,?_,?_,rfl,hn1,hnoF5 a ha4n hn2,hnoF5 m hm4n hn3,?_⟩,?_⟩ (wh.mono λb hb=>.inl ?_) ?_
  ·rw[pY];exact O5.upd (u6.trans u7) (λb hb=>by simp only[gE];rintro rfl;exact hnoF5 _ ha4n hn2 hb)
  ·intro x hx;rw[kA] at hx;rcases hx with hx|hx
   ·refine⟨(hS x hx).1.upd wh λy n c e=>?_,λy n c e=>zLk _ ((hS x hx).2 y n c e)⟩;have hg:=hG _ ((hS x hx).2 y n c e);simp only[gU,not_or];exact⟨hg.1,hg.2.2.1⟩
   ·simp only[gE] at hx;subst hx;have hs7:=hOl7.slR;rw[hv] at hs7;refine⟨hs7,λy n c e=>zLl _ ?_⟩;rcases hOl7.here with⟨e1,_,_⟩|⟨b,cap',cs,e1,e2,_⟩
    ·rw[hv] at e1;simp only[Value.slice.injEq] at e1 e;rw[e1.1] at e;cases e.1
    ·rw[hv] at e1;simp only[Value.slice.injEq] at e1 e;rw[e1.1] at e;simp only[zL9] at e;rw[←e.1,e2];simp
  ·rw[pY,hbl];rfl
  ·intro g hg;rw[kA] at hg;have wk:h4' g≠none->g≠a->g∉Fb->h7 g≠none:=λh1 h2 h3=>by
    obtain⟨o,ho⟩:=aHi.1 h1;rw[w.get ho (by simp only[gU,not_or];exact⟨h2,h3⟩)];simp
   rcases hg with hg|hg
   ·have:=hG g hg;exact⟨this.1,this.2.1,hnoF5 g (hG4 g hg) this.2.2.1,wk (hG4 g hg) this.1 this.2.2.1⟩
   ·have:=hflh g hg;exact⟨this.1,this.2.1,hnoF5 g (hFlk g hg) this.2.2,wk (hFlk g hg) this.1 this.2.2⟩
  ·refine⟨hok.up,hok.fit,hok.few,λb hb=>?_,?_,?_,?_,?_⟩
   ·simp only[kA,gE] at hb;rcases hb with hb|rfl
    ·exact hok.blk b hb
    ·exact⟨hok.up,hok.fit,hok.few⟩
   ·simp
   ·simp only[jS,zLT];omega
   ·have:=hok.h3;have:=hok.h1;simp only[jS,zLT];omega
   ·show s.height+1<18446744073709551616;omega
  ·simp only[gU] at hb;simp only[gU,kA];rcases hb with hb|hb
   ·exact .inl hb
   ·exact .inr (.inr (.inl hb))
  ·intro b hb;simp only[gU,kA] at hb ⊢;rcases hb with hb|hb|hb|hb|hb
   ·exact .inl (.inl hb)
   ·exact .inl (.inr (.inl hb))
   ·rcases k5 b hb with h1|h1
    ·exact .inl (.inr (.inr (.inl h1)))
    ·exact .inr (e4.none h1)
   ·exact .inl (.inr (.inr (.inr hb)))
   ·exact .inr (fl b hb)
 ·-- one more
  obtain⟨p,hpl,hpe⟩:=mG.1 hmem;have hky:ky=p.k:=by have:=congrArg Prod.fst hpe;exact this.symm
  have hvl:vl= .string (tx p.v):=by have:=congrArg Prod.snd hpe;exact this.symm
  subst hky hvl;have O2:=O.upd u2 (λb hb=>by simp only[gE];rintro rfl;exact hil hb);have e2:dC h h2:=u.fresh u2 (eN.one hit);simp only[cE,reduceIte];refine aQm HI2 ?_;have ek:sN p.k= .string (tx p.k):=rfl;simp only[ek,aQe,aUr,cE,reduceIte];intro r hr;refine fT ?_
  try rw[cW]
  have u3:dC h2 (h2.set r (.cells #[.string (tx p.k),.string (tx p.v)] cM)):=cT.new hr;have s3:gB (h2.set r (.cells #[.string (tx p.k),.string (tx p.v)] cM)) 2 (.slice (some ⟨r,0,none⟩) 1 1) ([p].map Pr.cells):=(eO.lit (n:=1) (Pr.rows [p]) dJ (by simp) (by decide) rfl).slR;generalize h2.set r (.cells #[.string (tx p.k),.string (tx p.v)] cM)=h3 at *;have HI3:=HI2.upd u3 (by simp) (by simp);have O3:=O2.ext u3;refine jL cJ.und cJ.und cM.info cM.size cM.bytes cM.zero rfl (by decide) O3 s3 (Pr.isCell [p]) (by simp;omega) ?_;intro v4' h4' F4 O4 u4 k4 _;have e3:=e2.trans u3;have hit3:it∉F4:=λhm=>by
   rcases k4 it hm with h1|h1
   ·exact hil h1
   ·exact HI3.known h1
  have HI4:=HI3.upd u4 (λhm'=>by have:=fl m hm';exact jP.known hm this) hil;refine⟨⟨pre++[p],v4',F4,(by trivial),?_,?_,fl.grow e3 k4,hit3,e3.fresh u4 fl⟩,?_⟩
  ·rw[pY];exact HI4
  ·rw[pY];exact O4
  ·rw[HI4.left,HI.left];have:=HI4.le;simp only[jS,jB,rN,zLN] at this ⊢;omega
end
section
open Go
structure Ch where
 id:Int
 st:St
 first:Nat
 blk:List (List Nt)
 nts:List Nt
 cl:List iA
 seq:Nat
def stA(a:Nat)(s:St):mT:=λh F=>vS h a s F
def stA.good(a:Nat)(s:St):mE (stA a s):=⟨λH=>vS.known H,λH u hK=>vS.upd H u hK⟩
def aDA(m:Nat)(l:List Pr):mT:=λh F=>F=[m]∧aPO h m l
def aDA.good(m:Nat)(l:List Pr):mE (aDA m l) where
 known:=by
  rintro h F ⟨rfl,H⟩ b hb;simp only[gE] at hb;subst hb;exact jP.known H
 upd:=by
  rintro h h' F K ⟨rfl,H⟩ u hK;exact⟨rfl,jP.upd H u (hK m (by simp))⟩
def aDY(a:Nat)(l:List iA):mT:=λh F=>∃hs,rG h a l hs F
def aDY.good(a:Nat)(l:List iA):mE (aDY a l):=⟨λ⟨_,H⟩=>rG.known H,λ⟨hs,H⟩ u hK=>⟨hs,rG.upd H u hK⟩⟩
def aKX(x:Value×List Nt):List Value:=[x.1]
def aKX.rows(l:List (Value×List Nt)):Rows 1 (l.map aKX):=λr hr=>by obtain⟨m,_,rfl⟩:=mG.1 hr;rfl
def aBA(v:Value)(blk:List (List Nt)):mT:=λh F=>∃(bl:List (Value×List Nt)) (Fb G:List Nat),eO h cU 1 v (bl.map aKX) Fb∧(∀x∈bl,gB h 5 x.1 (x.2.map Nt.cells)∧aDf x.1 G)∧bl.map (·.2)=blk∧F=Fb++G∧∀g∈G,g∉Fb∧h g≠none
def aBA.good(v:Value)(blk:List (List Nt)):mE (aBA v blk) where
 known:=by
  rintro h F ⟨bl,Fb,G,O,S,e,rfl,hG⟩ b hb;rcases kA.1 hb with hb|hb
  ·exact O.known b hb
  ·exact(hG b hb).2
 upd:=by
  rintro h h' F K ⟨bl,Fb,G,O,S,e,rfl,hG⟩ u hK;refine⟨bl,Fb,G,O.upd u (λb hb=>hK b (by simp[hb])),λx hx=>⟨(S x hx).1.upd u λa n c ev=>hK _ (by have:=(S x hx).2 a n c ev;simp[this]),(S x hx).2⟩,e,rfl,λg hg=>⟨(hG g hg).1,?_⟩⟩;obtain⟨o,ho⟩:=aHi.1 (hG g hg).2;rw[u.get ho (hK g (by simp[hg]))];simp
def Ch.cells(s:Ch)(sp:Nat)(bv nv:Value)(m cp:Nat):List Value:=[pT sp 0,.int .u64 s.first,bv,nv,.map (some m),.int .i64 s.id,pT cp 0,.int .u64 s.seq]
def jE(c:Nat)(cs:List Value)(sp:Nat)(st:St)(m:Nat)(lk:List Pr)(cp:Nat)(cl:List iA)(nv:Value)(nts:List Nt)(bv:Value)(blk:List (List Nt)):mT:=
eI (oJ c cs) (eI (stA sp st) (eI (aDA m lk) (eI (aDY cp cl) (eI (xV dI 5 nv (nts.map Nt.cells)) (aBA bv blk)))))
structure Ch.Ok(s:Ch):Prop where
 id:s.id=0∨s.id=1
 len:s.blk.length=s.st.blocks.length
 first:s.first+(s.blk.length-1)=s.st.height
 seq:s.seq<18446744073709551616
 seq1:1≤s.seq
 nts:s.nts.length≤1000000
 wf:∀n∈s.nts,n.p.wf
 bwf:∀b∈s.blk,b.length≤1000000∧∀n∈b,n.p.wf
def jA(c:Nat)(s:Ch):mT:=λh F=>∃sp m cp nv bv lk,jE c (s.cells sp bv nv m cp) sp s.st m lk cp s.cl nv s.nts bv s.blk h F∧lk.Perm s.st.now∧s.Ok
section
variable{c:Nat}{cs:List Value}{sp:Nat}{st:St}{m:Nat}{lk:List Pr}{cp:Nat}{cl:List iA}{nv:Value}{nts:List Nt}{bv:Value}{blk:List (List Nt)}
def gN:mE (xV dI 5 nv (nts.map Nt.cells)):=xV.good _ _ _ _
def g5:mE (eI (xV dI 5 nv (nts.map Nt.cells)) (aBA bv blk)):=gN.star (aBA.good _ _)
def g4:mE (eI (aDY cp cl) (eI (xV dI 5 nv (nts.map Nt.cells)) (aBA bv blk))):=(aDY.good _ _).star g5
def g3:mE (eI (aDA m lk) (eI (aDY cp cl) (eI (xV dI 5 nv (nts.map Nt.cells)) (aBA bv blk)))):=(aDA.good _ _).star g4
def g2:mE (eI (stA sp st) (eI (aDA m lk) (eI (aDY cp cl) (eI (xV dI 5 nv (nts.map Nt.cells)) (aBA bv blk))))):=(stA.good _ _).star g3
def jE.good:mE (jE c cs sp st m lk cp cl nv nts bv blk):=(oJ.good _ _).star g2
variable{h:PH}{F:List Nat}(H:jE c cs sp st m lk cp cl nv nts bv blk h F)
include H
def jE.fBox:uC h F (oJ c cs) (λX=>eI X (eI (stA sp st) (eI (aDA m lk) (eI (aDY cp cl) (eI (xV dI 5 nv (nts.map Nt.cells)) (aBA bv blk)))))):=eI.left g2 H
def jE.fSt:uC h F (stA sp st) (λX=>eI (oJ c cs) (eI X (eI (aDA m lk) (eI (aDY cp cl) (eI (xV dI 5 nv (nts.map Nt.cells)) (aBA bv blk)))))):=(eI.right (oJ.good _ _) H).comp λ_ H=>eI.left g3 H
def jE.fMap:uC h F (aDA m lk) (λX=>eI (oJ c cs) (eI (stA sp st) (eI X (eI (aDY cp cl) (eI (xV dI 5 nv (nts.map Nt.cells)) (aBA bv blk)))))):=(eI.right (oJ.good _ _) H).comp λ_ H=>(eI.right (stA.good _ _) H).comp λ_ H=>eI.left g4 H
def jE.fCli:uC h F (aDY cp cl) (λX=>eI (oJ c cs) (eI (stA sp st) (eI (aDA m lk) (eI X (eI (xV dI 5 nv (nts.map Nt.cells)) (aBA bv blk)))))):=(eI.right (oJ.good _ _) H).comp λ_ H=>(eI.right (stA.good _ _) H).comp λ_ H=>(eI.right (aDA.good _ _) H).comp λ_ H=>eI.left g5 H
def jE.fNts:uC h F (xV dI 5 nv (nts.map Nt.cells)) (λX=>eI (oJ c cs) (eI (stA sp st) (eI (aDA m lk) (eI (aDY cp cl) (eI X (aBA bv blk)))))):=(eI.right (oJ.good _ _) H).comp λ_ H=>(eI.right (stA.good _ _) H).comp λ_ H=>(eI.right (aDA.good _ _) H).comp λ_ H=>(eI.right (aDY.good _ _) H).comp λ_ H=>eI.left (aBA.good _ _) H
def jE.fTwo:uC h F (eI (xV dI 5 nv (nts.map Nt.cells)) (aBA bv blk)) (λX=>eI (oJ c cs) (eI (stA sp st) (eI (aDA m lk) (eI (aDY cp cl) X)))):=(eI.right (oJ.good _ _) H).comp λ_ H=>(eI.right (stA.good _ _) H).comp λ_ H=>(eI.right (aDA.good _ _) H).comp λ_ H=>eI.right (aDY.good _ _) H
end
def jA.good(c:Nat)(s:Ch):mE (jA c s) where
 known:=λ⟨_,_,_,_,_,_,H,_⟩=>jE.good.known H
 upd:=λ⟨sp,m,cp,nv,bv,lk,H,e⟩ u hK=>⟨sp,m,cp,nv,bv,lk,jE.good.upd H u hK,e⟩
def jE.cell{c:Nat}{cs:List Value}{sp:Nat}{st:St}{m:Nat}{lk:List Pr}{cp:Nat}{cl:List iA}{nv:Value}{nts:List Nt}{bv:Value}{blk:List (List Nt)}{h:PH}{F:List Nat}(H:jE c cs sp st m lk cp cl nv nts bv blk h F):Bx h c cs:=by
 obtain⟨Fa,⟨-,B⟩,-,-⟩:=H.fBox;exact B
def Ch.load0{h:PH}{c:Nat}{s:Ch}{sp:Nat}{bv nv:Value}{m cp:Nat}(B:Bx h c (s.cells sp bv nv m cp)):cH PG h (loadAt jF (pT c 0))=some (pT sp 0):=by rw[jF.load,B.cell];rfl
def Ch.load1{h:PH}{c:Nat}{s:Ch}{sp:Nat}{bv nv:Value}{m cp:Nat}(B:Bx h c (s.cells sp bv nv m cp)):cH PG h (loadAt cA (pT c 1))=some (.int .u64 s.first):=by rw[cA.load,B.cell];rfl
def Ch.load2{h:PH}{c:Nat}{s:Ch}{sp:Nat}{bv nv:Value}{m cp:Nat}(B:Bx h c (s.cells sp bv nv m cp)):cH PG h (loadAt eP (pT c 2))=some bv:=by rw[eP.load,B.cell];rfl
def Ch.load3{h:PH}{c:Nat}{s:Ch}{sp:Nat}{bv nv:Value}{m cp:Nat}(B:Bx h c (s.cells sp bv nv m cp)):cH PG h (loadAt cU (pT c 3))=some nv:=by rw[cU.load,B.cell];rfl
def Ch.load4{h:PH}{c:Nat}{s:Ch}{sp:Nat}{bv nv:Value}{m cp:Nat}(B:Bx h c (s.cells sp bv nv m cp)):cH PG h (loadAt dX (pT c 4))=some (.map (some m)):=by rw[dX.load,B.cell];rfl
def Ch.load5{h:PH}{c:Nat}{s:Ch}{sp:Nat}{bv nv:Value}{m cp:Nat}(B:Bx h c (s.cells sp bv nv m cp)):cH PG h (loadAt bT (pT c 5))=some (.int .i64 s.id):=by rw[bT.load,B.cell];rfl
def Ch.load6{h:PH}{c:Nat}{s:Ch}{sp:Nat}{bv nv:Value}{m cp:Nat}(B:Bx h c (s.cells sp bv nv m cp)):cH PG h (loadAt jH (pT c 6))=some (pT cp 0):=by rw[jH.load,B.cell];rfl
def Ch.load7{h:PH}{c:Nat}{s:Ch}{sp:Nat}{bv nv:Value}{m cp:Nat}(B:Bx h c (s.cells sp bv nv m cp)):cH PG h (loadAt cA (pT c 7))=some (.int .u64 s.seq):=by rw[cA.load,B.cell];rfl
def Ch.put(s:Ch)(k v:Tx):Ch:={s with st:={s.st with now:=oP s.st.now ⟨k,v⟩}}
def Ch.del(s:Ch)(k:Tx):Ch:={s with st:={s.st with now:=uE s.st.now k}}
def Ch.add(s:Ch)(n:Nt):Ch:={s with nts:=s.nts++[n]}
def jE.okst{c:Nat}{cs:List Value}{sp:Nat}{st:St}{m:Nat}{lk:List Pr}{cp:Nat}{cl:List iA}{nv:Value}{nts:List Nt}{bv:Value}{blk:List (List Nt)}{h:PH}{F:List Nat}(H:jE c cs sp st m lk cp cl nv nts bv blk h F):st.Ok:=by
 obtain⟨Fs,S,-,-⟩:=H.fSt;exact vS.ok S
def aPS{h:PH}{c:Nat}{s:Ch}{F:List Nat}(H:jA c s h F){k v:Tx}(h1:1≤k.length)(h2:k.length≤16)(h3:v.length≤64)(hr:¬(iI s.st.now k=none∧4096≤s.st.now.length)){kk:cD}
  (hk:∀h' F',jA c (s.put k v) h' F'->jJ h F h' F'->kk (.tuple #[]) h'):aT PG wI #[pT c 0,.string (tx k),.string (tx v)] h kk:=by
 apply aDX.call;unfold aDX;obtain⟨sp,m,cp,nv,bv,lk,P,perm,ok⟩:=H;have hst:=P.okst;simp only[eV.f4,fO,Ch.load4 P.cell,cE,reduceIte,cV,Nat.reduceAdd];obtain⟨Fm,⟨rfl,M⟩,hFm,back⟩:=P.fMap;refine aKq aJg dX.und M k (.string (tx v)) λh4 M4 u4=>?_;obtain⟨l',e1,e2⟩:=aPu perm hst.up ⟨k,v⟩;have e1':aDe (lk.map Pr.pr) k (.string (tx v))=l'.map Pr.pr:=e1;rw[e1'] at M4;obtain⟨F4,P4,s4⟩:=back (aDA m l') h4 [m] ⟨rfl,M4⟩ ⟨u4,λb hb=>.inl hb⟩;have P4:jE c (s.cells sp bv nv m cp) sp s.st m l' cp s.cl nv s.nts bv s.blk h4 F4:=P4;simp only[eV.f0,Ch.load0 P4.cell,cE,reduceIte,cV,Nat.reduceAdd];obtain⟨Fs,S,hFs,back2⟩:=P4.fSt;have es:aCn s.st k v=({s.st with now:=oP s.st.now ⟨k,v⟩},0):=by
  unfold aCn;rw[if_neg (by omega),if_neg hr]
 refine aXg S k v λh5 S5 u5=>?_;rw[es] at S5;obtain⟨F5,P5,s5⟩:=back2 (stA sp {s.st with now:=oP s.st.now ⟨k,v⟩}) h5 Fs S5 ⟨u5,λb hb=>.inl hb⟩;exact hk h5 F5 ⟨sp,m,cp,nv,bv,l',P5,e2,⟨ok.id,ok.len,ok.first,ok.seq,ok.seq1,ok.nts,ok.wf,ok.bwf⟩⟩ (s4.trans s5)
def aVy{h:PH}{c:Nat}{s:Ch}{F:List Nat}(H:jA c s h F){k:Tx}(hg:iI s.st.now k≠none){kk:cD}
  (hk:∀h' F',jA c (s.del k) h' F'->jJ h F h' F'->kk (.tuple #[]) h'):aT PG aDd #[pT c 0,.string (tx k)] h kk:=by
 apply aCK.call;unfold aCK;obtain⟨sp,m,cp,nv,bv,lk,P,perm,ok⟩:=H;have hst:=P.okst;simp only[eV.f4,fO,Ch.load4 P.cell,cE,reduceIte,cV,Nat.reduceAdd];obtain⟨Fm,⟨rfl,M⟩,hFm,back⟩:=P.fMap;refine aO9 aJg dX.und M k rfl λh4 M4 u4=>?_;rw[aRv] at M4;obtain⟨F4,P4,s4⟩:=back (aDA m (uE lk k)) h4 [m] ⟨rfl,M4⟩ ⟨u4,λb hb=>.inl hb⟩;have P4:jE c (s.cells sp bv nv m cp) sp s.st m (uE lk k) cp s.cl nv s.nts bv s.blk h4 F4:=P4;simp only[eV.f0,Ch.load0 P4.cell,cE,reduceIte,cV,Nat.reduceAdd];obtain⟨Fs,S,hFs,back2⟩:=P4.fSt;have es:aFY s.st k=({s.st with now:=uE s.st.now k},0):=by
  unfold aFY;rw[if_neg hg]
 refine aSk S k λh5 S5 u5=>?_;rw[es] at S5;obtain⟨F5,P5,s5⟩:=back2 (stA sp {s.st with now:=uE s.st.now k}) h5 Fs S5 ⟨u5,λb hb=>.inl hb⟩;exact hk h5 F5 ⟨sp,m,cp,nv,bv,_,P5,perm.filter _,⟨ok.id,ok.len,ok.first,ok.seq,ok.seq1,ok.nts,ok.wf,ok.bwf⟩⟩ (s4.trans s5)
def aQY{h:PH}{c:Nat}{s:Ch}{F:List Nat}(H:jA c s h F){n:Nat}(hn:n≤100){kk:cD}(hk:kk (.bool (decide (s.st.now.length+n≤4096))) h):aT PG aAH #[pT c 0,.int .i64 (n:Int)] h kk:=by
 apply aCC.call;unfold aCC;obtain⟨sp,m,cp,nv,bv,lk,P,perm,ok⟩:=H;have hf:=P.okst.few;simp only[eV.f0,Ch.load0 P.cell,cE,reduceIte,cV,Nat.reduceAdd];obtain⟨Fs,S,-,-⟩:=P.fSt;refine aW4 S ?_;have e1:IntKind.i64.wrap ((s.st.now.length:Int)+(n:Int))=((s.st.now.length+n:Nat):Int):=by rw[fI (by omega) (by omega)];omega
 have e2:(((s.st.now.length+n:Nat):Int)≤4096)=(s.st.now.length+n≤4096):=by apply propext;omega
 simp only[e1,e2,cE,reduceIte,cV,Nat.reduceAdd];exact hk
def aZv(k:Int)(p:Pk):dG PG (build dI #[(0,.int .i64 k),(1,p.v)])=some (.agg (Nt.cells ⟨k,p⟩).toArray):=by kernel_rfl
def aXw(x:Nt):jZ PG (buildSlice cU 1 #[(0,.agg x.cells.toArray)])=some (.cells x.cells.toArray dI (0,0),λr=>pure (.slice (some ⟨r,0,none⟩) 1 1)):=by kernel_rfl
def aZb(l:List Nt):Rows 5 (l.map Nt.cells):=λr hr=>by obtain⟨m,_,rfl⟩:=mG.1 hr;rfl
def aZx(l:List Nt):∀r∈l.map Nt.cells,∀u∈r,fX u=true:=λr hr u hu=>by
 obtain⟨m,_,rfl⟩:=mG.1 hr;simp only[Nt.cells,Pk.cells,gU,zLW,uL,lH,or_false] at hu;rcases hu with rfl|rfl|rfl|rfl|rfl<;>rfl
def aNb{h:PH}{c:Nat}{s:Ch}{F:List Nat}(H:jA c s h F)(k:Int){p:Pk}(w:p.wf)(hl:s.nts.length<1000000){kk:cD}
  (hk:∀h' F',jA c (s.add ⟨k,p⟩) h' F'->jJ h F h' F'->kk (.tuple #[]) h'):aT PG wL #[pT c 0,.int .i64 k,p.v] h kk:=by
 apply wX.call;unfold wX;intro r1 hr1
 try rw[cW]
 have u1:dC h (h.set r1 (.cells (Value.cells p.v) aR)):=cT.new hr1;have B1:Bx (h.set r1 (.cells (Value.cells p.v) aR)) r1 p.cells:=Bx.new;generalize h.set r1 (.cells (Value.cells p.v) aR)=h1 at *;have H1:=(jA.good c s).ext H u1;obtain⟨sp,m,cp,nv,bv,lk,P,perm,ok⟩:=H1;have lp:cH PG h1 (loadAt aR (pT r1 0))=some p.v:=B1.pk rfl;simp only[eH.f0,eV.f3,fO,Ch.load3 P.cell,lp,aZv,aXw,cE,reduceIte,cV,Nat.reduceAdd];intro r9 hr9;refine fT ?_
 try rw[cW]
 have u2:dC h1 (h1.set r9 (.cells (Nt.cells ⟨k,p⟩).toArray dI (0,0))):=cT.new hr9;have s1:gB (h1.set r9 (.cells (Nt.cells ⟨k,p⟩).toArray dI (0,0))) 5 (.slice (some ⟨r9,0,none⟩) 1 1) ([⟨k,p⟩].map Nt.cells):=(eO.lit (aZb [⟨k,p⟩]) dJ (by simp) (by decide) (by simp)).slR;generalize h1.set r9 (.cells (Nt.cells ⟨k,p⟩).toArray dI (0,0))=h2 at *;have P2:=jE.good.ext P u2;obtain⟨Fn,O,hFn,back⟩:=P2.fNts;refine jL cU.und cU.und dI.info dI.size dI.bytes dI.zero rfl (by decide) O s1 (aZx _) (by simp;omega) ?_;intro v3 h3 F3 O3 u3 g3 _;rw[←pY] at O3;obtain⟨F4,P4,s4⟩:=back (xV dI 5 v3 ((s.nts++[(⟨k,p⟩:Nt)]).map Nt.cells)) h3 F3 O3 ⟨u3,g3⟩;have P4:jE c (s.cells sp bv nv m cp) sp s.st m lk cp s.cl v3 (s.nts++[⟨k,p⟩]) bv s.blk h3 F4:=P4;obtain⟨Fb,⟨rfl,B⟩,hFb,back2⟩:=P4.fBox;refine cU.put B (o:=3) (by show 3<8;decide) O3.slR.isc λh5 B5 u5=>?_;obtain⟨F5,P5,s5⟩:=back2 (oJ c (s.cells sp bv v3 m cp)) h5 [c] ⟨rfl,B5⟩ ⟨u5,λb hb=>.inl hb⟩;refine hk h5 F5 ⟨sp,m,cp,v3,bv,lk,P5,perm,⟨ok.id,ok.len,ok.first,ok.seq,ok.seq1,?_,?_,ok.bwf⟩⟩ (((jJ.ext (u1.trans u2)).trans s4).trans s5)
 ·show(s.nts++[(⟨k,p⟩:Nt)]).length≤1000000;rw[jS];simp;omega
 ·intro n hn;rcases kA.1 hn with hn|hn
  ·exact ok.wf n hn
  ·simp only[gE] at hn;subst hn;exact w
def aIC(h:PH)(fv:Value)(b:Bool):Prop:=∀h',dC h h'->∀k':Value->PH->Prop,(∀h'',dC h' h''->k' (.bool b) h'')->rK PG fv #[] h' k'
def aIC.ext{h h':PH}{fv:Value}{b:Bool}(R:aIC h fv b)(u:dC h h'):aIC h' fv b:=λh2 u2 k hk=>R h2 (u.trans u2) k hk
abbrev RuV:=Value×Int×Bool
def mR(x:RuV):List Value:=[x.1,.int .i64 x.2.1]
def mR.rows(l:List RuV):Rows 2 (l.map mR):=λr hr=>by obtain⟨m,_,rfl⟩:=mG.1 hr;rfl
def aH0(h:PH)(rs:List RuV):Prop:=∀x∈rs,fX x.1=true∧aIC h x.1 x.2.2
def aH0.ext{h h':PH}{rs:List RuV}(R:aH0 h rs)(u:dC h h'):aH0 h' rs:=λx hx=>⟨(R x hx).1,(R x hx).2.ext u⟩
def aEj:List RuV->Int
 | []=>0
 | x::l=>if x.2.2 then aEj l else x.2.1
def aNe(s:Ch)(rs:List RuV):Int:=if s.st.height=18446744073709551615 then 12 else aEj rs
def aPM{h:PH}{c:Nat}{s:Ch}{F:List Nat}(H:jA c s h F){v:Value}{rs:List RuV}(S:gB h 2 v (rs.map mR))(hf:aH0 h rs)(hl:rs.length≤100){kk:cD}(hk:∀h',dC h h'->kk (.int .i64 (aNe s rs)) h'):
  aT PG yB #[pT c 0,v] h kk:=by
 apply aEE.call;unfold aEE;obtain⟨sp,m,cp,nv,bv,lk,P,perm,ok⟩:=H;simp only[eH.f0,eV.f0,Ch.load0 P.cell,cE,reduceIte,cV,Nat.reduceAdd];obtain⟨Fs,St,-,-⟩:=P.fSt;refine aKH St ?_;unfold aNe at hk;by_cases hm:s.st.height=18446744073709551615
 ·have q:((s.st.height:Int)==18446744073709551615)=true:=by rw[hm];rfl
  rw[if_pos hm] at hk;simp only[iG,q,cE,reduceIte,cV,Nat.reduceAdd];exact hk h cT.refl
 have q:((s.st.height:Int)==18446744073709551615)=false:=by rw[beq_eq_false_iff_ne];omega
 rw[if_neg hm] at hk;have lv:=S.len (t':=bT) jN.und;rw[jB] at lv;simp only[iG,q,lv,cE,reduceIte,cV,Nat.reduceAdd];refine⟨λvs h'=>∃i:Nat,i≤rs.length∧vs=[v,.int .i64 (rs.length:Int),.int .i64 (i:Int)]∧dC h h'∧aEj rs=aEj (rs.drop i),gV rs.length 2,⟨0,by omega,rfl,cT.refl,rfl⟩,?_⟩;rintro ρ h' ⟨i,hi,hvs,u,hfb⟩;simp only[iJ,iZ,lP,and_true] at hvs;obtain⟨v0,v1,v2⟩:=hvs;unfold aHb;rw[v0,v1,v2];by_cases hlt:i<rs.length
 ·have g:((i:Int)<(rs.length:Int))=True:=eq_true (by omega);have gi:=qQ (i:=i) (by omega);obtain⟨x,hx⟩:∃x,rs[i]? =some x:=⟨_,lU hlt⟩;have hmem:=vR hx;have hd:rs.drop i=x::rs.drop (i+1):=by
   obtain⟨h1,e1⟩:=zLA.1 hx;rw[←e1];exact aHh h1
  rw[hd,aEj] at hfb;obtain⟨a,a1,a2⟩:=(S.ext u).loadAgg jN.und cK.info cK.size cK.und rfl (k:=.i64) (j:=(i:Int)) (r:=mR x) (by omega) (by rw[qP,wK,hx];rfl);obtain⟨hc,hr⟩:=hf x hmem;simp only[g,a1,a2,cE,reduceIte,cV,Nat.reduceAdd];intro r14 hr14
  try rw[cW]
  refine cK.fill (vs:=mR x) hr14 rfl (by
   simp only[mR,gU,lH,or_false];rintro w (rfl|rfl)
   ·exact hc
   ·rfl) λh2 B2 u2=>?_
  have lf:cH PG h2 (loadAt aAM (pT r14 0))=some x.1:=by rw[aAM.load,B2.cell];rfl
  simp only[cK.f0,lf,cE,reduceIte,cV,Nat.reduceAdd];refine hr h2 (u.trans u2) _ λh3 u3=>?_;have e3:=(u.trans u2).trans u3;cases hb:x.2.2 with
  | true=>
   rw[hb,if_pos rfl] at hfb;simp only[gi,cE,reduceIte,cV,Nat.reduceAdd];exact⟨⟨i+1,by omega,rfl,e3,hfb⟩,by simp[gV,v2];omega⟩
  | false=>
   rw[hb,if_neg (by decide)] at hfb;have le:cH PG h3 (loadAt fZ (pT r14 1))=some (.int .i64 x.2.1):=by rw[fZ.load,(B2.ext u3).cell];rfl
   simp only[cK.f1,fO,le,cE,reduceIte,cV,Nat.reduceAdd];have:=hk h3 e3;rw[hfb] at this;exact this
 ·have g:((i:Int)<(rs.length:Int))=False:=eq_false (by omega);rw[aLb (by omega),aEj] at hfb;simp only[g,cE,reduceIte,cV,Nat.reduceAdd];have:=hk h' u;rw[hfb] at this;exact this
def aKa(f:FuncId)(cap:Array Value)(e:Int):dG PG (build cK #[(0,.func (.func f) #[] cap),(1,.int .i64 e)])=some (.agg #[.func (.func f) #[] cap,.int .i64 e]):=by kernel_rfl
def aRK{h:PH}{p:Pk}{id:Int}{kk:cD}(hk:∀h' fv,fX fv=true->aIC h' fv (p.right&&(p.f==id))->dC h h'->kk (.agg #[fv,.int .i64 1]) h'):aT PG aF2 #[p.v,.int .i64 id] h kk:=by
 apply aIz.call;unfold aIz;intro r1 hr1
 try rw[cW]
 have u1:dC h (h.set r1 (.cells (Value.cells p.v) aR)):=cT.new hr1;have B1:Bx (h.set r1 (.cells (Value.cells p.v) aR)) r1 p.cells:=Bx.new;generalize h.set r1 (.cells (Value.cells p.v) aR)=h1 at *;intro r3 hr3
 try rw[cW]
 have u3:dC h1 (h1.set r3 (.cells (Value.cells (.int .i64 id)) bT)):=cT.new hr3;have B3:Bx (h1.set r3 (.cells (Value.cells (.int .i64 id)) bT)) r3 [.int .i64 id]:=Bx.new;generalize h1.set r3 (.cells (Value.cells (.int .i64 id)) bT)=h3 at *;intro r5 hr5
 try rw[cW]
 simp only[oM,aKa,cE,reduceIte,cV,Nat.reduceAdd];refine cK.fill (vs:=[.func (.func aBj) #[] #[pT r1 0,pT r3 0],.int .i64 1]) hr5 rfl (by simp[fX]) λh5 B5 u5=>?_;have l5:cH PG h5 (loadAt cK (pT r5 0))=some (.agg #[.func (.func aBj) #[] #[pT r1 0,pT r3 0],.int .i64 1]):=cK.agg B5 (by show 0+2≤2;decide);simp only[l5,cE,reduceIte,cV,Nat.reduceAdd];refine hk h5 _ rfl (λh' u k' hk'=>?_) ((u1.trans u3).trans u5);show aT PG aBj #[pT r1 0,pT r3 0] h' k';apply aHT.call;unfold aHT;have C1:=((B1.ext u3).ext u5).ext u;have C3:=(B3.ext u5).ext u;have lp:cH PG h' (loadAt aR (pT r1 0))=some (.agg p.cells.toArray):=C1.pk rfl;simp only[lp,cE,reduceIte,cV,Nat.reduceAdd];refine aLX p λh6 u6=>?_;have lf:cH PG h6 (loadAt bT (pT r1 0))=some (.int .i64 p.f):=by rw[bT.load,(C1.ext u6).cell];rfl
 have li:cH PG h6 (loadAt bT (pT r3 0))=some (.int .i64 id):=by rw[bT.load,(C3.ext u6).cell];rfl
 have hk':=hk' h6 u6;cases hr:p.right with
 | false=>
  rw[hr] at hk';have q:((1:Int)==0)=false:=by decide
  simp only[vN] at hk';simp only[iG,q,zLu,if_false,cE,reduceIte,cV,Nat.reduceAdd];exact hk'
 | true=>
  rw[hr] at hk';have q:((0:Int)==0)=true:=by decide
  simp only[zLp] at hk';simp only[iG,q,if_true,aR.f0,lf,li,cE,reduceIte,cV,Nat.reduceAdd];exact hk'
def bAE(h:PH)(fv:Value)(f:Tx->Bool):Prop:=∀h',dC h h'->∀(root:Tx) (k':cD),(∀h'',dC h' h''->k' (.bool (f root)) h'')->rK PG fv #[.string (tx root)] h' k'
def vV(l:List iA)(x:Int):Tx:=((lZ l x).getD ⟨#[]⟩).data.toList
def aMc{h:PH}{c:Nat}{s:Ch}{F:List Nat}(H:jA c s h F){x:Int}{fis:Value}{f:Tx->Bool}(hfc:fX fis=true)(hf:bAE h fis f){kk:cD}
  (hk:∀h' f1 f2,fX f1=true->fX f2=true->aIC h' f1 (lZ s.cl x).isSome->aIC h' f2 (f (vV s.cl x))->dC h h'->kk (.tuple #[.agg #[f1,.int .i64 11],.agg #[f2,.int .i64 9]]) h'):aT PG tJ #[pT c 0,.int .u64 x,fis] h kk:=by
 apply aBN.call;unfold aBN;have eone:Value.cells fis= #[fis]:=by cases fis<;>first|rfl|cases hfc
 intro r1 hr1
 try rw[cW]
 have u1:dC h (h.set r1 (.cells (Value.cells fis) lG)):=cT.new hr1;have B1:Bx (h.set r1 (.cells (Value.cells fis) lG)) r1 [fis]:=by rw[eone];exact Bx.new
 generalize h.set r1 (.cells (Value.cells fis) lG)=h1 at *;intro r3 hr3
 try rw[cW]
 have u3:dC h1 (h1.set r3 (.cells (dS PG cK) cK)):=cT.new hr3;have Z3:=cK.zbox (h:=h1) (r:=r3);generalize h1.set r3 (.cells (dS PG cK) cK)=h3 at *;intro r5 hr5
 try rw[cW]
 have u5:dC h3 (h3.set r5 (.cells (dS PG cK) cK)):=cT.new hr5;have Z5:=cK.zbox (h:=h3) (r:=r5);have Y3:=Z3.ext u5;have n35:r3≠r5:=Z3.apart hr5;have n13:r1≠r3:=B1.apart hr3;have n15:r1≠r5:=(B1.ext u3).apart hr5;generalize h3.set r5 (.cells (dS PG cK) cK)=h5 at *;have e5:=(u1.trans u3).trans u5;have H5:=(jA.good c s).ext H e5;obtain⟨sp,m,cp,nv,bv,lk,P,perm,ok⟩:=H5;simp only[eH.f2,fO,Ch.load6 P.cell,cE,reduceIte,cV,Nat.reduceAdd];obtain⟨Fc,⟨hs,C⟩,-,-⟩:=P.fCli;refine aXT C x ?_;simp only[cE,reduceIte,cV,Nat.reduceAdd];intro r14 hr14
 try rw[cW]
 have u14:dC h5 (h5.set r14 (.cells (dS PG bR) bR)):=cT.new hr14;have Z14:=bR.zbox (h:=h5) (r:=r14);have Y5:=Z5.ext u14;have Y3':=Y3.ext u14;have n314:r3≠r14:=Y3.apart hr14;have n514:r5≠r14:=Z5.apart hr14;generalize h5.set r14 (.cells (dS PG bR) bR)=h14 at *;intro r16 hr16
 try rw[cW]
 have u16:dC h14 (h14.set r16 (.cells (dS PG gQ) gQ)):=cT.new hr16;have Z16:=gQ.zbox (h:=h14) (r:=r16);have X14:=Z14.ext u16;have X5:=Y5.ext u16;have X3:=Y3'.ext u16;have n1416:r14≠r16:=Z14.apart hr16;have n316:r3≠r16:=Y3'.apart hr16;have n516:r5≠r16:=Y5.apart hr16;generalize h14.set r16 (.cells (dS PG gQ) gQ)=h16 at *;have e16:=(e5.trans u14).trans u16;have k3:h r3=none:=u1.none hr3;have k5:h r5=none:=(u1.trans u3).none hr5;have k14:h r14=none:=e5.none hr14;have k16:h r16=none:=(e5.trans u14).none hr16;refine bR.put X14 (o:=0) (by decide) rfl λh17 B17 u17=>?_;refine gQ.put (Z16.upd u17 (by simpa using n1416.symm)) (o:=0) (by decide) rfl λh18 B18 u18=>?_;have C14:=B17.upd u18 (by simpa using n1416);have C3:=(X3.upd u17 (by simpa using n314)).upd u18 (by simpa using n316);have C5:=(X5.upd u17 (by simpa using n514)).upd u18 (by simpa using n516);have e18:dC h h18:=(e16.fresh u17 (eN.one k14)).fresh u18 (eN.one k16)
 try simp only[oM,aKa,cE,reduceIte,cV,Nat.reduceAdd]
 refine cK.put (vs:=[.func (.func rB) #[] #[pT r16 0],.int .i64 11]) C3 (o:=0) rfl (by show 0+2≤2;decide) (by simp[fX]) λh19 B19 u19=>?_;refine cK.put (vs:=[.func (.func rC) #[] #[pT r1 0,pT r14 0],.int .i64 9]) (C5.upd u19 (by simpa using n35.symm)) (o:=0) rfl (by show 0+2≤2;decide) (by simp[fX]) λh20 B20 u20=>?_;have D3:=B19.upd u20 (by simpa using n35);have l3:cH PG h20 (loadAt cK (pT r3 0))=some (.agg #[.func (.func rB) #[] #[pT r16 0],.int .i64 11]):=cK.agg D3 (by show 0+2≤2;decide);have l5:cH PG h20 (loadAt cK (pT r5 0))=some (.agg #[.func (.func rC) #[] #[pT r1 0,pT r14 0],.int .i64 9]):=cK.agg B20 (by show 0+2≤2;decide);have e20:dC h h20:=(e18.fresh u19 (eN.one k3)).fresh u20 (eN.one k5);have D16:Bx h20 r16 [.bool (lZ s.cl x).isSome]:=(B18.upd u19 (by simpa using n316.symm)).upd u20 (by simpa using n516.symm);have D14:Bx h20 r14 [.string ((lZ s.cl x).getD ⟨#[]⟩)]:=(C14.upd u19 (by simpa using n314.symm)).upd u20 (by simpa using n514.symm);have n114:r1≠r14:=((B1.ext u3).ext u5).apart hr14;have n116:r1≠r16:=(((B1.ext u3).ext u5).ext u14).apart hr16;have D1:Bx h20 r1 [fis]:=((((((((B1.ext u3).ext u5).ext u14).ext u16).upd u17 (by simpa using n114)).upd u18 (by simpa using n116)).upd u19 (by simpa using n13)).upd u20 (by simpa using n15));simp only[l3,l5,cE,reduceIte,cV,Nat.reduceAdd];refine hk h20 _ _ rfl rfl (λh' u k' hk'=>?_) (λh' u k' hk'=>?_) e20
 ·show aT PG rB #[pT r16 0] h' k';apply zY.call;unfold zY;have lb:cH PG h' (loadAt gQ (pT r16 0))=some (.bool (lZ s.cl x).isSome):=by rw[gQ.load,(D16.ext u).cell];rfl
  simp only[lb,cE,reduceIte,cV,Nat.reduceAdd];exact hk' h' cT.refl
 ·show aT PG rC #[pT r1 0,pT r14 0] h' k';apply zT.call;unfold zT;have lf:cH PG h' (loadAt lG (pT r1 0))=some fis:=by rw[lG.load,(D1.ext u).cell];rfl
  have ls:cH PG h' (loadAt bR (pT r14 0))=some (.string (tx (vV s.cl x))):=by
   rw[bR.load,(D14.ext u).cell];unfold vV;rw[aM8];rfl
  simp only[lf,ls,cE,reduceIte,cV,Nat.reduceAdd];exact hf h' (e20.trans u) (vV s.cl x) _ hk'
def xT(s:Ch)(p:Pk):Bool:=match iI s.st.now (iY 99 p.s.toNat) with
 | some q=>decide (q.v=qY p)
 | none=>false
def aVe{h:PH}{c:Nat}{s:Ch}{F:List Nat}(hK:oL h)(H:jA c s h F){p:Pk}(w:p.wf){kk:cD}(hk:∀h' fv,fX fv=true->aIC h' fv (xT s p)->dC h h'->kk (.agg #[fv,.int .i64 3]) h'):aT PG aD9 #[pT c 0,p.v] h kk:=by
 apply aDU.call;unfold aDU;intro r1 hr1
 try rw[cW]
 have u1:dC h (h.set r1 (.cells (Value.cells (pT c 0)) cZ)):=cT.new hr1;have B1:Bx (h.set r1 (.cells (Value.cells (pT c 0)) cZ)) r1 [pT c 0]:=Bx.new;generalize h.set r1 (.cells (Value.cells (pT c 0)) cZ)=h1 at *;intro r3 hr3
 try rw[cW]
 have u3:dC h1 (h1.set r3 (.cells (Value.cells p.v) aR)):=cT.new hr3;have B3:Bx (h1.set r3 (.cells (Value.cells p.v) aR)) r3 p.cells:=Bx.new;generalize h1.set r3 (.cells (Value.cells p.v) aR)=h3 at *;intro r5 hr5
 try rw[cW]
 simp only[oM,aKa,cE,reduceIte,cV,Nat.reduceAdd];refine cK.fill (vs:=[.func (.func tV) #[] #[pT r1 0,pT r3 0],.int .i64 3]) hr5 rfl (by simp[fX]) λh5 B5 u5=>?_;have l5:cH PG h5 (loadAt cK (pT r5 0))=some (.agg #[.func (.func tV) #[] #[pT r1 0,pT r3 0],.int .i64 3]):=cK.agg B5 (by show 0+2≤2;decide);have e5:=(u1.trans u3).trans u5;simp only[l5,cE,reduceIte,cV,Nat.reduceAdd];refine hk h5 _ rfl (λh' u k' hk'=>?_) e5;show aT PG tV #[pT r1 0,pT r3 0] h' k';apply sU.call;unfold sU;have C1:=((B1.ext u3).ext u5).ext u;have C3:=(B3.ext u5).ext u;have H':=(jA.good c s).ext H (e5.trans u);obtain⟨sp,m,cp,nv,bv,lk,P,perm,ok⟩:=H';obtain⟨n,hn⟩:=zLn w.1;have hn2:n<18446744073709551616:=by have:=w.2.1;omega
 have lc:∀{h'':PH},dC h' h''->cH PG h'' (loadAt cZ (pT r1 0))=some (pT c 0):=λv=>by rw[cZ.load,(C1.ext v).cell];rfl
 have ls:cH PG h' (loadAt cA (pT r3 1))=some (.int .u64 (n:Int)):=by rw[cA.load,C3.cell,←hn];rfl
 simp only[lc cT.refl,eH.f0,eV.f0,aR.f1,fO,Ch.load0 P.cell,ls,cE,reduceIte,cV,Nat.reduceAdd];refine aMt hn2 λh6 u6=>?_;have P6:=jE.good.ext P u6;refine⟨Ch.load0 P6.cell,lc u6,?_⟩;obtain⟨Fs,St,-,-⟩:=P6.fSt;refine aSa St _ ?_;have es:xT s p=match iI s.st.now (iY 99 n) with|some q=>decide (q.v=qY p)|none=>false:=by
  unfold xT;rw[hn];rfl
 cases hg:iI s.st.now (iY 99 n) with
 | none=>
  have hk':=hk' h6 u6;rw[es,hg] at hk';simp only[zLv,cE,reduceIte,cV,Nat.reduceAdd];exact hk'
 | some q=>
  rw[hg] at es;simp only at es;rw[es] at hk';have lp:cH PG h6 (loadAt aR (pT r3 0))=some p.v:=(C3.ext u6).pk rfl;simp only[aNp,aKV,aIm,lp,cE,reduceIte,cV,Nat.reduceAdd];refine aIY w (hK.ext ((e5.trans u).trans u6)) λh7 u7=>?_;simp only[aFx,cE,reduceIte,cV,Nat.reduceAdd];exact hk' h7 (u6.trans u7)
end
section
open Go
def wJ.uniq{a b:List Int}{l:List iA}(x:wJ a l)(y:wJ b l):a=b:=
 List.Perm.eq_of_pairwise (le:=λp q:Int=>p<q) (λp q _ _ (h1:p<q) h2=>by omega) x.up y.up (x.perm.trans y.perm.symm)
open Classical in
noncomputable def aJI(l:List iA):Int:=if h:∃hs,wJ hs l then aLO h.choose else 0
def aPE{hs:List Int}{l:List iA}(R:wJ hs l):aJI l=aLO hs:=by
 have h:∃hs,wJ hs l:=⟨hs,R⟩;unfold aJI;rw[dif_pos h,wJ.uniq h.choose_spec R]
def zR:List (Int×Bool)->Int
 | []=>0
 | x::l=>if x.2 then zR l else x.1
def aNF:∀rs:List RuV,aEj rs=zR (rs.map (·.2))
 | []=>rfl
 | x::l=>by simp only[aEj,iJ,zR,aNF l]
def qX(s:Ch)(l:List (Int×Bool)):Int:=if s.st.height=18446744073709551615 then 12 else zR l
def aOw(s:Ch)(rs:List RuV):aNe s rs=qX s (rs.map (·.2)):=by unfold aNe qX;rw[aNF]
def aWw(f0 f1 f2 f3:Value)(e0 e1 e2 e3:Int):jZ PG (buildSlice jN 4 #[(0,.agg #[f0,.int .i64 e0]),(1,.agg #[f1,.int .i64 e1]),(2,.agg #[f2,.int .i64 e2]),(3,.agg #[f3,.int .i64 e3])])=some (.cells #[f0,.int .i64 e0,f1,.int .i64 e1,f2,.int .i64 e2,f3,.int .i64 e3] cK,λr=>pure (.slice (some ⟨r,0,none⟩) 4 4)):=by kernel_rfl
def aWd(f s t:Int)(d:ByteArray):dG PG (build aR #[(0,.int .i64 f),(1,.int .u64 s),(2,.int .u64 t),(3,.string d)])=some (Pk.v ⟨f,s,t,d⟩):=by kernel_rfl
def kE(s:Ch)(d:Tx)(t:Nat):Pk:=⟨s.id,(s.seq:Int),(t:Int),tx d⟩
noncomputable def qG(s:Ch)(d:Tx)(t:Nat):Int:=qX s [(12,decide (s.seq<18446744073709551615)),(1,(kE s d t).right),(10,decide (aJI s.cl<(t:Int))),(2,decide (s.st.now.length+1≤4096))]
def Ch.next(s:Ch):Ch:={s with seq:=s.seq+1}
def Ch.sent(s:Ch)(p:Pk):Ch:=(((s.put (iY 99 s.seq) (qY p)).next).add ⟨1,p⟩)
def Pk.isC(p:Pk):∀u∈p.cells,fX u=true:=λu hu=>by
 simp only[Pk.cells,gU,lH,or_false] at hu;rcases hu with rfl|rfl|rfl|rfl<;>rfl
def aMo{s:Ch}{l:List (Int×Bool)}(h:qX s l=0)(hne:∀x∈l,x.1≠0):s.st.height≠18446744073709551615∧∀x∈l,x.2=true:=by
 unfold qX at h;by_cases hm:s.st.height=18446744073709551615
 ·rw[if_pos hm] at h;cases h
 ·rw[if_neg hm] at h;refine⟨hm,?_⟩;induction l with
  | nil=>intro x hx;cases hx
  | cons a l ih=>
   rw[zR] at h;cases ha:a.2 with
   | false=>rw[ha,if_neg (by decide)] at h;exact absurd h (hne a (by simp))
   | true=>
    rw[ha,if_pos rfl] at h;intro x hx;rcases gU.1 hx with rfl|hx
    ·exact ha
    ·exact ih h (λy hy=>hne y (by simp[hy])) x hx
def aOn{l:List Pr}{k:Tx}{n:Nat}(hn:1≤n)(h:l.length+n≤4096):¬(iI l k=none∧4096≤l.length):=λc=>by omega
def aPy(p:Pk):(qY p).length≤64:=by
 unfold qY aJF;split
 ·exact zLE (Nat.le_of_eq rfl) (show 32≤64 by decide)
 ·simp
def aVd{h:PH}{c:Nat}{s:Ch}{F:List Nat}(hK:oL h)(H:jA c s h F)(d:Tx){t:Nat}(ht:t<18446744073709551616)(hl:s.nts.length<1000000){kk:cD}
  (hbad:qG s d t≠0->∀h' F',jA c s h' F'->jJ h F h' F'->dC h h'->kk (.tuple #[Pk.v default,.int .i64 (qG s d t)]) h')
  (hk:qG s d t=0->∀h' F',jA c (s.sent (kE s d t)) h' F'->jJ h F h' F'->kk (.tuple #[Pk.v (kE s d t),.int .i64 0]) h'):
  aT PG aD6 #[pT c 0,.string (tx d),.int .u64 (t:Int)] h kk:=by
 apply xB.call;unfold xB;intro r1 hr1
 try rw[cW]
 have u1:dC h (h.set r1 (.cells (Value.cells (pT c 0)) cZ)):=cT.new hr1;have B1:Bx (h.set r1 (.cells (Value.cells (pT c 0)) cZ)) r1 [pT c 0]:=Bx.new;generalize h.set r1 (.cells (Value.cells (pT c 0)) cZ)=h1 at *;intro r3 hr3
 try rw[cW]
 have u3:dC h1 (h1.set r3 (.cells (Value.cells (.int .u64 (t:Int))) cA)):=cT.new hr3;have B3:Bx (h1.set r3 (.cells (Value.cells (.int .u64 (t:Int))) cA)) r3 [.int .u64 (t:Int)]:=Bx.new;generalize h1.set r3 (.cells (Value.cells (.int .u64 (t:Int))) cA)=h3 at *;intro r5 hr5
 try rw[cW]
 have u5:dC h3 (h3.set r5 (.cells (dS PG aR) aR)):=cT.new hr5;have Z5:=aR.zbox (h:=h3) (r:=r5);generalize h3.set r5 (.cells (dS PG aR) aR)=h5 at *;have e5:=(u1.trans u3).trans u5;have k5:h r5=none:=(u1.trans u3).none hr5;have C1:=(B1.ext u3).ext u5;have C3:=B3.ext u5;have H5:=(jA.good c s).ext H e5;obtain⟨sp,m,cp,nv,bv,lk,P,perm,ok⟩:=H5;have H5':jA c s h5 F:=⟨sp,m,cp,nv,bv,lk,P,perm,ok⟩;have hseq:=ok.seq;have lc:∀{h'':PH},dC h5 h''->cH PG h'' (loadAt cZ (pT r1 0))=some (pT c 0):=λv=>by rw[cZ.load,(C1.ext v).cell];rfl
 have lt:∀{h'':PH},dC h5 h''->cH PG h'' (loadAt cA (pT r3 0))=some (.int .u64 (t:Int)):=λv=>by rw[cA.load,(C3.ext v).cell];rfl
 simp only[lc cT.refl,lt cT.refl,eH.f1,eH.f3,fO,Ch.load5 P.cell,Ch.load7 P.cell,aWd,cE,reduceIte,cV,Nat.reduceAdd];intro r17 hr17
 try rw[cW]
 have n517:r5≠r17:=Z5.apart hr17;refine aR.fill (vs:=(kE s d t).cells) hr17 rfl (Pk.isC _) λh7 B7 u7=>?_;have w:(kE s d t).wf:=⟨by simp[kE],by simp only[kE];omega,by simp[kE],by simp only[kE];omega⟩;have e7:=e5.trans u7;have H7:=(jA.good c s).ext H5' u7;have Z7:=Z5.ext u7;have lpk:∀{h'':PH},dC h7 h''->cH PG h'' (loadAt aR (pT r17 0))=some (kE s d t).v:=λv=>(B7.ext v).pk rfl;simp only[lc u7,oM,aKa,aWw,cE,reduceIte,cV,Nat.reduceAdd];intro r30 hr30;refine fT ?_
 try rw[cW]
 -- the rules
 obtain⟨rs,hrs⟩:∃rs:List RuV,rs=[(.func (.func sR) #[] #[pT r1 0],12,decide (s.seq<18446744073709551615)),(.func (.func sY) #[] #[pT r17 0],1,(kE s d t).right),(.func (.func tW) #[] #[pT r3 0,pT r1 0],10,decide (aJI s.cl<(t:Int))),(.func (.func tH) #[] #[pT r1 0],2,decide (s.st.now.length+1≤4096))]:=⟨_,rfl⟩;have eall:aNe s rs=qG s d t:=by rw[aOw,hrs];rfl
 have u8:dC h7 (h7.set r30 (.cells (rs.map mR).flatten.toArray cK)):=cT.new hr30;have s8:gB (h7.set r30 (.cells (rs.map mR).flatten.toArray cK)) 2 (.slice (some ⟨r30,0,none⟩) 4 4) (rs.map mR):=(eO.lit (mR.rows rs) dJ (by rw[hrs];simp) (by decide) (by simp)).slR;have ecells:(#[.func (.func sR) #[] #[pT r1 0],.int .i64 12,.func (.func sY) #[] #[pT r17 0],.int .i64 1,.func (.func tW) #[] #[pT r3 0,pT r1 0],.int .i64 10,.func (.func tH) #[] #[pT r1 0],.int .i64 2]:Array Value)=(rs.map mR).flatten.toArray:=by rw[hrs];rfl
 rw[ecells];generalize h7.set r30 (.cells (rs.map mR).flatten.toArray cK)=h8 at *;have H8:=(jA.good c s).ext H7 u8;have e8:=e7.trans u8;have v58:=u7.trans u8;have hrules:aH0 h8 rs:=by
  rw[hrs];intro x hx;simp only[gU,lH,or_false] at hx;rcases hx with rfl|rfl|rfl|rfl
  ·refine⟨rfl,λh' u k' hk'=>?_⟩;show aT PG sR #[pT r1 0] h' k';apply aBp.call;unfold aBp;obtain⟨sp,m,cp,nv,bv,lk,P,perm,ok⟩:=(jA.good c s).ext H8 u;have eq1:((s.seq:Int)<18446744073709551615)=(s.seq<18446744073709551615):=by apply propext;omega
   simp only[lc (v58.trans u),eH.f3,fO,Ch.load7 P.cell,eq1,cE,reduceIte,cV,Nat.reduceAdd];exact hk' h' cT.refl
  ·refine⟨rfl,λh' u k' hk'=>?_⟩;show aT PG sY #[pT r17 0] h' k';apply aBk.call;unfold aBk;simp only[lpk (u8.trans u),cE,reduceIte,cV,Nat.reduceAdd];refine aLX (kE s d t) λh9 u9=>?_;have hk':=hk' h9 u9;cases hr:(kE s d t).right with
   | false=>
    rw[hr] at hk';have q:((1:Int)==0)=false:=by decide
    simp only[iG,q,zLu,if_false,cE,reduceIte,cV,Nat.reduceAdd];exact hk'
   | true=>
    rw[hr] at hk';have q:((0:Int)==0)=true:=by decide
    simp only[iG,q,if_true,cE,reduceIte,cV,Nat.reduceAdd];exact hk'
  ·refine⟨rfl,λh' u k' hk'=>?_⟩;show aT PG tW #[pT r3 0,pT r1 0] h' k';apply tL.call;unfold tL;obtain⟨sp,m,cp,nv,bv,lk,P,perm,ok⟩:=(jA.good c s).ext H8 u;obtain⟨Fc,⟨hs,C⟩,-,-⟩:=P.fCli;simp only[lt (v58.trans u),lc (v58.trans u),eH.f2,fO,Ch.load6 P.cell,cE,reduceIte,cV,Nat.reduceAdd];refine aUt C ?_;refine⟨lt (v58.trans u),?_⟩;rw[←aPE C.rank];simp only[cE,reduceIte,cV,Nat.reduceAdd];exact hk' h' cT.refl
  ·refine⟨rfl,λh' u k' hk'=>?_⟩;show aT PG tH #[pT r1 0] h' k';apply aBX.call;unfold aBX;simp only[lc (v58.trans u),eH.f0,cE,reduceIte,cV,Nat.reduceAdd];exact aQY (n:=1) ((jA.good c s).ext H8 u) (by decide) (hk' h' cT.refl)
 refine aPM H8 s8 hrules (by rw[hrs];simp) λh9 u9=>?_;rw[eall];have H9:=(jA.good c s).ext H8 u9;have e9:=e8.trans u9;have v59:=v58.trans u9;have v79:=u8.trans u9;by_cases he:qG s d t=0
 case neg=>
  have q:(qG s d t !=0)=true:=by simpa using he
  simp only[kP,q,Pk.zb,cE,reduceIte,cV,Nat.reduceAdd];refine aR.put (vs:=Pk.cells default) ((Z7.ext u8).ext u9) (o:=0) rfl (by show 0+4≤4;decide) (Pk.isC _) λh10 B10 u10=>?_;have l10:cH PG h10 (loadAt aR (pT r5 0))=some (Pk.v default):=B10.pk rfl;simp only[l10,cE,reduceIte,cV,Nat.reduceAdd];have n5F:∀b∈F,b∉[r5]:=λb hb hb'=>by
   simp only[gE] at hb';exact(jA.good c s).known H b hb (hb'▸k5)
  have e10:=e9.fresh u10 (eN.one k5);exact hbad he h10 F ((jA.good c s).upd H9 u10 n5F) (jJ.ext e10) e10
 obtain⟨hmax,hall⟩:=aMo he (by intro x hx;simp only[gU,lH,or_false] at hx;rcases hx with rfl|rfl|rfl|rfl<;>simp);have b1:s.seq<18446744073709551615:=by simpa using hall _ (by simp:((12:Int),decide (s.seq<18446744073709551615))∈_)
 have b4:s.st.now.length+1≤4096:=by
  have:=hall (2,decide (s.st.now.length+1≤4096)) (by simp);simpa using this
 have ls:∀{h'':PH},dC h7 h''->cH PG h'' (loadAt cA (pT r17 1))=some (.int .u64 (s.seq:Int)):=λv=>by rw[cA.load,(B7.ext v).cell];rfl
 simp only[he,kP,lc v59,eH.f0,aR.f1,fO,ls v79,lpk v79,cE,reduceIte,cV,Nat.reduceAdd];refine aMt hseq λh10 u10=>?_;refine⟨lpk (v79.trans u10),lc (v59.trans u10),?_⟩;refine aIY w (hK.ext (e9.trans u10)) λh11 u11=>?_;have v11:=u10.trans u11;refine⟨lc (v59.trans v11),?_⟩;have H11:=(jA.good c s).ext H9 v11;refine aPS H11 (by rw[zP];decide) (by rw[zP];decide) (aPy _) (aOn (n:=1) (by decide) b4) λh12 F12 H12 s12=>?_
 -- boxes beside the chain
 have nF:∀{r:Nat},h r=none->r∉F:=λhr hm=>(jA.good c s).known H _ hm hr;have k1:h r1=none:=hr1;have k17:h r17=none:=e5.none hr17;have e11:=e9.trans v11;have nF12:∀{r:Nat} {o:Obj},h r=none->h11 r=some o->r∉F12:=λhr ho hm=>by
  rcases s12.grow _ hm with hx|hx
  ·exact nF hr hx
  ·rw[ho] at hx;cases hx
 have D1:=(C1.ext (v59.trans v11)).upd s12.upd (nF k1);have D17:=(B7.ext (v79.trans v11)).upd s12.upd (nF k17);have D5:=(((Z7.ext u8).ext u9).ext v11).upd s12.upd (nF k5);have m1:r1∉F12:=by obtain⟨_,ho⟩:=(C1.ext (v59.trans v11)).here;exact nF12 k1 ho
 have m17:r17∉F12:=by obtain⟨_,ho⟩:=(B7.ext (v79.trans v11)).here;exact nF12 k17 ho
 have m5:r5∉F12:=by obtain⟨_,ho⟩:=(((Z7.ext u8).ext u9).ext v11).here;exact nF12 k5 ho
 obtain⟨sp',m',cp',nv',bv',lk',P',perm',ok'⟩:=H12;have lc12:cH PG h12 (loadAt cZ (pT r1 0))=some (pT c 0):=by rw[cZ.load,D1.cell];rfl
 have wq:IntKind.u64.wrap ((s.seq:Int)+1)=((s.seq+1:Nat):Int):=by rw[gL (by omega) (by omega)];omega
 have l7:cH PG h12 (loadAt cA (pT c 7))=some (.int .u64 (s.seq:Int)):=Ch.load7 P'.cell;simp only[lc12,eH.f3,fO,l7,wq,cE,reduceIte,cV,Nat.reduceAdd];obtain⟨Fb,⟨rfl,Bc⟩,hFb,back⟩:=P'.fBox;refine cA.put Bc (o:=7) (by show 7<8;decide) rfl λh13 B13 u13=>?_;obtain⟨F13,P13,s13⟩:=back (oJ c ((s.put (iY 99 s.seq) (qY (kE s d t))).next.cells sp' bv' nv' m' cp')) h13 [c] ⟨rfl,B13⟩ ⟨u13,λb hb=>.inl hb⟩;have H13:jA c ((s.put (iY 99 s.seq) (qY (kE s d t))).next) h13 F13:=⟨sp',m',cp',nv',bv',lk',P13,perm',⟨ok'.id,ok'.len,ok'.first,by show s.seq+1<_;omega,by show 1≤s.seq+1;omega,ok'.nts,ok'.wf,ok'.bwf⟩⟩;have cF:c∈F12:=hFb c (by simp);have nc:∀{r:Nat},r∉F12->r∉[c]:=λhr hm=>by simp only[gE] at hm;exact hr (hm▸cF)
 have E1:=D1.upd u13 (nc m1);have E17:=D17.upd u13 (nc m17);have E5:=D5.upd u13 (nc m5);have lc13:cH PG h13 (loadAt cZ (pT r1 0))=some (pT c 0):=by rw[cZ.load,E1.cell];rfl
 have lp13:cH PG h13 (loadAt aR (pT r17 0))=some (kE s d t).v:=E17.pk rfl;simp only[lc13,lp13,cE,reduceIte,cV,Nat.reduceAdd];refine aNb H13 1 w hl λh14 F14 H14 s14=>?_;have grow13:∀{r:Nat},r∉F12->h12 r≠none->r∉F13:=λhr hn hm=>by
  rcases s13.grow _ hm with hx|hx
  ·exact hr hx
  ·exact hn hx
 have G17:=E17.upd s14.upd (grow13 m17 D17.known);have G5:=E5.upd s14.upd (grow13 m5 D5.known);have lp14:cH PG h14 (loadAt aR (pT r17 0))=some (kE s d t).v:=G17.pk rfl;simp only[lp14,cE,reduceIte,cV,Nat.reduceAdd];refine aR.put (vs:=(kE s d t).cells) G5 (o:=0) rfl (by show 0+4≤4;decide) (Pk.isC _) λh15 B15 u15=>?_;have l15:cH PG h15 (loadAt aR (pT r5 0))=some (kE s d t).v:=B15.pk rfl;simp only[l15,cE,reduceIte,cV,Nat.reduceAdd];have m514:r5∉F14:=λhm=>by
  rcases s14.grow _ hm with hx|hx
  ·exact grow13 m5 D5.known hx
  ·exact E5.known hx
 have st14:=(((jJ.ext (F:=F) e11).trans s12).trans s13).trans s14;refine hk he h15 F14 ((jA.good c _).upd H14 u15 (λb hb hb'=>by simp only[gE] at hb';exact m514 (hb'▸hb))) ⟨st14.upd.then u15 (λb hb=>.inr (by simp only[gE] at hb;rw[hb];exact k5)),st14.grow⟩
end
section
open Go
def aSI(f0 f1:Value)(e0 e1:Int):jZ PG (buildSlice jN 2 #[(0,.agg #[f0,.int .i64 e0]),(1,.agg #[f1,.int .i64 e1])])=some (.cells #[f0,.int .i64 e0,f1,.int .i64 e1] cK,λr=>pure (.slice (some ⟨r,0,none⟩) 2 2)):=by kernel_rfl
def aXu(f0 f1 f2:Value)(e0 e1 e2:Int):jZ PG (buildSlice jN 3 #[(0,.agg #[f0,.int .i64 e0]),(1,.agg #[f1,.int .i64 e1]),(2,.agg #[f2,.int .i64 e2])])=some (.cells #[f0,.int .i64 e0,f1,.int .i64 e1,f2,.int .i64 e2] cK,λr=>pure (.slice (some ⟨r,0,none⟩) 3 3)):=by kernel_rfl
def jO(s:Ch)(p:Pk)(l:List (Int×Bool)):Int:=qX s ([(1,p.right&&(p.f==s.id)),(3,xT s p)]++l)
def Ch.settled(s:Ch)(k:Int)(p:Pk):Ch:=(s.del (iY 99 p.s.toNat)).add ⟨k,p⟩
def aOc{h:PH}{c:Nat}{s:Ch}{F:List Nat}(hK:oL h)(H:jA c s h F)(kind:Int){p:Pk}(w:p.wf){v:Value}{rs:List RuV}(S:gB h 2 v (rs.map mR))(hrs:aH0 h rs)(hlr:rs.length≤10)(hne:∀x∈rs,x.2.1≠0)(hl:s.nts.length<1000000){kk:cD}
  (hbad:jO s p (rs.map (·.2))≠0->∀h',jA c s h' F->dC h h'->kk (.int .i64 (jO s p (rs.map (·.2)))) h')
  (hk:jO s p (rs.map (·.2))=0->∀h' F',jA c (s.settled kind p) h' F'->jJ h F h' F'->kk (.int .i64 0) h'):
  aT PG yW #[pT c 0,.int .i64 kind,p.v,v] h kk:=by
 apply tN.call;unfold tN;intro r1 hr1
 try rw[cW]
 have u1:dC h (h.set r1 (.cells (Value.cells p.v) aR)):=cT.new hr1;have B1:Bx (h.set r1 (.cells (Value.cells p.v) aR)) r1 p.cells:=Bx.new;generalize h.set r1 (.cells (Value.cells p.v) aR)=h1 at *;have lp:∀{h'':PH},dC h1 h''->cH PG h'' (loadAt aR (pT r1 0))=some p.v:=λv=>(B1.ext v).pk rfl;have H1:=(jA.good c s).ext H u1;obtain⟨sp,m,cp,nv,bv,lk,P,perm,ok⟩:=H1;have H1:jA c s h1 F:=⟨sp,m,cp,nv,bv,lk,P,perm,ok⟩;simp only[lp cT.refl,eH.f1,fO,Ch.load5 P.cell,cE,reduceIte,cV,Nat.reduceAdd];refine aRK λh2 f0 c0 R0 u2=>?_;refine⟨lp u2,?_⟩;have H2:=(jA.good c s).ext H1 u2;refine aVe (hK.ext (u1.trans u2)) H2 w λh3 f1 c1 R1 u3=>?_;have H3:=(jA.good c s).ext H2 u3;have e3:=(u1.trans u2).trans u3;simp only[aSI,cE,reduceIte,cV,Nat.reduceAdd];intro r12 hr12;refine fT ?_
 try rw[cW]
 obtain⟨hd,hhd⟩:∃hd:List RuV,hd=[(f0,1,p.right&&(p.f==s.id)),(f1,3,xT s p)]:=⟨_,rfl⟩;have ecells:(#[f0,.int .i64 1,f1,.int .i64 3]:Array Value)=(hd.map mR).flatten.toArray:=by rw[hhd];rfl
 rw[ecells];have u4:dC h3 (h3.set r12 (.cells (hd.map mR).flatten.toArray cK)):=cT.new hr12;have O4:eO (h3.set r12 (.cells (hd.map mR).flatten.toArray cK)) cK 2 (.slice (some ⟨r12,0,none⟩) 2 2) (hd.map mR) [r12]:=eO.lit (mR.rows hd) dJ (by rw[hhd];simp) (by decide) (by simp);generalize h3.set r12 (.cells (hd.map mR).flatten.toArray cK)=h4 at *;have e4:=e3.trans u4;refine jL jN.und jN.und cK.info cK.size cK.bytes cK.zero rfl (by decide) O4 (S.ext e4) (λr hr u hu=>by
  obtain⟨x,hx,rfl⟩:=mG.1 hr;simp only[mR,gU,lH,or_false] at hu;rcases hu with rfl|rfl
  ·exact(hrs x hx).1
  ·rfl) (by rw[hhd];simp;omega) ?_
 intro v5 h5 F5 O5 u5 g5 _;rw[←pY] at O5;have f12:eN h [r12]:=eN.one (e3.none hr12);have k12:h3 r12=none:=hr12;have e5:dC h h5:=e4.fresh u5 f12;have e35:dC h3 h5:=u4.fresh u5 (eN.one k12);have H5:=(jA.good c s).ext H3 e35;have hrules:aH0 h5 (hd++rs):=λx hx=>by
  rcases kA.1 hx with hx|hx
  ·rw[hhd] at hx;simp only[gU,lH,or_false] at hx;rcases hx with rfl|rfl
   ·exact⟨c0,(R0.ext u3).ext e35⟩
   ·exact⟨c1,R1.ext e35⟩
  ·exact(hrs.ext e5) x hx
 refine aPM H5 O5.slR hrules (by rw[hhd];simp;omega) λh6 u6=>?_;have eall:aNe s (hd++rs)=jO s p (rs.map (·.2)):=by rw[aOw,hhd];rfl
 rw[eall];have H6:=(jA.good c s).ext H5 u6;have e6:=e5.trans u6;have v16:dC h1 h6:=((u2.trans u3).trans e35).trans u6;unfold aBy;by_cases he:jO s p (rs.map (·.2))=0
 case neg=>
  have q:(jO s p (rs.map (·.2))==0)=false:=by simpa using he
  simp only[iG,q,cE,reduceIte,cV,Nat.reduceAdd];exact hbad he h6 H6 e6
 obtain⟨n,hn⟩:=zLn w.1;have hn2:n<18446744073709551616:=by have:=w.2.1;omega
 obtain⟨-,hall⟩:=aMo he (by
  intro x hx;rcases kA.1 hx with hx|hx
  ·simp only[gU,lH,or_false] at hx;rcases hx with rfl|rfl<;>simp
  ·obtain⟨y,hy,rfl⟩:=mG.1 hx;exact hne y hy)
 have hsent:xT s p=true:=hall (3,xT s p) (by simp);have hg:iI s.st.now (iY 99 n)≠none:=λhg=>by
  unfold xT at hsent;rw[hn,qP,hg] at hsent;cases hsent
 have ls:cH PG h6 (loadAt cA (pT r1 1))=some (.int .u64 (n:Int)):=by rw[cA.load,(B1.ext v16).cell,←hn];rfl
 simp only[he,iG,eH.f0,aR.f1,fO,ls,cE,reduceIte,cV,Nat.reduceAdd];refine aMt hn2 λh7 u7=>?_;have H7:=(jA.good c s).ext H6 u7;refine aVy H7 hg λh8 F8 H8 s8=>?_;have nF:r1∉F:=λhm=>(jA.good c s).known H _ hm hr1;have D1:=(B1.ext (v16.trans u7)).upd s8.upd nF;have lp8:cH PG h8 (loadAt aR (pT r1 0))=some p.v:=D1.pk rfl;simp only[lp8,cE,reduceIte,cV,Nat.reduceAdd];refine aNb H8 kind w hl λh9 F9 H9 s9=>?_;have es:(s.del (iY 99 n)).add ⟨kind,p⟩=s.settled kind p:=by unfold Ch.settled;rw[hn];rfl
 rw[es] at H9;exact hk he h9 F9 H9 (((jJ.ext (e6.trans u7)).trans s8).trans s9)
noncomputable def aBB(s:Ch)(p:Pk)(pf:Tx)(x:Int):List (Int×Bool):=[(11,(lZ s.cl x).isSome),(9,aDz (vV s.cl x) pf (iY 97 p.s.toNat) (aEm p))]
def aXo{h:PH}{c:Nat}{s:Ch}{F:List Nat}(hK:oL h)(H:jA c s h F){p:Pk}(w:p.wf){pf:Tx}{x:Int}(hl:s.nts.length<1000000){kk:cD}
  (hbad:jO s p (aBB s p pf x)≠0->∀h',jA c s h' F->dC h h'->kk (.int .i64 (jO s p (aBB s p pf x))) h')
  (hk:jO s p (aBB s p pf x)=0->∀h' F',jA c (s.settled 3 p) h' F'->jJ h F h' F'->kk (.int .i64 0) h'):
  aT PG aEv #[pT c 0,p.v,.string (tx pf),.int .u64 x] h kk:=by
 apply aEW.call;unfold aEW;obtain⟨n,hn⟩:=zLn w.1;have hn2:n<18446744073709551616:=by have:=w.2.1;omega
 intro r1 hr1
 try rw[cW]
 have u1:dC h (h.set r1 (.cells (Value.cells p.v) aR)):=cT.new hr1;have B1:Bx (h.set r1 (.cells (Value.cells p.v) aR)) r1 p.cells:=Bx.new;generalize h.set r1 (.cells (Value.cells p.v) aR)=h1 at *;intro r3 hr3
 try rw[cW]
 have u3:dC h1 (h1.set r3 (.cells (Value.cells (.string (tx pf))) bR)):=cT.new hr3;have B3:Bx (h1.set r3 (.cells (Value.cells (.string (tx pf))) bR)) r3 [.string (tx pf)]:=Bx.new;generalize h1.set r3 (.cells (Value.cells (.string (tx pf))) bR)=h3 at *;have e3:=u1.trans u3;have C1:=B1.ext u3;have H3:=(jA.good c s).ext H e3
 try simp only[oM,cE,reduceIte,cV,Nat.reduceAdd]
 refine aMc (f:=λroot=>aDz root pf (iY 97 p.s.toNat) (aEm p)) H3 rfl (λh' u root k' hk'=>?_) λh4 f1 f2 c1 c2 R1 R2 u4=>?_
 ·show aT PG aC6 #[.string (tx root),pT r3 0,pT r1 0] h' k';apply vI.call;unfold vI;have lpf:∀{h'':PH},dC h' h''->cH PG h'' (loadAt bR (pT r3 0))=some (.string (tx pf)):=λv=>by rw[bR.load,((B3.ext u).ext v).cell];rfl
  have lp:∀{h'':PH},dC h' h''->cH PG h'' (loadAt aR (pT r1 0))=some p.v:=λv=>((C1.ext u).ext v).pk rfl;have ls:cH PG h' (loadAt cA (pT r1 1))=some (.int .u64 (n:Int)):=by rw[cA.load,(C1.ext u).cell,←hn];rfl
  simp only[lpf cT.refl,lp cT.refl,aR.f1,fO,ls,cE,reduceIte,cV,Nat.reduceAdd];refine aNS hn2 λh5 u5=>?_;refine⟨lp u5,lpf u5,?_⟩;refine aPX w (hK.ext ((e3.trans u).trans u5)) λh6 u6=>?_;refine⟨lpf (u5.trans u6),?_⟩;refine aTb (hK.ext (((e3.trans u).trans u5).trans u6)) λh7 u7=>?_;have:=hk' h7 ((u5.trans u6).trans u7);rw[hn] at this;exact this
 have e4:=e3.trans u4;simp only[cE,reduceIte,cV,Nat.reduceAdd];intro r10 hr10
 try rw[cW]
 have u5:dC h4 (h4.set r10 (.cells (dS PG cK) cK)):=cT.new hr10;have Z10:=cK.zbox (h:=h4) (r:=r10);generalize h4.set r10 (.cells (dS PG cK) cK)=h5 at *;intro r12 hr12
 try rw[cW]
 have u6:dC h5 (h5.set r12 (.cells (dS PG cK) cK)):=cT.new hr12;have Z12:=cK.zbox (h:=h5) (r:=r12);have n1012:r10≠r12:=Z10.apart hr12;have Y10:=Z10.ext u6;generalize h5.set r12 (.cells (dS PG cK) cK)=h6 at *;have k10:h4 r10=none:=hr10;have k12:h4 r12=none:=u5.none hr12;refine cK.put (vs:=[f1,.int .i64 11]) Y10 (o:=0) rfl (by show 0+2≤2;decide) (by simp only[gU,lH,or_false];rintro z (rfl|rfl);exact c1;rfl) λh7 B7 u7=>?_;refine cK.put (vs:=[f2,.int .i64 9]) (Z12.upd u7 (by simpa using n1012.symm)) (o:=0) rfl (by show 0+2≤2;decide) (by simp only[gU,lH,or_false];rintro z (rfl|rfl);exact c2;rfl) λh8 B8 u8=>?_;have e48:dC h4 h8:=((u5.trans u6).fresh u7 (eN.one k10)).fresh u8 (eN.one k12);have l10:cH PG h8 (loadAt cK (pT r10 0))=some (.agg #[f1,.int .i64 11]):=cK.agg (B7.upd u8 (by simpa using n1012)) (by show 0+2≤2;decide);have l12:cH PG h8 (loadAt cK (pT r12 0))=some (.agg #[f2,.int .i64 9]):=cK.agg B8 (by show 0+2≤2;decide);have lp8:cH PG h8 (loadAt aR (pT r1 0))=some p.v:=(C1.ext (u4.trans e48)).pk rfl;simp only[lp8,l10,l12,aSI,cE,reduceIte,cV,Nat.reduceAdd];intro r21 hr21;refine fT ?_
 try rw[cW]
 obtain⟨rs,hrs⟩:∃rs:List RuV,rs=[(f1,11,(lZ s.cl x).isSome),(f2,9,aDz (vV s.cl x) pf (iY 97 p.s.toNat) (aEm p))]:=⟨_,rfl⟩;have ecells:(#[f1,.int .i64 11,f2,.int .i64 9]:Array Value)=(rs.map mR).flatten.toArray:=by rw[hrs];rfl
 have ers:rs.map (·.2)=aBB s p pf x:=by rw[hrs];rfl
 rw[ecells];have u9:dC h8 (h8.set r21 (.cells (rs.map mR).flatten.toArray cK)):=cT.new hr21;have S9:gB (h8.set r21 (.cells (rs.map mR).flatten.toArray cK)) 2 (.slice (some ⟨r21,0,none⟩) 2 2) (rs.map mR):=(eO.lit (mR.rows rs) dJ (by rw[hrs];simp) (by decide) (by simp)).slR;generalize h8.set r21 (.cells (rs.map mR).flatten.toArray cK)=h9 at *;have e49:=e48.trans u9;have e9:=e4.trans e49;have hrules:aH0 h9 rs:=λy hy=>by
  rw[hrs] at hy;simp only[gU,lH,or_false] at hy;rcases hy with rfl|rfl
  ·exact⟨c1,R1.ext e49⟩
  ·exact⟨c2,R2.ext e49⟩
 refine aOc (hK.ext e9) ((jA.good c s).ext H e9) 3 w S9 hrules (by rw[hrs];simp) (by rw[hrs];simp) hl (λhe h' H' u'=>?_) (λhe h' F' H' s'=>?_)
 ·rw[ers] at he ⊢;exact hbad he h' H' (e9.trans u')
 ·rw[ers] at he;exact hk he h' F' H' ((jJ.ext e9).trans s')
noncomputable def vU(s:Ch)(p:Pk)(pf:Tx)(x:Int):List (Int×Bool):=[(11,decide (IntKind.u64.wrap (p.t-1)≤x)),(11,(lZ s.cl x).isSome),(9,aEh (vV s.cl x) pf (iY 114 p.s.toNat))]
def aRj{h:PH}{c:Nat}{s:Ch}{F:List Nat}(hK:oL h)(H:jA c s h F){p:Pk}(w:p.wf){pf:Tx}{x:Int}(hl:s.nts.length<1000000){kk:cD}
  (hbad:jO s p (vU s p pf x)≠0->∀h',jA c s h' F->dC h h'->kk (.int .i64 (jO s p (vU s p pf x))) h')
  (hk:jO s p (vU s p pf x)=0->∀h' F',jA c (s.settled 4 p) h' F'->jJ h F h' F'->kk (.int .i64 0) h'):
  aT PG aBv #[pT c 0,p.v,.string (tx pf),.int .u64 x] h kk:=by
 apply aAv.call;unfold aAv;obtain⟨n,hn⟩:=zLn w.1;have hn2:n<18446744073709551616:=by have:=w.2.1;omega
 intro r1 hr1
 try rw[cW]
 have u1:dC h (h.set r1 (.cells (Value.cells p.v) aR)):=cT.new hr1;have B1:Bx (h.set r1 (.cells (Value.cells p.v) aR)) r1 p.cells:=Bx.new;generalize h.set r1 (.cells (Value.cells p.v) aR)=h1 at *;intro r3 hr3
 try rw[cW]
 have u3:dC h1 (h1.set r3 (.cells (Value.cells (.string (tx pf))) bR)):=cT.new hr3;have B3:Bx (h1.set r3 (.cells (Value.cells (.string (tx pf))) bR)) r3 [.string (tx pf)]:=Bx.new;generalize h1.set r3 (.cells (Value.cells (.string (tx pf))) bR)=h3 at *;intro r5 hr5
 try rw[cW]
 have u5:dC h3 (h3.set r5 (.cells (Value.cells (.int .u64 x)) cA)):=cT.new hr5;have B5:Bx (h3.set r5 (.cells (Value.cells (.int .u64 x)) cA)) r5 [.int .u64 x]:=Bx.new;generalize h3.set r5 (.cells (Value.cells (.int .u64 x)) cA)=h5 at *;have e5:=(u1.trans u3).trans u5;have C1:=(B1.ext u3).ext u5;have C3:=B3.ext u5;have H5:=(jA.good c s).ext H e5;have lx:∀{h'':PH},dC h5 h''->cH PG h'' (loadAt cA (pT r5 0))=some (.int .u64 x):=λv=>by rw[cA.load,(B5.ext v).cell];rfl
 simp only[lx cT.refl,oM,cE,reduceIte,cV,Nat.reduceAdd];refine aMc (f:=λroot=>aEh root pf (iY 114 p.s.toNat)) H5 rfl (λh' u root k' hk'=>?_) λh4 f1 f2 c1 c2 R1 R2 u4=>?_
 ·show aT PG aAd #[.string (tx root),pT r3 0,pT r1 0] h' k';apply qB.call;unfold qB;have lpf:∀{h'':PH},dC h' h''->cH PG h'' (loadAt bR (pT r3 0))=some (.string (tx pf)):=λv=>by rw[bR.load,((C3.ext u).ext v).cell];rfl
  have ls:cH PG h' (loadAt cA (pT r1 1))=some (.int .u64 (n:Int)):=by rw[cA.load,(C1.ext u).cell,←hn];rfl
  simp only[lpf cT.refl,aR.f1,fO,ls,cE,reduceIte,cV,Nat.reduceAdd];refine aKW hn2 λh6 u6=>?_;refine⟨lpf u6,?_⟩;refine aU1 (hK.ext ((e5.trans u).trans u6)) λh7 u7=>?_;have:=hk' h7 (u6.trans u7);rw[hn] at this;exact this
 have e4:=e5.trans u4;simp only[cE,reduceIte,cV,Nat.reduceAdd];intro r13 hr13
 try rw[cW]
 have u6:dC h4 (h4.set r13 (.cells (dS PG cK) cK)):=cT.new hr13;have Z13:=cK.zbox (h:=h4) (r:=r13);generalize h4.set r13 (.cells (dS PG cK) cK)=h6 at *;intro r15 hr15
 try rw[cW]
 have u7:dC h6 (h6.set r15 (.cells (dS PG cK) cK)):=cT.new hr15;have Z15:=cK.zbox (h:=h6) (r:=r15);have n1315:r13≠r15:=Z13.apart hr15;have Y13:=Z13.ext u7;generalize h6.set r15 (.cells (dS PG cK) cK)=h7 at *;have k13:h4 r13=none:=hr13;have k15:h4 r15=none:=u6.none hr15;refine cK.put (vs:=[f1,.int .i64 11]) Y13 (o:=0) rfl (by show 0+2≤2;decide) (by simp only[gU,lH,or_false];rintro z (rfl|rfl);exact c1;rfl) λh8 B8 u8=>?_;refine cK.put (vs:=[f2,.int .i64 9]) (Z15.upd u8 (by simpa using n1315.symm)) (o:=0) rfl (by show 0+2≤2;decide) (by simp only[gU,lH,or_false];rintro z (rfl|rfl);exact c2;rfl) λh9 B9 u9=>?_;have e49:dC h4 h9:=((u6.trans u7).fresh u8 (eN.one k13)).fresh u9 (eN.one k15);have D13:=B8.upd u9 (by simpa using n1315)
 try simp only[oM,aKa,cE,reduceIte,cV,Nat.reduceAdd]
 intro r23 hr23
 try rw[cW]
 refine cK.fill (vs:=[.func (.func mS) #[] #[pT r5 0,pT r1 0],.int .i64 11]) hr23 rfl (by simp[fX]) λh10 B10 u10=>?_;have e410:=e49.trans u10;have l13:cH PG h10 (loadAt cK (pT r13 0))=some (.agg #[f1,.int .i64 11]):=cK.agg (D13.ext u10) (by show 0+2≤2;decide);have l15:cH PG h10 (loadAt cK (pT r15 0))=some (.agg #[f2,.int .i64 9]):=cK.agg (B9.ext u10) (by show 0+2≤2;decide);have l23:cH PG h10 (loadAt cK (pT r23 0))=some (.agg #[.func (.func mS) #[] #[pT r5 0,pT r1 0],.int .i64 11]):=cK.agg B10 (by show 0+2≤2;decide);have v510:dC h5 h10:=u4.trans e410;have lp8:cH PG h10 (loadAt aR (pT r1 0))=some p.v:=(C1.ext v510).pk rfl;simp only[lp8,l13,l15,l23,aXu,cE,reduceIte,cV,Nat.reduceAdd];intro r31 hr31;refine fT ?_
 try rw[cW]
 obtain⟨rs,hrs⟩:∃rs:List RuV,rs=[(.func (.func mS) #[] #[pT r5 0,pT r1 0],11,decide (IntKind.u64.wrap (p.t-1)≤x)),(f1,11,(lZ s.cl x).isSome),(f2,9,aEh (vV s.cl x) pf (iY 114 p.s.toNat))]:=⟨_,rfl⟩;have ecells:(#[.func (.func mS) #[] #[pT r5 0,pT r1 0],.int .i64 11,f1,.int .i64 11,f2,.int .i64 9]:Array Value)=(rs.map mR).flatten.toArray:=by rw[hrs];rfl
 have ers:rs.map (·.2)=vU s p pf x:=by rw[hrs];rfl
 rw[ecells];have u11:dC h10 (h10.set r31 (.cells (rs.map mR).flatten.toArray cK)):=cT.new hr31;have S11:gB (h10.set r31 (.cells (rs.map mR).flatten.toArray cK)) 2 (.slice (some ⟨r31,0,none⟩) 3 3) (rs.map mR):=(eO.lit (mR.rows rs) dJ (by rw[hrs];simp) (by decide) (by simp)).slR;generalize h10.set r31 (.cells (rs.map mR).flatten.toArray cK)=h11 at *;have e411:=e410.trans u11;have e11:=e4.trans e411;have v511:=v510.trans u11;have hrules:aH0 h11 rs:=λy hy=>by
  rw[hrs] at hy;simp only[gU,lH,or_false] at hy;rcases hy with rfl|rfl|rfl
  ·refine⟨rfl,λh' u k' hk'=>?_⟩;show aT PG mS #[pT r5 0,pT r1 0] h' k';apply zA.call;unfold zA;have lt:cH PG h' (loadAt cA (pT r1 2))=some (.int .u64 p.t):=by rw[cA.load,(C1.ext (v511.trans u)).cell];rfl
   simp only[lx (v511.trans u),aR.f2,fO,lt,cE,reduceIte,cV,Nat.reduceAdd];exact hk' h' cT.refl
  ·exact⟨c1,R1.ext e411⟩
  ·exact⟨c2,R2.ext e411⟩
 refine aOc (hK.ext e11) ((jA.good c s).ext H e11) 4 w S11 hrules (by rw[hrs];simp) (by rw[hrs];simp) hl (λhe h' H' u'=>?_) (λhe h' F' H' s'=>?_)
 ·rw[ers] at he ⊢;exact hbad he h' H' (e11.trans u')
 ·rw[ers] at he;exact hk he h' F' H' ((jJ.ext e11).trans s')
end
end Go.Proofs.YtppgkeodaejgcaaGreatDoor
