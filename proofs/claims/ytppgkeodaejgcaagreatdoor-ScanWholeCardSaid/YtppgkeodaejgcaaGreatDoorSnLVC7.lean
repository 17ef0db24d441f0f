/- The texts of this claim, put together. -/
import Derived.Test.YtppgkeodaejgcaaGreatDoorSnLVC6
import Derived.Shelf.SlSortCmp.NoneTotal
set_option linter.all false
set_option maxRecDepth 100000
open Go.Instr (loadAt fieldAt indexAt extract buildSlice build)
namespace Go.Proofs.YtppgkeodaejgcaaGreatDoor
section
open Go Go.Sort Go.Shelf
def aQL{α:Type}[Inhabited α](enc:α->List Value)(k:Nat)(hk0:0<k)(hlen:∀x,(enc x).length=k)(l:List α):(l.map enc).flatten=(flatK enc k l.toArray).toList:=by
 have hr:Rows k (l.map enc):=λr hr=>by obtain⟨x,_,rfl⟩:=mJ.1 hr;exact hlen x
 apply List.ext_getElem?;intro j;have hfl:(l.map enc).flatten.length=l.length*k:=by rw[hr.flat,iV]
 by_cases hj:j<l.length*k
 ·have hi:j/k<l.length:=(Nat.div_lt_iff_lt_mul hk0).2 hj;have hat:=hr.at (i:=j/k) (r:=enc l[j/k]) (by simp[hi]);have hc:j%k<k:=zLB _ hk0;have e1:(l.map enc).flatten[j]? =(enc l[j/k])[j%k]?:=by
   rw[←hat,aJ9,if_pos hc,aOF];congr 1;rw[zLS];exact(Nat.div_add_mod j k).symm
  have hs:j<(flatK enc k l.toArray).size:=by rw[size_flatK];exact hj
  have hg:=get_flatK enc k l.toArray j (by simpa using hj);rw[getElem!_pos _ j hs] at hg;have hle:j%k<(enc l[j/k]).length:=by rw[hlen];exact hc
  have hx:l.toArray[j/k]! =l[j/k]:=by rw[getElem!_pos l.toArray (j/k) (by simpa using hi)];rfl
  have e2:(flatK enc k l.toArray).toList[j]? =(flatK enc k l.toArray)[j]?:=by simp
  rw[e1,e2,Array.getElem?_eq_getElem hs,hg,hx,lJ hle,getElem!_pos (enc l[j/k]) (j%k) hle]
 ·rw[List.getElem?_eq_none (by omega),aLs,Array.getElem?_eq_none (by simp;omega)]
def aQa(F c:Array Value)(hle:F.size≤c.size):(putCells id 0 F c).toList.take F.size=F.toList:=by
 apply List.ext_getElem?;intro j;rw[aJ9,aLs,aLs];by_cases hj:j<F.size
 ·rw[if_pos hj];simp only[putCells,Array.getElem?_mapIdx,fQ,aFl,true_and,Nat.sub_zero,hj,if_true,id];rw[Array.getElem?_eq_getElem (by omega),Array.getElem?_eq_getElem hj,getElem!_pos F j hj];rfl
 ·rw[if_neg hj,Array.getElem?_eq_none (by omega)]
def aWd{w w':World}(os:w'.os=w.os)(tape:w'.tape=w.tape)(output:w'.output=w.output)(drawn:w.drawn≤w'.drawn)(size:w.heap.size≤w'.heap.size)(far:∀b,b<w.heap.size->w'.heap[b]? =w.heap[b]?):
  ∃q os',w'=grow (w.drewN q) os':=by
 refine⟨w'.drawn-w.drawn,w'.heap.extract w.heap.size w'.heap.size,?_⟩;cases w with|mk heap tp dr o ou=>cases w' with|mk heap' tp' dr' o' ou'=>
 simp only at *;subst os tape output;unfold grow World.drewN;simp only[World.mk.injEq,and_true,true_and];refine⟨?_,by omega⟩;apply Array.ext_getElem?;intro i;rw[Array.getElem?_append];split
 ·rename_i hi;exact far i hi
 ·rename_i hi;rw[Array.getElem?_extract];split
  ·congr 1;omega
  ·rw[Array.getElem?_eq_none (by omega)]
def aNr{P:Program}{ρ:Ren}{α:Type}[Inhabited α](L:SlLaysF0.n6 P ρ){f:FuncId}(hf:ρ.f 6=f){k:Nat}(hk0:0<k)(aE:∀w,(isAgg (ρ.t 24)).run P w= .ok true w)(zE:∀w,(Go.sizeOf (ρ.t 24)).run P w= .ok k w)
  (enc:α->List Value) (hlen:∀x,(enc x).length=k) (h1:∀x,∀v∈enc x,v.oneCell'=true) (cf:α->α->Int) (hO:SWO (ltOf cf)) {g:FuncId} (eg:aEz P g=true)
  (hcmp:∀x y,aT P g #[.agg (enc x).toArray,.agg (enc y).toArray] (λ_=>none) λv _=>v= .int .i64 (cf x y)) (hen:aEz P f=true)
  {e:TypeId} {v:Value} {F:List Nat} {l:List α} {h:PH} (H:eM h e k v (l.map enc) F) (hsz:l.length<4611686018427387904) {R:cD}
  (hk:∀(l':List α) h',l'.Perm l->l'.Pairwise (λa b=>ltOf cf b a=false)->eM h' e k v (l'.map enc) F->cQ F h h'->R (.tuple #[]) h'):aT P f #[v,.func (.func g) #[] #[]] h R:=by
 subst hf;refine .inl ⟨hen,λw hs=>?_⟩;have heg:∀(args:Array Value) (w:World),(callFunc g args).run P w= .ok (.enter g args) w:=λargs w=>
  cG.run (h:=λ_=>none) (aJL eg) (λ_ _ hb=>by cases hb)
 rcases H.here with⟨hv,hr,hF⟩|⟨b,cap,cs,hv,hF,hb,hle,hcm,hcs,htk⟩
 ·have hl:l=[]:=List.map_eq_nil_iff.1 hr;subst hl hv hF;refine(AnyF.slices_SortFunc_none L none 0 _ w).mono λe1 w' ⟨he,hw⟩=>?_;subst hw;exact⟨_,h,he,hk [] h (List.Perm.refl _) List.Pairwise.nil H cQ.refl,hs,Fr.refl _ _⟩
 ·subst hF;have hfl:=aQL enc k hk0 hlen l;have hrl:(l.map enc).length=l.length:=iV _;rw[hrl] at hv hle htk;have hwb:=hs b _ hb;have hblk:b<w.heap.size:=hs.lt hb;have hH:HoldsK enc k w b 0 l.toArray:=by
   intro j hj;have hj':j<l.length*k:=by simpa using hj
   have hc:cs[j]? =some ((flatK enc k l.toArray)[j]!):=by
    have e1:cs.toList[j]? =(l.map enc).flatten[j]?:=by rw[←htk,aJ9,if_pos hj']
    rw[aLs] at e1;rw[e1,hfl,aLs,Array.getElem?_eq_getElem hj,getElem!_pos _ j hj]
   constructor
   ·unfold World.cell?;simp only[fQ,hwb,zLv];simpa using hc
   ·unfold World.frozen?;simp only[hwb];simp
  have hcm':CmpLays P g #[] enc k cf b 0 l.toArray.size w:=by
   intro m os dk _ x y;have hc:=(hcmp x y).calls eg (sortWorldK enc k w b 0 m dk os) (λ_ _ hb=>by cases hb);refine hc.mono λe1 w' ⟨v1,h1,he,hv1,_,fr⟩=>⟨by rw[he,hv1],aWd fr.os fr.tape fr.output fr.drawn fr.size λi hi=>fr.far i hi rfl⟩
  have hS:=AnyQ.slices_SortFunc L k aE zE enc hlen h1 cf hO g #[] b 0 cap l.toArray w heg hcm' hH hblk (by simpa using hsz);subst hv;have hz:l.toArray.size=l.length:=by simp
  rw[hz] at hS;refine hS.mono λe1 w' ⟨he,d',n,os,hp,hso,hw⟩=>?_;obtain⟨hps,_,hpp⟩:=hp;have hds:d'.toList.length=l.length:=by simpa using hps
  let c':=putCells id 0 (flatK enc k d') cs;have hmod:∀i,w'.heap[i]? =if i<w.heap.size then(if i=b then some (.cells c' e (0,0)) else w.heap[i]?) else os[i-w.heap.size]?:=by
   intro i;subst hw;show((w.heap.modify b (onCells (putCells id 0 (flatK enc k d'))))++os)[i]? =_;rw[Array.getElem?_append,Array.size_modify,Array.getElem?_modify];by_cases hi:i<w.heap.size
   ·rw[if_pos hi,if_pos hi];by_cases hib:i=b
    ·subst hib;rw[if_pos rfl,if_pos rfl,hwb];rfl
    ·rw[if_neg (Ne.symm hib),if_neg hib]
   ·rw[if_neg hi,if_neg hi]
  have hsub:qG (h.set b (.cells c' e (0,0))) w':=by
   intro i o hi;rw[hmod];unfold PH.set at hi;split at hi
   ·rename_i e1;subst e1;rw[if_pos hblk,if_pos rfl];exact hi
   ·rename_i e1;rw[if_pos (hs.lt hi),if_neg e1];exact hs _ _ hi
  have hfr:Fr h w (h.set b (.cells c' e (0,0))) w':=by
   subst hw;refine⟨rfl,rfl,rfl,?_,?_,λi hi hn=>?_,λi hi hn=>?_⟩
   ·show w.drawn≤w.drawn+n;omega
   ·show w.heap.size≤((w.heap.modify b _)++os).size;simp
   ·rw[hmod,if_pos hi,if_neg (λe1=>by subst e1;rw[hb] at hn;cases hn)]
   ·rw[qY (λe1=>by subst e1;rw[hb] at hn;cases hn)];exact hn
  refine⟨_,_,he,hk d'.toList _ ?_ ?_ ⟨λr hr=>?_,.inr ⟨b,cap,c',?_,rfl,dL,?_,hcm,?_,?_⟩⟩ (cQ.set (by simp)),hsub,hfr⟩
  ·have e1:d'.extract 0 l.length=d':=by rw[←hz,←hps];simp
   have e2:l.toArray.extract 0 l.length=l.toArray:=by rw[←hz];simp
   rw[e1,e2] at hpp;simpa using hpp
  ·rw[List.pairwise_iff_getElem];intro i j hi hj hij;have:=hso i j (aFl _) hij (by rw[←hz,←hps];simpa using hj);rw[getElem!_pos d' i (by simpa using hi),getElem!_pos d' j (by simpa using hj)] at this;simpa using this
  ·obtain⟨x,_,rfl⟩:=mJ.1 hr;exact hlen x
  ·rw[iV,hds]
  ·rw[iV,hds];exact hle
  ·show(putCells id 0 (flatK enc k d') cs).size=_;unfold putCells;rw[Array.size_mapIdx];exact hcs
  ·rw[iV,hds];have hfd:=aQL enc k hk0 hlen d'.toList;rw[hfd];have hsz2:(flatK enc k d').size=l.length*k:=by rw[size_flatK,hps,hz]
   have:=aQa (flatK enc k d') cs (by rw[hsz2,hcs];exact zLP _ hle);rw[hsz2] at this;simpa using this
end
section
open Go Go.Shelf
def aKl:Go.Shelf.Ren:=⟨fun|6=>65|15=>128|14=>127|28=>202|29=>203|20=>194|21=>195|22=>196|23=>197|24=>198|25=>199|26=>200|27=>201|46=>252|47=>253|48=>254|49=>255|50=>256|57=>290|n=>n,fun|22=>65|24=>130|25=>147|3=>3|39=>54|0=>0|53=>246|55=>22|4=>4|46=>299|45=>298|50=>127|5=>5|9=>9|66=>342|70=>345|76=>383|77=>384|n=>n,fun|n=>n⟩
def aX9:Go.Proofs.SlLaysF0.n6 Tryz.prog aKl:={
 mixed:=by kernel_rfl
 f6:=⟨Tryz.f65.name,by decide,Tryz.func65.trans (congrArg some (by kernel_rfl))⟩
 f14:=⟨Tryz.f127.name,by decide,Tryz.func127.trans (congrArg some (by kernel_rfl))⟩
 f15:=Tryz.func128.trans (congrArg some (by kernel_rfl))
 f20:=⟨Tryz.f194.name,by decide,Tryz.func194.trans (congrArg some (by kernel_rfl))⟩
 f21:=⟨Tryz.f195.name,by decide,Tryz.func195.trans (congrArg some (by kernel_rfl))⟩
 f22:=⟨Tryz.f196.name,by decide,Tryz.func196.trans (congrArg some (by kernel_rfl))⟩
 f23:=⟨Tryz.f197.name,by decide,Tryz.func197.trans (congrArg some (by kernel_rfl))⟩
 f24:=⟨Tryz.f198.name,by decide,Tryz.func198.trans (congrArg some (by kernel_rfl))⟩
 f25:=⟨Tryz.f199.name,by decide,Tryz.func199.trans (congrArg some (by kernel_rfl))⟩
 f26:=⟨Tryz.f200.name,by decide,Tryz.func200.trans (congrArg some (by kernel_rfl))⟩
 f27:=⟨Tryz.f201.name,by decide,Tryz.func201.trans (congrArg some (by kernel_rfl))⟩
 f28:=Tryz.func202.trans (congrArg some (by kernel_rfl))
 f29:=Tryz.func203.trans (congrArg some (by kernel_rfl))
 f46:=⟨Tryz.f252.name,by decide,Tryz.func252.trans (congrArg some (by kernel_rfl))⟩
 f47:=Tryz.func253.trans (congrArg some (by kernel_rfl))
 f48:=Tryz.func254.trans (congrArg some (by kernel_rfl))
 f49:=⟨Tryz.f255.name,by decide,Tryz.func255.trans (congrArg some (by kernel_rfl))⟩
 f50:=⟨Tryz.f256.name,by decide,Tryz.func256.trans (congrArg some (by kernel_rfl))⟩
 f57:=⟨Tryz.f290.name,by decide,Tryz.func290.trans (congrArg some (by kernel_rfl))⟩
 t0:=Tryz.underlying0
 a0:=Tryz.isAgg0
 z0:=Tryz.sizeOf0
 v0:=Tryz.zeroValue0
 t3:=Tryz.underlying3
 a3:=Tryz.isAgg3
 z3:=Tryz.sizeOf3
 v3:=Tryz.zeroValue3
 t4:=Tryz.underlying4
 a4:=Tryz.isAgg4
 z4:=Tryz.sizeOf4
 v4:=Tryz.zeroValue4
 t5:=Tryz.underlying5
 a5:=Tryz.isAgg5
 z5:=Tryz.sizeOf5
 v5:=Tryz.zeroValue5
 t9:=Tryz.underlying9
 a9:=Tryz.isAgg9
 z9:=Tryz.sizeOf9
 v9:=Tryz.zeroValue9
 t22:=Tryz.underlying65
 a22:=Tryz.isAgg65
 z22:=Tryz.sizeOf65
 v22:=Tryz.zeroValue65
 t25:=Tryz.underlying147
 a25:=Tryz.isAgg147
 z25:=Tryz.sizeOf147
 v25:=Tryz.zeroValue147
 t39:=Tryz.underlying54
 a39:=Tryz.isAgg54
 z39:=Tryz.sizeOf54
 v39:=Tryz.zeroValue54
 t45:=Tryz.underlying298
 a45:=Tryz.isAgg298
 z45:=Tryz.sizeOf298
 v45:=Tryz.zeroValue298
 t46:=Tryz.underlying299
 a46:=Tryz.isAgg299
 z46:=Tryz.sizeOf299
 v46:=Tryz.zeroValue299
 t50:=Tryz.underlying127
 a50:=Tryz.isAgg127
 z50:=Tryz.sizeOf127
 v50:=Tryz.zeroValue127
 t53:=Tryz.underlying246
 a53:=Tryz.isAgg246
 z53:=Tryz.sizeOf246
 v53:=Tryz.zeroValue246
 t55:=Tryz.underlying22
 a55:=Tryz.isAgg22
 z55:=Tryz.sizeOf22
 v55:=Tryz.zeroValue22
 t66:=Tryz.underlying342
 a66:=Tryz.isAgg342
 z66:=Tryz.sizeOf342
 v66:=Tryz.zeroValue342
 t70:=Tryz.underlying345
 a70:=Tryz.isAgg345
 z70:=Tryz.sizeOf345
 v70:=Tryz.zeroValue345
 t76:=Tryz.underlying383
 a76:=Tryz.isAgg383
 z76:=Tryz.sizeOf383
 v76:=Tryz.zeroValue383
 t77:=Tryz.underlying384
 a77:=Tryz.isAgg384
 z77:=Tryz.sizeOf384
 v77:=Tryz.zeroValue384}
def aYG(w:World):(isAgg (aKl.t 24)).run PG w= .ok true w:=Tryz.isAgg130 w
def aWT(w:World):(Go.sizeOf (aKl.t 24)).run PG w= .ok 2 w:=Tryz.sizeOf130 w
end
section
open Go Bld Go.Sort Go.Shelf
def cfP(p q:Pr):Int:=if p.k<q.k then -1 else if q.k<p.k then 1 else 0
def aO1{h:PH}{a b:Tx}{k:cD}(hk:k (.int .i64 (if a<b then -1 else if b<a then 1 else 0)) h):aT PG zA #[.string (tx a),.string (tx b)] h k:=by
 apply aBp.call;unfold aBp;apply xE.call;unfold xE;simp only[aGC,decide_true,cE,reduceIte];apply xE.call;unfold xE;simp only[aGC,decide_true,cE,reduceIte];by_cases h1:a<b
 ·rw[if_pos h1] at hk;simp only[yM,h1,cE,reduceIte];exact hk
 ·rw[if_neg h1] at hk;by_cases h2:b<a
  ·rw[if_pos h2] at hk;simp only[yM,aO5,h1,h2,cE,reduceIte];exact hk
  ·rw[if_neg h2] at hk;simp only[yM,aO5,h1,h2,cE,reduceIte];exact hk
def aVm(p q:Pr){h:PH}{k:cD}(hk:∀h',dD h h'->k (.int .i64 (cfP p q)) h'):aT PG rM #[p.val,q.val] h k:=by
 apply aAW.call;unfold aAW;rw[aNO,aNO];intro r1 hr1
 try rw[cW]
 have u1:dD h (h.set r1 (.cells #[.string (tx p.k),.string (tx p.v)] cM)):=cQ.new hr1;have a1:(h.set r1 (.cells #[.string (tx p.k),.string (tx p.v)] cM)) r1=some (.cells #[.string (tx p.k),.string (tx p.v)] cM (0,0)):=dL;generalize h.set r1 (.cells #[.string (tx p.k),.string (tx p.v)] cM)=h1 at *;intro r2 hr2
 try rw[cW]
 have u2:dD h1 (h1.set r2 (.cells #[.string (tx q.k),.string (tx q.v)] cM)):=cQ.new hr2;have a2:(h1.set r2 (.cells #[.string (tx q.k),.string (tx q.v)] cM)) r2=some (.cells #[.string (tx q.k),.string (tx q.v)] cM (0,0)):=dL;generalize h1.set r2 (.cells #[.string (tx q.k),.string (tx q.v)] cM)=h2 at *;have b1:=u2.get a1;have c0:dB h2 ⟨r1,0,none⟩=some (.string (tx p.k)):=by simp[dB,b1]
 have c1:dB h2 ⟨r2,0,none⟩=some (.string (tx q.k)):=by simp[dB,a2]
 simp only[cM.f0,bT.load,c0,c1,cE,reduceIte];exact aO1 (hk _ (u1.trans u2))
def aLN(a b:Pr):ltOf cfP a b=decide (a.k<b.k):=by
 unfold ltOf cfP;by_cases h1:a.k<b.k
 ·simp[h1]
 ·by_cases h2:b.k<a.k
  ·simp[h1,h2]
  ·simp[h1,h2]
def aUo{x y z:Tx}(h1:¬x<y)(h2:¬y<z):¬x<z:=by
 intro h;rcases aIB x y with h3|rfl|h3
 ·exact h1 h3
 ·exact h2 h
 ·exact h2 (List.lt_trans h3 h)
def bA7:SWO (ltOf cfP) where
 irrefl x:=by rw[aLN];simp[zL1]
 trans x y z h1 h2:=by
  rw[aLN] at *;simp only[decide_eq_true_eq] at *;exact List.lt_trans h1 h2
 ntrans x y z h1 h2:=by
  rw[aLN] at *;simp only[decide_eq_false_iff_not] at *;exact aUo h1 h2
instance:Inhabited Pr:=⟨⟨[],[]⟩⟩
def aWU{h:PH}{v:Value}{F:List Nat}{l:List Pr}(H:eM h cM 2 v (l.map Pr.cells) F)(hl:l.length≤1000000){k:cD}
  (hk:∀(l':List Pr) h',l'.Perm l->l'.Pairwise (λa b=>¬b.k<a.k)->eM h' cM 2 v (l'.map Pr.cells) F->cQ F h h'->k (.tuple #[]) h'):
  aT PG pL #[v,.func (.func rM) #[] #[]] h k:=by
 refine aNr (P:=PG) aX9 (f:=pL) rfl (k:=2) (by decide) aYG aWT Pr.cells (λ_=>rfl) (λx v hv=>?_) cfP bA7 (g:=rM) (by kernel_rfl)
  (λx y=>aVm x y λh' _=>rfl) (by kernel_rfl) H (by omega) (λl' h' hp hs hO u=>hk l' h' hp ?_ hO u)
 ·simp only[Pr.cells,gU,lH,or_false] at hv;rcases hv with rfl|rfl<;>rfl
 ·refine hs.imp fun {a b} hab=>?_;rw[aLN] at hab;simpa using hab
end
section
open Go Bld
def sZ(l:List Pr):Prop:=l.Pairwise λa b=>a.k<b.k
def oO(L:List Pr)(p:Pr):List Pr:=L.filter (λq=>decide (q.k<p.k))++p::L.filter (λq=>decide (p.k<q.k))
def vJ(L:List Pr)(k:Tx):List Pr:=L.filter λq=>decide (q.k≠k)
def iJ(L:List Pr)(k:Tx):Option Pr:=L.find? λq=>decide (k=q.k)
def sZ.irr{L:List Pr}(h:sZ L):L.Nodup:=by
 refine List.Pairwise.imp (fun {a b} hab=>?_) h;rintro rfl;exact zL1 _ hab
def sZ.keys{L:List Pr}(h:sZ L):(L.map Pr.k).Nodup:=by
 unfold List.Nodup;rw[List.pairwise_map];refine List.Pairwise.imp (fun {a b} hab e=>?_) h;rw[e] at hab;exact zL1 _ hab
def sZ.ext{A B:List Pr}(ha:sZ A)(hb:sZ B)(h:∀p,p∈A↔p∈B):A=B:=by
 have hp:A.Perm B:=(List.perm_ext_iff_of_nodup ha.irr hb.irr).2 h;unfold sZ at ha hb;exact List.Perm.eq_of_pairwise (le:=λa b:Pr=>a.k<b.k) (λa b _ _ (h1:a.k<b.k) h2=>absurd h2 (List.lt_asymm h1)) ha hb hp
def sZ.one{L:List Pr}(h:sZ L){p q:Pr}(hp:p∈L)(hq:q∈L)(e:p.k=q.k):p=q:=aE3 h.keys hp hq e
def aIk{L:List Pr}{p q:Pr}:q∈oO L p↔q=p∨(q∈L∧q.k≠p.k):=by
 unfold oO;simp only[kB,gU,zL2,decide_eq_true_eq];constructor
 ·rintro(⟨h1,h2⟩|rfl|⟨h1,h2⟩)
  ·exact .inr ⟨h1,λe=>by rw[e] at h2;exact zL1 _ h2⟩
  ·exact .inl rfl
  ·exact .inr ⟨h1,λe=>by rw[e] at h2;exact zL1 _ h2⟩
 ·rintro(rfl|⟨h1,h2⟩)
  ·exact .inr (.inl rfl)
  ·rcases aIB q.k p.k with h|h|h
   ·exact .inl ⟨h1,h⟩
   ·exact absurd h h2
   ·exact .inr (.inr ⟨h1,h⟩)
def aP6{L:List Pr}{k:Tx}{q:Pr}:q∈vJ L k↔q∈L∧q.k≠k:=by
 unfold vJ;simp[zL2]
def sZ.del{L:List Pr}(h:sZ L)(k:Tx):sZ (vJ L k):=List.Pairwise.filter _ h
def sZ.set{L:List Pr}(h:sZ L)(p:Pr):sZ (oO L p):=by
 unfold oO sZ;rw[List.pairwise_append,zL3];refine⟨List.Pairwise.filter _ h,⟨λq hq=>?_,List.Pairwise.filter _ h⟩,λa ha b hb=>?_⟩
 ·simpa using(zL2.1 hq).2
 ·have h1:a.k<p.k:=by simpa using(zL2.1 ha).2
  rcases gU.1 hb with rfl|hb
  ·exact h1
  ·have h2:p.k<b.k:=by simpa using(zL2.1 hb).2
   exact List.lt_trans h1 h2
def aFS{L:List Pr}{k:Tx}:iJ L k=none↔∀p∈L,p.k≠k:=by
 unfold iJ;rw[List.find?_eq_none];simp only[decide_eq_true_eq];exact⟨λh p hp e=>h p hp e.symm,λh p hp e=>h p hp e.symm⟩
def aBj{L:List Pr}(h:sZ L){k:Tx}{p:Pr}:iJ L k=some p↔p∈L∧p.k=k:=by
 constructor
 ·intro e;have h1:=List.mem_of_find?_eq_some e;have h2:=List.find?_some e;exact⟨h1,by simpa using Eq.symm (by simpa using h2)⟩
 ·rintro⟨h1,h2⟩;cases e:iJ L k with
  | none=>exact absurd h2 (aFS.1 e p h1)
  | some q=>
   have h3:=List.mem_of_find?_eq_some e;have h4:k=q.k:=by simpa using List.find?_some e
   rw[h.one h3 h1 (by rw[h2];exact h4.symm)]
def aLP{l L:List Pr}(hp:l.Perm L)(hn:sZ L)(k:Tx):iJ l k=iJ L k:=by
 have hnl:(l.map Pr.k).Nodup:=(hp.map Pr.k).nodup_iff.2 hn.keys;cases e:iJ L k with
 | none=>
  rw[aFS] at e ⊢;exact λp h=>e p (hp.mem_iff.1 h)
 | some q=>
  obtain⟨h1,h2⟩:=(aBj hn).1 e;cases e2:iJ l k with
  | none=>exact absurd h2 (aFS.1 e2 q (hp.mem_iff.2 h1))
  | some r=>
   have h3:=List.mem_of_find?_eq_some e2;have h4:k=r.k:=by simpa using List.find?_some e2
   rw[aE3 hnl h3 (hp.mem_iff.2 h1) (by rw[h2];exact h4.symm)]
def Pr.pr(p:Pr):Tx×Value:=(p.k,tB p.v)
abbrev aPH(h:PH)(m:Nat)(l:List Pr):Prop:=jR tB h m (l.map Pr.pr)
def aWu(l:List Pr)(k:Tx):aBH (l.map Pr.pr) k=(iJ l k).map λp=>tB p.v:=by
 unfold aBH iJ;rw[List.find?_map,Option.map_map];rfl
def aSa(l:List Pr)(k:Tx):aMW (l.map Pr.pr) k=(vJ l k).map Pr.pr:=by
 unfold aMW vJ;rw[List.filter_map];rfl
def aXy(l:List Pr):uU (l.map Pr.pr)=l.map Pr.k:=by unfold uU;rw[zL4];rfl
def aPz{l L:List Pr}(hp:l.Perm L)(hs:sZ L)(p:Pr):∃l':List Pr,aDv (l.map Pr.pr) p.k (tB p.v)=l'.map Pr.pr∧l'.Perm (oO L p):=by
 have hnl:(l.map Pr.k).Nodup:=(hp.map Pr.k).nodup_iff.2 hs.keys;have hnd:l.Nodup:=aHB Pr.k hnl;unfold aDv;rw[aXy];split
 ·rename_i hm;refine⟨l.map λq=>if q.k=p.k then p else q,?_,?_⟩
  ·rw[zL4,zL4];apply zL5;intro x _;show(if x.k=p.k then(p.k,tB p.v) else(x.k,tB x.v))=Pr.pr (if x.k=p.k then p else x);by_cases hc:x.k=p.k
   ·rw[if_pos hc,if_pos hc];rfl
   ·rw[if_neg hc,if_neg hc];rfl
  ·have hk:(l.map λq=>if q.k=p.k then p else q).map Pr.k=l.map Pr.k:=by
    rw[zL4];apply zL5;intro x _;show(if x.k=p.k then p else x).k=x.k;split
    ·rename_i e;exact e.symm
    ·rfl
   have hn2:(l.map λq=>if q.k=p.k then p else q).Nodup:=aHB Pr.k (by rw[hk];exact hnl);refine(List.perm_ext_iff_of_nodup hn2 (hs.set p).irr).2 λq=>?_;rw[aIk,mJ];constructor
   ·rintro⟨x,hx,e⟩;by_cases hc:x.k=p.k
    ·rw[if_pos hc] at e;exact .inl e.symm
    ·rw[if_neg hc] at e;subst e;exact .inr ⟨hp.mem_iff.1 hx,hc⟩
   ·rintro(rfl|⟨h1,h2⟩)
    ·obtain⟨x,hx,e⟩:=mJ.1 hm;exact⟨x,hx,by rw[if_pos e]⟩
    ·exact⟨q,hp.mem_iff.2 h1,by rw[if_neg h2]⟩
 ·rename_i hm;refine⟨l++[p],by rw[pO];rfl,?_⟩;have hno:∀x∈l,x.k≠p.k:=λx hx e=>hm (by rw[←e];exact zL8 hx);have hn2:(l++[p]).Nodup:=by
   rw[List.nodup_append];refine⟨hnd,by simp,λa ha b hb e=>?_⟩;simp only[gB] at hb;subst hb;subst e;exact hno _ ha rfl
  refine(List.perm_ext_iff_of_nodup hn2 (hs.set p).irr).2 λq=>?_;rw[aIk,kB,gB];constructor
  ·rintro(h1|rfl)
   ·exact .inr ⟨hp.mem_iff.1 h1,hno q h1⟩
   ·exact .inl rfl
  ·rintro(rfl|⟨h1,h2⟩)
   ·exact .inr rfl
   ·exact .inl (hp.mem_iff.2 h1)
def aH8{h:PH}{m:Nat}{l:List Pr}(hm:aPH h m l)(k:Tx):cG PG h (Instr.lookup dZ (.map (some m)) (.string (tx k)) true)=some (.tuple #[.string (tx (((iJ l k).map Pr.v).getD [])),.bool (iJ l k).isSome]):=by
 have:=aHV aJk dZ.und bT.info bT.zero hm k true;rw[aWu] at this;rw[show(.string (tx k):Value)=tB k from rfl,this];cases iJ l k<;>rfl
structure St where
 now:List Pr
 blocks:List (List Pr)
 height:Nat
def aCo(s:St)(k v:Tx):St×Int:=
 if k.length<1∨16<k.length∨64<v.length then(s,1) else if iJ s.now k=none∧4096≤s.now.length then(s,2) else({s with now:=oO s.now ⟨k,v⟩},0)
def aFo(s:St)(k:Tx):St×Int:=if iJ s.now k=none then(s,3) else({s with now:=vJ s.now k},0)
def lV(s:St):St×(Nat×Int):=
 if s.height=18446744073709551615 then(s,(0,12)) else if 4096≤s.blocks.length then(s,(0,2)) else({s with blocks:=s.blocks++[s.now],height:=s.height+1},(s.height+1,0))
def zH(s:St)(x:Nat):Option (List Pr):=if s.height<x∨s.blocks.length≤s.height-x then none else s.blocks[s.blocks.length-1-(s.height-x)]?
structure St.Ok(s:St):Prop where
 up:sZ s.now
 fit:∀p∈s.now,aPd p
 few:s.now.length≤4096
 blk:∀b∈s.blocks,sZ b∧(∀p∈b,aPd p)∧b.length≤4096
 h1:1≤s.blocks.length
 h2:s.blocks.length≤4096
 h3:s.blocks.length-1≤s.height
 h4:s.height<18446744073709551616
end
section
open Go
structure Pf where
 ab:Bool
 lv:List Lf
 deriving DecidableEq
def Pf.zero:Pf:=⟨false,[]⟩
def Lf.okb(f:Lf):Bool:=decide (0≤f.i)&&decide (f.i≤4096)&&decide (0≤f.n)&&decide (f.n≤4096)&&decide (f.p.k.length≤16)&&decide (f.p.v.length≤64)&&decide (f.path.length≤16)&&f.path.all λd=>decide (d.length=32)
structure Lf.Ok(f:Lf):Prop where
 i0:0≤f.i
 i1:f.i≤4096
 n0:0≤f.n
 n1:f.n≤4096
 k:f.p.k.length≤16
 v:f.p.v.length≤64
 m:f.path.length≤16
 d:∀d∈f.path,d.length=32
def Lf.ok_iff{f:Lf}:f.okb=true↔f.Ok:=by
 unfold Lf.okb;simp only[yH,decide_eq_true_eq,aE6];constructor
 ·rintro⟨⟨⟨⟨⟨⟨⟨a,b⟩,c⟩,d⟩,e⟩,g⟩,h⟩,i⟩;exact⟨a,b,c,d,e,g,h,i⟩
 ·rintro⟨a,b,c,d,e,g,h,i⟩;exact⟨⟨⟨⟨⟨⟨⟨a,b⟩,c⟩,d⟩,e⟩,g⟩,h⟩,i⟩
def aGg(f:Lf):Tx:=be f.i.toNat 8++(be f.n.toNat 8++((be f.p.k.length 2++f.p.k)++((be f.p.v.length 2++f.p.v)++(be f.path.length 1++f.path.flatten))))
def lQ:List Lf->Tx
 | []=>[]
 | f::l=>aGg f++lQ l
def aEu(p:Pf):Tx:=be (if p.ab then 2 else 1) 1++(be p.lv.length 1++lQ p.lv)
def lW(p:Pf):Tx×Int:=if p.lv.length≤2∧p.lv.all Lf.okb=true then(aEu p,0) else([],1)
def kY(st:kX):Nat×kX:=if 4096<(gV st 8).1 then(0,aLa (gV st 8).2 5) else gV st 8
def zG:Nat->kX->List Tx->List Tx×kX
 | 0,st,acc=>(acc,st)
 | n+1,st,acc=>if st.1=0 then zG n (jY st 32).2 (acc++[(jY st 32).1]) else(acc,st)
def aEQ(st:kX):Lf×kX:=
 let a:=kY st;let b:=kY a.2;let k:=mW b.2;let v:=mW k.2;let c:=gV v.2 1;let m:=zG c.1 c.2 []
 (⟨(a.1:Int),(b.1:Int),⟨k.1,v.1⟩,m.1⟩,m.2)
def rH(st:kX):Lf×kX:=((aEQ st).1,if (aEQ st).1.okb then(aEQ st).2 else aLa (aEQ st).2 5)
def pX:Nat->kX->List Lf->List Lf×kX
 | 0,st,acc=>(acc,st)
 | n+1,st,acc=>pX n (rH st).2 (acc++[(rH st).1])
def iI(s:Tx):Pf×Int:=
 if (gV (0,s) 1).1<1∨2<(gV (0,s) 1).1∨2<(gV (gV (0,s) 1).2 1).1 then(Pf.zero,5)
 else if aMb (pX (gV (gV (0,s) 1).2 1).1 (gV (gV (0,s) 1).2 1).2 []).2≠0 then(Pf.zero,5)
 else(⟨decide ((gV (0,s) 1).1=2),(pX (gV (gV (0,s) 1).2 1).1 (gV (gV (0,s) 1).2 1).2 []).1⟩,0)
def aIF.fwd{α:Type}{R:kX->α×kX}{bs:Tx}{v:α}(h:aIF R bs v)(r:Tx):R (0,bs++r)=(v,(0,r)):=h.all r
def aO2{n:Nat}(hn:n≤4096)(r:Tx):kY (0,be n 8++r)=(n,(0,r)):=by
 unfold kY;rw[(yC (n:=n) (c:=8) (by omega)).fwd r,if_neg (by simp only;omega)]
def aQM:∀(path acc:List Tx) (r:Tx),(∀d∈path,d.length=32)->zG path.length (0,path.flatten++r) acc=(acc++path,(0,r))
 | [],acc,r,_=>by simp[zG]
 | d::path,acc,r,h=>by
  have hd:=h d (by simp);have e:jY (0,d++(path.flatten++r)) 32=(d,(0,path.flatten++r)):=by
   have:=(aJI d).fwd (path.flatten++r);rw[hd] at this;exact this
  rw[qE,aDE,nM,zG,if_pos rfl,e];simp only;rw[aQM path (acc++[d]) r (λx hx=>h x (by simp[hx])),nM];rfl
def aTu{f:Lf}(h:f.Ok)(r:Tx):rH (0,aGg f++r)=(f,(0,r)):=by
 have e1:aEQ (0,aGg f++r)=(f,(0,r)):=by
  obtain⟨i,n,p,path⟩:=f;obtain⟨i0,i1,n0,n1,k,v,m,d⟩:=h;simp only at i0 i1 n0 n1 k v m d;obtain⟨i,rfl⟩:=zLn i0;obtain⟨n,rfl⟩:=zLn n0;unfold aEQ aGg;simp only[rA,nM];rw[aO2 (by omega)];simp only;rw[aO2 (by omega)];simp only;rw[show be p.k.length 2++(p.k++(be p.v.length 2++(p.v++(be path.length 1++(path.flatten++r)))))=(be p.k.length 2++p.k)++(be p.v.length 2++(p.v++(be path.length 1++(path.flatten++r)))) by rw[nM],
   (aIE (l:=p.k) (by omega)).fwd]
  simp only;rw[show be p.v.length 2++(p.v++(be path.length 1++(path.flatten++r)))=(be p.v.length 2++p.v)++(be path.length 1++(path.flatten++r)) by rw[nM],
   (aIE (l:=p.v) (by omega)).fwd]
  simp only;rw[(yC (n:=path.length) (c:=1) (by omega)).fwd];simp only;rw[aQM path [] r d];rfl
 unfold rH;rw[e1,if_pos (Lf.ok_iff.2 h)]
def aNh:∀(l acc:List Lf) (r:Tx),(∀f∈l,f.Ok)->pX l.length (0,lQ l++r) acc=(acc++l,(0,r))
 | [],acc,r,_=>by simp[pX,lQ]
 | f::l,acc,r,h=>by
  rw[qE,lQ,nM,pX,aTu (h f (by simp))];simp only;rw[aNh l (acc++[f]) r (λx hx=>h x (by simp[hx])),nM];rfl
def aWF{p:Pf}(h2:p.lv.length≤2)(h:∀f∈p.lv,f.Ok):iI (aEu p)=(p,0):=by
 have e1:gV (0,aEu p) 1=((if p.ab then 2 else 1),(0,be p.lv.length 1++lQ p.lv)):=by
  unfold aEu;exact(yC (n:=if p.ab then 2 else 1) (c:=1) (by split<;>decide)).fwd _
 have e2:gV (0,be p.lv.length 1++lQ p.lv) 1=(p.lv.length,(0,lQ p.lv)):=(yC (n:=p.lv.length) (c:=1) (by omega)).fwd _;have e3:pX p.lv.length (0,lQ p.lv) []=(p.lv,(0,[])):=by
  have:=aNh p.lv [] [] h;rw[zLQ,sK] at this;exact this
 unfold iI;rw[e1];simp only;rw[e2];simp only;rw[e3,if_neg (by cases p.ab<;>simp<;>omega),if_neg (by simp[aMb])];obtain⟨ab,lv⟩:=p;cases ab<;>rfl
def hQ(l:List Pr)(k:Tx):Nat:=(l.filter λq=>decide (q.k<k)).length
def kQ(l:List Pr)(j:Nat):Lf:=⟨(j:Int),(l.length:Int),l.getD j ⟨[],[]⟩,oT l j⟩
def lD(l:List Pr)(k:Tx):Pf:=
 if (iJ l k).isSome then⟨false,[kQ l (hQ l k)]⟩
 else if l=[] then⟨true,[]⟩ else if hQ l k=0 then⟨true,[kQ l 0]⟩ else if hQ l k=l.length then⟨true,[kQ l (l.length-1)]⟩ else⟨true,[kQ l (hQ l k-1),kQ l (hQ l k)]⟩
def pH(root:Tx)(l:List Lf):Bool:=l.all λf=>qU f==some root
def aEG(root s k v:Tx):Bool:=
 (iI s).2==0 && !(iI s).1.ab&&(match (iI s).1.lv with|[f]=>f.p==⟨k,v⟩|_=>false)&&pH root (iI s).1.lv
def aE5(root s k:Tx):Bool:=
 (iI s).2==0&&(iI s).1.ab&&decide (1≤k.length)&&decide (k.length≤16)&&pH root (iI s).1.lv&&(match (iI s).1.lv with
  | []=>root==oD []
  | [f]=>(f.i==0&&decide (k<f.p.k))||(f.i==IntKind.i64.wrap (f.n-1)&&decide (f.p.k<k))
  | f::g::_=>f.n==g.n&&(IntKind.i64.wrap (f.i+1)==g.i)&&decide (f.p.k<k)&&decide (k<g.p.k))
def aGZ{k:Tx}:∀{l:List Pr},sZ l->∀{j:Nat} {x:Pr},l[j]? =some x->(j<hQ l k↔x.k<k)
 | [],_,j,x,h=>by simp at h
 | a::l,hs,j,x,h=>by
  unfold sZ at hs;rw[zL3] at hs;by_cases ha:a.k<k
  ·have e:hQ (a::l) k=hQ l k+1:=by unfold hQ;rw[List.filter_cons_of_pos (by simpa using ha)];rfl
   rw[e];cases j with
   | zero=>
    simp only[qB,zL9] at h;subst h;exact⟨λ_=>ha,λ_=>by omega⟩
   | succ j=>
    rw[sL] at h;rw[Nat.add_lt_add_iff_right];exact aGZ hs.2 h
  ·have hn:∀y∈l,¬y.k<k:=λy hy h'=>ha (List.lt_trans (hs.1 y hy) h');have e:hQ (a::l) k=0:=by
    unfold hQ;rw[List.filter_cons_of_neg (by simpa using ha),List.filter_eq_nil_iff.2 (λy hy=>by simpa using hn y hy)];rfl
   rw[e];have hx:¬x.k<k:=by
    cases j with
    | zero=>
     simp only[qB,zL9] at h;subst h;exact ha
    | succ j=>
     rw[sL] at h;exact hn x (tA h)
   exact⟨λc=>by omega,λc=>absurd c hx⟩
def aJh(l:List Pr)(k:Tx):hQ l k≤l.length:=aMz _ _
def sZ.lt{l:List Pr}(h:sZ l){i j:Nat}{x y:Pr}(hx:l[i]? =some x)(hy:l[j]? =some y)(hij:i<j):x.k<y.k:=by
 obtain⟨h1,e1⟩:=zLA.1 hx;obtain⟨h2,e2⟩:=zLA.1 hy;have:=List.pairwise_iff_getElem.1 h i j h1 h2 hij;rw[e1,e2] at this;exact this
def aMj{l:List Pr}(hs:sZ l){k:Tx}{p:Pr}(hg:iJ l k=some p):l[hQ l k]? =some p:=by
 obtain⟨hm,hk⟩:=(aBj hs).1 hg;obtain⟨j,hj⟩:=List.mem_iff_getElem?.1 hm;have h1:¬j<hQ l k:=λc=>by
  have:=(aGZ hs hj).1 c;rw[hk] at this;exact zL1 _ this
 have hjl:=(zLA.1 hj).1;have h2:¬hQ l k<j:=λc=>by
  obtain⟨x,hx⟩:∃x,l[hQ l k]? =some x:=⟨_,lJ (by omega)⟩;have h3:=hs.lt hx hj c;rw[hk] at h3;have:=(aGZ hs hx).2 h3;omega
 have:hQ l k=j:=by omega
 rw[this];exact hj
structure MOk(l:List Pr):Prop where
 up:sZ l
 len:l.length≤4096
 k:∀p∈l,p.k.length≤16
 v:∀p∈l,p.v.length≤64
def aMk{l:List Pr}{j:Nat}{p:Pr}(hj:l[j]? =some p):kQ l j=⟨(j:Int),(l.length:Int),p,oT l j⟩:=by
 unfold kQ;rw[aBM,hj];rfl
def aUK{l:List Pr}(H:MOk l){j:Nat}(hj:j<l.length):(kQ l j).Ok:=by
 have e:l[j]? =some l[j]:=lJ hj;rw[aMk e];have hm:l[j]∈l:=aMf hj;have hl:=H.len;exact⟨by simp,by simp only;omega,by simp,by simp only;omega,H.k _ hm,H.v _ hm,by
  have:=aFR 12 l j (by omega);simp only;omega,λd hd=>aTv _ l j rfl d hd⟩
def aQP{l:List Pr}(H:MOk l)(k:Tx):(lD l k).lv.length≤2∧∀f∈(lD l k).lv,∃j,j<l.length∧f=kQ l j:=by
 have hp:=aJh l k;unfold lD;by_cases hg:(iJ l k).isSome=true
 ·obtain⟨p,hgp⟩:=Option.isSome_iff_exists.1 hg;have:=(zLA.1 (aMj H.up hgp)).1;rw[if_pos hg];exact⟨by simp,λf hf=>⟨_,this,by simpa using hf⟩⟩
 ·rw[if_neg hg];by_cases h0:l=[]
  ·rw[if_pos h0];exact⟨by simp,by simp⟩
  ·rw[if_neg h0];have hpos:=aIA.2 h0;by_cases h1:hQ l k=0
   ·rw[if_pos h1];exact⟨by simp,λf hf=>⟨0,hpos,by simpa using hf⟩⟩
   ·rw[if_neg h1];by_cases h2:hQ l k=l.length
    ·rw[if_pos h2];exact⟨by simp,λf hf=>⟨l.length-1,by omega,by simpa using hf⟩⟩
    ·rw[if_neg h2];refine⟨by simp,λf hf=>?_⟩;simp only[gU,lH,or_false] at hf;rcases hf with rfl|rfl
     ·exact⟨hQ l k-1,by omega,rfl⟩
     ·exact⟨hQ l k,by omega,rfl⟩
abbrev LV:=Lf×Value
def qT(y:LV):List Value:=y.1.cells y.2
def LfS(h:PH)(l:List LV):Prop:=∀y∈l,fZ h 1 y.2 (y.1.path.map jJ)
def LfS.ext{h h':PH}{l:List LV}(H:LfS h l)(u:dD h h'):LfS h' l:=λy hy=>(H y hy).ext u
def aYJ{h:PH}{x fv:Value}{xs:List Tx}{f:Tx->Bool}(hx:fZ h 1 x (xs.map jJ))(hl:xs.length≤1000000)
  (hf:∀p∈xs,∀h',dD h h'->∀k':Value->PH->Prop,(∀h'',dD h' h''->k' (.bool (f p)) h'')->rV PG fv #[.string (tx p)] h' k') {k:cD}
  (hk:∀h',dD h h'->k (.bool (xs.any f)) h'):aT PG pR #[x,fv] h k:=by
 have lx:=hx.len (t':=bR) cP.und;rw[iV] at lx;apply nO.call;unfold nO;apply oS.call;unfold oS;simp only[lx,cE,reduceIte];refine⟨λvs h'=>∃i:Nat,i≤xs.length∧vs=[x,fv,.int .i64 xs.length,.int .i64 i]∧dD h h'∧∀p∈xs.take i,f p=false,gQ xs.length 3,⟨0,by omega,rfl,cQ.refl,by simp⟩,?_⟩;rintro ρ h' ⟨i,hi,hvs,w,hq⟩;simp only[iH,jA,lN,and_true] at hvs;obtain⟨e0,e1,e2,e5⟩:=hvs;rw[e0,e1,e2,e5];unfold yL;by_cases hlt:i<xs.length
 ·have hd:((i:Int)<(xs.length:Int))=True:=by apply eq_true;omega
  obtain⟨m,hm⟩:∃m,xs[i]? =some m:=⟨_,lJ hlt⟩;obtain⟨a,a1,a2⟩:=(hx.ext w).loadCell cP.und bT.info bT.size bT.und rfl (k:=.i64) (j:=(i:Int)) (x:=.string (tx m)) (by omega) (by rw[rA,wA,hm];rfl);have ei:=qN (i:=i) (by omega);simp only[hd,a1,a2,cE,reduceIte];refine hf m (tA hm) _ w _ λh2 u2=>?_;cases c:f m with
  | true=>
   have h0:(0≤(i:Int))=True:=by apply eq_true;omega
   have hin:xs.any f=true:=List.any_eq_true.2 ⟨m,tA hm,c⟩;have:=hk _ (w.trans u2);rw[hin] at this;simp only[h0,cE,reduceIte];exact this
  | false=>
   simp only[ei,cE,reduceIte];refine⟨⟨i+1,by omega,rfl,w.trans u2,?_⟩,by simp[gQ,e5];omega⟩;intro p hp;rw[zLU,hm] at hp;rcases kB.1 hp with hp|hp
   ·exact hq p hp
   ·simp at hp;subst hp;exact c
 ·have hd:((i:Int)<(xs.length:Int))=False:=by apply eq_false;omega
  have h0:(0≤(-1:Int))=False:=by apply eq_false;omega
  rw[lY (by omega)] at hq;have hin:xs.any f=false:=by
   rw[List.any_eq_false];intro p hp;simp[hq p hp]
  have:=hk _ w;rw[hin] at this;simp only[hd,h0,cE,reduceIte];exact this
def aSi{h:PH}{x fv:Value}{xs:List LV}{f:LV->Bool}(hx:fZ h 5 x (xs.map qT))(hl:xs.length≤1000000)
  (hf:∀p∈xs,∀h',dD h h'->∀k':Value->PH->Prop,(∀h'',dD h' h''->k' (.bool (f p)) h'')->rV PG fv #[p.1.val p.2] h' k') {k:cD}
  (hk:∀h',dD h h'->k (.bool (xs.any f)) h'):aT PG mB #[x,fv] h k:=by
 have lx:=hx.len (t':=bR) cN.und;rw[iV] at lx;apply mM.call;unfold mM;apply nD.call;unfold nD;simp only[lx,cE,reduceIte];refine⟨λvs h'=>∃i:Nat,i≤xs.length∧vs=[x,fv,.int .i64 xs.length,.int .i64 i]∧dD h h'∧∀p∈xs.take i,f p=false,gQ xs.length 3,⟨0,by omega,rfl,cQ.refl,by simp⟩,?_⟩;rintro ρ h' ⟨i,hi,hvs,w,hq⟩;simp only[iH,jA,lN,and_true] at hvs;obtain⟨e0,e1,e2,e5⟩:=hvs;rw[e0,e1,e2,e5];unfold uZ;by_cases hlt:i<xs.length
 ·have hd:((i:Int)<(xs.length:Int))=True:=by apply eq_true;omega
  obtain⟨m,hm⟩:∃m,xs[i]? =some m:=⟨_,lJ hlt⟩;obtain⟨a,a1,a2⟩:=(hx.ext w).loadAgg cN.und cB.info cB.size cB.und rfl (k:=.i64) (j:=(i:Int)) (r:=qT m) (by omega) (by rw[rA,wA,hm];rfl);have ei:=qN (i:=i) (by omega);simp only[hd,a1,a2,cE,reduceIte];refine hf m (tA hm) _ w _ λh2 u2=>?_;cases c:f m with
  | true=>
   have h0:(0≤(i:Int))=True:=by apply eq_true;omega
   have hin:xs.any f=true:=List.any_eq_true.2 ⟨m,tA hm,c⟩;have:=hk _ (w.trans u2);rw[hin] at this;simp only[h0,cE,reduceIte];exact this
  | false=>
   simp only[ei,cE,reduceIte];refine⟨⟨i+1,by omega,rfl,w.trans u2,?_⟩,by simp[gQ,e5];omega⟩;intro p hp;rw[zLU,hm] at hp;rcases kB.1 hp with hp|hp
   ·exact hq p hp
   ·simp at hp;subst hp;exact c
 ·have hd:((i:Int)<(xs.length:Int))=False:=by apply eq_false;omega
  have h0:(0≤(-1:Int))=False:=by apply eq_false;omega
  rw[lY (by omega)] at hq;have hin:xs.any f=false:=by
   rw[List.any_eq_false];intro p hp;simp[hq p hp]
  have:=hk _ w;rw[hin] at this;simp only[hd,h0,cE,reduceIte];exact this
def aP1{h:PH}{f:Lf}{fv:Value}(S:fZ h 1 fv (f.path.map jJ))(hl:f.path.length≤1000000){k:cD}(hk:∀h',dD h h'->k (.bool f.okb) h'):aT PG aBz #[f.val fv] h k:=by
 apply aHe.call;unfold aHe;intro r1 hr1
 try rw[cW]
 have u1:dD h (h.set r1 (.cells (Value.cells (f.val fv)) cB)):=cQ.new hr1;have B1:Bx (h.set r1 (.cells (Value.cells (f.val fv)) cB)) r1 (f.cells fv):=Bx.new;generalize h.set r1 (.cells (Value.cells (f.val fv)) cB)=h1 at *;have li:cG PG h1 (loadAt bR (pT r1 0))=some (.int .i64 f.i):=by rw[bR.load,B1.cell];rfl
 have ln:cG PG h1 (loadAt bR (pT r1 1))=some (.int .i64 f.n):=by rw[bR.load,B1.cell];rfl
 have lk:cG PG h1 (loadAt bT (pT r1 2))=some (.string (tx f.p.k)):=by rw[bT.load,B1.cell];rfl
 have lv:cG PG h1 (loadAt bT (pT r1 3))=some (.string (tx f.p.v)):=by rw[bT.load,B1.cell];rfl
 have lp:cG PG h1 (loadAt cP (pT r1 4))=some fv:=by rw[cP.load,B1.cell];rfl
 have len0:∀x:Tx,dH PG (Builtin.len_ #[bT] bR #[.string (tx x)])=some (.int .i64 (x.length:Int)):=λx=>by rw[lS bT.und,iF]
 have lenp:=(S.ext u1).len (t':=bR) cP.und;rw[iV] at lenp;have bad:¬f.Ok->k (.bool false) h1:=λc=>by
  have:=hk h1 u1;rw[show f.okb=false by rw[←Bool.not_eq_true];exact λe=>c (Lf.ok_iff.1 e)] at this;exact this
 by_cases a1:f.i<0
 ·have g1:=eq_true a1;simp only[cB.f0,li,g1,cE,reduceIte,cZ,Nat.reduceAdd];exact bad λc=>by have:=c.i0;omega
 have g1:=eq_false a1;by_cases a2:4096<f.i
 ·have g2:=eq_true a2;simp only[cB.f0,li,g1,g2,cE,reduceIte,cZ,Nat.reduceAdd];exact bad λc=>by have:=c.i1;omega
 have g2:=eq_false a2;by_cases a3:f.n<0
 ·have g3:=eq_true a3;simp only[cB.f0,cB.f1,fQ,li,ln,g1,g2,g3,cE,reduceIte,cZ,Nat.reduceAdd];exact bad λc=>by have:=c.n0;omega
 have g3:=eq_false a3;by_cases a4:4096<f.n
 ·have g4:=eq_true a4;simp only[cB.f0,cB.f1,fQ,li,ln,g1,g2,g3,g4,cE,reduceIte,cZ,Nat.reduceAdd];exact bad λc=>by have:=c.n1;omega
 have g4:=eq_false a4;by_cases a5:16<f.p.k.length
 ·have g5:((16:Int)<(f.p.k.length:Int))=True:=eq_true (by omega);simp only[cB.f0,cB.f1,cB.f2,cM.f0,fQ,li,ln,lk,len0,g1,g2,g3,g4,g5,cE,reduceIte,cZ,Nat.reduceAdd];exact bad λc=>by have:=c.k;omega
 have g5:((16:Int)<(f.p.k.length:Int))=False:=eq_false (by omega);by_cases a6:64<f.p.v.length
 ·have g6:((64:Int)<(f.p.v.length:Int))=True:=eq_true (by omega);simp only[cB.f0,cB.f1,cB.f2,cM.f0,cM.f1,fQ,Nat.reduceAdd,li,ln,lk,lv,len0,g1,g2,g3,g4,g5,g6,cE,reduceIte,cZ,Nat.reduceAdd];exact bad λc=>by have:=c.v;omega
 have g6:((64:Int)<(f.p.v.length:Int))=False:=eq_false (by omega);by_cases a7:16<f.path.length
 ·have g7:((16:Int)<(f.path.length:Int))=True:=eq_true (by omega);simp only[cB.f0,cB.f1,cB.f2,cB.f3,cM.f0,cM.f1,fQ,Nat.reduceAdd,li,ln,lk,lv,lp,len0,lenp,g1,g2,g3,g4,g5,g6,g7,cE,reduceIte,cZ,Nat.reduceAdd];exact bad λc=>by have:=c.m;omega
 have g7:((16:Int)<(f.path.length:Int))=False:=eq_false (by omega);simp only[cB.f0,cB.f1,cB.f2,cB.f3,cM.f0,cM.f1,fQ,Nat.reduceAdd,li,ln,lk,lv,lp,len0,lenp,g1,g2,g3,g4,g5,g6,g7,cE,reduceIte,cZ,Nat.reduceAdd];refine aYJ (f:=λd=>(d.length:Int) !=32) (S.ext u1) hl (λp hp h' u k' hk'=>?_) λh2 u2=>?_
 ·show aT PG aFq #[.string (tx p)] h' k';apply aFI.call;unfold aFI;simp only[len0,kW,cE,reduceIte,cZ,Nat.reduceAdd];exact hk' _ cQ.refl
 ·have:=hk h2 (u1.trans u2);have e:f.okb=!(f.path.any λd=>(d.length:Int) !=32):=by
   rw[zLm,Lf.ok_iff,Bool.not_eq_true',List.any_eq_false];constructor
   ·intro c d hd;have:=c.d d hd;simp[this]
   ·intro c;refine⟨by omega,by omega,by omega,by omega,by omega,by omega,by omega,λd hd=>?_⟩;have:=c d hd;simp at this;omega
  rw[e] at this;generalize (f.path.any λd=>(d.length:Int) !=32)=b at this ⊢;cases b<;>(simp only[cE,reduceIte,cZ,Nat.reduceAdd];exact this)
def Pf.val(ab:Bool)(v:Value):Value:=.agg #[.bool ab,v]
def aPA(l:List Lf)(f:Lf):lQ (l++[f])=lQ l++aGg f:=by
 induction l with
 | nil=>simp[lQ]
 | cons a l ih=>simp[lQ,ih]
def aN6{l:List Tx}(h:∀d∈l,d.length=32):l.flatten.length=32*l.length:=by
 induction l with
 | nil=>rfl
 | cons a l ih=>
  rw[aDE,jM,h a (by simp),ih λd hd=>h d (by simp[hd]),qE];omega
def aRz{f:Lf}(h:f.Ok):(aGg f).length≤1000:=by
 have h1:=h.k;have h2:=h.v;have h3:=h.m;have h4:=aN6 h.d;simp only[aGg,jM,jF];omega
def aMc:∀{l:List Lf},(∀f∈l,f.Ok)->(lQ l).length≤1000*l.length
 | [],_=>by simp[lQ]
 | f::l,h=>by
  have h1:=aRz (h f (by simp));have h2:=aMc (l:=l) λx hx=>h x (by simp[hx]);simp only[lQ,jM,qE];omega
def fZ.lf{h:PH}{v:Value}{l:List LV}(S:fZ h 5 v (l.map qT)){j:Nat}{y:LV}(hy:l[j]? =some y):
  ∃a,dH PG (indexAt cN v (.int .i64 (j:Int)))=some (.pointer (some a))∧cG PG h (loadAt cB (.pointer (some a)))=some (y.1.val y.2):=
 S.loadAgg cN.und cB.info cB.size cB.und rfl (k:=.i64) (j:=(j:Int)) (r:=qT y) (by omega) (by rw[rA,wA,hy];rfl)
def aJY{h:PH}{v:Value}{l:List LV}(S:fZ h 5 v (l.map qT)):dH PG (Builtin.len_ #[cN] bR #[v])=some (.int .i64 l.length):=by
 have:=S.len (t':=bR) cN.und;rw[iV] at this;exact this
def Lf.isC(f:Lf){v:Value}(hv:fW v=true):∀u∈f.cells v,fW u=true:=λu hu=>by
 simp only[Lf.cells,gU,lH,or_false] at hu;rcases hu with rfl|rfl|rfl|rfl|rfl<;>first|rfl|exact hv
def fZ.st{h:PH}{v:Value}{l:List Tx}(S:fZ h 1 v (l.map jJ)){j:Nat}{x:Tx}(hx:l[j]? =some x):
  ∃a,dH PG (indexAt cP v (.int .i64 (j:Int)))=some (.pointer (some a))∧cG PG h (loadAt bT (.pointer (some a)))=some (.string (tx x)):=
 S.loadCell cP.und bT.info bT.size bT.und rfl (k:=.i64) (j:=(j:Int)) (x:=.string (tx x)) (by omega) (by rw[rA,wA,hx];rfl)
def aOb{h:PH}{v:Value}{l:List Tx}(S:fZ h 1 v (l.map jJ)):dH PG (Builtin.len_ #[cP] bR #[v])=some (.int .i64 l.length):=by
 have:=S.len (t':=bR) cP.und;rw[iV] at this;exact this
def aXd{h0 h:PH}{a:Nat}{base:Tx}{F:List Nat}(W:WN h0 h a (0,base) F)(hb:base.length≤100000){fv:Value}{path:List Tx}(P:fZ h0 1 fv (path.map jJ))(hd:∀d∈path,d.length=32)(hm:path.length≤16){x:Value}{n i:Nat}(hi:i≤100){R:cD}{nxt:gJ}
  (hn:∀h' F',WN h0 h' a (0,base++path.flatten) F'->nxt [pT a 0,x,.int .i64 (n:Int),.int .i64 ((i+1:Nat):Int)] h'):
  iL [4,28,29,30,55,56,57] (λn73 ρ h=>aHl R nxt n73 (ρ 4) (ρ 28) (ρ 29) (ρ 30) (ρ 55) (ρ 56) (ρ 57) h) [pT a 0,x,.int .i64 (n:Int),.int .i64 (i:Int),fv,.int .i64 (path.length:Int),.int .i64 0] h:=by
 refine⟨λvs h'=>∃(j:Nat) (F':List Nat),j≤path.length∧vs=[pT a 0,x,.int .i64 (n:Int),.int .i64 (i:Int),fv,.int .i64 (path.length:Int),.int .i64 (j:Int)]∧WN h0 h' a (0,base++(path.take j).flatten) F',gQ path.length 6,⟨0,F,by omega,rfl,by simpa using W⟩,?_⟩;rintro ρ h' ⟨j,F',hj,hvs,W'⟩;simp only[iH,jA,lN,and_true] at hvs;obtain⟨v0,v1,v2,v3,v4,v5,v6⟩:=hvs;unfold aHl;rw[v0,v1,v2,v3,v4,v5,v6];by_cases hlt:j<path.length
 ·have g:((j:Int)<(path.length:Int))=True:=eq_true (by omega);have gi:=qN (i:=j) (by omega);obtain⟨d,hdj⟩:∃d,path[j]? =some d:=⟨_,lJ hlt⟩;obtain⟨pa,p1,p2⟩:=(P.ext W'.upd).st hdj;have hd32:=hd d (tA hdj);have hfl:(path.take j).flatten.length≤32*16:=by
   rw[aN6 λd hd'=>hd d (aLJ hd'),nI];omega
  simp only[g,p1,p2,gi,cE,reduceIte,cZ,Nat.reduceAdd];refine aW6 W' (by rw[jM];omega) (by omega) λh2 F2 x2 e2 W2 _=>?_;have ex:x2=(0,base++(path.take (j+1)).flatten):=by
   rw[e2,zLU,hdj];simp[nM]
  rw[ex] at W2;exact⟨⟨j+1,F2,by omega,rfl,W2⟩,by simp[gQ,v6];omega⟩
 ·have g:((j:Int)<(path.length:Int))=False:=eq_false (by omega);have gi:=qN (i:=i) (by omega);rw[lY (by omega)] at W';simp only[g,gi,cE,reduceIte,cZ,Nat.reduceAdd];exact hn h' F' W'
def aOg{st:kX}{l:Tx}(h:l.length≤65535):aKD st l=(st.1,st.2++(be l.length 2++l)):=by unfold aKD;rw[if_pos h]
def aLj{st:kX}{n:Nat}(h:n≤255):aHF st (n:Int)=(st.1,st.2++be n 1):=by unfold aHF;rw[if_pos (by omega),rA]
def aUF{h0 h:PH}{a:Nat}{base:Tx}{F:List Nat}(W:WN h0 h a (0,base) F)(hb:base.length≤1000){v:Value}{l:List LV}(S:fZ h0 5 v (l.map qT))(HS:LfS h0 l)(hok:∀y∈l,y.1.Ok)(hl:l.length≤2){R:cD}
  (hR:∀h',dD h0 h'->R (.tuple #[.string (tx (base++lQ (l.map (·.1)))),.int .i64 0]) h'):
  iL [4,28,29,30] (λn36 ρ h=>aHP R n36 (ρ 4) (ρ 28) (ρ 29) (ρ 30) h) [pT a 0,v,.int .i64 (l.length:Int),.int .i64 0] h:=by
 refine⟨λvs h'=>∃(i:Nat) (F':List Nat),i≤l.length∧vs=[pT a 0,v,.int .i64 (l.length:Int),.int .i64 (i:Int)]∧WN h0 h' a (0,base++lQ ((l.take i).map (·.1))) F',gQ l.length 3,⟨0,F,by omega,rfl,by simpa[lQ] using W⟩,?_⟩;rintro ρ h' ⟨i,F',hi,hvs,W'⟩;simp only[iH,jA,lN,and_true] at hvs;obtain⟨v0,v1,v2,v3⟩:=hvs;unfold aHP;rw[v0,v1,v2,v3];have hpre:(lQ ((l.take i).map (·.1))).length≤2000:=by
  have:=aMc (l:=(l.take i).map (·.1)) (by
   simp only[List.forall_mem_map];exact λy hy=>hok y (aLJ hy))
  rw[iV,nI] at this;omega
 by_cases hlt:i<l.length
 ·have g:((i:Int)<(l.length:Int))=True:=eq_true (by omega);obtain⟨y,hy⟩:∃y,l[i]? =some y:=⟨_,lJ hlt⟩;have hmem:=tA hy;have ok:=hok y hmem;have Py:=HS y hmem;obtain⟨pa,p1,p2⟩:=(S.ext W'.upd).lf hy;simp only[g,p1,p2,cE,reduceIte,cZ,Nat.reduceAdd];intro r41 hr41
  try rw[cW]
  refine cB.fill hr41 rfl (Lf.isC _ Py.isc) λh1 B1 u1=>?_;have W1:=WS.ext W' u1;have K1:BK h1 F' r41 (y.1.cells y.2):=⟨B1,W'.box hr41⟩;obtain⟨i0,i1,n0,n1,k16,v64,m16,d32⟩:=ok;obtain⟨fi,efi⟩:=zLn i0;obtain⟨fn,efn⟩:=zLn n0;have li:∀{h':PH} {F},BK h' F r41 (y.1.cells y.2)->cG PG h' (loadAt bR (pT r41 0))=some (.int .i64 (fi:Int)):=λB=>by rw[bR.load,B.bx.cell,←efi];rfl
  have ln:∀{h':PH} {F},BK h' F r41 (y.1.cells y.2)->cG PG h' (loadAt bR (pT r41 1))=some (.int .i64 (fn:Int)):=λB=>by rw[bR.load,B.bx.cell,←efn];rfl
  have lk:∀{h':PH} {F},BK h' F r41 (y.1.cells y.2)->cG PG h' (loadAt bT (pT r41 2))=some (.string (tx y.1.p.k)):=λB=>by rw[bT.load,B.bx.cell];rfl
  have lv:∀{h':PH} {F},BK h' F r41 (y.1.cells y.2)->cG PG h' (loadAt bT (pT r41 3))=some (.string (tx y.1.p.v)):=λB=>by rw[bT.load,B.bx.cell];rfl
  have lp:∀{h':PH} {F},BK h' F r41 (y.1.cells y.2)->cG PG h' (loadAt cP (pT r41 4))=some y.2:=λB=>by rw[cP.load,B.bx.cell];rfl
  have lenp:=aOb Py;have c1:IntKind.u64.wrap (fi:Int)=(fi:Int):=gO (by omega) (by omega);have c2:IntKind.u64.wrap (fn:Int)=(fn:Int):=gO (by omega) (by omega);simp only[cB.f0,li K1,aJU,c1,cE,reduceIte,cZ,Nat.reduceAdd];refine aJj W1 (by rw[jM];omega) (by omega) λh2 F2 x2 e2 W2 k2=>?_;have K2:=K1.keep k2;simp only[cB.f1,fQ,ln K2,aJU,c2,cE,reduceIte,cZ,Nat.reduceAdd];refine aJj W2 (by rw[e2];simp only[aI1,jM,jF];omega) (by omega) λh3 F3 x3 e3 W3 k3=>?_;have K3:=K2.keep k3;simp only[cB.f2,cM.f0,fQ,lk K3,cE,reduceIte,cZ,Nat.reduceAdd];refine aRY W3 (by rw[e3,e2];simp only[aI1,jM,jF];omega) _ λh4 F4 x4 e4 W4 k4=>?_;have K4:=K3.keep k4;rw[aOg (by omega)] at e4;simp only[cB.f2,cM.f1,fQ,Nat.reduceAdd,lv K4,cE,reduceIte,cZ,Nat.reduceAdd];refine aRY W4 (by rw[e4,e3,e2];simp only[aI1,jM,jF];omega) _ λh5 F5 x5 e5 W5 k5=>?_;have K5:=K4.keep k5;rw[aOg (by omega)] at e5;simp only[cB.f3,fQ,lp K5,lenp,cE,reduceIte,cZ,Nat.reduceAdd];refine aMl W5 (by rw[e5,e4,e3,e2];simp only[aI1,jM,jF];omega) _ λh6 F6 x6 e6 W6 k6=>?_;have K6:=K5.keep k6;rw[aLj (by omega)] at e6;simp only[cB.f3,fQ,lp K6,lenp,cE,reduceIte,cZ,Nat.reduceAdd];have ex:x6=(0,(base++lQ ((l.take i).map (·.1)))++(be fi 8++(be fn 8++((be y.1.p.k.length 2++y.1.p.k)++((be y.1.p.v.length 2++y.1.p.v)++be y.1.path.length 1))))):=by
   rw[e6,e5,e4,e3,e2];simp[aI1,nM]
  rw[ex] at W6;refine aXd W6 (by simp only[jM,jF];omega) Py d32 m16 (by omega) λh7 F7 W7=>?_;have ef:((base++lQ ((l.take i).map (·.1)))++(be fi 8++(be fn 8++((be y.1.p.k.length 2++y.1.p.k)++((be y.1.p.v.length 2++y.1.p.v)++be y.1.path.length 1)))))++y.1.path.flatten=base++lQ ((l.take (i+1)).map (·.1)):=by
   rw[zLU,hy];simp only[Option.toList,pO,iH,jA,aPA,aGg,efi,efn,rA,nM]
  rw[ef] at W7;exact⟨⟨i+1,F7,by omega,rfl,W7⟩,by simp[gQ,v3];omega⟩
 ·have g:((i:Int)<(l.length:Int))=False:=eq_false (by omega);rw[lY (by omega)] at W';simp only[g,cE,reduceIte,cZ,Nat.reduceAdd];refine aOJ W'.at_ λh2 u2=>?_;have eb:aJd (0,base++lQ (l.map (·.1)))=(base++lQ (l.map (·.1)),0):=rfl;simp only[eb,cE,reduceIte,cZ,Nat.reduceAdd];exact hR _ (W'.upd.fresh u2 W'.fresh)
def aUO{h:PH}{ab:Bool}{v:Value}{l:List LV}(S:fZ h 5 v (l.map qT))(HS:LfS h l)(hl:l.length≤1000000)(hp:∀y∈l,y.1.path.length≤1000000){k:cD}
  (hk:∀h',dD h h'->k (.tuple #[.string (tx (lW ⟨ab,l.map (·.1)⟩).1),.int .i64 (lW ⟨ab,l.map (·.1)⟩).2]) h'):aT PG aH7 #[Pf.val ab v] h k:=by
 apply aD5.call;unfold aD5;intro r1 hr1
 try rw[cW]
 have u1:dD h (h.set r1 (.cells (Value.cells (Pf.val ab v)) cC)):=cQ.new hr1;have B1:Bx (h.set r1 (.cells (Value.cells (Pf.val ab v)) cC)) r1 [.bool ab,v]:=Bx.new;generalize h.set r1 (.cells (Value.cells (Pf.val ab v)) cC)=h1 at *;have la:∀{h':PH},Bx h' r1 [.bool ab,v]->cG PG h' (loadAt gT (pT r1 0))=some (.bool ab):=λB=>by rw[gT.load,B.cell];rfl
 have lv:∀{h':PH},Bx h' r1 [.bool ab,v]->cG PG h' (loadAt cN (pT r1 1))=some v:=λB=>by rw[cN.load,B.cell];rfl
 have ll:=aJY S;have q0:({data:=#[]}:ByteArray)=tx []:=rfl;have el:(l.map (·.1)).length=l.length:=by simp
 by_cases h2:2<l.length
 ·have g:((2:Int)<(l.length:Int))=True:=eq_true (by omega);have eb:lW ⟨ab,l.map (·.1)⟩=([],1):=by unfold lW;rw[if_neg (λc=>by have:=c.1;simp only[el] at this;omega)]
  simp only[cC.f1,fQ,lv B1,ll,g,q0,cE,reduceIte,cZ,Nat.reduceAdd];rw[eb] at hk;exact hk _ u1
 have g:((2:Int)<(l.length:Int))=False:=eq_false (by omega);simp only[cC.f1,fQ,lv B1,ll,g,cE,reduceIte,cZ,Nat.reduceAdd];refine aSi (f:=λy=>!y.1.okb) (S.ext u1) hl (λy hy h' u k' hk'=>?_) λh3 u3=>?_
 ·show aT PG aGj #[y.1.val y.2] h' k';apply aGO.call;unfold aGO;intro r hr
  try rw[cW]
  have v1:dD h' (h'.set r (.cells (Value.cells (y.1.val y.2)) cB)):=cQ.new hr;have C1:Bx (h'.set r (.cells (Value.cells (y.1.val y.2)) cB)) r (y.1.cells y.2):=Bx.new;generalize h'.set r (.cells (Value.cells (y.1.val y.2)) cB)=h'' at *;have lf:cG PG h'' (loadAt cB (pT r 0))=some (y.1.val y.2):=cB.agg C1 (by show 0+5≤5;decide);simp only[lf,cE,reduceIte,cZ,Nat.reduceAdd];refine aP1 ((HS y hy).ext ((u1.trans u).trans v1)) (hp y hy) λh4 u4=>?_;simp only[cE,reduceIte,cZ,Nat.reduceAdd];exact hk' _ (v1.trans u4)
 ·have e3:=u1.trans u3;have B3:=B1.ext u3;cases hb:l.any λy=>!y.1.okb with
  | true=>
   have eb:lW ⟨ab,l.map (·.1)⟩=([],1):=by
    unfold lW;rw[if_neg (λc=>?_)];obtain⟨y,hy,hyb⟩:=List.any_eq_true.1 hb;have:=aE6.1 c.2 y.1 (zL8 hy);rw[this] at hyb;cases hyb
   simp only[q0,cE,reduceIte,cZ,Nat.reduceAdd];rw[eb] at hk;exact hk _ e3
  | false=>
   have hok:∀y∈l,y.1.Ok:=λy hy=>by
    have:=List.any_eq_false.1 hb y hy;exact Lf.ok_iff.1 (by simpa using this)
   have eb:lW ⟨ab,l.map (·.1)⟩=(aEu ⟨ab,l.map (·.1)⟩,0):=by
    have hall:(l.map (·.1)).all Lf.okb=true:=aE6.2 λf hf=>by
     obtain⟨y,hy,rfl⟩:=mJ.1 hf;exact Lf.ok_iff.2 (hok y hy)
    unfold lW;exact if_pos ⟨by simp only[el];omega,hall⟩
   rw[eb] at hk;simp only[cE,reduceIte,cZ,Nat.reduceAdd];intro r21 hr21
   try rw[cW]
   have W0:=WN.start hr21;have u4:dD h3 (h3.set r21 (.cells (dV PG fR) fR)):=cQ.new hr21;generalize h3.set r21 (.cells (dV PG fR) fR)=h4 at *;have out:∀kd:Nat,kd=(if ab then 2 else 1)->aEr k (pT r1 0) (pT r21 0) (.int .i64 (kd:Int)) h4:=λkd hkd=>by
    have k2:kd≤2:=by rw[hkd];split<;>decide
    unfold aEr;refine aMl W0 (by simp) _ λh5 F5 x5 e5 W5 _=>?_;rw[aLj (by omega)] at e5;simp only[cC.f1,fQ,lv (B3.ext W5.upd),ll,cE,reduceIte,cZ,Nat.reduceAdd];refine aMl W5 (by rw[e5];simp[jF]) _ λh6 F6 x6 e6 W6 _=>?_;rw[aLj (by omega)] at e6;have ex:x6=(0,be kd 1++be l.length 1):=by rw[e6,e5];simp
    rw[ex] at W6;simp only[cC.f1,fQ,lv (B3.ext W6.upd),ll,cE,reduceIte,cZ,Nat.reduceAdd];refine aUF W6 (by simp[jF]) (S.ext e3) (HS.ext e3) hok (by omega) λh7 u7=>?_;have ep:(be kd 1++be l.length 1)++lQ (l.map (·.1))=aEu ⟨ab,l.map (·.1)⟩:=by
     unfold aEu;simp only[el,hkd,nM]
    rw[ep];exact hk _ (e3.trans u7)
   simp only[cC.f0,la (B3.ext u4),cE,reduceIte,cZ,Nat.reduceAdd];cases ab with
   | true=>simp only[cE,reduceIte,cZ,Nat.reduceAdd];exact out 2 rfl
   | false=>simp only[cE,reduceIte,cZ,Nat.reduceAdd];exact out 1 rfl
def aSu{h:PH}{a:Nat}{st:kX}(R:rQ h a st.1 st.2){k:cD}(hk:∀h',rQ h' a (kY st).2.1 (kY st).2.2->cQ [a] h h'->k (.int .i64 ((kY st).1:Int)) h'):aT PG aFQ #[pT a 0,.int .u64 4096] h k:=by
 apply aIK.call;unfold aIK;unfold kY at hk;refine aTm R λh1 R1 u1=>?_;show dY (dH PG (binOp BinOp.gtr cA (.int .u64 ((gV st 8).1:Int)) (.int .u64 4096))) _;by_cases c:4096<(gV st 8).1
 ·have g:((4096:Int)<((gV st 8).1:Int))=True:=eq_true (by omega);rw[if_pos c] at hk;simp only[g,gL.f0,cE,reduceIte,cZ,Nat.reduceAdd];refine aRD (st:=(gV st 8).2) R1 5 λh2 R2 u2=>?_;exact hk h2 R2 (u1.trans u2)
 ·have g:((4096:Int)<((gV st 8).1:Int))=False:=eq_false (by omega);rw[if_neg c] at hk;have e1:IntKind.i64.wrap ((gV st 8).1:Int)=((gV st 8).1:Int):=fH (by omega) (by omega);simp only[g,aJQ,e1,cE,reduceIte,cZ,Nat.reduceAdd];exact hk h1 R1 u1
def aSy{n:Nat}{st:kX}{acc:List Tx}(h:n=0∨st.1≠0):zG n st acc=(acc,st):=by
 cases n with
 | zero=>rfl
 | succ n=>rw[zG,if_neg (by rcases h with h|h;cases h;exact h)]
def bAd(x y:Int):dH PG (build cB #[(0,.int .i64 x),(1,.int .i64 y)])=some (Lf.val ⟨x,y,⟨[],[]⟩,[]⟩ (.slice none 0 0)):=by kernel_rfl
def aZy{h:PH}{a:Nat}{st:kX}(R:rQ h a st.1 st.2){k:cD}
  (hk:∀h' v F,rQ h' a (rH st).2.1 (rH st).2.2->eM h' bT 1 v ((rH st).1.path.map jJ) F->eK h F->cQ [a] h h'->k ((rH st).1.val v) h'):aT PG aIt #[pT a 0] h k:=by
 apply aFa.call;unfold aFa;have ka:h a≠none:=by rw[R.here];simp
 intro r1 hr1
 try rw[cW]
 have u1:dD h (h.set r1 (.cells (dV PG cB) cB)):=cQ.new hr1;have Z1:=cB.zbox (h:=h) (r:=r1);have R1:=R.ext u1;have na1:r1≠a:=λe=>ka (e▸hr1);generalize h.set r1 (.cells (dV PG cB) cB)=h1 at *;refine aSu R1 λh2 R2 u2=>?_;refine aSu R2 λh3 R3 u3=>?_;simp only[bAd,cE,reduceIte,cZ,Nat.reduceAdd];have Z3:=(Z1.upd u2 (by simpa using na1)).upd u3 (by simpa using na1);have e3:cQ [a] h h3:=(u1.upd.trans u2).trans u3;intro r8 hr8
 try rw[cW]
 have n18:r1≠r8:=Z3.apart hr8;have na8:r8≠a:=λe=>by
  have:=(rQ.here R3);rw[←e,hr8] at this;cases this
 have k8:h r8=none:=by
  cases hx:h r8 with
  | none=>rfl
  | some o=>have:=e3 r8 o hx (by simpa using na8);rw[hr8] at this;cases this
 refine cB.fill (vs:=Lf.cells ⟨((kY st).1:Int),((kY (kY st).2).1:Int),⟨[],[]⟩,[]⟩ (.slice none 0 0)) hr8 rfl (Lf.isC _ rfl) λh4 B4 u4=>?_;have R4:=R3.ext u4;have e4:cQ [a] h h4:=e3.trans u4.upd;have Z4:=Z3.ext u4;refine aRh R4 λh5 R5 u5=>?_;have B5:=B4.upd u5 (by simpa using na8);have Z5:=Z4.upd u5 (by simpa using na1);simp only[cB.f2,cM.f0,fQ,cE,reduceIte,cZ,Nat.reduceAdd];refine bT.put B5 (o:=2) (by show 2<5;decide) rfl λh6 B6 u6=>?_;have R6:=R5.upd u6 (by simpa using na8.symm);have Z6:=Z5.upd u6 (by simpa using n18);refine aRh R6 λh7 R7 u7=>?_;have B7:=B6.upd u7 (by simpa using na8);have Z7:=Z6.upd u7 (by simpa using na1);simp only[cB.f2,cM.f1,fQ,Nat.reduceAdd,cE,reduceIte,cZ,Nat.reduceAdd];refine bT.put B7 (o:=3) (by show 3<5;decide) rfl λh8 B8 u8=>?_;have R8:=R7.upd u8 (by simpa using na8.symm);have Z8:=Z7.upd u8 (by simpa using n18);refine aN4 R8 λh9 R9 u9=>?_;have B9:=B8.upd u9 (by simpa using na8);have Z9:=Z8.upd u9 (by simpa using na1);have e9:cQ [a] h h9:=by
  have f8:∀b∈[r8],b∈[a]∨h b=none:=λb hb=>.inr (by simp at hb;rw[hb];exact k8);exact(((((e4.trans u5).then u6 f8).trans u7).then u8 f8).trans u9)
 -- names
 obtain⟨st2,hst2⟩:∃x,x=(kY (kY st).2).2:=⟨_,rfl⟩;obtain⟨kk,hkk⟩:∃x,x=mW (kY (kY st).2).2:=⟨_,rfl⟩;obtain⟨vv,hvv⟩:∃x,x=mW kk.2:=⟨_,rfl⟩;obtain⟨cc,hcc⟩:∃x,x=gV vv.2 1:=⟨_,rfl⟩;have hc255:cc.1<256:=by rw[hcc];exact aH6 _ 1
 have e1:(aEQ st)=(⟨((kY st).1:Int),((kY (kY st).2).1:Int),⟨kk.1,vv.1⟩,(zG cc.1 cc.2 []).1⟩,(zG cc.1 cc.2 []).2):=by rw[hcc,hvv,hkk];rfl
 have R9':rQ h9 a cc.2.1 cc.2.2:=by rw[hcc,hvv,hkk];exact R9
 have B9':Bx h9 r8 (Lf.cells ⟨((kY st).1:Int),((kY (kY st).2).1:Int),⟨kk.1,vv.1⟩,[]⟩ (.slice none 0 0)):=by rw[hvv,hkk];exact B9
 have ev:(Value.int .i64 ((gV (mW (mW (kY (kY st).2).2).2).2 1).1:Int))= .int .i64 (cc.1:Int):=by rw[hcc,hvv,hkk]
 show iL _ _ [_,_,_,(Value.int .i64 ((gV (mW (mW (kY (kY st).2).2).2).2 1).1:Int))] h9;rw[ev];clear R9 B9 ev;generalize (kY st).1=f1 at *;generalize (kY (kY st).2).1=f2 at *;refine⟨λvs h'=>∃(m:Nat) (acc:List Tx) (s':kX) (pv:Value) (F:List Nat),vs=[pT a 0,pT r1 0,pT r8 0,.int .i64 (m:Int)]∧rQ h' a s'.1 s'.2∧Bx h' r8 (Lf.cells ⟨(f1:Int),(f2:Int),⟨kk.1,vv.1⟩,acc⟩ pv)∧eM h' bT 1 pv (acc.map jJ) F∧eK h F∧r8∉F∧r1∉F∧Bx h' r1 (Lf.cells ⟨0,0,⟨[],[]⟩,[]⟩ (.slice none 0 0))∧cQ [a] h h'∧zG cc.1 cc.2 []=zG m s' acc∧acc.length+m≤255,aXH 3,⟨cc.1,[],cc.2,_,[],rfl,R9',B9',eM.nil,(λb hb=>by cases hb),by simp,by simp,Z9,e9,rfl,by simp;omega⟩,?_⟩;rintro ρ h' ⟨m,acc,s',pv,F,hvs,R',B',O',f',n8,n1,Z',u',hp,hacc⟩;simp only[iH,jA,lN,and_true] at hvs;obtain⟨v0,v1,v2,v3⟩:=hvs;unfold aKz;rw[v0,v1,v2,v3];have na':a∉F:=λhm=>ka (f' a hm);by_cases hgo:0<m∧s'.1=0
 ·obtain⟨hm,hs0⟩:=hgo;obtain⟨m,rfl⟩:∃n,m=n+1:=⟨m-1,by omega⟩;have g:((0:Int)<((m+1:Nat):Int))=True:=eq_true (by omega);have gi:IntKind.i64.wrap (((m+1:Nat):Int)-1)=(m:Int):=by rw[fH (by omega) (by omega)];omega
  have lp:∀{h'':PH},Bx h'' r8 (Lf.cells ⟨(f1:Int),(f2:Int),⟨kk.1,vv.1⟩,acc⟩ pv)->cG PG h'' (loadAt cP (pT r8 4))=some pv:=λB=>by rw[cP.load,B.cell];rfl
  simp only[g,gL.f0,cE,reduceIte,cZ,Nat.reduceAdd];refine aPo R' ?_;simp only[hs0,iG,cB.f3,fQ,lp B',cE,reduceIte,cZ,Nat.reduceAdd];refine aQ1 R' 32 λh2 R2 u2=>?_;have B2:=B'.upd u2 (by simpa using na8);refine⟨lp B2,?_⟩;have O2:=O'.upd u2 (λb hb=>by simp only[gB];rintro rfl;exact na' hb);have Z2:=Z'.upd u2 (by simpa using na1);simp only[aNX,cE,reduceIte,cZ,Nat.reduceAdd];intro r54 hr54;refine fP ?_
  try rw[cW]
  have u3:dD h2 (h2.set r54 (.cells #[.string (tx (jY (s'.1,s'.2) 32).1)] bT)):=cQ.new hr54;have s1:fZ (h2.set r54 (.cells #[.string (tx (jY (s'.1,s'.2) 32).1)] bT)) 1 (.slice (some ⟨r54,0,none⟩) 1 1) ([(jY (s'.1,s'.2) 32).1].map jJ):=(eM.lit (jJ.rows [(jY (s'.1,s'.2) 32).1]) dL (by simp) (by decide) (by simp[jJ])).slR;generalize h2.set r54 (.cells #[.string (tx (jY (s'.1,s'.2) 32).1)] bT)=h3 at *;refine jK cP.und cP.und bT.info bT.size bT.bytes bT.zero rfl (by decide) (O2.ext u3) s1 (λr hr u hu=>by
   obtain⟨s,-,rfl⟩:=mJ.1 hr;exact jJ.isC s u hu) (by simp;omega) ?_
  intro v4 h4 F4 O4 u4 g4 _;rw[←pO] at O4;have n84:r8∉F4:=λhb=>by
   rcases g4 _ hb with hx|hx
   ·exact n8 hx
   ·exact(B2.ext u3).known hx
  have n14:r1∉F4:=λhb=>by
   rcases g4 _ hb with hx|hx
   ·exact n1 hx
   ·exact(Z2.ext u3).known hx
  have e23:cQ [a] h h3:=(u'.trans u2).trans u3.upd;have f4:eK h F4:=λb hb=>by
   rcases g4 b hb with hx|hx
   ·exact f' b hx
   ·cases hy:h b with
    | none=>rfl
    | some o=>
     by_cases hba:b=a
     ·rw[hba] at hx;have:=(R2.ext u3).here;rw[hx] at this;cases this
     ·have:=e23 b o hy (by simpa using hba);rw[hx] at this;cases this
  have B4:=(B2.ext u3).upd u4 n8;simp only[cB.f3,fQ,gi,cE,reduceIte,cZ,Nat.reduceAdd];refine cP.put B4 (o:=4) (by show 4<5;decide) O4.slR.isc λh5 B5 u5=>?_;refine⟨⟨m,acc++[(jY s' 32).1],(jY s' 32).2,v4,F4,rfl,((R2.ext u3).upd u4 na').upd u5 (by simpa using na8.symm),B5,O4.upd u5 (λb hb=>by simp only[gB];rintro rfl;exact n84 hb),f4,n84,n14,((Z2.ext u3).upd u4 n1).upd u5 (by simpa using n18),(e23.then u4 (λb hb=>.inr (f' b hb))).then u5 (λb hb=>.inr (by simp at hb;rw[hb];exact k8)),?_,by simp;omega⟩,?_⟩
  ·rw[hp,zG,if_pos hs0]
  ·simp only[aXH,sL,qB,iH,jA,v3];omega
 ·have hstop:m=0∨s'.1≠0:=by omega
  rw[aSy hstop] at hp;rw[hp] at e1;simp only at e1;have ll:cG PG h' (loadAt cB (pT r8 0))=some ((aEQ st).1.val pv):=by rw[e1];exact cB.agg B' (by show 0+5≤5;decide)
  have S':fZ h' 1 pv ((aEQ st).1.path.map jJ):=by rw[e1];exact O'.slR
  have fin:dY (cG PG h' (loadAt cB (pT r8 0))) λv64=>
    aT PG aBz #[v64] h' λv65 h66=>
    dY (dH PG (Op.unary UnOp.not v65)) λv67=>
    dK v67
    (dY (dH PG (wC (pT a 0))) λv68=>
    dY (dH PG (fieldAt gL v68 0)) λv69=>
    aT PG lM #[v69,(Value.int IntKind.i64 5)] h66 λv70 h71=>
    aAh k (pT r1 0) (pT r8 0) h71)
    (aAh k (pT r1 0) (pT r8 0) h66):=by
   simp only[ll,cE,reduceIte,cZ,Nat.reduceAdd];have hpl:(aEQ st).1.path.length≤1000000:=by rw[e1];simp only;omega
   refine aP1 S' hpl λh2 u2=>?_;have last:∀{h5:PH},rQ h5 a (rH st).2.1 (rH st).2.2->cQ [a] h2 h5->aAh k (pT r1 0) (pT r8 0) h5:=by
    intro h5 R5 u5;unfold aAh;have B5:=(B'.ext u2).upd u5 (by simpa using na8);have Z5:=(Z'.ext u2).upd u5 (by simpa using na1);have l5:cG PG h5 (loadAt cB (pT r8 0))=some ((aEQ st).1.val pv):=by rw[e1];exact cB.agg B5 (by show 0+5≤5;decide)
    simp only[l5,cE,reduceIte,cZ,Nat.reduceAdd];refine cB.put (vs:=(aEQ st).1.cells pv) Z5 (o:=0) rfl (by show 0+5≤5;decide) (Lf.isC _ S'.isc) λh6 B6 u6=>?_;have l6:cG PG h6 (loadAt cB (pT r1 0))=some ((aEQ st).1.val pv):=cB.agg B6 (by show 0+5≤5;decide);simp only[l6,cE,reduceIte,cZ,Nat.reduceAdd];refine hk h6 pv F (R5.upd u6 (by simpa using na1.symm)) ?_ f' (((u'.trans u2.upd).trans u5).then u6 (λb hb=>.inr (by simp at hb;rw[hb];exact hr1)));have:(rH st).1.path=acc:=by unfold rH;rw[e1]
    rw[this];exact((O'.ext u2).upd u5 (λb hb=>by simp only[gB];rintro rfl;exact na' hb)).upd u6 (λb hb=>by simp only[gB];rintro rfl;exact n1 hb)
   have R2:rQ h2 a (aEQ st).2.1 (aEQ st).2.2:=by rw[e1];exact R'.ext u2
   cases hb:(aEQ st).1.okb with
   | true=>
    simp only[cE,reduceIte,cZ,Nat.reduceAdd];refine last ?_ cQ.refl;unfold rH;rw[if_pos hb];exact R2
   | false=>
    simp only[gL.f0,cE,reduceIte,cZ,Nat.reduceAdd];refine aRD (st:=(aEQ st).2) R2 5 λh3 R3 u3=>?_;refine last ?_ u3;unfold rH;rw[if_neg (by rw[hb];decide)];exact R3
  by_cases hm:0<m
  ·have hs:s'.1≠0:=by omega
   have g:((0:Int)<(m:Int))=True:=eq_true (by omega);have q:(s'.1==0)=false:=by simpa using hs
   simp only[g,gL.f0,cE,reduceIte,cZ,Nat.reduceAdd];refine aPo R' ?_;simp only[iG,q,cE,reduceIte,cZ,Nat.reduceAdd];simp only[cE,reduceIte,cZ,Nat.reduceAdd] at fin;exact fin
  ·have g:((0:Int)<(m:Int))=False:=eq_false (by omega);simp only[g,cE,reduceIte,cZ,Nat.reduceAdd];simp only[cE,reduceIte,cZ,Nat.reduceAdd] at fin;exact fin
def LfO(h:PH)(l:List LV)(B:List Nat):Prop:=∀y∈l,∃G,eM h bT 1 y.2 (y.1.path.map jJ) G∧∀b∈G,b∉B
def LfO.upd{h h':PH}{l:List LV}{B K:List Nat}(H:LfO h l B)(u:cQ K h h')(hK:∀b∈K,b∈B):LfO h' l B:=λy hy=>by
 obtain⟨G,O,hG⟩:=H y hy;exact⟨G,O.upd u (λb hb hk=>hG b hb (hK b hk)),hG⟩
def LfO.grow{h:PH}{l:List LV}{B B':List Nat}(H:LfO h l B)(hB:∀b∈B',b∈B∨h b=none):LfO h l B':=λy hy=>by
 obtain⟨G,O,hG⟩:=H y hy;exact⟨G,O,λb hb hb'=>by
  rcases hB b hb' with hx|hx
  ·exact hG b hb hx
  ·exact O.known b hb hx⟩
def LfO.lfs{h:PH}{l:List LV}{B:List Nat}(H:LfO h l B):LfS h l:=λy hy=>by
 obtain⟨G,O,-⟩:=H y hy;exact O.slR
def aHI:dH PG (build cC #[])=some (Pf.val false (.slice none 0 0)):=by kernel_rfl
def aL4(b:Bool):dH PG (build cC #[(0,.bool b)])=some (Pf.val b (.slice none 0 0)):=by kernel_rfl
def aNS(f:Lf)(v:Value):jV PG (buildSlice cN 1 #[(0,f.val v)])=some (.cells (f.cells v).toArray cB,λr=>pure (.slice (some ⟨r,0,none⟩) 1 1)):=by kernel_rfl
def qT.rows(l:List LV):Rows 5 (l.map qT):=λr hr=>by obtain⟨m,_,rfl⟩:=mJ.1 hr;rfl
def aRT{h:PH}{s:Tx}{k:cD}
  (hk:∀h' v (l:List LV),l.map (·.1)=(iI s).1.lv->fZ h' 5 v (l.map qT)->LfS h' l->dD h h'->k (.tuple #[Pf.val (iI s).1.ab v,.int .i64 (iI s).2]) h'):aT PG aFY #[.string (tx s)] h k:=by
 apply aEA.call;unfold aEA;intro r1 hr1
 try rw[cW]
 have u1:dD h (h.set r1 (.cells (dV PG cC) cC)):=cQ.new hr1;have Z1:=cC.zbox (h:=h) (r:=r1);generalize h.set r1 (.cells (dV PG cC) cC)=h1 at *;refine aQ9 s λa h2 R2 u2 ha=>?_;have Z2:=Z1.ext u2;have na1:r1≠a:=λe=>by rw[←e] at ha;exact Z1.known ha
 have ka:h a=none:=u1.none ha;refine aN4 R2 λh3 R3 u3=>?_;refine aN4 R3 λh4 R4 u4=>?_;have Z4:=(Z2.upd u3 (by simpa using na1)).upd u4 (by simpa using na1);have fa:eK h [a]:=eK.one ka;have f1:eK h [r1]:=eK.one hr1;have e4:dD h h4:=((u1.trans u2).fresh u3 fa).fresh u4 fa;obtain⟨kd,hkd⟩:∃x,x=gV (0,s) 1:=⟨_,rfl⟩;obtain⟨nn,hnn⟩:∃x,x=gV kd.2 1:=⟨_,rfl⟩;have hp:iI s=if kd.1<1∨2<kd.1∨2<nn.1 then(Pf.zero,5) else if aMb (pX nn.1 nn.2 []).2≠0 then(Pf.zero,5) else(⟨decide (kd.1=2),(pX nn.1 nn.2 []).1⟩,0):=by
  unfold iI;rw[hnn,hkd]
 have R4':rQ h4 a nn.2.1 nn.2.2:=by rw[hnn,hkd];exact R4
 have ev1:(Value.int .i64 ((gV (0,s) 1).1:Int))= .int .i64 (kd.1:Int):=by rw[hkd]
 have ev2:(Value.int .i64 ((gV ((gV (0,s) 1).2.1,(gV (0,s) 1).2.2) 1).1:Int))= .int .i64 (nn.1:Int):=by rw[hnn,hkd]
 rw[ev1,ev2];clear ev1 ev2 R4;have bad:∀{h5:PH},dD h h5->Bx h5 r1 (Value.cells (Pf.val false (.slice none 0 0))).toList->iI s=(Pf.zero,5)->dC PG (dT cC (pT r1 0) (Pf.val false (.slice none 0 0))) h5 λv27 h28=>dY (cG PG h28 (loadAt cC (pT r1 0))) λv29=>k (.tuple #[v29,(Value.int IntKind.i64 5)]) h28:=by
  intro h5 e5 B5 hz;refine cC.put (vs:=[.bool false,.slice none 0 0]) B5 (o:=0) rfl (by show 0+2≤2;decide) (by simp[fW]) λh6 B6 u6=>?_;have l6:cG PG h6 (loadAt cC (pT r1 0))=some (Pf.val false (.slice none 0 0)):=cC.agg B6 (by show 0+2≤2;decide);simp only[l6,cE,reduceIte,cZ,Nat.reduceAdd];rw[hz] at hk;exact hk h6 _ [] rfl (eM.nil (h:=h6) (e:=cB) (size:=5)).slR (λy hy=>by cases hy) (e5.fresh u6 f1)
 by_cases c1:kd.1<1
 ·have g1:((kd.1:Int)<1)=True:=eq_true (by omega);rw[if_pos (.inl c1)] at hp;simp only[g1,aHI,cE,reduceIte,cZ,Nat.reduceAdd];exact bad e4 Z4 hp
 have g1:((kd.1:Int)<1)=False:=eq_false (by omega);by_cases c2:2<kd.1
 ·have g2:((2:Int)<(kd.1:Int))=True:=eq_true (by omega);rw[if_pos (.inr (.inl c2))] at hp;simp only[g1,g2,aHI,cE,reduceIte,cZ,Nat.reduceAdd];exact bad e4 Z4 hp
 have g2:((2:Int)<(kd.1:Int))=False:=eq_false (by omega);by_cases c3:2<nn.1
 ·have g3:((2:Int)<(nn.1:Int))=True:=eq_true (by omega);rw[if_pos (.inr (.inr c3))] at hp;simp only[g1,g2,g3,aHI,cE,reduceIte,cZ,Nat.reduceAdd];exact bad e4 Z4 hp
 have g3:((2:Int)<(nn.1:Int))=False:=eq_false (by omega);rw[if_neg (by omega)] at hp;have eab:((kd.1:Int)==2)=decide (kd.1=2):=by rw[zLm];simp;omega
 simp only[g1,g2,g3,iG,eab,aL4,cE,reduceIte,cZ,Nat.reduceAdd];intro r32 hr32
 try rw[cW]
 have n132:r1≠r32:=Z4.apart hr32;have na32:r32≠a:=λe=>by have:=R4'.here;rw[←e,hr32] at this;cases this
 have k32:h r32=none:=e4.none hr32;refine cC.fill (vs:=[.bool (decide (kd.1=2)),.slice none 0 0]) hr32 rfl (by simp[fW]) λh5 B5 u5=>?_;have f32:eK h [r32]:=eK.one k32;refine⟨λvs h'=>∃(i:Nat) (l:List LV) (s':kX) (lv:Value) (F:List Nat),i≤nn.1∧vs=[pT r1 0,pT a 0,pT r32 0,.int .i64 (nn.1:Int),.int .i64 (i:Int)]∧rQ h' a s'.1 s'.2∧Bx h' r32 [.bool (decide (kd.1=2)),lv]∧eM h' cB 5 lv (l.map qT) F∧LfO h' l (a::r1::r32::F)∧eK h F∧a∉F∧r1∉F∧r32∉F∧Bx h' r1 (Value.cells (Pf.val false (.slice none 0 0))).toList∧dD h h'∧pX nn.1 nn.2 []=pX (nn.1-i) s' (l.map (·.1))∧l.length≤i,gQ nn.1 4,⟨0,[],nn.2,_,[],by omega,rfl,R4'.ext u5,B5,eM.nil,(λy hy=>by cases hy),(λb hb=>by cases hb),by simp,by simp,by simp,Z4.ext u5,e4.trans u5,rfl,by simp⟩,?_⟩;rintro ρ h' ⟨i,l,s',lv,F,hi,hvs,R',B',O',L',f',na,n1,n32,Z',e',hr,hll⟩;simp only[iH,jA,lN,and_true] at hvs;obtain⟨v0,v1,v2,v3,v4⟩:=hvs;unfold aKd;rw[v0,v1,v2,v3,v4];by_cases hlt:i<nn.1
 ·have g:((i:Int)<(nn.1:Int))=True:=eq_true (by omega);have gi:=qN (i:=i) (by omega);have ll:∀{h'':PH},Bx h'' r32 [.bool (decide (kd.1=2)),lv]->cG PG h'' (loadAt cN (pT r32 1))=some lv:=λB=>by rw[cN.load,B.cell];rfl
  simp only[g,cC.f1,fQ,ll B',cE,reduceIte,cZ,Nat.reduceAdd];refine aZy R' λh2 pv G R2 O2 fG u2=>?_;have B2:=B'.upd u2 (by simpa using na32);refine⟨ll B2,?_⟩;have OL2:=O'.upd u2 (λb hb=>by simp only[gB];rintro rfl;exact na hb);have L2:=L'.upd u2 (λb hb=>by simp at hb;simp[hb]);have Z2':=Z'.upd u2 (by simpa using na1);have e2:=e'.fresh u2 fa;simp only[aNS,cE,reduceIte,cZ,Nat.reduceAdd];intro r43 hr43;refine fP ?_
  try rw[cW]
  have u3:dD h2 (h2.set r43 (.cells ((rH s').1.cells pv).toArray cB)):=cQ.new hr43;have s1:fZ (h2.set r43 (.cells ((rH s').1.cells pv).toArray cB)) 5 (.slice (some ⟨r43,0,none⟩) 1 1) ([((rH s').1,pv)].map qT):=(eM.lit (qT.rows [((rH s').1,pv)]) dL (by simp) (by decide) (by simp[qT])).slR;generalize h2.set r43 (.cells ((rH s').1.cells pv).toArray cB)=h3 at *;refine jK cN.und cN.und cB.info cB.size cB.bytes cB.zero rfl (by decide) (OL2.ext u3) s1 (λr hr u hu=>by
   obtain⟨y,hy,rfl⟩:=mJ.1 hr;simp only[gB] at hy;subst hy;exact Lf.isC _ O2.slR.isc u hu) (by simp;omega) ?_
  intro v4' h4' F4 O4 u4' g4 _;rw[←pO] at O4;have R3:=R2.ext u3;have na4:a∉F4:=λhb=>by
   rcases g4 _ hb with hx|hx
   ·exact na hx
   ·have:=R3.here;rw[hx] at this;cases this
  have n14:r1∉F4:=λhb=>by
   rcases g4 _ hb with hx|hx
   ·exact n1 hx
   ·exact(Z2'.ext u3).known hx
  have n324:r32∉F4:=λhb=>by
   rcases g4 _ hb with hx|hx
   ·exact n32 hx
   ·exact(B2.ext u3).known hx
  have e3:=e2.trans u3;have f4:eK h F4:=f'.grow e3 g4
  -- the paths, the new one too
  have L3:LfO h3 (l++[((rH s').1,pv)]) (a::r1::r32::F):=λy hy=>by
   rcases kB.1 hy with hy|hy
   ·exact(L2.upd (K:=[]) u3 (λb hb=>by cases hb)) y hy
   ·simp only[gB] at hy;subst hy;refine⟨G,O2.ext u3,λb hb hb'=>?_⟩;have hb0:=fG b hb;simp only[gU] at hb';rcases hb' with rfl|rfl|rfl|hb'
    ·have:=R'.here;rw[hb0] at this;cases this
    ·exact Z'.known hb0
    ·exact B'.known hb0
    ·exact O'.known _ hb' hb0
  have L4:LfO h4' (l++[((rH s').1,pv)]) (a::r1::r32::F4):=by
   have:=L3.grow (B':=a::r1::r32::(F++F4)) (λb hb=>by
    simp only[gU,kB] at hb ⊢;rcases hb with hb|hb|hb|hb|hb
    ·exact .inl (.inl hb)
    ·exact .inl (.inr (.inl hb))
    ·exact .inl (.inr (.inr (.inl hb)))
    ·exact .inl (.inr (.inr (.inr hb)))
    ·rcases g4 b hb with hx|hx
     ·exact .inl (.inr (.inr (.inr hx)))
     ·exact .inr hx)
   exact(this.upd u4' (λb hb=>by simp[hb])).grow (λb hb=>.inl (by
    simp only[gU,kB] at hb ⊢;rcases hb with hb|hb|hb|hb
    ·exact .inl hb
    ·exact .inr (.inl hb)
    ·exact .inr (.inr (.inl hb))
    ·exact .inr (.inr (.inr (.inr hb)))))
  have B4':=(B2.ext u3).upd u4' n32;simp only[cC.f1,fQ,gi,cE,reduceIte,cZ,Nat.reduceAdd];refine cN.put B4' (o:=1) (by show 1<2;decide) O4.slR.isc λh5' B5' u5'=>?_;refine⟨⟨i+1,l++[((rH s').1,pv)],(rH s').2,v4',F4,by omega,rfl,(R3.upd u4' na).upd u5' (by simpa using na32.symm),B5',O4.upd u5' (λb hb=>by simp only[gB];rintro rfl;exact n324 hb),L4.upd u5' (λb hb=>by simp at hb;simp[hb]),f4,na4,n14,n324,((Z2'.ext u3).upd u4' n1).upd u5' (by simpa using n132),(e3.fresh u4' f').fresh u5' f32,?_,by simp;omega⟩,by simp[gQ,v4];omega⟩;rw[hr,show nn.1-i=(nn.1-(i+1))+1 by omega,pX];simp
 ·have g:((i:Int)<(nn.1:Int))=False:=eq_false (by omega);rw[show nn.1-i=0 by omega,pX] at hr;rw[hr] at hp;simp only at hp;simp only[g,cE,reduceIte,cZ,Nat.reduceAdd];refine aXW R' ?_;by_cases hz:aMb s'=0
  ·rw[if_neg (by simpa using hz)] at hp;have lf:cG PG h' (loadAt cC (pT r32 0))=some (Pf.val (decide (kd.1=2)) lv):=cC.agg B' (by show 0+2≤2;decide);simp only[hz,kW,lf,cE,reduceIte,cZ,Nat.reduceAdd];refine cC.put (vs:=[.bool (decide (kd.1=2)),lv]) Z' (o:=0) rfl (by show 0+2≤2;decide) (by
    have:=O'.slR.isc;simp[fW];exact this) λh6 B6 u6=>?_
   have l6:cG PG h6 (loadAt cC (pT r1 0))=some (Pf.val (decide (kd.1=2)) lv):=cC.agg B6 (by show 0+2≤2;decide);simp only[l6,cE,reduceIte,cZ,Nat.reduceAdd];rw[hp] at hk;exact hk h6 lv l rfl (O'.upd u6 (λb hb=>by simp only[gB];rintro rfl;exact n1 hb)).slR (L'.upd u6 (λb hb=>by simp at hb;simp[hb])).lfs (e'.fresh u6 f1)
  ·rw[if_pos hz] at hp;have q:(aMb s' !=0)=true:=by simp[hz]
   simp only[kW,q,aHI,cE,reduceIte,cZ,Nat.reduceAdd];exact bad e' Z' hp
structure Lf.Bd(f:Lf):Prop where
 m:f.path.length≤255
 k:f.p.k.length≤65535
 v:f.p.v.length≤65535
def aQG:∀(n:Nat) (st:kX) (acc:List Tx),(zG n st acc).1.length≤acc.length+n
 | 0,st,acc=>by simp[zG]
 | n+1,st,acc=>by
  rw[zG];split
  ·have:=aQG n (jY st 32).2 (acc++[(jY st 32).1]);rw[jM] at this;simp at this ⊢;omega
  ·simp only;omega
def aR0(st:kX):(mW st).1.length≤65535:=by
 have h1:=aJW (gV st 2).2 (gV st 2).1;have h2:=aH6 st 2;unfold mW;omega
def aVn(st:kX):(rH st).1.Bd:=by
 have h1:=aQG (gV (mW (mW (kY (kY st).2).2).2).2 1).1 (gV (mW (mW (kY (kY st).2).2).2).2 1).2 [];have h2:=aH6 (mW (mW (kY (kY st).2).2).2).2 1;exact⟨by
  show(zG _ _ []).1.length≤255;simp only[zLN] at h1;omega,aR0 _,aR0 _⟩
def aOa:∀(n:Nat) (st:kX) (acc:List Lf),(∀f∈acc,f.Bd)->∀f∈(pX n st acc).1,f.Bd
 | 0,st,acc,h=>h
 | n+1,st,acc,h=>by
  rw[pX];refine aOa n _ _ λf hf=>?_;rcases kB.1 hf with hf|hf
  ·exact h f hf
  ·simp only[gB] at hf;subst hf;exact aVn st
def aL1(s:Tx):∀f∈(iI s).1.lv,f.Bd:=by
 unfold iI;split
 ·intro f hf;cases hf
 ·split
  ·intro f hf;cases hf
  ·exact aOa _ _ _ (λf hf=>by cases hf)
def aNl:∀(n:Nat) (st:kX) (acc:List Lf),(pX n st acc).1.length=acc.length+n
 | 0,st,acc=>rfl
 | n+1,st,acc=>by rw[pX,aNl n];simp;omega
def aKJ(s:Tx):(iI s).1.lv.length≤2:=by
 unfold iI;split
 ·decide
 ·split
  ·decide
  ·simp only[aNl];simp;omega
def Pr.eql{h:PH}{x y:Operand}(p q:Pr):cG PG h (jT .eql cM x y p.val q.val)=some (.bool (p==q)):=by
 have e:cG PG h (Op.equalIn (9999+1) cM (.agg #[.string (tx p.k),.string (tx p.v)]) (.agg #[.string (tx q.k),.string (tx q.v)]))=some ((tx p.k==tx q.k)&&((tx p.v==tx q.v)&&true)):=by
  refine(aB9 cM.und (by kernel_rfl) (λf=>match f.offset with|0=>tx p.k==tx q.k|_=>tx p.v==tx q.v) ?_);intro f hf;simp only[gU,lH,or_false] at hf;rcases hf with rfl|rfl
  ·exact⟨by decide,_,_,jX bT.und rfl rfl,jX bT.und rfl rfl,aF1 bT.und⟩
  ·exact⟨by decide,_,_,jX bT.und rfl rfl,jX bT.und rfl rfl,aF1 bT.und⟩
 have:=aMm (x:=x) (y:=y) (t:=cM) (P:=PG) (h:=h) (by kernel_rfl) e;rw[show p.val= .agg #[.string (tx p.k),.string (tx p.v)] from rfl,show q.val= .agg #[.string (tx q.k),.string (tx q.v)] from rfl,this];congr 2;rw[aE4,aE4,zLm];obtain⟨a,b⟩:=p;obtain⟨c,d⟩:=q;simp only[Bool.and_true,yH,decide_eq_true_eq,beq_iff_eq,Pr.mk.injEq];exact⟨λ⟨x,y⟩=>⟨aMe x,aMe y⟩,λ⟨x,y⟩=>⟨by rw[x],by rw[y]⟩⟩
def fZ.lff{h:PH}{v:Value}{l:List LV}(S:fZ h 5 v (l.map qT)){j:Nat}{y:LV}(hy:l[j]? =some y):
  ∃b o,dH PG (indexAt cN v (.int .i64 (j:Int)))=some (pT b o)∧(∀{h':PH},dD h h'->cG PG h' (loadAt bR (pT b o))=some (.int .i64 y.1.i)∧cG PG h' (loadAt bR (pT b (o+1)))=some (.int .i64 y.1.n)∧cG PG h' (loadAt bT (pT b (o+2)))=some (.string (tx y.1.p.k))∧cG PG h' (loadAt cM (pT b (o+2)))=some y.1.p.val):=by
 obtain⟨b,o,cs,e',fr,h1,hb,hle,hex⟩:=S.at cN.und cB.info cB.size (k:=.i64) (j:=(j:Int)) (r:=qT y) (by omega) (by rw[wA,rA,hy];rfl);have hd:∀i n,i+n≤5->(cs.extract (o+i) (o+i+n)).toList=((qT y).drop i).take n:=λi n hi=>by
  rw[←hex];simp only[zLD,zLx,aJa,zLy,aGf,aMS];congr 1;omega
 have hc:∀i,i<5->cs[o+i]? =(qT y)[i]?:=λi hi=>by
  have:=congrArg (λl:List Value=>l[0]?) (hd i 1 (by omega));simp only[zLD,zLx,aJa,aJ9,aOF,Nat.add_zero] at this;simpa using this
 refine⟨b,o,h1,fun {h'} u=>?_⟩;have hb':=u.get hb;refine⟨?_,?_,?_,?_⟩
 ·rw[bR.load];unfold dB;simp only[hb'];exact hc 0 (by decide)
 ·rw[bR.load];unfold dB;simp only[hb'];exact hc 1 (by decide)
 ·rw[bT.load];unfold dB;simp only[hb'];exact hc 2 (by decide)
 ·rw[cM.loadAgg hb' (by omega)];congr 2;exact zLw (hd 2 2 (by decide))
def aOf{h:PH}{root:Tx}{v:Value}{l:List LV}(hK:oP h)(S:fZ h 5 v (l.map qT))(HS:LfS h l)(hl:l.length≤1000000)(hb:∀y∈l,y.1.Bd){k:cD}(hk:∀h',dD h h'->k (.bool (pH root (l.map (·.1)))) h'):
  aT PG aFN #[.string (tx root),v] h k:=by
 apply aII.call;unfold aII;intro r1 hr1
 try rw[cW]
 have u1:dD h (h.set r1 (.cells (Value.cells (.string (tx root))) bT)):=cQ.new hr1;have B1:Bx (h.set r1 (.cells (Value.cells (.string (tx root))) bT)) r1 [.string (tx root)]:=Bx.new;generalize h.set r1 (.cells (Value.cells (.string (tx root))) bT)=h1 at *
 try simp only[oR,cE,reduceIte,cZ,Nat.reduceAdd]
 refine aSi (f:=λy=>!(qU y.1==some root)) (S.ext u1) hl (λy hy h' u k' hk'=>?_) λh3 u3=>?_
 ·show aT PG aGY #[y.1.val y.2,pT r1 0] h' k';apply aGJ.call;unfold aGJ;intro r hr
  try rw[cW]
  have v1:dD h' (h'.set r (.cells (Value.cells (y.1.val y.2)) cB)):=cQ.new hr;have C1:Bx (h'.set r (.cells (Value.cells (y.1.val y.2)) cB)) r (y.1.cells y.2):=Bx.new;generalize h'.set r (.cells (Value.cells (y.1.val y.2)) cB)=h'' at *;have lf:cG PG h'' (loadAt cB (pT r 0))=some (y.1.val y.2):=cB.agg C1 (by show 0+5≤5;decide);have lr:∀{h4:PH},dD h'' h4->cG PG h4 (loadAt bT (pT r1 0))=some (.string (tx root)):=λw=>by rw[bT.load,(((B1.ext u).ext v1).ext w).cell];rfl
  have bd:=hb y hy;have b1:=bd.m;have b2:=bd.k;have b3:=bd.v;simp only[lf,cE,reduceIte,cZ,Nat.reduceAdd];refine aWi ((HS y hy).ext ((u1.trans u).trans v1)) (by omega) (by omega) (hK.ext ((u1.trans u).trans v1)) (λt h4 e4 _ u4=>?_) (λe4 h4 u4=>?_)
  ·have:=hk' h4 (v1.trans u4);have ed:(!(qU y.1==some root))=!decide (t=root):=by rw[e4,zLm];simp
   rw[ed] at this;simp only[lr u4,aGC,cE,reduceIte,cZ,Nat.reduceAdd];exact this
  ·have:=hk' h4 (v1.trans u4);have ed:(!(qU y.1==some root))=true:=by rw[e4];rfl
   rw[ed] at this;simp only[cE,reduceIte,cZ,Nat.reduceAdd];exact this
 ·have:=hk h3 (u1.trans u3);have e:pH root (l.map (·.1))=!(l.any λy=>!(qU y.1==some root)):=by
   unfold pH;rw[List.all_map,zLm];simp[aE6,List.any_eq_true]
  rw[e] at this;generalize (l.any λy=>!(qU y.1==some root))=b at this ⊢;cases b<;>(simp only[cE,reduceIte,cZ,Nat.reduceAdd];exact this)
def aT0{h:PH}{root s key v:Tx}(hK:oP h){k:cD}(hk:∀h',dD h h'->k (.bool (aEG root s key v)) h'):aT PG aHk #[.string (tx root),.string (tx s),.string (tx key),.string (tx v)] h k:=by
 apply aKE.call;unfold aKE;have hbd:=aL1 s;unfold aEG at hk;refine aRT λh1 lv l el S HS u1=>?_;have hl2:l.length≤2:=by have:=aKJ s;rw[←el] at this;simpa using this
 rw[←el] at hk hbd;generalize iI s=P at *;obtain⟨⟨ab,_⟩,e⟩:=P;simp only at hk hbd;simp only[cE,reduceIte,cZ,Nat.reduceAdd];intro r5 hr5
 try rw[cW]
 refine cC.fill (vs:=[.bool ab,lv]) hr5 rfl (by have:=S.isc;simp[fW];exact this) λh2 B2 u2=>?_;have e2:=u1.trans u2;have la:cG PG h2 (loadAt gT (pT r5 0))=some (.bool ab):=by rw[gT.load,B2.cell];rfl
 have ll:cG PG h2 (loadAt cN (pT r5 1))=some lv:=by rw[cN.load,B2.cell];rfl
 have ln:=aJY S;by_cases c0:e=0
 case neg=>
  have q:(e==0)=false:=by simpa using c0
  simp only[q,sJ] at hk;simp only[iG,q,cE,reduceIte,cZ,Nat.reduceAdd];exact hk _ e2
 subst c0;cases ab with
 | true=>
  simp only[beq_self_eq_true,Bool.not_true,aDL,sJ,zLp] at hk;simp only[iG,cC.f0,la,cE,reduceIte,cZ,Nat.reduceAdd];exact hk _ e2
 | false=>
  match l,hl2 with
  | [],_=>
   have q:(((([]:List LV).length:Nat):Int)==1)=false:=rfl;simp only[jA,aDL,sJ] at hk;simp only[iG,cC.f0,cC.f1,fQ,la,ll,ln,q,cE,reduceIte,cZ,Nat.reduceAdd];exact hk _ e2
  | [a,b],_=>
   have q:((([a,b].length:Nat):Int)==1)=false:=rfl;simp only[iH,jA,aDL,sJ] at hk;simp only[iG,cC.f0,cC.f1,fQ,la,ll,ln,q,cE,reduceIte,cZ,Nat.reduceAdd];exact hk _ e2
  | [a],_=>
   have q:((([a].length:Nat):Int)==1)=true:=rfl;obtain⟨b,o,i1,i2⟩:=S.lff (j:=0) (y:=a) rfl;rw[show((0:Nat):Int)=0 from rfl] at i1;obtain⟨-,-,-,i3⟩:=i2 u2;have pb:dH PG (build cM #[(0,.string (tx key)),(1,.string (tx v))])=some (Pr.val ⟨key,v⟩):=by kernel_rfl
   simp only[iH,jA,beq_self_eq_true,zLq,zLp] at hk;simp only[iG,cC.f0,cC.f1,cB.f2,fQ,la,ll,ln,q,i1,i3,pb,Pr.eql,cE,reduceIte,cZ,Nat.reduceAdd];cases hq:(a.1.p==(⟨key,v⟩:Pr)) with
   | false=>
    rw[hq] at hk;simp only[sJ] at hk;simp only[cE,reduceIte,cZ,Nat.reduceAdd];exact hk _ e2
   | true=>
    rw[hq] at hk;simp only[zLp] at hk;simp only[cC.f1,fQ,ll,cE,reduceIte,cZ,Nat.reduceAdd];refine aOf (l:=[a]) (hK.ext e2) (S.ext u2) (HS.ext u2) (by simp) (λy hy=>hbd y.1 (zL8 hy)) λh3 u3=>?_
    try simp only[cE,reduceIte,cZ,Nat.reduceAdd]
    exact hk h3 (e2.trans u3)
def aVf{h:PH}{root s key:Tx}(hK:oP h){k:cD}(hk:∀h',dD h h'->k (.bool (aE5 root s key)) h'):aT PG aH2 #[.string (tx root),.string (tx s),.string (tx key)] h k:=by
 apply aD7.call;unfold aD7;have hbd:=aL1 s;unfold aE5 at hk;refine aRT λh1 lv l el S HS u1=>?_;have hl2:l.length≤2:=by have:=aKJ s;rw[←el] at this;simpa using this
 rw[←el] at hk hbd;generalize iI s=P at *;obtain⟨⟨ab,_⟩,e⟩:=P;simp only at hk hbd;simp only[cE,reduceIte,cZ,Nat.reduceAdd];intro r5 hr5
 try rw[cW]
 refine cC.fill (vs:=[.bool ab,lv]) hr5 rfl (by have:=S.isc;simp[fW];exact this) λh2 B2 u2=>?_;have e2:=u1.trans u2;have la:cG PG h2 (loadAt gT (pT r5 0))=some (.bool ab):=by rw[gT.load,B2.cell];rfl
 have ll:∀{h':PH},dD h2 h'->cG PG h' (loadAt cN (pT r5 1))=some lv:=λu=>by rw[cN.load,(B2.ext u).cell];rfl
 have ln:=aJY S;have lk:dH PG (Builtin.len_ #[bT] bR #[.string (tx key)])=some (.int .i64 (key.length:Int)):=by rw[lS bT.und,iF]
 by_cases c0:e=0
 case neg=>
  have q:(e==0)=false:=by simpa using c0
  have q':(e !=0)=true:=by simpa using c0
  simp only[q,sJ] at hk;simp only[kW,q',cE,reduceIte,cZ,Nat.reduceAdd];exact hk _ e2
 subst c0;cases ab with
 | false=>
  simp only[aDL,sJ] at hk;simp only[kW,cC.f0,la,cE,reduceIte,cZ,Nat.reduceAdd];exact hk _ e2
 | true=>
  by_cases c1:key.length<1
  ·have g1:((key.length:Int)<1)=True:=eq_true (by omega);have d1:decide (1≤key.length)=false:=decide_eq_false (by omega);simp only[d1,aDL,sJ] at hk;simp only[kW,cC.f0,la,lk,g1,cE,reduceIte,cZ,Nat.reduceAdd];exact hk _ e2
  have g1:((key.length:Int)<1)=False:=eq_false (by omega);have d1:decide (1≤key.length)=true:=decide_eq_true (by omega);by_cases c2:16<key.length
  ·have g2:((16:Int)<(key.length:Int))=True:=eq_true (by omega);have d2:decide (key.length≤16)=false:=decide_eq_false (by omega);simp only[d2,aDL,sJ] at hk;simp only[kW,cC.f0,la,lk,g1,g2,cE,reduceIte,cZ,Nat.reduceAdd];exact hk _ e2
  have g2:((16:Int)<(key.length:Int))=False:=eq_false (by omega);have d2:decide (key.length≤16)=true:=decide_eq_true (by omega);simp only[d1,d2,beq_self_eq_true,zLp,Bool.and_self] at hk;simp only[kW,cC.f0,cC.f1,fQ,la,lk,ll cQ.refl,g1,g2,cE,reduceIte,cZ,Nat.reduceAdd];refine aOf (l:=l) (hK.ext e2) (S.ext u2) (HS.ext u2) (by omega) (λy hy=>hbd y.1 (zL8 hy)) λh3 u3=>?_;have e3:=e2.trans u3;cases hc:pH root (l.map (·.1)) with
  | false=>
   rw[hc] at hk;simp only[sJ] at hk;simp only[cE,reduceIte,cZ,Nat.reduceAdd];exact hk _ e3
  | true=>
   rw[hc] at hk;simp only[zLp] at hk
   match l,hl2 with
   | [],_=>
    have q:(((([]:List LV).length:Nat):Int)==0)=true:=rfl;simp only[jA] at hk;simp only[iG,cC.f1,fQ,ll u3,ln,q,cE,reduceIte,cZ,Nat.reduceAdd];refine aOI (l:=[]) (by simp) (hK.ext e3) (eM.nil (e:=cM) (size:=2)).slR (λp hp=>by cases hp) λh4 u4=>?_;have:=hk h4 (e3.trans u4);rw[show(root==oD [])=decide (root=oD []) by rw[zLm];simp] at this;simp only[aF5,cE,reduceIte,cZ,Nat.reduceAdd];exact this
   | [a],_=>
    have q0:((([a].length:Nat):Int)==0)=false:=rfl;have q1:((([a].length:Nat):Int)==1)=true:=rfl;obtain⟨b,o,i1,i2⟩:=S.lff (j:=0) (y:=a) rfl;rw[show((0:Nat):Int)=0 from rfl] at i1;obtain⟨x1,x2,x3,-⟩:=i2 (u2.trans u3);have hk:=hk h3 e3;simp only[iH,jA] at hk;simp only[iG,cC.f1,cB.f0,cB.f1,cB.f2,cM.f0,fQ,ll u3,ln,q0,q1,i1,x1,cE,reduceIte,cZ,Nat.reduceAdd];cases hi:a.1.i==0 with
    | true=>
     rw[hi] at hk;by_cases c3:key<a.1.p.k
     ·have d3:=decide_eq_true c3;rw[d3] at hk;simp only[Bool.true_or,Bool.and_self] at hk;simp only[i1,cB.f2,cM.f0,x3,yM,d3,cE,reduceIte,cZ,Nat.reduceAdd];exact hk
     ·have d3:=decide_eq_false c3;rw[d3] at hk;simp only[aDL,aKk] at hk;simp only[i1,cB.f0,cB.f1,cB.f2,cM.f0,x1,x2,x3,yM,d3,iG,cE,reduceIte,cZ,Nat.reduceAdd];cases hj:a.1.i==IntKind.i64.wrap (a.1.n-1) with
      | true=>
       rw[hj] at hk;simp only[zLp] at hk;simp only[i1,cB.f2,cM.f0,x3,yM,cE,reduceIte,cZ,Nat.reduceAdd];exact hk
      | false=>
       rw[hj] at hk;simp only[sJ] at hk;simp only[cE,reduceIte,cZ,Nat.reduceAdd];exact hk
    | false=>
     rw[hi] at hk;simp only[sJ,aKk] at hk;simp only[i1,cB.f0,cB.f1,x1,x2,iG,cE,reduceIte,cZ,Nat.reduceAdd];cases hj:a.1.i==IntKind.i64.wrap (a.1.n-1) with
     | true=>
      rw[hj] at hk;simp only[zLp] at hk;simp only[i1,cB.f2,cM.f0,x3,yM,cE,reduceIte,cZ,Nat.reduceAdd];exact hk
     | false=>
      rw[hj] at hk;simp only[sJ] at hk;simp only[cE,reduceIte,cZ,Nat.reduceAdd];exact hk
   | [a,c],_=>
    have q0:((([a,c].length:Nat):Int)==0)=false:=rfl;have q1:((([a,c].length:Nat):Int)==1)=false:=rfl;obtain⟨b,o,i1,i2⟩:=S.lff (j:=0) (y:=a) rfl;rw[show((0:Nat):Int)=0 from rfl] at i1;obtain⟨x1,x2,x3,-⟩:=i2 (u2.trans u3);obtain⟨b',o',j1,j2⟩:=S.lff (j:=1) (y:=c) rfl;rw[show((1:Nat):Int)=1 from rfl] at j1;obtain⟨y1,y2,y3,-⟩:=j2 (u2.trans u3);have hk:=hk h3 e3;simp only[iH,jA] at hk;simp only[iG,cC.f1,cB.f0,cB.f1,cB.f2,cM.f0,fQ,ll u3,ln,q0,q1,i1,x2,j1,y2,cE,reduceIte,cZ,Nat.reduceAdd];cases h1:a.1.n==c.1.n with
    | false=>
     rw[h1] at hk;simp only[sJ] at hk;simp only[cE,reduceIte,cZ,Nat.reduceAdd];exact hk
    | true=>
     rw[h1] at hk;simp only[zLp] at hk;simp only[i1,j1,cB.f0,x1,y1,iG,cE,reduceIte,cZ,Nat.reduceAdd];cases h2':IntKind.i64.wrap (a.1.i+1)==c.1.i with
     | false=>
      rw[h2'] at hk;simp only[sJ] at hk;simp only[cE,reduceIte,cZ,Nat.reduceAdd];exact hk
     | true=>
      rw[h2'] at hk;simp only[zLp] at hk;simp only[i1,j1,cB.f2,cM.f0,x3,y3,yM,cE,reduceIte,cZ,Nat.reduceAdd];cases h3':decide (a.1.p.k<key) with
      | false=>
       rw[h3'] at hk;simp only[sJ] at hk;simp only[cE,reduceIte,cZ,Nat.reduceAdd];exact hk
      | true=>
       rw[h3'] at hk;simp only[zLp] at hk;simp only[i1,j1,cB.f2,cM.f0,x3,y3,yM,cE,reduceIte,cZ,Nat.reduceAdd];exact hk
def aZp(x:Int):dH PG (convert bR oA (.int .i64 x))=some (.int .u64 (IntKind.u64.wrap x)):=by kernel_rfl
def aY4(x:Int):dH PG (convert oA bR (.int .u64 x))=some (.int .i64 (IntKind.i64.wrap x)):=by kernel_rfl
def bAs{t:TypeId}{n:Nat}:dH PG (binOp .shr t (.int .u64 (n:Int)) (.int .u64 1))=some (.int .u64 ((n/2:Nat):Int)):=by
 rw[aJn (by decide)];congr 2;show(n:Int).fdiv (2^1)=_;rw[Int.fdiv_eq_ediv_of_nonneg _ (by decide)];have:(2:Int)^1=2:=by rfl
 omega
def fnF:Value:=.func (.func zR) #[] #[]
def aSt{h:PH}{p:Pr}{key:Tx}{k:cD}(hk:∀h',dD h h'->k (.int .i64 (if p.k<key then -1 else if key<p.k then 1 else 0)) h'):aT PG zR #[p.val,.string (tx key)] h k:=by
 apply aHn.call;unfold aHn;intro r1 hr1
 try rw[cW]
 have u1:dD h (h.set r1 (.cells (Value.cells p.val) cM)):=cQ.new hr1;have B1:Bx (h.set r1 (.cells (Value.cells p.val) cM)) r1 p.cells:=Bx.new;generalize h.set r1 (.cells (Value.cells p.val) cM)=h1 at *;have lk:cG PG h1 (loadAt bT (pT r1 0))=some (.string (tx p.k)):=by rw[bT.load,B1.cell];rfl
 simp only[cM.f0,lk,cE,reduceIte,cZ,Nat.reduceAdd];refine aO1 ?_;exact hk _ u1
def aRe{h:PH}{v:Value}{l:List Pr}(S:fZ h 2 v (l.map Pr.cells))(hs:sZ l)(hl:l.length≤1000000)(key:Tx){k:cD}(hk:∀h',dD h h'->k (.tuple #[.int .i64 ((hQ l key:Nat):Int),.bool (iJ l key).isSome]) h'):
  aT PG aGU #[v,.string (tx key)] h k:=by
 apply aJB.call;unfold aJB;apply kN.call;unfold kN;have lv:=S.len (t':=bR) cJ.und;rw[iV] at lv;have hple:=aJh l key;simp only[lv,cE,reduceIte,cZ,Nat.reduceAdd];refine⟨λvs h'=>∃i j:Nat,i≤hQ l key∧hQ l key≤j∧j≤l.length∧vs=[v,.string (tx key),fnF,.int .i64 (l.length:Int),.int .i64 (i:Int),.int .i64 (j:Int)]∧dD h h',λvs _=>match vs with|[_,_,_,_,.int _ i,.int _ j]=>(j-i).toNat|_=>0,⟨0,l.length,by omega,hple,by omega,rfl,cQ.refl⟩,?_⟩;rintro ρ h' ⟨i,j,h1,h2,h3,hvs,u⟩;simp only[iH,jA,lN,and_true] at hvs;obtain⟨v0,v1,v2,v3,v4,v5⟩:=hvs;unfold oU;rw[v0,v1,v2,v3,v4,v5];by_cases hlt:i<j
 ·have g:((i:Int)<(j:Int))=True:=eq_true (by omega);have w1:IntKind.i64.wrap ((i:Int)+(j:Int))=((i+j:Nat):Int):=by rw[fH (by omega) (by omega)];omega
  have w2:IntKind.u64.wrap ((i+j:Nat):Int)=((i+j:Nat):Int):=gO (by omega) (by omega);have w3:IntKind.i64.wrap (((i+j)/2:Nat):Int)=(((i+j)/2:Nat):Int):=fH (by omega) (by omega);obtain⟨m,hm⟩:∃m,m=(i+j)/2:=⟨_,rfl⟩;have hmj:m<j:=by omega
  have him:i≤m:=by omega
  have w4:=qN (i:=m) (by omega);rw[←hm] at w3;obtain⟨p,hp⟩:∃p,l[m]? =some p:=⟨_,lJ (by omega)⟩;obtain⟨b,o,a1,-,-,a2⟩:=(S.ext u).pair hp;have hpl:=aGZ (k:=key) hs hp;simp only[g,w1,aZp,w2,bAs,←hm,aY4,w3,a1,a2,cE,reduceIte,cZ,Nat.reduceAdd];show aT PG zR #[p.val,.string (tx key)] h' _;refine aSt λh4 u4=>?_;unfold lU;by_cases c:p.k<key
  ·have gc:((-1:Int)<0)=True:=eq_true (by decide);have:=hpl.2 c;rw[if_pos c];simp only[gc,w4,cE,reduceIte,cZ,Nat.reduceAdd];exact⟨⟨m+1,j,by omega,h2,h3,rfl,u.trans u4⟩,by simp[v4,v5];omega⟩
  ·have hpn:¬m<hQ l key:=λx=>c (hpl.1 x);rw[if_neg c];have gc:((if key<p.k then(1:Int) else 0)<0)=False:=eq_false (by split<;>decide);simp only[gc,cE,reduceIte,cZ,Nat.reduceAdd];exact⟨⟨i,m,h1,by omega,by omega,rfl,u.trans u4⟩,by simp[v4,v5];omega⟩
 ·have g:((i:Int)<(j:Int))=False:=eq_false (by omega);have ei:i=hQ l key:=by omega
  by_cases hil:i<l.length
  ·have g2:((i:Int)<(l.length:Int))=True:=eq_true (by omega);obtain⟨p,hp⟩:∃p,l[i]? =some p:=⟨_,lJ hil⟩;obtain⟨b,o,a1,-,-,a2⟩:=(S.ext u).pair hp;have hpl:=aGZ (k:=key) hs hp;have hnl:¬p.k<key:=λc=>by have:=hpl.2 c;omega
   simp only[g,g2,a1,a2,cE,reduceIte,cZ,Nat.reduceAdd];show aT PG zR #[p.val,.string (tx key)] h' _;refine aSt λh4 u4=>?_;rw[if_neg hnl];have hk:=hk h4 (u.trans u4);rw[←ei] at hk;by_cases c:key<p.k
   ·have hno:(iJ l key).isSome=false:=by
     rw[Option.isSome_eq_false_iff,Option.isNone_iff_eq_none,aFS];intro q hq e;obtain⟨x,hx⟩:=List.mem_iff_getElem?.1 hq;have hqk:¬q.k<key:=by rw[e];exact zL1 _
     have:¬x<hQ l key:=λy=>hqk ((aGZ hs hx).1 y);rcases Nat.lt_or_ge i x with hix|hix
     ·have:=hs.lt hp hx hix;rw[e] at this;exact zL1 _ (List.lt_trans c this)
     ·have:x=i:=by omega
      rw[this,hp] at hx;cases hx;rw[e] at c;exact zL1 _ c
    have q1:((1:Int)==0)=false:=by decide
    rw[hno] at hk;rw[if_pos c];simp only[iG,q1,cE,reduceIte,cZ,Nat.reduceAdd];exact hk
   ·have e:p.k=key:=by
     rcases aIB p.k key with h|h|h
     ·exact absurd h hnl
     ·exact h
     ·exact absurd h c
    have hyes:(iJ l key).isSome=true:=by rw[(aBj hs).2 ⟨tA hp,e⟩];rfl
    have q1:((0:Int)==0)=true:=by decide
    rw[hyes] at hk;rw[if_neg c];simp only[iG,q1,cE,reduceIte,cZ,Nat.reduceAdd];exact hk
  ·have g2:((i:Int)<(l.length:Int))=False:=eq_false (by omega);have hno:(iJ l key).isSome=false:=by
    rw[Option.isSome_eq_false_iff,Option.isNone_iff_eq_none,aFS];intro q hq e;obtain⟨x,hx⟩:=List.mem_iff_getElem?.1 hq;have hxl:=(zLA.1 hx).1;have:=(aGZ (k:=key) hs hx).1 (by omega);rw[e] at this;exact zL1 _ this
   have hk:=hk h' u;rw[←ei,hno] at hk;simp only[g,g2,cE,reduceIte,cZ,Nat.reduceAdd];exact hk
def xA(j:Nat):List Value:=[.int .i64 (j:Int)]
def xA.rows(l:List Nat):Rows 1 (l.map xA):=λr hr=>by obtain⟨m,_,rfl⟩:=mJ.1 hr;rfl
def fZ.ic{h:PH}{v:Value}{l:List Nat}(S:fZ h 1 v (l.map xA)){j:Nat}{x:Nat}(hx:l[j]? =some x):
  ∃a,dH PG (indexAt nQ v (.int .i64 (j:Int)))=some (.pointer (some a))∧cG PG h (loadAt bR (.pointer (some a)))=some (.int .i64 (x:Int)):=
 S.loadCell nQ.und bR.info bR.size bR.und rfl (k:=.i64) (j:=(j:Int)) (x:=.int .i64 (x:Int)) (by omega) (by rw[rA,wA,hx];rfl)
def aZl{h:PH}{v:Value}{l:List Nat}(S:fZ h 1 v (l.map xA)):dH PG (Builtin.len_ #[nQ] bR #[v])=some (.int .i64 l.length):=by
 have:=S.len (t':=bR) nQ.und;rw[iV] at this;exact this
def LfN(h0 h:PH)(l:List LV)(B:List Nat):Prop:=∀y∈l,∃G,eM h bT 1 y.2 (y.1.path.map jJ) G∧eK h0 G∧∀b∈G,b∉B
def LfN.upd{h0 h h':PH}{l:List LV}{B K:List Nat}(H:LfN h0 h l B)(u:cQ K h h')(hK:∀b∈K,b∈B∨h0 b≠none):LfN h0 h' l B:=λy hy=>by
 obtain⟨G,O,f,hG⟩:=H y hy;refine⟨G,O.upd u (λb hb hk=>?_),f,hG⟩;rcases hK b hk with hx|hx
 ·exact hG b hb hx
 ·exact hx (f b hb)
def LfN.grow{h0 h:PH}{l:List LV}{B B':List Nat}(H:LfN h0 h l B)(hB:∀b∈B',b∈B∨h b=none):LfN h0 h l B':=λy hy=>by
 obtain⟨G,O,f,hG⟩:=H y hy;exact⟨G,O,f,λb hb hb'=>by
  rcases hB b hb' with hx|hx
  ·exact hG b hb hx
  ·exact O.known b hb hx⟩
def LfN.lfs{h0 h:PH}{l:List LV}{B:List Nat}(H:LfN h0 h l B):LfS h l:=λy hy=>by
 obtain⟨G,O,-⟩:=H y hy;exact O.slR
def aXK(x y:Int)(p:Pr)(b:Option Addr)(n c:Nat):dH PG (build cB #[(0,.int .i64 x),(1,.int .i64 y),(2,p.val),(3,.slice b n c)])=some (Lf.val ⟨x,y,p,[]⟩ (.slice b n c)):=by kernel_rfl
structure oB(h0 h:PH)(v:Value)(fs:List Lf):Prop where
 here:∃(l:List LV) (F:List Nat),l.map (·.1)=fs∧eM h cB 5 v (l.map qT) F∧eK h0 F∧LfN h0 h l F
def oB.upd{h0 h h':PH}{v:Value}{fs:List Lf}{K:List Nat}(H:oB h0 h v fs)(u:cQ K h h')(hK:∀b∈K,h0 b≠none):oB h0 h' v fs:=by
 obtain⟨l,F,e,O,f,L⟩:=H.here;exact⟨l,F,e,O.upd u (λb hb hk=>hK b hk (f b hb)),f,L.upd u (λb hb=>.inr (hK b hb))⟩
def oB.isc{h0 h:PH}{v:Value}{fs:List Lf}(H:oB h0 h v fs):fW v=true:=by
 obtain⟨l,F,e,O,f,L⟩:=H.here;exact O.slR.isc
def oB.nil{h0 h:PH}:oB h0 h (.slice none 0 0) []:=⟨[],[],rfl,eM.nil,(λb hb=>by cases hb),(λy hy=>by cases hy)⟩
def aQS{h0 h:PH}{v av:Value}{l:List Pr}{js:List Nat}(u0:dD h0 h)(hK:oP h)(S:fZ h 2 v (l.map Pr.cells))(hs:aAv l)(hl:l.length≤4096)(A:fZ h 1 av (js.map xA))(hj:∀j∈js,j<l.length)(h2:js.length≤2){k:cD}
  (hk:∀h' v',oB h0 h' v' (js.map (kQ l))->dD h h'->k v' h'):aT PG vA #[v,av] h k:=by
 apply aCi.call;unfold aCi;have la:=aZl A;have lv:=S.len (t':=bR) cJ.und;rw[iV] at lv;simp only[la,cE,reduceIte,cZ,Nat.reduceAdd];refine⟨λvs h'=>∃(i:Nat) (o:Value) (r:List LV) (F:List Nat),i≤js.length∧vs=[v,o,av,.int .i64 (js.length:Int),.int .i64 (i:Int)]∧dD h h'∧r.map (·.1)=(js.take i).map (kQ l)∧eM h' cB 5 o (r.map qT) F∧eK h F∧LfN h h' r F∧r.length≤i,gQ js.length 4,⟨0,_,[],[],by omega,rfl,cQ.refl,rfl,eM.nil,(λb hb=>by cases hb),(λy hy=>by cases hy),by simp⟩,?_⟩;rintro ρ h' ⟨i,o,r,F,hi,hvs,u,hr,O,f,L,hrl⟩;simp only[iH,jA,lN,and_true] at hvs;obtain⟨v0,v1,v2,v3,v4⟩:=hvs;unfold aKK;rw[v0,v1,v2,v3,v4];by_cases hlt:i<js.length
 ·have g:((i:Int)<(js.length:Int))=True:=eq_true (by omega);have gi:=qN (i:=i) (by omega);obtain⟨j,hjj⟩:∃j,js[i]? =some j:=⟨_,lJ hlt⟩;have hjl:=hj j (tA hjj);obtain⟨p,hp⟩:∃p,l[j]? =some p:=⟨_,lJ hjl⟩;obtain⟨aa,a1,a2⟩:=(A.ext u).ic hjj;obtain⟨b,q,b1,-⟩:=S.pair hp;have b2:∀{h'':PH},dD h h''->cG PG h'' (loadAt cM (pT b q))=some p.val:=λw=>by
   obtain⟨b',q',c1,-,-,c2⟩:=(S.ext w).pair hp;rw[b1] at c1;cases c1;exact c2
  simp only[g,a1,a2,lv,b1,b2 u,cE,reduceIte,cZ,Nat.reduceAdd];refine aYd hjl hl (hK.ext u) (S.ext u) hs λpv h3 G O3 fG u3=>?_;have e3:=u.trans u3;obtain⟨pa,pc,epv,-⟩:=O3.slR.here;refine⟨b2 e3,?_⟩;have hb:dH PG (build cB #[(0,.int .i64 (j:Int)),(1,.int .i64 (l.length:Int)),(2,p.val),(3,pv)])=some ((kQ l j).val pv):=by
   rw[epv,aXK,aMk hp];rfl
  have hpath:(kQ l j).path=oT l j:=rfl;simp only[hb,aNS,cE,reduceIte,cZ,Nat.reduceAdd];intro r13 hr13;refine fP ?_
  try rw[cW]
  have u4:dD h3 (h3.set r13 (.cells ((kQ l j).cells pv).toArray cB)):=cQ.new hr13;have s1:fZ (h3.set r13 (.cells ((kQ l j).cells pv).toArray cB)) 5 (.slice (some ⟨r13,0,none⟩) 1 1) ([(kQ l j,pv)].map qT):=(eM.lit (qT.rows [(kQ l j,pv)]) dL (by simp) (by decide) (by simp[qT])).slR;generalize h3.set r13 (.cells ((kQ l j).cells pv).toArray cB)=h4 at *;have e4:=e3.trans u4;refine jK cN.und cN.und cB.info cB.size cB.bytes cB.zero rfl (by decide) ((O.ext u3).ext u4) s1 (λr hr u hu=>by
   obtain⟨y,hy,rfl⟩:=mJ.1 hr;simp only[gB] at hy;subst hy;exact Lf.isC _ O3.slR.isc u hu) (by simp;omega) ?_
  intro v5 h5 F5 O5 u5 g5 _;rw[←pO] at O5;have L4:LfN h h4 (r++[(kQ l j,pv)]) F:=λy hy=>by
   rcases kB.1 hy with hy|hy
   ·exact((L.upd u3 (λb hb=>by cases hb)).upd u4 (λb hb=>by cases hb)) y hy
   ·simp only[gB] at hy;subst hy;exact⟨G,O3.ext u4,fG.of u,λb hb hb'=>O.known b hb' (fG b hb)⟩
  have L5:LfN h h5 (r++[(kQ l j,pv)]) F5:=by
   have:=L4.grow (B':=F++F5) (λb hb=>by
    rcases kB.1 hb with hb|hb
    ·exact .inl hb
    ·exact g5 b hb)
   exact(this.upd u5 (λb hb=>.inl (by simp[hb]))).grow (λb hb=>.inl (by simp[hb]))
  simp only[gi,cE,reduceIte,cZ,Nat.reduceAdd];refine⟨⟨i+1,v5,r++[(kQ l j,pv)],F5,by omega,rfl,e4.fresh u5 f,?_,O5,f.grow e4 g5,L5,by simp;omega⟩,by simp[gQ,v4];omega⟩;rw[pO,hr,zLU,hjj];simp
 ·have g:((i:Int)<(js.length:Int))=False:=eq_false (by omega);rw[lY (by omega)] at hr;simp only[g,cE,reduceIte,cZ,Nat.reduceAdd];refine hk h' o ⟨r,F,hr,O,f.of u0,λy hy=>?_⟩ u;obtain⟨G,OG,fG,hG⟩:=L y hy;exact⟨G,OG,fG.of u0,hG⟩
def oB.of{h0 h1 h:PH}{v:Value}{fs:List Lf}(H:oB h1 h v fs)(u:dD h0 h1):oB h0 h v fs:=by
 obtain⟨l,F,e,O,f,L⟩:=H.here;exact⟨l,F,e,O,f.of u,λy hy=>by
  obtain⟨G,OG,fG,hG⟩:=L y hy;exact⟨G,OG,fG.of u,hG⟩⟩
def MOk.small{l:List Pr}(H:MOk l):aAv l:=λp hp=>by
 have:=H.k p hp;have:=H.v p hp;omega
def il1(a:Int):jV PG (buildSlice nQ 1 #[(0,.int .i64 a)])=some (.cells #[.int .i64 a] bR,λr=>pure (.slice (some ⟨r,0,none⟩) 1 1)):=by kernel_rfl
def il2(a b:Int):jV PG (buildSlice nQ 2 #[(0,.int .i64 a),(1,.int .i64 b)])=some (.cells #[.int .i64 a,.int .i64 b] bR,λr=>pure (.slice (some ⟨r,0,none⟩) 2 2)):=by kernel_rfl
def aW9(b:Option Addr)(n c:Nat):dH PG (build cC #[(1,.slice b n c)])=some (Pf.val false (.slice b n c)):=by kernel_rfl
def aTU{h:PH}{v:Value}{l:List Pr}{key:Tx}(H:MOk l)(hK:oP h)(S:fZ h 2 v (l.map Pr.cells)){kk:cD}(hno:iJ l key=none->∀h',dD h h'->kk (.tuple #[Pf.val false (.slice none 0 0),.int .i64 3]) h')
  (hyes:(iJ l key).isSome=true->∀h' v',oB h h' v' [kQ l (hQ l key)]->dD h h'->kk (.tuple #[Pf.val false v',.int .i64 0]) h'):aT PG aGX #[v,.string (tx key)] h kk:=by
 apply aGT.call;unfold aGT;have hl:=H.len;intro r1 hr1
 try rw[cW]
 have u1:dD h (h.set r1 (.cells (dV PG cC) cC)):=cQ.new hr1;have Z1:=cC.zbox (h:=h) (r:=r1);generalize h.set r1 (.cells (dV PG cC) cC)=h1 at *;have f1:eK h [r1]:=eK.one hr1;refine aRe (S.ext u1) H.up (by omega) key λh2 u2=>?_;have e2:=u1.trans u2;have Z2:=Z1.ext u2;cases hg:(iJ l key).isSome with
 | false=>
  simp only[aHI,cE,reduceIte,cZ,Nat.reduceAdd];refine cC.put (vs:=[.bool false,.slice none 0 0]) Z2 (o:=0) rfl (by show 0+2≤2;decide) (by simp[fW]) λh6 B6 u6=>?_;have l6:cG PG h6 (loadAt cC (pT r1 0))=some (Pf.val false (.slice none 0 0)):=cC.agg B6 (by show 0+2≤2;decide);simp only[l6,cE,reduceIte,cZ,Nat.reduceAdd];exact hno (by simpa using hg) h6 (e2.fresh u6 f1)
 | true=>
  obtain⟨p,hp⟩:=Option.isSome_iff_exists.1 hg;have hj:=(zLA.1 (aMj H.up hp)).1;simp only[il1,cE,reduceIte,cZ,Nat.reduceAdd];intro r12 hr12;refine fP ?_
  try rw[cW]
  have u3:dD h2 (h2.set r12 (.cells #[.int .i64 ((hQ l key:Nat):Int)] bR)):=cQ.new hr12;have A:fZ (h2.set r12 (.cells #[.int .i64 ((hQ l key:Nat):Int)] bR)) 1 (.slice (some ⟨r12,0,none⟩) 1 1) ([hQ l key].map xA):=(eM.lit (xA.rows [hQ l key]) dL (by simp) (by decide) (by simp[xA])).slR;generalize h2.set r12 (.cells #[.int .i64 ((hQ l key:Nat):Int)] bR)=h3 at *;have e3:=e2.trans u3;refine aQS (h0:=h1) (u2.trans u3) (hK.ext e3) (S.ext e3) H.small hl A (by simpa using hj) (by simp) λh4 v4 L4 u4=>?_;obtain⟨b,n,c,ev⟩:∃b n c,v4= .slice b n c:=by
   obtain⟨l',F,-,O,-⟩:=L4.here;obtain⟨b,c,ev,-⟩:=O.slR.here;exact⟨b,_,c,ev⟩
  have hb:dH PG (build cC #[(1,v4)])=some (Pf.val false v4):=by rw[ev];exact aW9 _ _ _
  simp only[hb,cE,reduceIte,cZ,Nat.reduceAdd];refine cC.put (vs:=[.bool false,v4]) ((Z2.ext u3).ext u4) (o:=0) rfl (by show 0+2≤2;decide) (by
   have:=L4.isc;simp[fW];exact this) λh6 B6 u6=>?_
  have l6:cG PG h6 (loadAt cC (pT r1 0))=some (Pf.val false v4):=cC.agg B6 (by show 0+2≤2;decide);simp only[l6,cE,reduceIte,cZ,Nat.reduceAdd];exact hyes hg h6 v4 ((L4.upd u6 (λb hb=>by simp at hb;rw[hb];exact Z1.known)).of u1) ((e3.trans u4).fresh u6 f1)
def aU0{h:PH}{v:Value}{l:List Pr}{key:Tx}(H:MOk l)(hK:oP h)(S:fZ h 2 v (l.map Pr.cells)){kk:cD}(hbad:¬(1≤key.length∧key.length≤16)->∀h',dD h h'->kk (.tuple #[Pf.val false (.slice none 0 0),.int .i64 1]) h')
  (hyes:(iJ l key).isSome=true->∀h',dD h h'->kk (.tuple #[Pf.val false (.slice none 0 0),.int .i64 4]) h')
  (hno:1≤key.length->key.length≤16->iJ l key=none->∀h' v',oB h h' v' (lD l key).lv->dD h h'->kk (.tuple #[Pf.val true v',.int .i64 0]) h'):aT PG aG7 #[v,.string (tx key)] h kk:=by
 apply aHd.call;unfold aHd;have hl:=H.len;have hple:=aJh l key;intro r1 hr1
 try rw[cW]
 have u1:dD h (h.set r1 (.cells (dV PG cC) cC)):=cQ.new hr1;have Z1:=cC.zbox (h:=h) (r:=r1);generalize h.set r1 (.cells (dV PG cC) cC)=h1 at *;have f1:eK h [r1]:=eK.one hr1;have lk:dH PG (Builtin.len_ #[bT] bR #[.string (tx key)])=some (.int .i64 (key.length:Int)):=by rw[lS bT.und,iF]
 have lv:=S.len (t':=bR) cJ.und;rw[iV] at lv;have err:∀{h5:PH} {e:Int},dD h h5->Bx h5 r1 (Value.cells (Pf.val false (.slice none 0 0))).toList->(∀h',dD h h'->kk (.tuple #[Pf.val false (.slice none 0 0),.int .i64 e]) h')->dC PG (dT cC (pT r1 0) (Pf.val false (.slice none 0 0))) h5 λv27 h28=>dY (cG PG h28 (loadAt cC (pT r1 0))) λv29=>kk (.tuple #[v29,(Value.int IntKind.i64 e)]) h28:=by
  intro h5 e e5 B5 hk;refine cC.put (vs:=[.bool false,.slice none 0 0]) B5 (o:=0) rfl (by show 0+2≤2;decide) (by simp[fW]) λh6 B6 u6=>?_;have l6:cG PG h6 (loadAt cC (pT r1 0))=some (Pf.val false (.slice none 0 0)):=cC.agg B6 (by show 0+2≤2;decide);simp only[l6,cE,reduceIte,cZ,Nat.reduceAdd];exact hk h6 (e5.fresh u6 f1)
 by_cases c1:key.length<1
 ·have g1:((key.length:Int)<1)=True:=eq_true (by omega);simp only[lk,g1,aHI,cE,reduceIte,cZ,Nat.reduceAdd];exact err u1 Z1 (hbad (by omega))
 have g1:((key.length:Int)<1)=False:=eq_false (by omega);by_cases c2:16<key.length
 ·have g2:((16:Int)<(key.length:Int))=True:=eq_true (by omega);simp only[lk,g1,g2,aHI,cE,reduceIte,cZ,Nat.reduceAdd];exact err u1 Z1 (hbad (by omega))
 have g2:((16:Int)<(key.length:Int))=False:=eq_false (by omega);simp only[lk,g1,g2,cE,reduceIte,cZ,Nat.reduceAdd];refine aRe (S.ext u1) H.up (by omega) key λh2 u2=>?_;have e2:=u1.trans u2;have Z2:=Z1.ext u2;simp only[aL4,cE,reduceIte,cZ,Nat.reduceAdd];intro r26 hr26
 try rw[cW]
 have n126:r1≠r26:=Z2.apart hr26;refine cC.fill (vs:=[.bool true,.slice none 0 0]) hr26 rfl (by simp[fW]) λh3 B3 u3=>?_;have e3:=e2.trans u3;have Z3:=Z2.ext u3;have f26:eK h [r26]:=eK.one (e2.none hr26);cases hg:(iJ l key).isSome with
 | true=>
  simp only[aHI,cE,reduceIte,cZ,Nat.reduceAdd];exact err e3 Z3 (hyes hg)
 | false=>
  have hgn:iJ l key=none:=by simpa using hg
  have hno:=hno (by omega) (by omega) hgn;have epf:(lD l key).lv=if l=[] then [] else if hQ l key=0 then [kQ l 0] else if hQ l key=l.length then [kQ l (l.length-1)] else [kQ l (hQ l key-1),kQ l (hQ l key)]:=by
   unfold lD;rw[if_neg (by rw[hg];decide)];split
   ·rfl
   ·split
    ·rfl
    ·split<;>rfl
  -- the end
  have fin:∀{h5:PH} {v5:Value},dD h h5->Bx h5 r1 (Value.cells (Pf.val false (.slice none 0 0))).toList->Bx h5 r26 [.bool true,v5]->oB h3 h5 v5 (lD l key).lv->tC kk (pT r1 0) (pT r26 0) h5:=by
   intro h5 v5 e5 Z5 B5 L5;unfold tC aJ3;have l5:cG PG h5 (loadAt cC (pT r26 0))=some (Pf.val true v5):=cC.agg B5 (by show 0+2≤2;decide);simp only[l5,cE,reduceIte,cZ,Nat.reduceAdd];refine cC.put (vs:=[.bool true,v5]) Z5 (o:=0) rfl (by show 0+2≤2;decide) (by
    have:=L5.isc;simp[fW];exact this) λh6 B6 u6=>?_
   have l6:cG PG h6 (loadAt cC (pT r1 0))=some (Pf.val true v5):=cC.agg B6 (by show 0+2≤2;decide);simp only[l6,cE,reduceIte,cZ,Nat.reduceAdd];exact hno h6 v5 ((L5.upd u6 (λb hb=>by simp at hb;rw[hb];exact Z3.known)).of e3) (e5.fresh u6 f1)
  -- with leaves
  have mk:∀{h4:PH} {js:List Nat} {av:Value},dD h3 h4->fZ h4 1 av (js.map xA)->(∀j∈js,j<l.length)->js.length≤2->js.map (kQ l)=(lD l key).lv->
    aT PG vA #[v,av] h4 λv47 h48=>dC PG (dT cN (pT r26 1) v47) h48 λv50 h51=>tC kk (pT r1 0) (pT r26 0) h51:=by
   intro h4 js av u4 A hj h2' ej;have e4:=e3.trans u4;refine aQS (h0:=h3) u4 (hK.ext e4) (S.ext e4) H.small hl A hj h2' λh5 v5 L5 u5=>?_;refine cN.put ((B3.ext u4).ext u5) (o:=1) (by show 1<2;decide) L5.isc λh6 B6 u6=>?_;rw[ej] at L5;exact fin ((e4.trans u5).fresh u6 f26) (((Z3.ext u4).ext u5).upd u6 (by simpa using n126)) B6 (L5.upd u6 (λb hb=>by simp at hb;rw[hb];exact B3.known))
  by_cases h0:l=[]
  ·have q:((l.length:Int)==0)=true:=by simp[h0]
   rw[if_pos h0] at epf;simp only[lv,iG,q,cE,reduceIte,cZ,Nat.reduceAdd];exact fin e3 Z3 B3 (by rw[epf];exact oB.nil)
  ·have hpos:=aIA.2 h0;have q:((l.length:Int)==0)=false:=by simpa using h0
   rw[if_neg h0] at epf;by_cases hp0:hQ l key=0
   ·have q2:(((hQ l key:Nat):Int)==0)=true:=by simp[hp0]
    rw[if_pos hp0] at epf;simp only[lv,iG,q,q2,il1,cC.f1,fQ,cE,reduceIte,cZ,Nat.reduceAdd];intro r43 hr43;refine fP ?_
    try rw[cW]
    have u4:dD h3 (h3.set r43 (.cells #[.int .i64 0] bR)):=cQ.new hr43;have A:fZ (h3.set r43 (.cells #[.int .i64 0] bR)) 1 (.slice (some ⟨r43,0,none⟩) 1 1) ([0].map xA):=(eM.lit (xA.rows [0]) dL (by simp) (by decide) (by simp[xA])).slR;exact mk u4 A (by simpa using hpos) (by simp) (by rw[epf];rfl)
   ·have q2:(((hQ l key:Nat):Int)==0)=false:=by rw[beq_eq_false_iff_ne];omega
    have w1:IntKind.i64.wrap (((hQ l key:Nat):Int)-1)=((hQ l key-1:Nat):Int):=by rw[fH (by omega) (by omega)];omega
    rw[if_neg hp0] at epf;by_cases hpl:hQ l key=l.length
    ·have q3:(((hQ l key:Nat):Int)==(l.length:Int))=true:=by rw[hpl];simp
     rw[if_pos hpl] at epf;simp only[lv,iG,q,q2,q3,w1,il1,cC.f1,fQ,cE,reduceIte,cZ,Nat.reduceAdd];intro r43 hr43;refine fP ?_
     try rw[cW]
     have u4:dD h3 (h3.set r43 (.cells #[.int .i64 ((hQ l key-1:Nat):Int)] bR)):=cQ.new hr43;have A:fZ (h3.set r43 (.cells #[.int .i64 ((hQ l key-1:Nat):Int)] bR)) 1 (.slice (some ⟨r43,0,none⟩) 1 1) ([hQ l key-1].map xA):=(eM.lit (xA.rows [hQ l key-1]) dL (by simp) (by decide) (by simp[xA])).slR;exact mk u4 A (by simp;omega) (by simp) (by rw[epf,hpl];rfl)
    ·have q3:(((hQ l key:Nat):Int)==(l.length:Int))=false:=by rw[beq_eq_false_iff_ne];omega
     rw[if_neg hpl] at epf;simp only[lv,iG,q,q2,q3,w1,il2,cC.f1,fQ,cE,reduceIte,cZ,Nat.reduceAdd];intro r43 hr43;refine fP ?_
     try rw[cW]
     have u4:dD h3 (h3.set r43 (.cells #[.int .i64 ((hQ l key-1:Nat):Int),.int .i64 ((hQ l key:Nat):Int)] bR)):=cQ.new hr43;have A:fZ (h3.set r43 (.cells #[.int .i64 ((hQ l key-1:Nat):Int),.int .i64 ((hQ l key:Nat):Int)] bR)) 1 (.slice (some ⟨r43,0,none⟩) 2 2) ([hQ l key-1,hQ l key].map xA):=(eM.lit (xA.rows [hQ l key-1,hQ l key]) dL (by simp) (by decide) (by simp[xA])).slR;exact mk u4 A (by simp;omega) (by simp) (by rw[epf];rfl)
end
section
open Go Bld
def aE2(x:Value×List Pr):List Value:=[x.1,.string (tx (oD x.2))]
def aE2.rows(l:List (Value×List Pr)):Rows 2 (l.map aE2):=λr hr=>by
 obtain⟨p,-,rfl⟩:=mJ.1 hr;rfl
structure wD(h:PH)(a:Nat)(s:St)(F:List Nat):Prop where
 here:∃(m:Nat) (l:List Pr) (v:Value) (bl:List (Value×List Pr)) (Fb G:List Nat),h a=some (.cells #[.map (some m),v,.int .u64 s.height] eY (0,0))∧aPH h m l∧l.Perm s.now∧eM h dX 2 v (bl.map aE2) Fb∧(∀x∈bl,fZ h 2 x.1 (x.2.map Pr.cells)∧aDG x.1 G)∧
  bl.map (·.2)=s.blocks∧F=a::m::(Fb++G)∧a≠m∧a∉Fb∧m∉Fb∧∀g∈G,g≠a∧g≠m∧g∉Fb∧h g≠none
 ok:s.Ok
def wD.upd{h h':PH}{a:Nat}{s:St}{F K:List Nat}(H:wD h a s F)(u:cQ K h h')(hd:∀b∈F,b∉K):wD h' a s F:=by
 obtain⟨m,l,v,bl,Fb,G,h1,h2,h3,h4,h5,h6,rfl,h8,h9,h10,h11⟩:=H.here;refine⟨⟨m,l,v,bl,Fb,G,u.get h1 (hd _ (by simp)),jR.upd h2 u (hd _ (by simp)),h3,h4.upd u (λb hb=>hd b (by simp[hb])),λx hx=>⟨(h5 x hx).1.upd u λy n c e=>hd _ ?_,(h5 x hx).2⟩,h6,rfl,h8,h9,h10,λg hg=>⟨(h11 g hg).1,(h11 g hg).2.1,(h11 g hg).2.2.1,?_⟩⟩,H.ok⟩
 ·have:=(h5 x hx).2 y n c e;simp[this]
 ·have:=(h11 g hg).2.2.2;obtain⟨o,ho⟩:=aH1.1 this;rw[u.get ho (hd g (by simp[hg]))];simp
def wD.ext{h h':PH}{a:Nat}{s:St}{F:List Nat}(H:wD h a s F)(u:dD h h'):wD h' a s F:=H.upd u (by simp)
def wD.known{h:PH}{a:Nat}{s:St}{F:List Nat}(H:wD h a s F):∀b∈F,h b≠none:=by
 obtain⟨m,l,v,bl,Fb,G,h1,h2,h3,h4,h5,h6,rfl,h8,h9,h10,h11⟩:=H.here;intro b hb;simp only[gU,kB] at hb;rcases hb with rfl|rfl|hb|hb
 ·rw[h1];simp
 ·exact jR.known h2
 ·exact h4.known b hb
 ·exact(h11 b hb).2.2.2
def St.Ok.new(n:Nat)(hn:n<18446744073709551616):St.Ok ⟨[],[[]],n⟩:=⟨List.Pairwise.nil,by simp,by simp,by simp[sZ],by simp,by simp,by simp,hn⟩
def aWg{h:PH}(n:Nat)(hn:n<18446744073709551616)(hK:oP h){k:cD}(hk:∀a h' F,wD h' a ⟨[],[[]],n⟩ F->eK h F->dD h h'->k (pT a 0) h'):aT PG aJm #[.int .u64 (n:Int)] h k:=by
 apply aKU.call;unfold aKU;simp only[aFX,cE,reduceIte];intro m hm;refine fP ?_
 try rw[cW]
 have u1:dD h (h.set m (.map #[] 0)):=cQ.new hm;have m1:aPH (h.set m (.map #[] 0)) m []:=jR.new;generalize h.set m (.map #[] 0)=h1 at *;refine aOI (l:=[]) (by decide) (hK.ext u1) (eM.nil (e:=cM)).slR (λp hp=>by cases hp) λh2 u2=>?_;have b1:∀d:ByteArray,dH PG (build dX #[(1,.string d)])=some (.agg #[.slice none 0 0,.string d]):=λd=>by kernel_rfl
 have b2:∀d:ByteArray,jV PG (buildSlice fU 1 #[(0,.agg #[.slice none 0 0,.string d])])=some (.cells #[.slice none 0 0,.string d] dX,λr=>pure (.slice (some ⟨r,0,none⟩) 1 1)):=λd=>by kernel_rfl
 simp only[b1,b2,cE,reduceIte];intro r hr;refine fP ?_
 try rw[cW]
 have u3:dD h2 (h2.set r (.cells #[.slice none 0 0,.string (tx (oD []))] dX)):=cQ.new hr;have O3:eM (h2.set r (.cells #[.slice none 0 0,.string (tx (oD []))] dX)) dX 2 (.slice (some ⟨r,0,none⟩) 1 1) ([((.slice none 0 0:Value),([]:List Pr))].map aE2) [r]:=eM.lit (n:=1) (aE2.rows [((.slice none 0 0:Value),([]:List Pr))]) dL (by simp) (by decide) rfl;generalize h2.set r (.cells #[.slice none 0 0,.string (tx (oD []))] dX)=h3 at *;have b3:dH PG (build eY #[(0,.map (some m)),(1,.slice (some ⟨r,0,none⟩) 1 1),(2,.int .u64 (n:Int))])=some (.agg #[.map (some m),.slice (some ⟨r,0,none⟩) 1 1,.int .u64 (n:Int)]):=by kernel_rfl
 simp only[b3,cE,reduceIte];intro a ha
 try rw[cW]
 have u4:dD h3 (h3.set a (.cells (Value.cells (.agg #[.map (some m),.slice (some ⟨r,0,none⟩) 1 1,.int .u64 (n:Int)])) eY)):=cQ.new ha;have m3:=jR.ext m1 (u2.trans u3);have hma:a≠m:=by rintro rfl;exact jR.known m3 ha
 have har:a≠r:=by rintro rfl;exact O3.known _ (by simp) ha
 have hmr:m≠r:=by rintro rfl;exact jR.known (jR.ext m1 u2) hr
 refine hk a _ [a,m,r] ⟨⟨m,[],_,[(.slice none 0 0,[])],[r],[],dL,jR.ext m3 u4,List.Perm.refl _,O3.ext u4,?_,rfl,rfl,hma,by simpa using har,by simpa using hmr,by simp⟩,St.Ok.new n hn⟩ (λb hb=>?_) (((u1.trans u2).trans u3).trans u4)
 ·intro x hx;simp only[gB] at hx;subst hx;exact⟨(eM.nil (e:=cM)).slR,λx n c e=>by cases e⟩
 ·simp only[gU,lH,or_false] at hb;rcases hb with rfl|rfl|rfl
  ·exact((u1.trans u2).trans u3).none ha
  ·exact hm
  ·exact(u1.trans u2).none hr
def aUe{h:PH}{m:Nat}{l L:List Pr}(hm:aPH h m l)(hp:l.Perm L):cG PG h (Builtin.len_ #[dZ] bR #[.map (some m)])=some (.int .i64 L.length):=by
 have lm:=jR.len hm (t':=bR) dZ.und;rw[iV,hp.length_eq] at lm;exact lm
def St.Ok.setOk{s:St}(H:s.Ok){k v:Tx}(hk:¬(k.length<1∨16<k.length∨64<v.length))(hf:¬(iJ s.now k=none∧4096≤s.now.length)):St.Ok {s with now:=oO s.now ⟨k,v⟩}:=by
 refine⟨H.up.set _,λp hp=>?_,?_,H.blk,H.h1,H.h2,H.h3,H.h4⟩
 ·rcases aIk.1 hp with rfl|⟨h1,_⟩
  ·refine⟨?_,?_,?_⟩<;>simp only<;>omega
  ·exact H.fit p h1
 ·have hle:(oO s.now ⟨k,v⟩).length≤s.now.length+(if iJ s.now k=none then 1 else 0):=by
   have hn:=(H.up.set ⟨k,v⟩).irr;split
   ·have:=aKF (oO s.now ⟨k,v⟩) (⟨k,v⟩::s.now) hn λp hp=>by
     rcases aIk.1 hp with rfl|⟨h1,_⟩
     ·simp
     ·simp[h1]
    simpa using this
   ·rename_i hne;obtain⟨q,hq⟩:=aH1.1 hne;obtain⟨q1,q2⟩:=(aBj H.up).1 hq;have:=aKF (oO s.now ⟨k,v⟩) (⟨k,v⟩::s.now.erase q) hn λp hp=>by
     rcases aIk.1 hp with rfl|⟨h1,h2⟩
     ·simp
     ·refine List.mem_cons_of_mem _ ?_;rw[List.mem_erase_of_ne]
      ·exact h1
      ·rintro rfl;exact h2 q2
    rw[qE,List.length_erase_of_mem q1] at this;have hpos:0<s.now.length:=List.length_pos_of_mem q1;omega
  have:=H.few;show(oO s.now ⟨k,v⟩).length≤4096;split at hle
  ·rename_i e;have:¬4096≤s.now.length:=λh=>hf ⟨e,h⟩;omega
  ·omega
def aYQ{h:PH}{a:Nat}{s:St}{F:List Nat}(H:wD h a s F)(k v:Tx){kk:cD}(hk:∀h',wD h' a (aCo s k v).1 F->cQ F h h'->kk (.int .i64 (aCo s k v).2) h'):
  aT PG aE1 #[pT a 0,.string (tx k),.string (tx v)] h kk:=by
 apply aEc.call;unfold aEc;have fin1:(k.length<1∨16<k.length∨64<v.length)->kk (.int .i64 1) h:=λhb=>by
  have:=hk h (by unfold aCo;rw[if_pos hb];exact H) cQ.refl;unfold aCo at this;rw[if_pos hb] at this;exact this
 by_cases d1:k.length<1
 ·have g1:((k.length:Int)<1)=True:=eq_true (by omega);simp only[bT.len,iF,g1,cE,reduceIte];exact fin1 (.inl d1)
 have g1:((k.length:Int)<1)=False:=eq_false (by omega);by_cases d2:16<k.length
 ·have g2:((16:Int)<(k.length:Int))=True:=eq_true (by omega);simp only[bT.len,iF,g1,g2,cE,reduceIte];exact fin1 (.inr (.inl d2))
 have g2:((16:Int)<(k.length:Int))=False:=eq_false (by omega);by_cases d3:64<v.length
 ·have g3:((64:Int)<(v.length:Int))=True:=eq_true (by omega);simp only[bT.len,iF,g1,g2,g3,cE,reduceIte];exact fin1 (.inr (.inr d3))
 have g3:((64:Int)<(v.length:Int))=False:=eq_false (by omega);have hok:=H.ok;have hr:¬(k.length<1∨16<k.length∨64<v.length):=by omega
 have hH:=H;obtain⟨m,l,vv,bl,Fb,G,ha,hm,hp,hO,hS,hbl,rfl,hn1,hn2,hn3,hG⟩:=H.here;have c0:dB h ⟨a,0,none⟩=some (.map (some m)):=by simp[dB,ha]
 have hg:=aLP hp hok.up k;have hl:=aUe hm hp;have fin:¬(iJ s.now k=none∧4096≤s.now.length)->dC PG (aFV dZ (.map (some m)) (.string (tx k)) (.string (tx v))) h λv61 h62=>kk (.int .i64 0) h62:=λhc=>by
  refine aKy aJk dZ.und hm k (.string (tx v)) λh6 hm6 u6=>?_;obtain⟨l',e1,e2⟩:=aPz hp hok.up ⟨k,v⟩;have e1':aDv (l.map Pr.pr) k (.string (tx v))=l'.map Pr.pr:=e1;rw[e1'] at hm6;have hs:aCo s k v=({s with now:=oO s.now ⟨k,v⟩},0):=by unfold aCo;rw[if_neg hr,if_neg hc]
  rw[hs] at hk;refine hk h6 ⟨⟨m,l',vv,bl,Fb,G,u6.get ha (by simpa using hn1),hm6,e2,hO.upd u6 (λb hb=>by simp;rintro rfl;exact hn3 hb),λx hx=>⟨(hS x hx).1.upd u6 λy n c e=>?_,(hS x hx).2⟩,hbl,rfl,hn1,hn2,hn3,λg hg=>⟨(hG g hg).1,(hG g hg).2.1,(hG g hg).2.2.1,?_⟩⟩,hok.setOk hr hc⟩ (u6.mono λb hb=>.inl (by simp at hb;simp[hb]))
  ·have:=(hG _ ((hS x hx).2 y n c e)).2.1;simpa using this
  ·obtain⟨o,ho⟩:=aH1.1 (hG g hg).2.2.2;rw[u6.get ho (by simpa using(hG g hg).2.1)];simp
 cases eg:iJ s.now k with
 | some q=>
  simp only[bT.len,iF,g1,g2,g3,eY.f0,dZ.load,c0,aH8 hm,hg,eg,aKs,cE,reduceIte];exact fin (by simp[eg])
 | none=>
  by_cases d4:4096≤s.now.length
  ·have g4:((4096:Int)≤(s.now.length:Int))=True:=eq_true (by omega);simp only[bT.len,iF,g1,g2,g3,eY.f0,dZ.load,c0,aH8 hm,hg,eg,hl,g4,zLv,cE,reduceIte];have hs:aCo s k v=(s,2):=by unfold aCo;rw[if_neg hr,if_pos ⟨eg,d4⟩]
   have:=hk h (by rw[hs];exact hH) cQ.refl;rw[hs] at this;exact this
  ·have g4:((4096:Int)≤(s.now.length:Int))=False:=eq_false (by omega);simp only[bT.len,iF,g1,g2,g3,eY.f0,dZ.load,c0,aH8 hm,hg,eg,hl,g4,zLv,cE,reduceIte];exact fin (λh=>d4 h.2)
def aTn{h:PH}{a:Nat}{s:St}{F:List Nat}(H:wD h a s F)(k:Tx){kk:cD}(hk:∀h',wD h' a (aFo s k).1 F->cQ F h h'->kk (.int .i64 (aFo s k).2) h'):
  aT PG aCk #[pT a 0,.string (tx k)] h kk:=by
 apply aBx.call;unfold aBx;have hok:=H.ok;have hH:=H;obtain⟨m,l,vv,bl,Fb,G,ha,hm,hp,hO,hS,hbl,rfl,hn1,hn2,hn3,hG⟩:=H.here;have c0:dB h ⟨a,0,none⟩=some (.map (some m)):=by simp[dB,ha]
 have hg:=aLP hp hok.up k;cases eg:iJ s.now k with
 | none=>
  simp only[eY.f0,dZ.load,c0,aH8 hm,hg,eg,zLv,cE,reduceIte];have hs:aFo s k=(s,3):=by unfold aFo;rw[if_pos eg]
  have:=hk h (by rw[hs];exact hH) cQ.refl;rw[hs] at this;exact this
 | some q=>
  simp only[eY.f0,dZ.load,c0,aH8 hm,hg,eg,aKs,cE,reduceIte];refine aPr aJk dZ.und hm k rfl λh6 hm6 u6=>?_;have hs:aFo s k=({s with now:=vJ s.now k},0):=by unfold aFo;rw[if_neg (by rw[eg];simp)]
  rw[hs] at hk;rw[aSa] at hm6;refine hk h6 ⟨⟨m,vJ l k,vv,bl,Fb,G,u6.get ha (by simpa using hn1),hm6,hp.filter _,hO.upd u6 (λb hb=>by simp;rintro rfl;exact hn3 hb),λx hx=>⟨(hS x hx).1.upd u6 λy n c e=>?_,(hS x hx).2⟩,hbl,rfl,hn1,hn2,hn3,λg hg=>⟨(hG g hg).1,(hG g hg).2.1,(hG g hg).2.2.1,?_⟩⟩,⟨hok.up.del _,λp hp=>hok.fit p (aP6.1 hp).1,zLE (aMz _ _) hok.few,hok.blk,hok.h1,hok.h2,hok.h3,hok.h4⟩⟩ (u6.mono λb hb=>.inl (by simp at hb;simp[hb]))
  ·have:=(hG _ ((hS x hx).2 y n c e)).2.1;simpa using this
  ·obtain⟨o,ho⟩:=aH1.1 (hG g hg).2.2.2;rw[u6.get ho (by simpa using(hG g hg).2.1)];simp
def aSc{h:PH}{a:Nat}{s:St}{F:List Nat}(H:wD h a s F)(k:Tx){kk:cD}(hk:kk (.tuple #[.string (tx (((iJ s.now k).map Pr.v).getD [])),.bool (iJ s.now k).isSome]) h):
  aT PG aBa #[pT a 0,.string (tx k)] h kk:=by
 apply aEb.call;unfold aEb;obtain⟨m,l,vv,bl,Fb,G,ha,hm,hp,hO,hS,hbl,rfl,hn1,hn2,hn3,hG⟩:=H.here;have c0:dB h ⟨a,0,none⟩=some (.map (some m)):=by simp[dB,ha]
 have hg:=aLP hp H.ok.up k;simp only[eY.f0,dZ.load,c0,aH8 hm,hg,cE,reduceIte];exact hk
def aYh{h:PH}{a:Nat}{s:St}{F:List Nat}(H:wD h a s F){kk:cD}(hk:kk (.int .i64 s.now.length) h):aT PG aEs #[pT a 0] h kk:=by
 apply aEh.call;unfold aEh;obtain⟨m,l,vv,bl,Fb,G,ha,hm,hp,hO,hS,hbl,rfl,hn1,hn2,hn3,hG⟩:=H.here;have c0:dB h ⟨a,0,none⟩=some (.map (some m)):=by simp[dB,ha]
 simp only[eY.f0,dZ.load,c0,aUe hm hp,cE,reduceIte];exact hk
def aKT{h:PH}{a:Nat}{s:St}{F:List Nat}(H:wD h a s F){kk:cD}(hk:kk (.int .u64 s.height) h):aT PG qK #[pT a 0] h kk:=by
 apply aBk.call;unfold aBk;obtain⟨m,l,vv,bl,Fb,G,ha,-⟩:=H.here;have c2:dB h ⟨a,0+2,none⟩=some (.int .u64 s.height):=by simp[dB,ha]
 simp only[eY.f2,cA.load,c2,cE,reduceIte];exact hk
def aTM(v:Value)(d:Tx):Value:=.agg #[v,.string (tx d)]
def aOm{s:St}{x:Nat}{b:List Pr}(h:zH s x=some b):¬(s.height<x∨s.blocks.length≤s.height-x)∧s.blocks[s.blocks.length-1-(s.height-x)]? =some b:=by
 unfold zH at h;split at h
 ·cases h
 ·rename_i hn;exact⟨hn,h⟩
def aOA{s:St}(hs:1≤s.blocks.length){x:Nat}:zH s x=none↔(s.height<x∨s.blocks.length≤s.height-x):=by
 unfold zH;split
 ·simp[*]
 ·rename_i hn;simp only[hn,iff_false,ne_eq];intro h;rw[List.getElem?_eq_none_iff] at h;omega
def zbl:dV PG dX= #[.slice none 0 0,.string (tx [])]:=by rw[dX.zc];rfl
def aXM{h:PH}{a:Nat}{s:St}{F:List Nat}(H:wD h a s F)(x:Nat)(hx:x<18446744073709551616){k:cD}(hn:zH s x=none->∀h',dD h h'->k (.tuple #[aTM (.slice none 0 0) [],.int .i64 3]) h')
  (hk:∀b v h',zH s x=some b->fZ h' 2 v (b.map Pr.cells)->fW v=true->dD h h'->k (.tuple #[aTM v (oD b),.int .i64 0]) h'):aT PG aCP #[pT a 0,.int .u64 (x:Int)] h k:=by
 apply aAj.call;unfold aAj;rw[zbl];intro r1 hr1
 try rw[cW]
 have u1:dD h (h.set r1 (.cells #[.slice none 0 0,.string (tx [])] dX)):=cQ.new hr1;have a1:(h.set r1 (.cells #[.slice none 0 0,.string (tx [])] dX)) r1=some (.cells #[.slice none 0 0,.string (tx [])] dX (0,0)):=dL;generalize h.set r1 (.cells #[.slice none 0 0,.string (tx [])] dX)=h1 at *;have H1:=H.ext u1;have hok:=H.ok;obtain⟨m,l,vv,bl,Fb,G,ha,hm,hp,hO,hS,hbl,rfl,hn1,hn2,hn3,hG⟩:=H1.here;have c1:dB h1 ⟨a,0+1,none⟩=some vv:=by simp[dB,ha]
 have c2:dB h1 ⟨a,0+2,none⟩=some (.int .u64 s.height):=by simp[dB,ha]
 have hbn:bl.length=s.blocks.length:=by rw[←hbl,iV]
 have lv:=hO.slR.len (t':=bR) fU.und;rw[iV,hbn] at lv;have h3:=hok.h3;have h4:=hok.h4;have h2:=hok.h2;have h1':=hok.h1;have ew:IntKind.u64.wrap ((s.blocks.length:Nat):Int)=((s.blocks.length:Nat):Int):=gO (by omega) (by omega);have bz:dH PG (build dX #[])=some (.agg #[.slice none 0 0,.string (tx [])]):=by kernel_rfl
 have bad:zH s x=none->dC PG (dT dX (pT r1 0) (.agg #[.slice none 0 0,.string (tx [])])) h1 λ_ h44=>dY (cG PG h44 (loadAt dX (pT r1 0))) λv45=>k (Value.tuple #[v45,(Value.int IntKind.i64 3)]) h44:=λhs=>by
  refine rW a1 dX.info rfl (by simp) rfl (by simp[fW]) ?_;have l1:=dX.loadAgg (h:=h1.set r1 (.cells #[.slice none 0 0,.string (tx [])] dX (0,0))) (b:=r1) (o:=0) dL (by simp);simp only[l1,cE,reduceIte];exact hn hs _ (u1.fresh (cQ.set (F:=[r1]) (by simp)) (eK.one hr1))
 by_cases d1:s.height<x
 ·have g1:((s.height:Int)<(x:Int))=True:=eq_true (by omega);simp only[eY.f2,cA.load,c2,g1,bz,cE,reduceIte];exact bad ((aOA h1').2 (.inl d1))
 have g1:((s.height:Int)<(x:Int))=False:=eq_false (by omega);have e1:IntKind.u64.wrap ((s.height:Int)-(x:Int))=((s.height-x:Nat):Int):=by rw[gO (by omega) (by omega)];omega
 by_cases d2:s.blocks.length≤s.height-x
 ·have g2:(((s.blocks.length:Nat):Int)≤((s.height-x:Nat):Int))=True:=eq_true (by omega);simp only[eY.f2,eY.f1,cA.load,fU.load,c1,c2,g1,e1,lv,aB1,ew,g2,bz,cE,reduceIte];exact bad ((aOA h1').2 (.inr d2))
 have g2:(((s.blocks.length:Nat):Int)≤((s.height-x:Nat):Int))=False:=eq_false (by omega);have e2:IntKind.u64.wrap (((s.blocks.length:Nat):Int)-1)=((s.blocks.length-1:Nat):Int):=by rw[gO (by omega) (by omega)];omega
 have e3:IntKind.u64.wrap (((s.blocks.length-1:Nat):Int)-((s.height-x:Nat):Int))=((s.blocks.length-1-(s.height-x):Nat):Int):=by rw[gO (by omega) (by omega)];omega
 obtain⟨j,hj⟩:∃j,j=s.blocks.length-1-(s.height-x):=⟨_,rfl⟩;rw[←hj] at e3;have hjl:j<bl.length:=by omega
 have hrow:(bl.map aE2)[((j:Nat):Int).toNat]? =some (aE2 bl[j]):=by rw[rA,wA,lJ hjl];rfl
 obtain⟨pa,hpa,hload⟩:=hO.slR.loadAgg (t:=fU) (k:=.u64) (j:=((j:Nat):Int)) fU.und dX.info dX.size dX.und rfl (by omega) hrow;have hmem:bl[j]∈bl:=aMf hjl;have hsat:zH s x=some (bl[j]).2:=by
  unfold zH;rw[if_neg (by omega),←hj,←hbl,wA,lJ hjl];rfl
 obtain⟨hs1,hs2⟩:=hS _ hmem;generalize bl[j]=y at *;have hyc:fW y.1=true:=by obtain⟨_,_,e,_⟩:=hs1.here;rw[e];rfl
 simp only[eY.f2,eY.f1,cA.load,fU.load,c1,c2,g1,e1,lv,aB1,ew,g2,e2,e3,hpa,hload,cE,reduceIte];refine rW a1 dX.info rfl (by simp[aE2]) rfl ?_ ?_
 ·intro v hv;simp only[aE2,gU,lH,or_false] at hv;rcases hv with rfl|rfl
  ·exact hyc
  ·rfl
 ·have ub:dD h1 h1:=cQ.refl;have u2:dD h (h1.set r1 (.cells (aE2 y).toArray dX (0,0))):=u1.fresh (cQ.set (F:=[r1]) (by simp)) (eK.one hr1);have l1:=dX.loadAgg (h:=h1.set r1 (.cells (aE2 y).toArray dX (0,0))) (b:=r1) (o:=0) dL (by simp[aE2]);have le:((aE2 y).toArray).extract 0 (0+2)=(aE2 y).toArray:=rfl;rw[le] at l1;simp only[l1,cE,reduceIte];refine hk y.2 y.1 _ hsat ?_ hyc u2;refine hs1.upd (cQ.set (F:=[r1]) (by simp)) λz n c e=>?_;have:=hs2 z n c e;intro hm;simp only[gB] at hm;have hkn:=H.known z.block (by simp[this]);rw[hm] at hkn;exact hkn hr1
def aT2{h:PH}{a:Nat}{s:St}{F:List Nat}(H:wD h a s F)(x:Nat)(hx:x<18446744073709551616){k:cD}(hn:zH s x=none->∀h',dD h h'->k (.tuple #[.string (tx []),.int .i64 3]) h')
  (hk:∀b h',zH s x=some b->dD h h'->k (.tuple #[.string (tx (oD b)),.int .i64 0]) h'):aT PG aEM #[pT a 0,.int .u64 (x:Int)] h k:=by
 apply aDO.call;unfold aDO;have key:∀(v:Value) (d:Tx) (e:Int) (h1:PH),fW v=true->(∀h',dD h1 h'->k (.tuple #[.string (tx d),.int .i64 e]) h')->∀r5,h1 r5=none->eN (PH.set h1 r5 (.cells (dV PG dX) dX)) λh6=>
   dC PG (dT dX (pT r5 0) (aTM v d)) h6 λv7 h8=>dY (dH PG (fieldAt dX (pT r5 0) 1)) λv9=>dY (cG PG h8 (loadAt bT v9)) λv10=>k (Value.tuple #[v10,.int .i64 e]) h8:=by
  intro v d e h1 hv hkk r hr
  try rw[cW]
  rw[zbl];refine rW dL dX.info rfl (by simp) rfl ?_ ?_
  ·intro y hy;simp only[gU,lH,or_false] at hy;rcases hy with rfl|rfl
   ·exact hv
   ·rfl
  ·rw[uX];have c1:dB (h1.set r (.cells #[v,.string (tx d)] dX (0,0))) ⟨r,0+1,none⟩=some (.string (tx d)):=by simp[dB,dL]
   simp only[dX.f1,bT.load,c1,cE,reduceIte];exact hkk _ (cQ.new hr)
 refine aXM H x hx (λhs h1 u1=>?_) (λb v h1 hs S hv u1=>?_)
 ·simp only[cE,reduceIte];exact key _ _ _ h1 rfl (λh' u=>hn hs _ (u1.trans u))
 ·simp only[cE,reduceIte];exact key _ _ _ h1 hv (λh' u=>hk b _ hs (u1.trans u))
def aUi{h:PH}{v:Value}{l:List Pr}(S:fZ h 2 v (l.map Pr.cells))(hl:l.length≤1000000){k:cD}(hk:∀v' h' F,eM h' cM 2 v' (l.map Pr.cells) F->eK h F->dD h h'->k v' h'):aT PG qX #[v] h k:=by
 apply oQ.call;unfold oQ;have hS:=S;obtain⟨va,c,hv,hc1,hc2,hc3,-⟩:=S.here;rw[iV] at hv;subst hv;cases va with
 | none=>
  have hnil:l.map Pr.cells=[]:=by
   by_cases h0:l.map Pr.cells=[]
   ·exact h0
   ·obtain⟨b,o,cs,e,fr,e1,_⟩:=hc3 h0;cases e1
  have hl0:l=[]:=List.map_eq_nil_iff.1 hnil;subst hl0;simp only[aUy cJ.und,Option.isNone_none,cE,reduceIte];exact hk _ _ [] eM.nil (λb hb=>by cases hb) cQ.refl
 | some va=>
  have b0:jV PG (buildSlice cJ 0 #[])=some (.cells #[] cM,λr=>pure (.slice (some ⟨r,0,none⟩) 0 0)):=by kernel_rfl
  simp only[aUy cJ.und,Option.isNone_some,b0,cE,reduceIte];intro r hr;refine fP ?_
  try rw[cW]
  have u1:dD h (h.set r (.cells #[] cM)):=cQ.new hr;have O1:eM (h.set r (.cells #[] cM)) cM 2 (.slice (some ⟨r,0,none⟩) 0 0) (([]:List Pr).map Pr.cells) [r]:=eM.lit (n:=0) (Pr.rows []) dL (by simp) (by decide) rfl;generalize h.set r (.cells #[] cM)=h1 at *;refine jK cJ.und cJ.und cM.info cM.size cM.bytes cM.zero rfl (by decide) O1 (hS.ext u1) (Pr.isCell l) (by simp;omega) ?_;intro v2 h2 F2 O2 u2 k2 _;rw[jA,sK] at O2;exact hk _ _ F2 O2 (λb hb=>by
   rcases k2 b hb with h1|h1
   ·simp only[gB] at h1;subst h1;exact hr
   ·exact u1.none h1) (u1.fresh u2 (eK.one hr))
def aZ7{h:PH}{a:Nat}{s:St}{F:List Nat}(H:wD h a s F)(x:Nat)(hx:x<18446744073709551616){k:cD}(hn:zH s x=none->∀v h' F',eM h' cM 2 v (([]:List Pr).map Pr.cells) F'->eK h F'->dD h h'->k (.tuple #[v,.int .i64 3]) h')
  (hk:∀b v h' F',zH s x=some b->eM h' cM 2 v (b.map Pr.cells) F'->eK h F'->dD h h'->k (.tuple #[v,.int .i64 0]) h'):aT PG aFj #[pT a 0,.int .u64 (x:Int)] h k:=by
 apply aFW.call;unfold aFW;have hok:=H.ok;have key:∀(v:Value) (b:List Pr) (d:Tx) (e:Int) (h1:PH),fW v=true->fZ h1 2 v (b.map Pr.cells)->b.length≤4096->(∀v' h' F',eM h' cM 2 v' (b.map Pr.cells) F'->eK h1 F'->dD h1 h'->k (.tuple #[v',.int .i64 e]) h')->∀r5,h1 r5=none->eN (PH.set h1 r5 (.cells (dV PG dX) dX)) λh6=>
   dC PG (dT dX (pT r5 0) (aTM v d)) h6 λv7 h8=>dY (dH PG (fieldAt dX (pT r5 0) 0)) λv9=>dY (cG PG h8 (loadAt jC v9)) λv10=>aT PG aCp #[v10] h8 λv11 h12=>k (Value.tuple #[v11,.int .i64 e]) h12:=by
  intro v b d e h1 hv S hbl hkk r hr
  try rw[cW]
  rw[zbl];refine rW dL dX.info rfl (by simp) rfl ?_ ?_
  ·intro y hy;simp only[gU,lH,or_false] at hy;rcases hy with rfl|rfl
   ·exact hv
   ·rfl
  ·rw[uX];have u2:dD h1 (h1.set r (.cells #[v,.string (tx d)] dX (0,0))):=cQ.new hr;have a2:(h1.set r (.cells #[v,.string (tx d)] dX (0,0))) r=some (.cells #[v,.string (tx d)] dX (0,0)):=dL;generalize h1.set r (.cells #[v,.string (tx d)] dX (0,0))=h2 at *;have l1:=jC.loadAgg (o:=0) a2 (by simp);have le:(#[v,.string (tx d)]:Array Value).extract 0 (0+1)= #[v]:=rfl;rw[le] at l1;simp only[dX.f0,l1,cE,reduceIte];apply aBW.call;unfold aBW;intro r2 hr2
   try rw[cW]
   have ec:Value.cells (.agg #[v])= #[v]:=rfl;rw[ec];have u3:dD h2 (h2.set r2 (.cells #[v] jC)):=cQ.new hr2;have a3:(h2.set r2 (.cells #[v] jC)) r2=some (.cells #[v] jC (0,0)):=dL;generalize h2.set r2 (.cells #[v] jC)=h3 at *;have c0:dB h3 ⟨r2,0,none⟩=some v:=by simp[dB,a3]
   simp only[jC.f0,cJ.load,c0,cE,reduceIte];have u:=u2.trans u3;refine aUi (S.ext u) (by omega) λv' h4 F4 O4 f4 u4=>?_;exact hkk v' h4 F4 O4 (f4.of u) (u.trans u4)
 refine aXM H x hx (λhs h1 u1=>?_) (λb v h1 hs S hv u1=>?_)
 ·simp only[cE,reduceIte];exact key _ [] _ _ h1 rfl (eM.nil (e:=cM)).slR (by decide) (λv' h' F' O' f' u'=>hn hs v' h' F' O' (f'.of u1) (u1.trans u'))
 ·simp only[cE,reduceIte];have hb:b∈s.blocks:=tA (aOm hs).2;exact key _ b _ _ h1 hv S (hok.blk b hb).2.2 (λv' h' F' O' f' u'=>hk b v' h' F' hs O' (f'.of u1) (u1.trans u'))
def unP(q:Tx×Value):Pr:=match q.2 with
 | Value.string t=>⟨q.1,t.data.toList⟩
 | _=>⟨[],[]⟩
def aZT(p:Pr):unP p.pr=p:=by
 obtain⟨k,v⟩:=p;simp[unP,Pr.pr,tB,tx]
def aU7(l:List Pr):(l.map Pr.pr).map unP=l:=by
 rw[zL4];have:unP ∘ Pr.pr=id:=by funext p;exact aZT p
 rw[this,List.map_id]
def aX8{a b:List Pr}(h:(a.map Pr.pr).Perm (b.map Pr.pr)):a.Perm b:=by
 have:=h.map unP;rw[aU7,aU7] at this;exact this
def sZ.of{l L:List Pr}(hp:l.Perm L)(hs:sZ L)(ho:l.Pairwise λa b=>¬b.k<a.k):l=L:=by
 have hk:(l.map Pr.k).Nodup:=(hp.map Pr.k).nodup_iff.2 hs.keys;have hu:sZ l:=by
  unfold List.Nodup at hk;rw[List.pairwise_map] at hk;have:=ho.and hk;refine List.Pairwise.imp (fun {a b} hab=>?_) this;obtain⟨h1,h2⟩:=hab;rcases aIB a.k b.k with h|h|h
  ·exact h
  ·exact absurd h h2
  ·exact absurd h h1
 exact hu.ext hs λp=>hp.mem_iff
def aRt(p:Pr):dH PG (build cM #[(0,.string (tx p.k)),(1,.string (tx p.v))])=some p.val:=by kernel_rfl
def aUb(p:Pr):jV PG (buildSlice cJ 1 #[(0,p.val)])=some (.cells #[.string (tx p.k),.string (tx p.v)] cM,λr=>pure (.slice (some ⟨r,0,none⟩) 1 1)):=by kernel_rfl
def aWE(a:Option Addr)(n c:Nat):dH PG (build jC #[(0,.slice a n c)])=some (.agg #[.slice a n c]):=by kernel_rfl
def aV1(a:Option Addr)(n c:Nat)(d:ByteArray):dH PG (build dX #[(0,.agg #[.slice a n c]),(1,.string d)])=some (.agg #[.slice a n c,.string d]):=by kernel_rfl
def aYl(a:Option Addr)(n c:Nat)(d:ByteArray):jV PG (buildSlice fU 1 #[(0,.agg #[.slice a n c,.string d])])=some (.cells #[.slice a n c,.string d] dX,λr=>pure (.slice (some ⟨r,0,none⟩) 1 1)):=by kernel_rfl
def aUJ{h:PH}{a:Nat}{s:St}{F:List Nat}(hK:oP h)(H:wD h a s F){k:cD}(hk:∀h' F',wD h' a (lV s).1 F'->cQ F h h'->(∀b∈F',b∈F∨h b=none)->k (.tuple #[.int .u64 ((lV s).2.1:Int),.int .i64 (lV s).2.2]) h'):
  aT PG aCf #[pT a 0] h k:=by
 apply tL.call;unfold tL;have hok:=H.ok;have hH:=H;have hkn:=H.known;obtain⟨m,l,vv,bl,Fb,G,ha,hm,hp,hO,hS,hbl,rfl,hn1,hn2,hn3,hG⟩:=H.here;have c0:dB h ⟨a,0,none⟩=some (.map (some m)):=by simp[dB,ha]
 have c1:dB h ⟨a,0+1,none⟩=some vv:=by simp[dB,ha]
 have c2:dB h ⟨a,0+2,none⟩=some (.int .u64 s.height):=by simp[dB,ha]
 have h4:=hok.h4;by_cases d1:s.height=18446744073709551615
 ·have g1:((s.height:Int)==18446744073709551615)=true:=by simp;omega
  simp only[eY.f2,cA.load,c2,g1,cE,reduceIte];have hs:lV s=(s,(0,12)):=by unfold lV;rw[if_pos d1]
  rw[hs] at hk;exact hk h _ hH cQ.refl (λb hb=>.inl hb)
 have g1:((s.height:Int)==18446744073709551615)=false:=by simp;omega
 have lv:=hO.slR.len (t':=bR) fU.und;have hbn:bl.length=s.blocks.length:=by rw[←hbl,iV]
 rw[iV,hbn] at lv;by_cases d2:4096≤s.blocks.length
 ·have g2:((4096:Int)≤((s.blocks.length:Nat):Int))=True:=eq_true (by omega);simp only[eY.f2,eY.f1,cA.load,fU.load,c1,c2,lv,g1,g2,cE,reduceIte];have hs:lV s=(s,(0,2)):=by unfold lV;rw[if_neg d1,if_pos d2]
  rw[hs] at hk;exact hk h _ hH cQ.refl (λb hb=>.inl hb)
 have g2:((4096:Int)≤((s.blocks.length:Nat):Int))=False:=eq_false (by omega);simp only[eY.f2,eY.f1,eY.f0,cA.load,fU.load,dZ.load,c0,c1,c2,lv,g1,g2,cE,reduceIte];refine aRJ dZ.und hm λit h1 hit HI u1=>?_;have hll:l.length≤4096:=by rw[hp.length_eq];exact hok.few
 refine⟨λvs h'=>∃(pre:List Pr) (v:Value) (Fl:List Nat),vs=[pT a 0,v,pT it 0]∧aDI tB h' m it (l.map Pr.pr) (pre.map Pr.pr)∧eM h' cM 2 v (pre.map Pr.cells) Fl∧eK h Fl∧it∉Fl∧dD h h',λ_ h'=>aPB l.length it h',⟨[],_,[],rfl,HI,eM.nil,(λb hb=>by cases hb),by simp,u1⟩,?_⟩;rintro ρ h' ⟨pre,v,Fl,hvs,HI,O,fl,hil,u⟩;simp only[iH,jA,lN,and_true] at hvs;obtain⟨v0,v4,v24⟩:=hvs;simp only[v0,v4,v24,iH,jA];unfold aF4;have hlen:=HI.le;rw[iV,iV] at hlen;refine aSM HI (λhperm=>?_) (λky vl h2 hmem hnot HI2 u2=>?_)
 ·-- all are gathered
  have hpp:pre.Perm s.now:=(aX8 hperm).trans hp;simp only[cE,reduceIte];refine aWU O (by omega) λl' h2 hp2 hs2 O2 u2=>?_;have hl':l'=s.now:=sZ.of (hp2.trans hpp) hok.up hs2;subst hl';have e2:dD h h2:=u.fresh u2 fl;have ha2:=e2.get ha;have c1:dB h2 ⟨a,0+1,none⟩=some vv:=by simp[dB,ha2]
  obtain⟨va,cap,hv,-⟩:=O2.slR.here;rw[iV] at hv;have hsl:=O2.slR;rw[hv] at hsl;simp only[eY.f1,fU.load,c1,hv,aWE,cE,reduceIte];refine aOI (by have:=hok.few;omega) (hK.ext e2) hsl (λp hp=>by have:=hok.fit p hp;unfold aPd at this;omega) λh3 u3=>?_;have e3:=e2.trans u3;have ha3:=e3.get ha;refine⟨by simp[dB,ha3],?_⟩;simp only[aV1,aYl,cE,reduceIte];intro r hr;refine fP ?_
  try rw[cW]
  have u4:dD h3 (h3.set r (.cells #[.slice va s.now.length cap,.string (tx (oD s.now))] dX)):=cQ.new hr;have s4:fZ (h3.set r (.cells #[.slice va s.now.length cap,.string (tx (oD s.now))] dX)) 2 (.slice (some ⟨r,0,none⟩) 1 1) ([((.slice va s.now.length cap:Value),s.now)].map aE2):=(eM.lit (n:=1) (aE2.rows [((.slice va s.now.length cap:Value),s.now)]) dL (by simp) (by decide) rfl).slR;generalize h3.set r (.cells #[.slice va s.now.length cap,.string (tx (oD s.now))] dX)=h4' at *;have e4:=e3.trans u4;have hO4:=hO.ext e4;refine jK fU.und fU.und dX.info dX.size dX.bytes dX.zero rfl (by decide) hO4 s4 ?_ (by simp only[iV,zLT];omega) ?_
  ·intro r hr u hu;obtain⟨y,hy,rfl⟩:=mJ.1 hr;simp only[gB] at hy;subst hy;simp only[aE2,gU,lH,or_false] at hu;rcases hu with rfl|rfl<;>rfl
  intro v5 h5 F5 O5 u5 k5 _;have ha4:=e4.get ha;have ha5:=u5.get ha4 hn2;obtain⟨x5,y5,hv5,-⟩:=O5.slR.here;have hvc:fW v5=true:=by rw[hv5];rfl
  try simp only[eY.f1,cE,reduceIte]
  refine iT fU.und rfl ha5 (by simp) hvc fU.info fU.size ?_;have ew1:(#[(Value.map (some m)),vv,.int .u64 (s.height:Int)]:Array Value).setIfInBounds (0+1) v5= #[.map (some m),v5,.int .u64 (s.height:Int)]:=rfl;rw[ew1];have u6:cQ [a] h5 (h5.set a (.cells #[.map (some m),v5,.int .u64 (s.height:Int)] eY (0,0))):=cQ.set (by simp);have a6:(h5.set a (.cells #[.map (some m),v5,.int .u64 (s.height:Int)] eY (0,0))) a=some (.cells #[.map (some m),v5,.int .u64 (s.height:Int)] eY (0,0)):=dL;generalize h5.set a (.cells #[.map (some m),v5,.int .u64 (s.height:Int)] eY (0,0))=h6 at *;have c2:dB h6 ⟨a,0+2,none⟩=some (.int .u64 s.height):=by simp[dB,a6]
  have ei:IntKind.u64.wrap ((s.height:Int)+1)=((s.height+1:Nat):Int):=by rw[gO (by omega) (by omega)];omega
  simp only[eY.f2,cA.load,c2,ei,cE,reduceIte];refine iT cA.und rfl a6 (by simp) rfl cA.info cA.size ?_;have ew2:(#[(Value.map (some m)),v5,.int .u64 (s.height:Int)]:Array Value).setIfInBounds (0+2) (.int .u64 ((s.height+1:Nat):Int))= #[.map (some m),v5,.int .u64 ((s.height+1:Nat):Int)]:=rfl;rw[ew2];have u7:cQ [a] h6 (h6.set a (.cells #[.map (some m),v5,.int .u64 ((s.height+1:Nat):Int)] eY (0,0))):=cQ.set (by simp);have a7:(h6.set a (.cells #[.map (some m),v5,.int .u64 ((s.height+1:Nat):Int)] eY (0,0))) a=some (.cells #[.map (some m),v5,.int .u64 ((s.height+1:Nat):Int)] eY (0,0)):=dL;generalize h6.set a (.cells #[.map (some m),v5,.int .u64 ((s.height+1:Nat):Int)] eY (0,0))=h7 at *;have c2:dB h7 ⟨a,0+2,none⟩=some (.int .u64 ((s.height+1:Nat):Int)):=by simp[dB,a7]
  simp only[eY.f2,cA.load,c2,cE,reduceIte];have hs:lV s=({s with blocks:=s.blocks++[s.now],height:=s.height+1},(s.height+1,0)):=by unfold lV;rw[if_neg d1,if_neg d2]
  rw[hs] at hk
  -- what was changed
  have w5:cQ (a::Fb) h4' h5:=u5.mono λb hb=>.inl (by simp[hb]);have w7:cQ (a::Fb) h5 h7:=(u6.trans u7).mono λb hb=>.inl (by simp at hb;simp[hb]);have w:cQ (a::Fb) h4' h7:=w5.trans w7;have wh:cQ (a::Fb) h h7:=e4.upd.trans w;have hflh:∀b∈Fl,b≠a∧b≠m∧b∉Fb:=λb hb=>by
   have:=fl b hb;refine⟨λe=>?_,λe=>?_,λe=>?_⟩
   ·subst e;rw[ha] at this;cases this
   ·subst e;exact jR.known hm this
   ·exact hO.known b e this
  have hO4l:=(O2.ext u3).ext u4;have hFlk:∀b∈Fl,h4' b≠none:=hO4l.known;have hnoF5:∀b,h4' b≠none->b∉Fb->b∉F5:=λb h1 h2 h3=>by
   rcases k5 b h3 with h|h
   ·exact h2 h
   ·exact h1 h
  have ha4n:h4' a≠none:=by rw[ha4];simp
  have hm4n:h4' m≠none:=jR.known (jR.ext hm e4);have hG4:∀g∈G,h4' g≠none:=λg hg=>by
   obtain⟨o,ho⟩:=aH1.1 (hG g hg).2.2.2;rw[e4.get ho];simp
  have hOl7:=hO4l.upd w (λb hb=>by simp only[gU,not_or];exact⟨(hflh b hb).1,(hflh b hb).2.2⟩);refine hk h7 (a::m::(F5++(G++Fl))) ⟨⟨m,l,v5,bl++[(.slice va s.now.length cap,s.now)],F5,G++Fl,a7,jR.upd hm wh (by simp only[gU,not_or];exact⟨hn1.symm,hn3⟩),hp,?_,?_,?_,rfl,hn1,hnoF5 a ha4n hn2,hnoF5 m hm4n hn3,?_⟩,?_⟩ (wh.mono λb hb=>.inl ?_) ?_
  ·rw[pO];exact O5.upd (u6.trans u7) (λb hb=>by simp only[gB];rintro rfl;exact hnoF5 _ ha4n hn2 hb)
  ·intro x hx;rw[kB] at hx;rcases hx with hx|hx
   ·refine⟨(hS x hx).1.upd wh λy n c e=>?_,λy n c e=>zLk _ ((hS x hx).2 y n c e)⟩;have hg:=hG _ ((hS x hx).2 y n c e);simp only[gU,not_or];exact⟨hg.1,hg.2.2.1⟩
   ·simp only[gB] at hx;subst hx;have hs7:=hOl7.slR;rw[hv] at hs7;refine⟨hs7,λy n c e=>zLl _ ?_⟩;rcases hOl7.here with⟨e1,_,_⟩|⟨b,cap',cs,e1,e2,_⟩
    ·rw[hv] at e1;simp only[Value.slice.injEq] at e1 e;rw[e1.1] at e;cases e.1
    ·rw[hv] at e1;simp only[Value.slice.injEq] at e1 e;rw[e1.1] at e;simp only[zL9] at e;rw[←e.1,e2];simp
  ·rw[pO,hbl];rfl
  ·intro g hg;rw[kB] at hg;have wk:h4' g≠none->g≠a->g∉Fb->h7 g≠none:=λh1 h2 h3=>by
    obtain⟨o,ho⟩:=aH1.1 h1;rw[w.get ho (by simp only[gU,not_or];exact⟨h2,h3⟩)];simp
   rcases hg with hg|hg
   ·have:=hG g hg;exact⟨this.1,this.2.1,hnoF5 g (hG4 g hg) this.2.2.1,wk (hG4 g hg) this.1 this.2.2.1⟩
   ·have:=hflh g hg;exact⟨this.1,this.2.1,hnoF5 g (hFlk g hg) this.2.2,wk (hFlk g hg) this.1 this.2.2⟩
  ·refine⟨hok.up,hok.fit,hok.few,λb hb=>?_,?_,?_,?_,?_⟩
   ·simp only[kB,gB] at hb;rcases hb with hb|rfl
    ·exact hok.blk b hb
    ·exact⟨hok.up,hok.fit,hok.few⟩
   ·simp
   ·simp only[jM,zLT];omega
   ·have:=hok.h3;have:=hok.h1;simp only[jM,zLT];omega
   ·show s.height+1<18446744073709551616;omega
  ·simp only[gU] at hb;simp only[gU,kB];rcases hb with hb|hb
   ·exact .inl hb
   ·exact .inr (.inr (.inl hb))
  ·intro b hb;simp only[gU,kB] at hb ⊢;rcases hb with hb|hb|hb|hb|hb
   ·exact .inl (.inl hb)
   ·exact .inl (.inr (.inl hb))
   ·rcases k5 b hb with h1|h1
    ·exact .inl (.inr (.inr (.inl h1)))
    ·exact .inr (e4.none h1)
   ·exact .inl (.inr (.inr (.inr hb)))
   ·exact .inr (fl b hb)
 ·-- one more
  obtain⟨p,hpl,hpe⟩:=mJ.1 hmem;have hky:ky=p.k:=by have:=congrArg Prod.fst hpe;exact this.symm
  have hvl:vl= .string (tx p.v):=by have:=congrArg Prod.snd hpe;exact this.symm
  subst hky hvl;have O2:=O.upd u2 (λb hb=>by simp only[gB];rintro rfl;exact hil hb);have e2:dD h h2:=u.fresh u2 (eK.one hit);simp only[cE,reduceIte];refine aRa HI2 ?_;have ek:tB p.k= .string (tx p.k):=rfl;simp only[ek,aRt,aUb,cE,reduceIte];intro r hr;refine fP ?_
  try rw[cW]
  have u3:dD h2 (h2.set r (.cells #[.string (tx p.k),.string (tx p.v)] cM)):=cQ.new hr;have s3:fZ (h2.set r (.cells #[.string (tx p.k),.string (tx p.v)] cM)) 2 (.slice (some ⟨r,0,none⟩) 1 1) ([p].map Pr.cells):=(eM.lit (n:=1) (Pr.rows [p]) dL (by simp) (by decide) rfl).slR;generalize h2.set r (.cells #[.string (tx p.k),.string (tx p.v)] cM)=h3 at *;have HI3:=HI2.upd u3 (by simp) (by simp);have O3:=O2.ext u3;refine jK cJ.und cJ.und cM.info cM.size cM.bytes cM.zero rfl (by decide) O3 s3 (Pr.isCell [p]) (by simp;omega) ?_;intro v4' h4' F4 O4 u4 k4 _;have e3:=e2.trans u3;have hit3:it∉F4:=λhm=>by
   rcases k4 it hm with h1|h1
   ·exact hil h1
   ·exact HI3.known h1
  have HI4:=HI3.upd u4 (λhm'=>by have:=fl m hm';exact jR.known hm this) hil;refine⟨⟨pre++[p],v4',F4,(by trivial),?_,?_,fl.grow e3 k4,hit3,e3.fresh u4 fl⟩,?_⟩
  ·rw[pO];exact HI4
  ·rw[pO];exact O4
  ·rw[HI4.left,HI.left];have:=HI4.le;simp only[jM,iV,qE,zLN] at this ⊢;omega
end
section
open Go
structure Ch where
 id:Int
 st:St
 first:Nat
 blk:List (List Nt)
 nts:List Nt
 cl:List hZ
 seq:Nat
def stA(a:Nat)(s:St):nA:=λh F=>wD h a s F
def stA.good(a:Nat)(s:St):mK (stA a s):=⟨λH=>wD.known H,λH u hK=>wD.upd H u hK⟩
def aDr(m:Nat)(l:List Pr):nA:=λh F=>F=[m]∧aPH h m l
def aDr.good(m:Nat)(l:List Pr):mK (aDr m l) where
 known:=by
  rintro h F ⟨rfl,H⟩ b hb;simp only[gB] at hb;subst hb;exact jR.known H
 upd:=by
  rintro h h' F K ⟨rfl,H⟩ u hK;exact⟨rfl,jR.upd H u (hK m (by simp))⟩
def aDd(a:Nat)(l:List hZ):nA:=λh F=>∃hs,rP h a l hs F
def aDd.good(a:Nat)(l:List hZ):mK (aDd a l):=⟨λ⟨_,H⟩=>rP.known H,λ⟨hs,H⟩ u hK=>⟨hs,rP.upd H u hK⟩⟩
def aKo(x:Value×List Nt):List Value:=[x.1]
def aKo.rows(l:List (Value×List Nt)):Rows 1 (l.map aKo):=λr hr=>by obtain⟨m,_,rfl⟩:=mJ.1 hr;rfl
def aBP(v:Value)(blk:List (List Nt)):nA:=λh F=>∃(bl:List (Value×List Nt)) (Fb G:List Nat),eM h cU 1 v (bl.map aKo) Fb∧(∀x∈bl,fZ h 5 x.1 (x.2.map Nt.cells)∧aDG x.1 G)∧bl.map (·.2)=blk∧F=Fb++G∧∀g∈G,g∉Fb∧h g≠none
def aBP.good(v:Value)(blk:List (List Nt)):mK (aBP v blk) where
 known:=by
  rintro h F ⟨bl,Fb,G,O,S,e,rfl,hG⟩ b hb;rcases kB.1 hb with hb|hb
  ·exact O.known b hb
  ·exact(hG b hb).2
 upd:=by
  rintro h h' F K ⟨bl,Fb,G,O,S,e,rfl,hG⟩ u hK;refine⟨bl,Fb,G,O.upd u (λb hb=>hK b (by simp[hb])),λx hx=>⟨(S x hx).1.upd u λa n c ev=>hK _ (by have:=(S x hx).2 a n c ev;simp[this]),(S x hx).2⟩,e,rfl,λg hg=>⟨(hG g hg).1,?_⟩⟩;obtain⟨o,ho⟩:=aH1.1 (hG g hg).2;rw[u.get ho (hK g (by simp[hg]))];simp
def Ch.cells(s:Ch)(sp:Nat)(bv nv:Value)(m cp:Nat):List Value:=[pT sp 0,.int .u64 s.first,bv,nv,.map (some m),.int .i64 s.id,pT cp 0,.int .u64 s.seq]
def jD(c:Nat)(cs:List Value)(sp:Nat)(st:St)(m:Nat)(lk:List Pr)(cp:Nat)(cl:List hZ)(nv:Value)(nts:List Nt)(bv:Value)(blk:List (List Nt)):nA:=
eP (qL c cs) (eP (stA sp st) (eP (aDr m lk) (eP (aDd cp cl) (eP (xY dA 5 nv (nts.map Nt.cells)) (aBP bv blk)))))
structure Ch.Ok(s:Ch):Prop where
 id:s.id=0∨s.id=1
 len:s.blk.length=s.st.blocks.length
 first:s.first+(s.blk.length-1)=s.st.height
 seq:s.seq<18446744073709551616
 seq1:1≤s.seq
 nts:s.nts.length≤1000000
 wf:∀n∈s.nts,n.p.wf
 bwf:∀b∈s.blk,b.length≤1000000∧∀n∈b,n.p.wf
def jB(c:Nat)(s:Ch):nA:=λh F=>∃sp m cp nv bv lk,jD c (s.cells sp bv nv m cp) sp s.st m lk cp s.cl nv s.nts bv s.blk h F∧lk.Perm s.st.now∧s.Ok
section
variable{c:Nat}{cs:List Value}{sp:Nat}{st:St}{m:Nat}{lk:List Pr}{cp:Nat}{cl:List hZ}{nv:Value}{nts:List Nt}{bv:Value}{blk:List (List Nt)}
def gN:mK (xY dA 5 nv (nts.map Nt.cells)):=xY.good _ _ _ _
def g5:mK (eP (xY dA 5 nv (nts.map Nt.cells)) (aBP bv blk)):=gN.star (aBP.good _ _)
def g4:mK (eP (aDd cp cl) (eP (xY dA 5 nv (nts.map Nt.cells)) (aBP bv blk))):=(aDd.good _ _).star g5
def g3:mK (eP (aDr m lk) (eP (aDd cp cl) (eP (xY dA 5 nv (nts.map Nt.cells)) (aBP bv blk)))):=(aDr.good _ _).star g4
def g2:mK (eP (stA sp st) (eP (aDr m lk) (eP (aDd cp cl) (eP (xY dA 5 nv (nts.map Nt.cells)) (aBP bv blk))))):=(stA.good _ _).star g3
def jD.good:mK (jD c cs sp st m lk cp cl nv nts bv blk):=(qL.good _ _).star g2
variable{h:PH}{F:List Nat}(H:jD c cs sp st m lk cp cl nv nts bv blk h F)
include H
def jD.fBox:zJ h F (qL c cs) (λX=>eP X (eP (stA sp st) (eP (aDr m lk) (eP (aDd cp cl) (eP (xY dA 5 nv (nts.map Nt.cells)) (aBP bv blk)))))):=eP.left g2 H
def jD.fSt:zJ h F (stA sp st) (λX=>eP (qL c cs) (eP X (eP (aDr m lk) (eP (aDd cp cl) (eP (xY dA 5 nv (nts.map Nt.cells)) (aBP bv blk)))))):=(eP.right (qL.good _ _) H).comp λ_ H=>eP.left g3 H
def jD.fMap:zJ h F (aDr m lk) (λX=>eP (qL c cs) (eP (stA sp st) (eP X (eP (aDd cp cl) (eP (xY dA 5 nv (nts.map Nt.cells)) (aBP bv blk)))))):=(eP.right (qL.good _ _) H).comp λ_ H=>(eP.right (stA.good _ _) H).comp λ_ H=>eP.left g4 H
def jD.fCli:zJ h F (aDd cp cl) (λX=>eP (qL c cs) (eP (stA sp st) (eP (aDr m lk) (eP X (eP (xY dA 5 nv (nts.map Nt.cells)) (aBP bv blk)))))):=(eP.right (qL.good _ _) H).comp λ_ H=>(eP.right (stA.good _ _) H).comp λ_ H=>(eP.right (aDr.good _ _) H).comp λ_ H=>eP.left g5 H
def jD.fNts:zJ h F (xY dA 5 nv (nts.map Nt.cells)) (λX=>eP (qL c cs) (eP (stA sp st) (eP (aDr m lk) (eP (aDd cp cl) (eP X (aBP bv blk)))))):=(eP.right (qL.good _ _) H).comp λ_ H=>(eP.right (stA.good _ _) H).comp λ_ H=>(eP.right (aDr.good _ _) H).comp λ_ H=>(eP.right (aDd.good _ _) H).comp λ_ H=>eP.left (aBP.good _ _) H
def jD.fTwo:zJ h F (eP (xY dA 5 nv (nts.map Nt.cells)) (aBP bv blk)) (λX=>eP (qL c cs) (eP (stA sp st) (eP (aDr m lk) (eP (aDd cp cl) X)))):=(eP.right (qL.good _ _) H).comp λ_ H=>(eP.right (stA.good _ _) H).comp λ_ H=>(eP.right (aDr.good _ _) H).comp λ_ H=>eP.right (aDd.good _ _) H
end
def jB.good(c:Nat)(s:Ch):mK (jB c s) where
 known:=λ⟨_,_,_,_,_,_,H,_⟩=>jD.good.known H
 upd:=λ⟨sp,m,cp,nv,bv,lk,H,e⟩ u hK=>⟨sp,m,cp,nv,bv,lk,jD.good.upd H u hK,e⟩
def jD.cell{c:Nat}{cs:List Value}{sp:Nat}{st:St}{m:Nat}{lk:List Pr}{cp:Nat}{cl:List hZ}{nv:Value}{nts:List Nt}{bv:Value}{blk:List (List Nt)}{h:PH}{F:List Nat}(H:jD c cs sp st m lk cp cl nv nts bv blk h F):Bx h c cs:=by
 obtain⟨Fa,⟨-,B⟩,-,-⟩:=H.fBox;exact B
def Ch.load0{h:PH}{c:Nat}{s:Ch}{sp:Nat}{bv nv:Value}{m cp:Nat}(B:Bx h c (s.cells sp bv nv m cp)):cG PG h (loadAt jE (pT c 0))=some (pT sp 0):=by rw[jE.load,B.cell];rfl
def Ch.load1{h:PH}{c:Nat}{s:Ch}{sp:Nat}{bv nv:Value}{m cp:Nat}(B:Bx h c (s.cells sp bv nv m cp)):cG PG h (loadAt cA (pT c 1))=some (.int .u64 s.first):=by rw[cA.load,B.cell];rfl
def Ch.load2{h:PH}{c:Nat}{s:Ch}{sp:Nat}{bv nv:Value}{m cp:Nat}(B:Bx h c (s.cells sp bv nv m cp)):cG PG h (loadAt eS (pT c 2))=some bv:=by rw[eS.load,B.cell];rfl
def Ch.load3{h:PH}{c:Nat}{s:Ch}{sp:Nat}{bv nv:Value}{m cp:Nat}(B:Bx h c (s.cells sp bv nv m cp)):cG PG h (loadAt cU (pT c 3))=some nv:=by rw[cU.load,B.cell];rfl
def Ch.load4{h:PH}{c:Nat}{s:Ch}{sp:Nat}{bv nv:Value}{m cp:Nat}(B:Bx h c (s.cells sp bv nv m cp)):cG PG h (loadAt dZ (pT c 4))=some (.map (some m)):=by rw[dZ.load,B.cell];rfl
def Ch.load5{h:PH}{c:Nat}{s:Ch}{sp:Nat}{bv nv:Value}{m cp:Nat}(B:Bx h c (s.cells sp bv nv m cp)):cG PG h (loadAt bR (pT c 5))=some (.int .i64 s.id):=by rw[bR.load,B.cell];rfl
def Ch.load6{h:PH}{c:Nat}{s:Ch}{sp:Nat}{bv nv:Value}{m cp:Nat}(B:Bx h c (s.cells sp bv nv m cp)):cG PG h (loadAt jG (pT c 6))=some (pT cp 0):=by rw[jG.load,B.cell];rfl
def Ch.load7{h:PH}{c:Nat}{s:Ch}{sp:Nat}{bv nv:Value}{m cp:Nat}(B:Bx h c (s.cells sp bv nv m cp)):cG PG h (loadAt cA (pT c 7))=some (.int .u64 s.seq):=by rw[cA.load,B.cell];rfl
def Ch.put(s:Ch)(k v:Tx):Ch:={s with st:={s.st with now:=oO s.st.now ⟨k,v⟩}}
def Ch.del(s:Ch)(k:Tx):Ch:={s with st:={s.st with now:=vJ s.st.now k}}
def Ch.add(s:Ch)(n:Nt):Ch:={s with nts:=s.nts++[n]}
def jD.okst{c:Nat}{cs:List Value}{sp:Nat}{st:St}{m:Nat}{lk:List Pr}{cp:Nat}{cl:List hZ}{nv:Value}{nts:List Nt}{bv:Value}{blk:List (List Nt)}{h:PH}{F:List Nat}(H:jD c cs sp st m lk cp cl nv nts bv blk h F):st.Ok:=by
 obtain⟨Fs,S,-,-⟩:=H.fSt;exact wD.ok S
def aPN{h:PH}{c:Nat}{s:Ch}{F:List Nat}(H:jB c s h F){k v:Tx}(h1:1≤k.length)(h2:k.length≤16)(h3:v.length≤64)(hr:¬(iJ s.st.now k=none∧4096≤s.st.now.length)){kk:cD}
  (hk:∀h' F',jB c (s.put k v) h' F'->jI h F h' F'->kk (.tuple #[]) h'):aT PG xB #[pT c 0,.string (tx k),.string (tx v)] h kk:=by
 apply aDm.call;unfold aDm;obtain⟨sp,m,cp,nv,bv,lk,P,perm,ok⟩:=H;have hst:=P.okst;simp only[eX.f4,fQ,Ch.load4 P.cell,cE,reduceIte,cZ,Nat.reduceAdd];obtain⟨Fm,⟨rfl,M⟩,hFm,back⟩:=P.fMap;refine aKy aJk dZ.und M k (.string (tx v)) λh4 M4 u4=>?_;obtain⟨l',e1,e2⟩:=aPz perm hst.up ⟨k,v⟩;have e1':aDv (lk.map Pr.pr) k (.string (tx v))=l'.map Pr.pr:=e1;rw[e1'] at M4;obtain⟨F4,P4,s4⟩:=back (aDr m l') h4 [m] ⟨rfl,M4⟩ ⟨u4,λb hb=>.inl hb⟩;have P4:jD c (s.cells sp bv nv m cp) sp s.st m l' cp s.cl nv s.nts bv s.blk h4 F4:=P4;simp only[eX.f0,Ch.load0 P4.cell,cE,reduceIte,cZ,Nat.reduceAdd];obtain⟨Fs,S,hFs,back2⟩:=P4.fSt;have es:aCo s.st k v=({s.st with now:=oO s.st.now ⟨k,v⟩},0):=by
  unfold aCo;rw[if_neg (by omega),if_neg hr]
 refine aYQ S k v λh5 S5 u5=>?_;rw[es] at S5;obtain⟨F5,P5,s5⟩:=back2 (stA sp {s.st with now:=oO s.st.now ⟨k,v⟩}) h5 Fs S5 ⟨u5,λb hb=>.inl hb⟩;exact hk h5 F5 ⟨sp,m,cp,nv,bv,l',P5,e2,⟨ok.id,ok.len,ok.first,ok.seq,ok.seq1,ok.nts,ok.wf,ok.bwf⟩⟩ (s4.trans s5)
def aWH{h:PH}{c:Nat}{s:Ch}{F:List Nat}(H:jB c s h F){k:Tx}(hg:iJ s.st.now k≠none){kk:cD}
  (hk:∀h' F',jB c (s.del k) h' F'->jI h F h' F'->kk (.tuple #[]) h'):aT PG aDq #[pT c 0,.string (tx k)] h kk:=by
 apply aCe.call;unfold aCe;obtain⟨sp,m,cp,nv,bv,lk,P,perm,ok⟩:=H;have hst:=P.okst;simp only[eX.f4,fQ,Ch.load4 P.cell,cE,reduceIte,cZ,Nat.reduceAdd];obtain⟨Fm,⟨rfl,M⟩,hFm,back⟩:=P.fMap;refine aPr aJk dZ.und M k rfl λh4 M4 u4=>?_;rw[aSa] at M4;obtain⟨F4,P4,s4⟩:=back (aDr m (vJ lk k)) h4 [m] ⟨rfl,M4⟩ ⟨u4,λb hb=>.inl hb⟩;have P4:jD c (s.cells sp bv nv m cp) sp s.st m (vJ lk k) cp s.cl nv s.nts bv s.blk h4 F4:=P4;simp only[eX.f0,Ch.load0 P4.cell,cE,reduceIte,cZ,Nat.reduceAdd];obtain⟨Fs,S,hFs,back2⟩:=P4.fSt;have es:aFo s.st k=({s.st with now:=vJ s.st.now k},0):=by
  unfold aFo;rw[if_neg hg]
 refine aTn S k λh5 S5 u5=>?_;rw[es] at S5;obtain⟨F5,P5,s5⟩:=back2 (stA sp {s.st with now:=vJ s.st.now k}) h5 Fs S5 ⟨u5,λb hb=>.inl hb⟩;exact hk h5 F5 ⟨sp,m,cp,nv,bv,_,P5,perm.filter _,⟨ok.id,ok.len,ok.first,ok.seq,ok.seq1,ok.nts,ok.wf,ok.bwf⟩⟩ (s4.trans s5)
def aRL{h:PH}{c:Nat}{s:Ch}{F:List Nat}(H:jB c s h F){n:Nat}(hn:n≤100){kk:cD}(hk:kk (.bool (decide (s.st.now.length+n≤4096))) h):aT PG aAK #[pT c 0,.int .i64 (n:Int)] h kk:=by
 apply aCO.call;unfold aCO;obtain⟨sp,m,cp,nv,bv,lk,P,perm,ok⟩:=H;have hf:=P.okst.few;simp only[eX.f0,Ch.load0 P.cell,cE,reduceIte,cZ,Nat.reduceAdd];obtain⟨Fs,S,-,-⟩:=P.fSt;refine aYh S ?_;have e1:IntKind.i64.wrap ((s.st.now.length:Int)+(n:Int))=((s.st.now.length+n:Nat):Int):=by rw[fH (by omega) (by omega)];omega
 have e2:(((s.st.now.length+n:Nat):Int)≤4096)=(s.st.now.length+n≤4096):=by apply propext;omega
 simp only[e1,e2,cE,reduceIte,cZ,Nat.reduceAdd];exact hk
def bAY(k:Int)(p:Pk):dH PG (build dA #[(0,.int .i64 k),(1,p.v)])=some (.agg (Nt.cells ⟨k,p⟩).toArray):=by kernel_rfl
def aXY(x:Nt):jV PG (buildSlice cU 1 #[(0,.agg x.cells.toArray)])=some (.cells x.cells.toArray dA (0,0),λr=>pure (.slice (some ⟨r,0,none⟩) 1 1)):=by kernel_rfl
def bAa(l:List Nt):Rows 5 (l.map Nt.cells):=λr hr=>by obtain⟨m,_,rfl⟩:=mJ.1 hr;rfl
def bAA(l:List Nt):∀r∈l.map Nt.cells,∀u∈r,fW u=true:=λr hr u hu=>by
 obtain⟨m,_,rfl⟩:=mJ.1 hr;simp only[Nt.cells,Pk.cells,gU,zLW,sK,lH,or_false] at hu;rcases hu with rfl|rfl|rfl|rfl|rfl<;>rfl
def aN5{h:PH}{c:Nat}{s:Ch}{F:List Nat}(H:jB c s h F)(k:Int){p:Pk}(w:p.wf)(hl:s.nts.length<1000000){kk:cD}
  (hk:∀h' F',jB c (s.add ⟨k,p⟩) h' F'->jI h F h' F'->kk (.tuple #[]) h'):aT PG xC #[pT c 0,.int .i64 k,p.v] h kk:=by
 apply xG.call;unfold xG;intro r1 hr1
 try rw[cW]
 have u1:dD h (h.set r1 (.cells (Value.cells p.v) aR)):=cQ.new hr1;have B1:Bx (h.set r1 (.cells (Value.cells p.v) aR)) r1 p.cells:=Bx.new;generalize h.set r1 (.cells (Value.cells p.v) aR)=h1 at *;have H1:=(jB.good c s).ext H u1;obtain⟨sp,m,cp,nv,bv,lk,P,perm,ok⟩:=H1;have lp:cG PG h1 (loadAt aR (pT r1 0))=some p.v:=B1.pk rfl;simp only[eJ.f0,eX.f3,fQ,Ch.load3 P.cell,lp,bAY,aXY,cE,reduceIte,cZ,Nat.reduceAdd];intro r9 hr9;refine fP ?_
 try rw[cW]
 have u2:dD h1 (h1.set r9 (.cells (Nt.cells ⟨k,p⟩).toArray dA (0,0))):=cQ.new hr9;have s1:fZ (h1.set r9 (.cells (Nt.cells ⟨k,p⟩).toArray dA (0,0))) 5 (.slice (some ⟨r9,0,none⟩) 1 1) ([⟨k,p⟩].map Nt.cells):=(eM.lit (bAa [⟨k,p⟩]) dL (by simp) (by decide) (by simp)).slR;generalize h1.set r9 (.cells (Nt.cells ⟨k,p⟩).toArray dA (0,0))=h2 at *;have P2:=jD.good.ext P u2;obtain⟨Fn,O,hFn,back⟩:=P2.fNts;refine jK cU.und cU.und dA.info dA.size dA.bytes dA.zero rfl (by decide) O s1 (bAA _) (by simp;omega) ?_;intro v3 h3 F3 O3 u3 g3 _;rw[←pO] at O3;obtain⟨F4,P4,s4⟩:=back (xY dA 5 v3 ((s.nts++[(⟨k,p⟩:Nt)]).map Nt.cells)) h3 F3 O3 ⟨u3,g3⟩;have P4:jD c (s.cells sp bv nv m cp) sp s.st m lk cp s.cl v3 (s.nts++[⟨k,p⟩]) bv s.blk h3 F4:=P4;obtain⟨Fb,⟨rfl,B⟩,hFb,back2⟩:=P4.fBox;refine cU.put B (o:=3) (by show 3<8;decide) O3.slR.isc λh5 B5 u5=>?_;obtain⟨F5,P5,s5⟩:=back2 (qL c (s.cells sp bv v3 m cp)) h5 [c] ⟨rfl,B5⟩ ⟨u5,λb hb=>.inl hb⟩;refine hk h5 F5 ⟨sp,m,cp,v3,bv,lk,P5,perm,⟨ok.id,ok.len,ok.first,ok.seq,ok.seq1,?_,?_,ok.bwf⟩⟩ (((jI.ext (u1.trans u2)).trans s4).trans s5)
 ·show(s.nts++[(⟨k,p⟩:Nt)]).length≤1000000;rw[jM];simp;omega
 ·intro n hn;rcases kB.1 hn with hn|hn
  ·exact ok.wf n hn
  ·simp only[gB] at hn;subst hn;exact w
def aIV(h:PH)(fv:Value)(b:Bool):Prop:=∀h',dD h h'->∀k':Value->PH->Prop,(∀h'',dD h' h''->k' (.bool b) h'')->rV PG fv #[] h' k'
def aIV.ext{h h':PH}{fv:Value}{b:Bool}(R:aIV h fv b)(u:dD h h'):aIV h' fv b:=λh2 u2 k hk=>R h2 (u.trans u2) k hk
abbrev RuV:=Value×Int×Bool
def mU(x:RuV):List Value:=[x.1,.int .i64 x.2.1]
def mU.rows(l:List RuV):Rows 2 (l.map mU):=λr hr=>by obtain⟨m,_,rfl⟩:=mJ.1 hr;rfl
def aIG(h:PH)(rs:List RuV):Prop:=∀x∈rs,fW x.1=true∧aIV h x.1 x.2.2
def aIG.ext{h h':PH}{rs:List RuV}(R:aIG h rs)(u:dD h h'):aIG h' rs:=λx hx=>⟨(R x hx).1,(R x hx).2.ext u⟩
def aFF:List RuV->Int
 | []=>0
 | x::l=>if x.2.2 then aFF l else x.2.1
def aN9(s:Ch)(rs:List RuV):Int:=if s.st.height=18446744073709551615 then 12 else aFF rs
def aPs{h:PH}{c:Nat}{s:Ch}{F:List Nat}(H:jB c s h F){v:Value}{rs:List RuV}(S:fZ h 2 v (rs.map mU))(hf:aIG h rs)(hl:rs.length≤100){kk:cD}(hk:∀h',dD h h'->kk (.int .i64 (aN9 s rs)) h'):
  aT PG yK #[pT c 0,v] h kk:=by
 apply aEY.call;unfold aEY;obtain⟨sp,m,cp,nv,bv,lk,P,perm,ok⟩:=H;simp only[eJ.f0,eX.f0,Ch.load0 P.cell,cE,reduceIte,cZ,Nat.reduceAdd];obtain⟨Fs,St,-,-⟩:=P.fSt;refine aKT St ?_;unfold aN9 at hk;by_cases hm:s.st.height=18446744073709551615
 ·have q:((s.st.height:Int)==18446744073709551615)=true:=by rw[hm];rfl
  rw[if_pos hm] at hk;simp only[iG,q,cE,reduceIte,cZ,Nat.reduceAdd];exact hk h cQ.refl
 have q:((s.st.height:Int)==18446744073709551615)=false:=by rw[beq_eq_false_iff_ne];omega
 rw[if_neg hm] at hk;have lv:=S.len (t':=bR) jN.und;rw[iV] at lv;simp only[iG,q,lv,cE,reduceIte,cZ,Nat.reduceAdd];refine⟨λvs h'=>∃i:Nat,i≤rs.length∧vs=[v,.int .i64 (rs.length:Int),.int .i64 (i:Int)]∧dD h h'∧aFF rs=aFF (rs.drop i),gQ rs.length 2,⟨0,by omega,rfl,cQ.refl,rfl⟩,?_⟩;rintro ρ h' ⟨i,hi,hvs,u,hfb⟩;simp only[iH,jA,lN,and_true] at hvs;obtain⟨v0,v1,v2⟩:=hvs;unfold aHq;rw[v0,v1,v2];by_cases hlt:i<rs.length
 ·have g:((i:Int)<(rs.length:Int))=True:=eq_true (by omega);have gi:=qN (i:=i) (by omega);obtain⟨x,hx⟩:∃x,rs[i]? =some x:=⟨_,lJ hlt⟩;have hmem:=tA hx;have hd:rs.drop i=x::rs.drop (i+1):=by
   obtain⟨h1,e1⟩:=zLA.1 hx;rw[←e1];exact aHG h1
  rw[hd,aFF] at hfb;obtain⟨a,a1,a2⟩:=(S.ext u).loadAgg jN.und cK.info cK.size cK.und rfl (k:=.i64) (j:=(i:Int)) (r:=mU x) (by omega) (by rw[rA,wA,hx];rfl);obtain⟨hc,hr⟩:=hf x hmem;simp only[g,a1,a2,cE,reduceIte,cZ,Nat.reduceAdd];intro r14 hr14
  try rw[cW]
  refine cK.fill (vs:=mU x) hr14 rfl (by
   simp only[mU,gU,lH,or_false];rintro w (rfl|rfl)
   ·exact hc
   ·rfl) λh2 B2 u2=>?_
  have lf:cG PG h2 (loadAt aAd (pT r14 0))=some x.1:=by rw[aAd.load,B2.cell];rfl
  simp only[cK.f0,lf,cE,reduceIte,cZ,Nat.reduceAdd];refine hr h2 (u.trans u2) _ λh3 u3=>?_;have e3:=(u.trans u2).trans u3;cases hb:x.2.2 with
  | true=>
   rw[hb,if_pos rfl] at hfb;simp only[gi,cE,reduceIte,cZ,Nat.reduceAdd];exact⟨⟨i+1,by omega,rfl,e3,hfb⟩,by simp[gQ,v2];omega⟩
  | false=>
   rw[hb,if_neg (by decide)] at hfb;have le:cG PG h3 (loadAt fY (pT r14 1))=some (.int .i64 x.2.1):=by rw[fY.load,(B2.ext u3).cell];rfl
   simp only[cK.f1,fQ,le,cE,reduceIte,cZ,Nat.reduceAdd];have:=hk h3 e3;rw[hfb] at this;exact this
 ·have g:((i:Int)<(rs.length:Int))=False:=eq_false (by omega);rw[aLf (by omega),aFF] at hfb;simp only[g,cE,reduceIte,cZ,Nat.reduceAdd];have:=hk h' u;rw[hfb] at this;exact this
def aLA(f:FuncId)(cap:Array Value)(e:Int):dH PG (build cK #[(0,.func (.func f) #[] cap),(1,.int .i64 e)])=some (.agg #[.func (.func f) #[] cap,.int .i64 e]):=by kernel_rfl
def aRX{h:PH}{p:Pk}{id:Int}{kk:cD}(hk:∀h' fv,fW fv=true->aIV h' fv (p.right&&(p.f==id))->dD h h'->kk (.agg #[fv,.int .i64 1]) h'):aT PG aGS #[p.v,.int .i64 id] h kk:=by
 apply aJM.call;unfold aJM;intro r1 hr1
 try rw[cW]
 have u1:dD h (h.set r1 (.cells (Value.cells p.v) aR)):=cQ.new hr1;have B1:Bx (h.set r1 (.cells (Value.cells p.v) aR)) r1 p.cells:=Bx.new;generalize h.set r1 (.cells (Value.cells p.v) aR)=h1 at *;intro r3 hr3
 try rw[cW]
 have u3:dD h1 (h1.set r3 (.cells (Value.cells (.int .i64 id)) bR)):=cQ.new hr3;have B3:Bx (h1.set r3 (.cells (Value.cells (.int .i64 id)) bR)) r3 [.int .i64 id]:=Bx.new;generalize h1.set r3 (.cells (Value.cells (.int .i64 id)) bR)=h3 at *;intro r5 hr5
 try rw[cW]
 simp only[oR,aLA,cE,reduceIte,cZ,Nat.reduceAdd];refine cK.fill (vs:=[.func (.func aBl) #[] #[pT r1 0,pT r3 0],.int .i64 1]) hr5 rfl (by simp[fW]) λh5 B5 u5=>?_;have l5:cG PG h5 (loadAt cK (pT r5 0))=some (.agg #[.func (.func aBl) #[] #[pT r1 0,pT r3 0],.int .i64 1]):=cK.agg B5 (by show 0+2≤2;decide);simp only[l5,cE,reduceIte,cZ,Nat.reduceAdd];refine hk h5 _ rfl (λh' u k' hk'=>?_) ((u1.trans u3).trans u5);show aT PG aBl #[pT r1 0,pT r3 0] h' k';apply aHW.call;unfold aHW;have C1:=((B1.ext u3).ext u5).ext u;have C3:=(B3.ext u5).ext u;have lp:cG PG h' (loadAt aR (pT r1 0))=some (.agg p.cells.toArray):=C1.pk rfl;simp only[lp,cE,reduceIte,cZ,Nat.reduceAdd];refine aLq p λh6 u6=>?_;have lf:cG PG h6 (loadAt bR (pT r1 0))=some (.int .i64 p.f):=by rw[bR.load,(C1.ext u6).cell];rfl
 have li:cG PG h6 (loadAt bR (pT r3 0))=some (.int .i64 id):=by rw[bR.load,(C3.ext u6).cell];rfl
 have hk':=hk' h6 u6;cases hr:p.right with
 | false=>
  rw[hr] at hk';have q:((1:Int)==0)=false:=by decide
  simp only[sJ] at hk';simp only[iG,q,zLu,if_false,cE,reduceIte,cZ,Nat.reduceAdd];exact hk'
 | true=>
  rw[hr] at hk';have q:((0:Int)==0)=true:=by decide
  simp only[zLp] at hk';simp only[iG,q,if_true,aR.f0,lf,li,cE,reduceIte,cZ,Nat.reduceAdd];exact hk'
def bAt(h:PH)(fv:Value)(f:Tx->Bool):Prop:=∀h',dD h h'->∀(root:Tx) (k':cD),(∀h'',dD h' h''->k' (.bool (f root)) h'')->rV PG fv #[.string (tx root)] h' k'
def wR(l:List hZ)(x:Int):Tx:=((mC l x).getD ⟨#[]⟩).data.toList
def aMq{h:PH}{c:Nat}{s:Ch}{F:List Nat}(H:jB c s h F){x:Int}{fis:Value}{f:Tx->Bool}(hfc:fW fis=true)(hf:bAt h fis f){kk:cD}
  (hk:∀h' f1 f2,fW f1=true->fW f2=true->aIV h' f1 (mC s.cl x).isSome->aIV h' f2 (f (wR s.cl x))->dD h h'->kk (.tuple #[.agg #[f1,.int .i64 11],.agg #[f2,.int .i64 9]]) h'):aT PG uK #[pT c 0,.int .u64 x,fis] h kk:=by
 apply aB2.call;unfold aB2;have eone:Value.cells fis= #[fis]:=by cases fis<;>first|rfl|cases hfc
 intro r1 hr1
 try rw[cW]
 have u1:dD h (h.set r1 (.cells (Value.cells fis) lI)):=cQ.new hr1;have B1:Bx (h.set r1 (.cells (Value.cells fis) lI)) r1 [fis]:=by rw[eone];exact Bx.new
 generalize h.set r1 (.cells (Value.cells fis) lI)=h1 at *;intro r3 hr3
 try rw[cW]
 have u3:dD h1 (h1.set r3 (.cells (dV PG cK) cK)):=cQ.new hr3;have Z3:=cK.zbox (h:=h1) (r:=r3);generalize h1.set r3 (.cells (dV PG cK) cK)=h3 at *;intro r5 hr5
 try rw[cW]
 have u5:dD h3 (h3.set r5 (.cells (dV PG cK) cK)):=cQ.new hr5;have Z5:=cK.zbox (h:=h3) (r:=r5);have Y3:=Z3.ext u5;have n35:r3≠r5:=Z3.apart hr5;have n13:r1≠r3:=B1.apart hr3;have n15:r1≠r5:=(B1.ext u3).apart hr5;generalize h3.set r5 (.cells (dV PG cK) cK)=h5 at *;have e5:=(u1.trans u3).trans u5;have H5:=(jB.good c s).ext H e5;obtain⟨sp,m,cp,nv,bv,lk,P,perm,ok⟩:=H5;simp only[eJ.f2,fQ,Ch.load6 P.cell,cE,reduceIte,cZ,Nat.reduceAdd];obtain⟨Fc,⟨hs,C⟩,-,-⟩:=P.fCli;refine aXe C x ?_;simp only[cE,reduceIte,cZ,Nat.reduceAdd];intro r14 hr14
 try rw[cW]
 have u14:dD h5 (h5.set r14 (.cells (dV PG bT) bT)):=cQ.new hr14;have Z14:=bT.zbox (h:=h5) (r:=r14);have Y5:=Z5.ext u14;have Y3':=Y3.ext u14;have n314:r3≠r14:=Y3.apart hr14;have n514:r5≠r14:=Z5.apart hr14;generalize h5.set r14 (.cells (dV PG bT) bT)=h14 at *;intro r16 hr16
 try rw[cW]
 have u16:dD h14 (h14.set r16 (.cells (dV PG gT) gT)):=cQ.new hr16;have Z16:=gT.zbox (h:=h14) (r:=r16);have X14:=Z14.ext u16;have X5:=Y5.ext u16;have X3:=Y3'.ext u16;have n1416:r14≠r16:=Z14.apart hr16;have n316:r3≠r16:=Y3'.apart hr16;have n516:r5≠r16:=Y5.apart hr16;generalize h14.set r16 (.cells (dV PG gT) gT)=h16 at *;have e16:=(e5.trans u14).trans u16;have k3:h r3=none:=u1.none hr3;have k5:h r5=none:=(u1.trans u3).none hr5;have k14:h r14=none:=e5.none hr14;have k16:h r16=none:=(e5.trans u14).none hr16;refine bT.put X14 (o:=0) (by decide) rfl λh17 B17 u17=>?_;refine gT.put (Z16.upd u17 (by simpa using n1416.symm)) (o:=0) (by decide) rfl λh18 B18 u18=>?_;have C14:=B17.upd u18 (by simpa using n1416);have C3:=(X3.upd u17 (by simpa using n314)).upd u18 (by simpa using n316);have C5:=(X5.upd u17 (by simpa using n514)).upd u18 (by simpa using n516);have e18:dD h h18:=(e16.fresh u17 (eK.one k14)).fresh u18 (eK.one k16)
 try simp only[oR,aLA,cE,reduceIte,cZ,Nat.reduceAdd]
 refine cK.put (vs:=[.func (.func rO) #[] #[pT r16 0],.int .i64 11]) C3 (o:=0) rfl (by show 0+2≤2;decide) (by simp[fW]) λh19 B19 u19=>?_;refine cK.put (vs:=[.func (.func rN) #[] #[pT r1 0,pT r14 0],.int .i64 9]) (C5.upd u19 (by simpa using n35.symm)) (o:=0) rfl (by show 0+2≤2;decide) (by simp[fW]) λh20 B20 u20=>?_;have D3:=B19.upd u20 (by simpa using n35);have l3:cG PG h20 (loadAt cK (pT r3 0))=some (.agg #[.func (.func rO) #[] #[pT r16 0],.int .i64 11]):=cK.agg D3 (by show 0+2≤2;decide);have l5:cG PG h20 (loadAt cK (pT r5 0))=some (.agg #[.func (.func rN) #[] #[pT r1 0,pT r14 0],.int .i64 9]):=cK.agg B20 (by show 0+2≤2;decide);have e20:dD h h20:=(e18.fresh u19 (eK.one k3)).fresh u20 (eK.one k5);have D16:Bx h20 r16 [.bool (mC s.cl x).isSome]:=(B18.upd u19 (by simpa using n316.symm)).upd u20 (by simpa using n516.symm);have D14:Bx h20 r14 [.string ((mC s.cl x).getD ⟨#[]⟩)]:=(C14.upd u19 (by simpa using n314.symm)).upd u20 (by simpa using n514.symm);have n114:r1≠r14:=((B1.ext u3).ext u5).apart hr14;have n116:r1≠r16:=(((B1.ext u3).ext u5).ext u14).apart hr16;have D1:Bx h20 r1 [fis]:=((((((((B1.ext u3).ext u5).ext u14).ext u16).upd u17 (by simpa using n114)).upd u18 (by simpa using n116)).upd u19 (by simpa using n13)).upd u20 (by simpa using n15));simp only[l3,l5,cE,reduceIte,cZ,Nat.reduceAdd];refine hk h20 _ _ rfl rfl (λh' u k' hk'=>?_) (λh' u k' hk'=>?_) e20
 ·show aT PG rO #[pT r16 0] h' k';apply aAO.call;unfold aAO;have lb:cG PG h' (loadAt gT (pT r16 0))=some (.bool (mC s.cl x).isSome):=by rw[gT.load,(D16.ext u).cell];rfl
  simp only[lb,cE,reduceIte,cZ,Nat.reduceAdd];exact hk' h' cQ.refl
 ·show aT PG rN #[pT r1 0,pT r14 0] h' k';apply aAM.call;unfold aAM;have lf:cG PG h' (loadAt lI (pT r1 0))=some fis:=by rw[lI.load,(D1.ext u).cell];rfl
  have ls:cG PG h' (loadAt bT (pT r14 0))=some (.string (tx (wR s.cl x))):=by
   rw[bT.load,(D14.ext u).cell];unfold wR;rw[aNI];rfl
  simp only[lf,ls,cE,reduceIte,cZ,Nat.reduceAdd];exact hf h' (e20.trans u) (wR s.cl x) _ hk'
def yF(s:Ch)(p:Pk):Bool:=match iJ s.st.now (iZ 99 p.s.toNat) with
 | some q=>decide (q.v=rJ p)
 | none=>false
def aVk{h:PH}{c:Nat}{s:Ch}{F:List Nat}(hK:oP h)(H:jB c s h F){p:Pk}(w:p.wf){kk:cD}(hk:∀h' fv,fW fv=true->aIV h' fv (yF s p)->dD h h'->kk (.agg #[fv,.int .i64 3]) h'):aT PG aEK #[pT c 0,p.v] h kk:=by
 apply aDx.call;unfold aDx;intro r1 hr1
 try rw[cW]
 have u1:dD h (h.set r1 (.cells (Value.cells (pT c 0)) dF)):=cQ.new hr1;have B1:Bx (h.set r1 (.cells (Value.cells (pT c 0)) dF)) r1 [pT c 0]:=Bx.new;generalize h.set r1 (.cells (Value.cells (pT c 0)) dF)=h1 at *;intro r3 hr3
 try rw[cW]
 have u3:dD h1 (h1.set r3 (.cells (Value.cells p.v) aR)):=cQ.new hr3;have B3:Bx (h1.set r3 (.cells (Value.cells p.v) aR)) r3 p.cells:=Bx.new;generalize h1.set r3 (.cells (Value.cells p.v) aR)=h3 at *;intro r5 hr5
 try rw[cW]
 simp only[oR,aLA,cE,reduceIte,cZ,Nat.reduceAdd];refine cK.fill (vs:=[.func (.func tO) #[] #[pT r1 0,pT r3 0],.int .i64 3]) hr5 rfl (by simp[fW]) λh5 B5 u5=>?_;have l5:cG PG h5 (loadAt cK (pT r5 0))=some (.agg #[.func (.func tO) #[] #[pT r1 0,pT r3 0],.int .i64 3]):=cK.agg B5 (by show 0+2≤2;decide);have e5:=(u1.trans u3).trans u5;simp only[l5,cE,reduceIte,cZ,Nat.reduceAdd];refine hk h5 _ rfl (λh' u k' hk'=>?_) e5;show aT PG tO #[pT r1 0,pT r3 0] h' k';apply tQ.call;unfold tQ;have C1:=((B1.ext u3).ext u5).ext u;have C3:=(B3.ext u5).ext u;have H':=(jB.good c s).ext H (e5.trans u);obtain⟨sp,m,cp,nv,bv,lk,P,perm,ok⟩:=H';obtain⟨n,hn⟩:=zLn w.1;have hn2:n<18446744073709551616:=by have:=w.2.1;omega
 have lc:∀{h'':PH},dD h' h''->cG PG h'' (loadAt dF (pT r1 0))=some (pT c 0):=λv=>by rw[dF.load,(C1.ext v).cell];rfl
 have ls:cG PG h' (loadAt cA (pT r3 1))=some (.int .u64 (n:Int)):=by rw[cA.load,C3.cell,←hn];rfl
 simp only[lc cQ.refl,eJ.f0,eX.f0,aR.f1,fQ,Ch.load0 P.cell,ls,cE,reduceIte,cZ,Nat.reduceAdd];refine aNa hn2 λh6 u6=>?_;have P6:=jD.good.ext P u6;refine⟨Ch.load0 P6.cell,lc u6,?_⟩;obtain⟨Fs,St,-,-⟩:=P6.fSt;refine aSc St _ ?_;have es:yF s p=match iJ s.st.now (iZ 99 n) with|some q=>decide (q.v=rJ p)|none=>false:=by
  unfold yF;rw[hn];rfl
 cases hg:iJ s.st.now (iZ 99 n) with
 | none=>
  have hk':=hk' h6 u6;rw[es,hg] at hk';simp only[zLv,cE,reduceIte,cZ,Nat.reduceAdd];exact hk'
 | some q=>
  rw[hg] at es;simp only at es;rw[es] at hk';have lp:cG PG h6 (loadAt aR (pT r3 0))=some p.v:=(C3.ext u6).pk rfl;simp only[aKs,aKm,aIu,lp,cE,reduceIte,cZ,Nat.reduceAdd];refine aIz w (hK.ext ((e5.trans u).trans u6)) λh7 u7=>?_;simp only[aF5,cE,reduceIte,cZ,Nat.reduceAdd];exact hk' h7 (u6.trans u7)
end
section
open Go
def wV.uniq{a b:List Int}{l:List hZ}(x:wV a l)(y:wV b l):a=b:=
 List.Perm.eq_of_pairwise (le:=λp q:Int=>p<q) (λp q _ _ (h1:p<q) h2=>by omega) x.up y.up (x.perm.trans y.perm.symm)
open Classical in
noncomputable def aJz(l:List hZ):Int:=if h:∃hs,wV hs l then aLT h.choose else 0
def aPS{hs:List Int}{l:List hZ}(R:wV hs l):aJz l=aLT hs:=by
 have h:∃hs,wV hs l:=⟨hs,R⟩;unfold aJz;rw[dif_pos h,wV.uniq h.choose_spec R]
def aAH:List (Int×Bool)->Int
 | []=>0
 | x::l=>if x.2 then aAH l else x.1
def aNf:∀rs:List RuV,aFF rs=aAH (rs.map (·.2))
 | []=>rfl
 | x::l=>by simp only[aFF,iH,aAH,aNf l]
def rG(s:Ch)(l:List (Int×Bool)):Int:=if s.st.height=18446744073709551615 then 12 else aAH l
def aPY(s:Ch)(rs:List RuV):aN9 s rs=rG s (rs.map (·.2)):=by unfold aN9 rG;rw[aNf]
def aXm(f0 f1 f2 f3:Value)(e0 e1 e2 e3:Int):jV PG (buildSlice jN 4 #[(0,.agg #[f0,.int .i64 e0]),(1,.agg #[f1,.int .i64 e1]),(2,.agg #[f2,.int .i64 e2]),(3,.agg #[f3,.int .i64 e3])])=some (.cells #[f0,.int .i64 e0,f1,.int .i64 e1,f2,.int .i64 e2,f3,.int .i64 e3] cK,λr=>pure (.slice (some ⟨r,0,none⟩) 4 4)):=by kernel_rfl
def aXE(f s t:Int)(d:ByteArray):dH PG (build aR #[(0,.int .i64 f),(1,.int .u64 s),(2,.int .u64 t),(3,.string d)])=some (Pk.v ⟨f,s,t,d⟩):=by kernel_rfl
def kE(s:Ch)(d:Tx)(t:Nat):Pk:=⟨s.id,(s.seq:Int),(t:Int),tx d⟩
noncomputable def qR(s:Ch)(d:Tx)(t:Nat):Int:=rG s [(12,decide (s.seq<18446744073709551615)),(1,(kE s d t).right),(10,decide (aJz s.cl<(t:Int))),(2,decide (s.st.now.length+1≤4096))]
def Ch.next(s:Ch):Ch:={s with seq:=s.seq+1}
def Ch.sent(s:Ch)(p:Pk):Ch:=(((s.put (iZ 99 s.seq) (rJ p)).next).add ⟨1,p⟩)
def Pk.isC(p:Pk):∀u∈p.cells,fW u=true:=λu hu=>by
 simp only[Pk.cells,gU,lH,or_false] at hu;rcases hu with rfl|rfl|rfl|rfl<;>rfl
def aMy{s:Ch}{l:List (Int×Bool)}(h:rG s l=0)(hne:∀x∈l,x.1≠0):s.st.height≠18446744073709551615∧∀x∈l,x.2=true:=by
 unfold rG at h;by_cases hm:s.st.height=18446744073709551615
 ·rw[if_pos hm] at h;cases h
 ·rw[if_neg hm] at h;refine⟨hm,?_⟩;induction l with
  | nil=>intro x hx;cases hx
  | cons a l ih=>
   rw[aAH] at h;cases ha:a.2 with
   | false=>rw[ha,if_neg (by decide)] at h;exact absurd h (hne a (by simp))
   | true=>
    rw[ha,if_pos rfl] at h;intro x hx;rcases gU.1 hx with rfl|hx
    ·exact ha
    ·exact ih h (λy hy=>hne y (by simp[hy])) x hx
def aOh{l:List Pr}{k:Tx}{n:Nat}(hn:1≤n)(h:l.length+n≤4096):¬(iJ l k=none∧4096≤l.length):=λc=>by omega
def aQH(p:Pk):(rJ p).length≤64:=by
 unfold rJ aJ5;split
 ·exact zLE (Nat.le_of_eq rfl) (show 32≤64 by decide)
 ·simp
def aWa{h:PH}{c:Nat}{s:Ch}{F:List Nat}(hK:oP h)(H:jB c s h F)(d:Tx){t:Nat}(ht:t<18446744073709551616)(hl:s.nts.length<1000000){kk:cD}
  (hbad:qR s d t≠0->∀h' F',jB c s h' F'->jI h F h' F'->dD h h'->kk (.tuple #[Pk.v default,.int .i64 (qR s d t)]) h')
  (hk:qR s d t=0->∀h' F',jB c (s.sent (kE s d t)) h' F'->jI h F h' F'->kk (.tuple #[Pk.v (kE s d t),.int .i64 0]) h'):
  aT PG aEO #[pT c 0,.string (tx d),.int .u64 (t:Int)] h kk:=by
 apply xO.call;unfold xO;intro r1 hr1
 try rw[cW]
 have u1:dD h (h.set r1 (.cells (Value.cells (pT c 0)) dF)):=cQ.new hr1;have B1:Bx (h.set r1 (.cells (Value.cells (pT c 0)) dF)) r1 [pT c 0]:=Bx.new;generalize h.set r1 (.cells (Value.cells (pT c 0)) dF)=h1 at *;intro r3 hr3
 try rw[cW]
 have u3:dD h1 (h1.set r3 (.cells (Value.cells (.int .u64 (t:Int))) cA)):=cQ.new hr3;have B3:Bx (h1.set r3 (.cells (Value.cells (.int .u64 (t:Int))) cA)) r3 [.int .u64 (t:Int)]:=Bx.new;generalize h1.set r3 (.cells (Value.cells (.int .u64 (t:Int))) cA)=h3 at *;intro r5 hr5
 try rw[cW]
 have u5:dD h3 (h3.set r5 (.cells (dV PG aR) aR)):=cQ.new hr5;have Z5:=aR.zbox (h:=h3) (r:=r5);generalize h3.set r5 (.cells (dV PG aR) aR)=h5 at *;have e5:=(u1.trans u3).trans u5;have k5:h r5=none:=(u1.trans u3).none hr5;have C1:=(B1.ext u3).ext u5;have C3:=B3.ext u5;have H5:=(jB.good c s).ext H e5;obtain⟨sp,m,cp,nv,bv,lk,P,perm,ok⟩:=H5;have H5':jB c s h5 F:=⟨sp,m,cp,nv,bv,lk,P,perm,ok⟩;have hseq:=ok.seq;have lc:∀{h'':PH},dD h5 h''->cG PG h'' (loadAt dF (pT r1 0))=some (pT c 0):=λv=>by rw[dF.load,(C1.ext v).cell];rfl
 have lt:∀{h'':PH},dD h5 h''->cG PG h'' (loadAt cA (pT r3 0))=some (.int .u64 (t:Int)):=λv=>by rw[cA.load,(C3.ext v).cell];rfl
 simp only[lc cQ.refl,lt cQ.refl,eJ.f1,eJ.f3,fQ,Ch.load5 P.cell,Ch.load7 P.cell,aXE,cE,reduceIte,cZ,Nat.reduceAdd];intro r17 hr17
 try rw[cW]
 have n517:r5≠r17:=Z5.apart hr17;refine aR.fill (vs:=(kE s d t).cells) hr17 rfl (Pk.isC _) λh7 B7 u7=>?_;have w:(kE s d t).wf:=⟨by simp[kE],by simp only[kE];omega,by simp[kE],by simp only[kE];omega⟩;have e7:=e5.trans u7;have H7:=(jB.good c s).ext H5' u7;have Z7:=Z5.ext u7;have lpk:∀{h'':PH},dD h7 h''->cG PG h'' (loadAt aR (pT r17 0))=some (kE s d t).v:=λv=>(B7.ext v).pk rfl;simp only[lc u7,oR,aLA,aXm,cE,reduceIte,cZ,Nat.reduceAdd];intro r30 hr30;refine fP ?_
 try rw[cW]
 -- the rules
 obtain⟨rs,hrs⟩:∃rs:List RuV,rs=[(.func (.func tK) #[] #[pT r1 0],12,decide (s.seq<18446744073709551615)),(.func (.func uE) #[] #[pT r17 0],1,(kE s d t).right),(.func (.func uA) #[] #[pT r3 0,pT r1 0],10,decide (aJz s.cl<(t:Int))),(.func (.func uJ) #[] #[pT r1 0],2,decide (s.st.now.length+1≤4096))]:=⟨_,rfl⟩;have eall:aN9 s rs=qR s d t:=by rw[aPY,hrs];rfl
 have u8:dD h7 (h7.set r30 (.cells (rs.map mU).flatten.toArray cK)):=cQ.new hr30;have s8:fZ (h7.set r30 (.cells (rs.map mU).flatten.toArray cK)) 2 (.slice (some ⟨r30,0,none⟩) 4 4) (rs.map mU):=(eM.lit (mU.rows rs) dL (by rw[hrs];simp) (by decide) (by simp)).slR;have ecells:(#[.func (.func tK) #[] #[pT r1 0],.int .i64 12,.func (.func uE) #[] #[pT r17 0],.int .i64 1,.func (.func uA) #[] #[pT r3 0,pT r1 0],.int .i64 10,.func (.func uJ) #[] #[pT r1 0],.int .i64 2]:Array Value)=(rs.map mU).flatten.toArray:=by rw[hrs];rfl
 rw[ecells];generalize h7.set r30 (.cells (rs.map mU).flatten.toArray cK)=h8 at *;have H8:=(jB.good c s).ext H7 u8;have e8:=e7.trans u8;have v58:=u7.trans u8;have hrules:aIG h8 rs:=by
  rw[hrs];intro x hx;simp only[gU,lH,or_false] at hx;rcases hx with rfl|rfl|rfl|rfl
  ·refine⟨rfl,λh' u k' hk'=>?_⟩;show aT PG tK #[pT r1 0] h' k';apply aBY.call;unfold aBY;obtain⟨sp,m,cp,nv,bv,lk,P,perm,ok⟩:=(jB.good c s).ext H8 u;have eq1:((s.seq:Int)<18446744073709551615)=(s.seq<18446744073709551615):=by apply propext;omega
   simp only[lc (v58.trans u),eJ.f3,fQ,Ch.load7 P.cell,eq1,cE,reduceIte,cZ,Nat.reduceAdd];exact hk' h' cQ.refl
  ·refine⟨rfl,λh' u k' hk'=>?_⟩;show aT PG uE #[pT r17 0] h' k';apply aBg.call;unfold aBg;simp only[lpk (u8.trans u),cE,reduceIte,cZ,Nat.reduceAdd];refine aLq (kE s d t) λh9 u9=>?_;have hk':=hk' h9 u9;cases hr:(kE s d t).right with
   | false=>
    rw[hr] at hk';have q:((1:Int)==0)=false:=by decide
    simp only[iG,q,zLu,if_false,cE,reduceIte,cZ,Nat.reduceAdd];exact hk'
   | true=>
    rw[hr] at hk';have q:((0:Int)==0)=true:=by decide
    simp only[iG,q,if_true,cE,reduceIte,cZ,Nat.reduceAdd];exact hk'
  ·refine⟨rfl,λh' u k' hk'=>?_⟩;show aT PG uA #[pT r3 0,pT r1 0] h' k';apply tX.call;unfold tX;obtain⟨sp,m,cp,nv,bv,lk,P,perm,ok⟩:=(jB.good c s).ext H8 u;obtain⟨Fc,⟨hs,C⟩,-,-⟩:=P.fCli;simp only[lt (v58.trans u),lc (v58.trans u),eJ.f2,fQ,Ch.load6 P.cell,cE,reduceIte,cZ,Nat.reduceAdd];refine aUQ C ?_;refine⟨lt (v58.trans u),?_⟩;rw[←aPS C.rank];simp only[cE,reduceIte,cZ,Nat.reduceAdd];exact hk' h' cQ.refl
  ·refine⟨rfl,λh' u k' hk'=>?_⟩;show aT PG uJ #[pT r1 0] h' k';apply aBv.call;unfold aBv;simp only[lc (v58.trans u),eJ.f0,cE,reduceIte,cZ,Nat.reduceAdd];exact aRL (n:=1) ((jB.good c s).ext H8 u) (by decide) (hk' h' cQ.refl)
 refine aPs H8 s8 hrules (by rw[hrs];simp) λh9 u9=>?_;rw[eall];have H9:=(jB.good c s).ext H8 u9;have e9:=e8.trans u9;have v59:=v58.trans u9;have v79:=u8.trans u9;by_cases he:qR s d t=0
 case neg=>
  have q:(qR s d t !=0)=true:=by simpa using he
  simp only[kW,q,Pk.zb,cE,reduceIte,cZ,Nat.reduceAdd];refine aR.put (vs:=Pk.cells default) ((Z7.ext u8).ext u9) (o:=0) rfl (by show 0+4≤4;decide) (Pk.isC _) λh10 B10 u10=>?_;have l10:cG PG h10 (loadAt aR (pT r5 0))=some (Pk.v default):=B10.pk rfl;simp only[l10,cE,reduceIte,cZ,Nat.reduceAdd];have n5F:∀b∈F,b∉[r5]:=λb hb hb'=>by
   simp only[gB] at hb';exact(jB.good c s).known H b hb (hb'▸k5)
  have e10:=e9.fresh u10 (eK.one k5);exact hbad he h10 F ((jB.good c s).upd H9 u10 n5F) (jI.ext e10) e10
 obtain⟨hmax,hall⟩:=aMy he (by intro x hx;simp only[gU,lH,or_false] at hx;rcases hx with rfl|rfl|rfl|rfl<;>simp);have b1:s.seq<18446744073709551615:=by simpa using hall _ (by simp:((12:Int),decide (s.seq<18446744073709551615))∈_)
 have b4:s.st.now.length+1≤4096:=by
  have:=hall (2,decide (s.st.now.length+1≤4096)) (by simp);simpa using this
 have ls:∀{h'':PH},dD h7 h''->cG PG h'' (loadAt cA (pT r17 1))=some (.int .u64 (s.seq:Int)):=λv=>by rw[cA.load,(B7.ext v).cell];rfl
 simp only[he,kW,lc v59,eJ.f0,aR.f1,fQ,ls v79,lpk v79,cE,reduceIte,cZ,Nat.reduceAdd];refine aNa hseq λh10 u10=>?_;refine⟨lpk (v79.trans u10),lc (v59.trans u10),?_⟩;refine aIz w (hK.ext (e9.trans u10)) λh11 u11=>?_;have v11:=u10.trans u11;refine⟨lc (v59.trans v11),?_⟩;have H11:=(jB.good c s).ext H9 v11;refine aPN H11 (by rw[aAA];decide) (by rw[aAA];decide) (aQH _) (aOh (n:=1) (by decide) b4) λh12 F12 H12 s12=>?_
 -- boxes beside the chain
 have nF:∀{r:Nat},h r=none->r∉F:=λhr hm=>(jB.good c s).known H _ hm hr;have k1:h r1=none:=hr1;have k17:h r17=none:=e5.none hr17;have e11:=e9.trans v11;have nF12:∀{r:Nat} {o:Obj},h r=none->h11 r=some o->r∉F12:=λhr ho hm=>by
  rcases s12.grow _ hm with hx|hx
  ·exact nF hr hx
  ·rw[ho] at hx;cases hx
 have D1:=(C1.ext (v59.trans v11)).upd s12.upd (nF k1);have D17:=(B7.ext (v79.trans v11)).upd s12.upd (nF k17);have D5:=(((Z7.ext u8).ext u9).ext v11).upd s12.upd (nF k5);have m1:r1∉F12:=by obtain⟨_,ho⟩:=(C1.ext (v59.trans v11)).here;exact nF12 k1 ho
 have m17:r17∉F12:=by obtain⟨_,ho⟩:=(B7.ext (v79.trans v11)).here;exact nF12 k17 ho
 have m5:r5∉F12:=by obtain⟨_,ho⟩:=(((Z7.ext u8).ext u9).ext v11).here;exact nF12 k5 ho
 obtain⟨sp',m',cp',nv',bv',lk',P',perm',ok'⟩:=H12;have lc12:cG PG h12 (loadAt dF (pT r1 0))=some (pT c 0):=by rw[dF.load,D1.cell];rfl
 have wq:IntKind.u64.wrap ((s.seq:Int)+1)=((s.seq+1:Nat):Int):=by rw[gO (by omega) (by omega)];omega
 have l7:cG PG h12 (loadAt cA (pT c 7))=some (.int .u64 (s.seq:Int)):=Ch.load7 P'.cell;simp only[lc12,eJ.f3,fQ,l7,wq,cE,reduceIte,cZ,Nat.reduceAdd];obtain⟨Fb,⟨rfl,Bc⟩,hFb,back⟩:=P'.fBox;refine cA.put Bc (o:=7) (by show 7<8;decide) rfl λh13 B13 u13=>?_;obtain⟨F13,P13,s13⟩:=back (qL c ((s.put (iZ 99 s.seq) (rJ (kE s d t))).next.cells sp' bv' nv' m' cp')) h13 [c] ⟨rfl,B13⟩ ⟨u13,λb hb=>.inl hb⟩;have H13:jB c ((s.put (iZ 99 s.seq) (rJ (kE s d t))).next) h13 F13:=⟨sp',m',cp',nv',bv',lk',P13,perm',⟨ok'.id,ok'.len,ok'.first,by show s.seq+1<_;omega,by show 1≤s.seq+1;omega,ok'.nts,ok'.wf,ok'.bwf⟩⟩;have cF:c∈F12:=hFb c (by simp);have nc:∀{r:Nat},r∉F12->r∉[c]:=λhr hm=>by simp only[gB] at hm;exact hr (hm▸cF)
 have E1:=D1.upd u13 (nc m1);have E17:=D17.upd u13 (nc m17);have E5:=D5.upd u13 (nc m5);have lc13:cG PG h13 (loadAt dF (pT r1 0))=some (pT c 0):=by rw[dF.load,E1.cell];rfl
 have lp13:cG PG h13 (loadAt aR (pT r17 0))=some (kE s d t).v:=E17.pk rfl;simp only[lc13,lp13,cE,reduceIte,cZ,Nat.reduceAdd];refine aN5 H13 1 w hl λh14 F14 H14 s14=>?_;have grow13:∀{r:Nat},r∉F12->h12 r≠none->r∉F13:=λhr hn hm=>by
  rcases s13.grow _ hm with hx|hx
  ·exact hr hx
  ·exact hn hx
 have G17:=E17.upd s14.upd (grow13 m17 D17.known);have G5:=E5.upd s14.upd (grow13 m5 D5.known);have lp14:cG PG h14 (loadAt aR (pT r17 0))=some (kE s d t).v:=G17.pk rfl;simp only[lp14,cE,reduceIte,cZ,Nat.reduceAdd];refine aR.put (vs:=(kE s d t).cells) G5 (o:=0) rfl (by show 0+4≤4;decide) (Pk.isC _) λh15 B15 u15=>?_;have l15:cG PG h15 (loadAt aR (pT r5 0))=some (kE s d t).v:=B15.pk rfl;simp only[l15,cE,reduceIte,cZ,Nat.reduceAdd];have m514:r5∉F14:=λhm=>by
  rcases s14.grow _ hm with hx|hx
  ·exact grow13 m5 D5.known hx
  ·exact E5.known hx
 have st14:=(((jI.ext (F:=F) e11).trans s12).trans s13).trans s14;refine hk he h15 F14 ((jB.good c _).upd H14 u15 (λb hb hb'=>by simp only[gB] at hb';exact m514 (hb'▸hb))) ⟨st14.upd.then u15 (λb hb=>.inr (by simp only[gB] at hb;rw[hb];exact k5)),st14.grow⟩
end
section
open Go
def aSv(f0 f1:Value)(e0 e1:Int):jV PG (buildSlice jN 2 #[(0,.agg #[f0,.int .i64 e0]),(1,.agg #[f1,.int .i64 e1])])=some (.cells #[f0,.int .i64 e0,f1,.int .i64 e1] cK,λr=>pure (.slice (some ⟨r,0,none⟩) 2 2)):=by kernel_rfl
def aYN(f0 f1 f2:Value)(e0 e1 e2:Int):jV PG (buildSlice jN 3 #[(0,.agg #[f0,.int .i64 e0]),(1,.agg #[f1,.int .i64 e1]),(2,.agg #[f2,.int .i64 e2])])=some (.cells #[f0,.int .i64 e0,f1,.int .i64 e1,f2,.int .i64 e2] cK,λr=>pure (.slice (some ⟨r,0,none⟩) 3 3)):=by kernel_rfl
def jP(s:Ch)(p:Pk)(l:List (Int×Bool)):Int:=rG s ([(1,p.right&&(p.f==s.id)),(3,yF s p)]++l)
def Ch.settled(s:Ch)(k:Int)(p:Pk):Ch:=(s.del (iZ 99 p.s.toNat)).add ⟨k,p⟩
def aOM{h:PH}{c:Nat}{s:Ch}{F:List Nat}(hK:oP h)(H:jB c s h F)(kind:Int){p:Pk}(w:p.wf){v:Value}{rs:List RuV}(S:fZ h 2 v (rs.map mU))(hrs:aIG h rs)(hlr:rs.length≤10)(hne:∀x∈rs,x.2.1≠0)(hl:s.nts.length<1000000){kk:cD}
  (hbad:jP s p (rs.map (·.2))≠0->∀h',jB c s h' F->dD h h'->kk (.int .i64 (jP s p (rs.map (·.2)))) h')
  (hk:jP s p (rs.map (·.2))=0->∀h' F',jB c (s.settled kind p) h' F'->jI h F h' F'->kk (.int .i64 0) h'):
  aT PG zO #[pT c 0,.int .i64 kind,p.v,v] h kk:=by
 apply uM.call;unfold uM;intro r1 hr1
 try rw[cW]
 have u1:dD h (h.set r1 (.cells (Value.cells p.v) aR)):=cQ.new hr1;have B1:Bx (h.set r1 (.cells (Value.cells p.v) aR)) r1 p.cells:=Bx.new;generalize h.set r1 (.cells (Value.cells p.v) aR)=h1 at *;have lp:∀{h'':PH},dD h1 h''->cG PG h'' (loadAt aR (pT r1 0))=some p.v:=λv=>(B1.ext v).pk rfl;have H1:=(jB.good c s).ext H u1;obtain⟨sp,m,cp,nv,bv,lk,P,perm,ok⟩:=H1;have H1:jB c s h1 F:=⟨sp,m,cp,nv,bv,lk,P,perm,ok⟩;simp only[lp cQ.refl,eJ.f1,fQ,Ch.load5 P.cell,cE,reduceIte,cZ,Nat.reduceAdd];refine aRX λh2 f0 c0 R0 u2=>?_;refine⟨lp u2,?_⟩;have H2:=(jB.good c s).ext H1 u2;refine aVk (hK.ext (u1.trans u2)) H2 w λh3 f1 c1 R1 u3=>?_;have H3:=(jB.good c s).ext H2 u3;have e3:=(u1.trans u2).trans u3;simp only[aSv,cE,reduceIte,cZ,Nat.reduceAdd];intro r12 hr12;refine fP ?_
 try rw[cW]
 obtain⟨hd,hhd⟩:∃hd:List RuV,hd=[(f0,1,p.right&&(p.f==s.id)),(f1,3,yF s p)]:=⟨_,rfl⟩;have ecells:(#[f0,.int .i64 1,f1,.int .i64 3]:Array Value)=(hd.map mU).flatten.toArray:=by rw[hhd];rfl
 rw[ecells];have u4:dD h3 (h3.set r12 (.cells (hd.map mU).flatten.toArray cK)):=cQ.new hr12;have O4:eM (h3.set r12 (.cells (hd.map mU).flatten.toArray cK)) cK 2 (.slice (some ⟨r12,0,none⟩) 2 2) (hd.map mU) [r12]:=eM.lit (mU.rows hd) dL (by rw[hhd];simp) (by decide) (by simp);generalize h3.set r12 (.cells (hd.map mU).flatten.toArray cK)=h4 at *;have e4:=e3.trans u4;refine jK jN.und jN.und cK.info cK.size cK.bytes cK.zero rfl (by decide) O4 (S.ext e4) (λr hr u hu=>by
  obtain⟨x,hx,rfl⟩:=mJ.1 hr;simp only[mU,gU,lH,or_false] at hu;rcases hu with rfl|rfl
  ·exact(hrs x hx).1
  ·rfl) (by rw[hhd];simp;omega) ?_
 intro v5 h5 F5 O5 u5 g5 _;rw[←pO] at O5;have f12:eK h [r12]:=eK.one (e3.none hr12);have k12:h3 r12=none:=hr12;have e5:dD h h5:=e4.fresh u5 f12;have e35:dD h3 h5:=u4.fresh u5 (eK.one k12);have H5:=(jB.good c s).ext H3 e35;have hrules:aIG h5 (hd++rs):=λx hx=>by
  rcases kB.1 hx with hx|hx
  ·rw[hhd] at hx;simp only[gU,lH,or_false] at hx;rcases hx with rfl|rfl
   ·exact⟨c0,(R0.ext u3).ext e35⟩
   ·exact⟨c1,R1.ext e35⟩
  ·exact(hrs.ext e5) x hx
 refine aPs H5 O5.slR hrules (by rw[hhd];simp;omega) λh6 u6=>?_;have eall:aN9 s (hd++rs)=jP s p (rs.map (·.2)):=by rw[aPY,hhd];rfl
 rw[eall];have H6:=(jB.good c s).ext H5 u6;have e6:=e5.trans u6;have v16:dD h1 h6:=((u2.trans u3).trans e35).trans u6;unfold aCH;by_cases he:jP s p (rs.map (·.2))=0
 case neg=>
  have q:(jP s p (rs.map (·.2))==0)=false:=by simpa using he
  simp only[iG,q,cE,reduceIte,cZ,Nat.reduceAdd];exact hbad he h6 H6 e6
 obtain⟨n,hn⟩:=zLn w.1;have hn2:n<18446744073709551616:=by have:=w.2.1;omega
 obtain⟨-,hall⟩:=aMy he (by
  intro x hx;rcases kB.1 hx with hx|hx
  ·simp only[gU,lH,or_false] at hx;rcases hx with rfl|rfl<;>simp
  ·obtain⟨y,hy,rfl⟩:=mJ.1 hx;exact hne y hy)
 have hsent:yF s p=true:=hall (3,yF s p) (by simp);have hg:iJ s.st.now (iZ 99 n)≠none:=λhg=>by
  unfold yF at hsent;rw[hn,rA,hg] at hsent;cases hsent
 have ls:cG PG h6 (loadAt cA (pT r1 1))=some (.int .u64 (n:Int)):=by rw[cA.load,(B1.ext v16).cell,←hn];rfl
 simp only[he,iG,eJ.f0,aR.f1,fQ,ls,cE,reduceIte,cZ,Nat.reduceAdd];refine aNa hn2 λh7 u7=>?_;have H7:=(jB.good c s).ext H6 u7;refine aWH H7 hg λh8 F8 H8 s8=>?_;have nF:r1∉F:=λhm=>(jB.good c s).known H _ hm hr1;have D1:=(B1.ext (v16.trans u7)).upd s8.upd nF;have lp8:cG PG h8 (loadAt aR (pT r1 0))=some p.v:=D1.pk rfl;simp only[lp8,cE,reduceIte,cZ,Nat.reduceAdd];refine aN5 H8 kind w hl λh9 F9 H9 s9=>?_;have es:(s.del (iZ 99 n)).add ⟨kind,p⟩=s.settled kind p:=by unfold Ch.settled;rw[hn];rfl
 rw[es] at H9;exact hk he h9 F9 H9 (((jI.ext (e6.trans u7)).trans s8).trans s9)
noncomputable def aBO(s:Ch)(p:Pk)(pf:Tx)(x:Int):List (Int×Bool):=[(11,(mC s.cl x).isSome),(9,aEG (wR s.cl x) pf (iZ 97 p.s.toNat) (aEv p))]
def aXZ{h:PH}{c:Nat}{s:Ch}{F:List Nat}(hK:oP h)(H:jB c s h F){p:Pk}(w:p.wf){pf:Tx}{x:Int}(hl:s.nts.length<1000000){kk:cD}
  (hbad:jP s p (aBO s p pf x)≠0->∀h',jB c s h' F->dD h h'->kk (.int .i64 (jP s p (aBO s p pf x))) h')
  (hk:jP s p (aBO s p pf x)=0->∀h' F',jB c (s.settled 3 p) h' F'->jI h F h' F'->kk (.int .i64 0) h'):
  aT PG aEy #[pT c 0,p.v,.string (tx pf),.int .u64 x] h kk:=by
 apply aEe.call;unfold aEe;obtain⟨n,hn⟩:=zLn w.1;have hn2:n<18446744073709551616:=by have:=w.2.1;omega
 intro r1 hr1
 try rw[cW]
 have u1:dD h (h.set r1 (.cells (Value.cells p.v) aR)):=cQ.new hr1;have B1:Bx (h.set r1 (.cells (Value.cells p.v) aR)) r1 p.cells:=Bx.new;generalize h.set r1 (.cells (Value.cells p.v) aR)=h1 at *;intro r3 hr3
 try rw[cW]
 have u3:dD h1 (h1.set r3 (.cells (Value.cells (.string (tx pf))) bT)):=cQ.new hr3;have B3:Bx (h1.set r3 (.cells (Value.cells (.string (tx pf))) bT)) r3 [.string (tx pf)]:=Bx.new;generalize h1.set r3 (.cells (Value.cells (.string (tx pf))) bT)=h3 at *;have e3:=u1.trans u3;have C1:=B1.ext u3;have H3:=(jB.good c s).ext H e3
 try simp only[oR,cE,reduceIte,cZ,Nat.reduceAdd]
 refine aMq (f:=λroot=>aEG root pf (iZ 97 p.s.toNat) (aEv p)) H3 rfl (λh' u root k' hk'=>?_) λh4 f1 f2 c1 c2 R1 R2 u4=>?_
 ·show aT PG aDf #[.string (tx root),pT r3 0,pT r1 0] h' k';apply vS.call;unfold vS;have lpf:∀{h'':PH},dD h' h''->cG PG h'' (loadAt bT (pT r3 0))=some (.string (tx pf)):=λv=>by rw[bT.load,((B3.ext u).ext v).cell];rfl
  have lp:∀{h'':PH},dD h' h''->cG PG h'' (loadAt aR (pT r1 0))=some p.v:=λv=>((C1.ext u).ext v).pk rfl;have ls:cG PG h' (loadAt cA (pT r1 1))=some (.int .u64 (n:Int)):=by rw[cA.load,(C1.ext u).cell,←hn];rfl
  simp only[lpf cQ.refl,lp cQ.refl,aR.f1,fQ,ls,cE,reduceIte,cZ,Nat.reduceAdd];refine aNe hn2 λh5 u5=>?_;refine⟨lp u5,lpf u5,?_⟩;refine aP4 w (hK.ext ((e3.trans u).trans u5)) λh6 u6=>?_;refine⟨lpf (u5.trans u6),?_⟩;refine aT0 (hK.ext (((e3.trans u).trans u5).trans u6)) λh7 u7=>?_;have:=hk' h7 ((u5.trans u6).trans u7);rw[hn] at this;exact this
 have e4:=e3.trans u4;simp only[cE,reduceIte,cZ,Nat.reduceAdd];intro r10 hr10
 try rw[cW]
 have u5:dD h4 (h4.set r10 (.cells (dV PG cK) cK)):=cQ.new hr10;have Z10:=cK.zbox (h:=h4) (r:=r10);generalize h4.set r10 (.cells (dV PG cK) cK)=h5 at *;intro r12 hr12
 try rw[cW]
 have u6:dD h5 (h5.set r12 (.cells (dV PG cK) cK)):=cQ.new hr12;have Z12:=cK.zbox (h:=h5) (r:=r12);have n1012:r10≠r12:=Z10.apart hr12;have Y10:=Z10.ext u6;generalize h5.set r12 (.cells (dV PG cK) cK)=h6 at *;have k10:h4 r10=none:=hr10;have k12:h4 r12=none:=u5.none hr12;refine cK.put (vs:=[f1,.int .i64 11]) Y10 (o:=0) rfl (by show 0+2≤2;decide) (by simp only[gU,lH,or_false];rintro z (rfl|rfl);exact c1;rfl) λh7 B7 u7=>?_;refine cK.put (vs:=[f2,.int .i64 9]) (Z12.upd u7 (by simpa using n1012.symm)) (o:=0) rfl (by show 0+2≤2;decide) (by simp only[gU,lH,or_false];rintro z (rfl|rfl);exact c2;rfl) λh8 B8 u8=>?_;have e48:dD h4 h8:=((u5.trans u6).fresh u7 (eK.one k10)).fresh u8 (eK.one k12);have l10:cG PG h8 (loadAt cK (pT r10 0))=some (.agg #[f1,.int .i64 11]):=cK.agg (B7.upd u8 (by simpa using n1012)) (by show 0+2≤2;decide);have l12:cG PG h8 (loadAt cK (pT r12 0))=some (.agg #[f2,.int .i64 9]):=cK.agg B8 (by show 0+2≤2;decide);have lp8:cG PG h8 (loadAt aR (pT r1 0))=some p.v:=(C1.ext (u4.trans e48)).pk rfl;simp only[lp8,l10,l12,aSv,cE,reduceIte,cZ,Nat.reduceAdd];intro r21 hr21;refine fP ?_
 try rw[cW]
 obtain⟨rs,hrs⟩:∃rs:List RuV,rs=[(f1,11,(mC s.cl x).isSome),(f2,9,aEG (wR s.cl x) pf (iZ 97 p.s.toNat) (aEv p))]:=⟨_,rfl⟩;have ecells:(#[f1,.int .i64 11,f2,.int .i64 9]:Array Value)=(rs.map mU).flatten.toArray:=by rw[hrs];rfl
 have ers:rs.map (·.2)=aBO s p pf x:=by rw[hrs];rfl
 rw[ecells];have u9:dD h8 (h8.set r21 (.cells (rs.map mU).flatten.toArray cK)):=cQ.new hr21;have S9:fZ (h8.set r21 (.cells (rs.map mU).flatten.toArray cK)) 2 (.slice (some ⟨r21,0,none⟩) 2 2) (rs.map mU):=(eM.lit (mU.rows rs) dL (by rw[hrs];simp) (by decide) (by simp)).slR;generalize h8.set r21 (.cells (rs.map mU).flatten.toArray cK)=h9 at *;have e49:=e48.trans u9;have e9:=e4.trans e49;have hrules:aIG h9 rs:=λy hy=>by
  rw[hrs] at hy;simp only[gU,lH,or_false] at hy;rcases hy with rfl|rfl
  ·exact⟨c1,R1.ext e49⟩
  ·exact⟨c2,R2.ext e49⟩
 refine aOM (hK.ext e9) ((jB.good c s).ext H e9) 3 w S9 hrules (by rw[hrs];simp) (by rw[hrs];simp) hl (λhe h' H' u'=>?_) (λhe h' F' H' s'=>?_)
 ·rw[ers] at he ⊢;exact hbad he h' H' (e9.trans u')
 ·rw[ers] at he;exact hk he h' F' H' ((jI.ext e9).trans s')
noncomputable def wS(s:Ch)(p:Pk)(pf:Tx)(x:Int):List (Int×Bool):=[(11,decide (IntKind.u64.wrap (p.t-1)≤x)),(11,(mC s.cl x).isSome),(9,aE5 (wR s.cl x) pf (iZ 114 p.s.toNat))]
def aSA{h:PH}{c:Nat}{s:Ch}{F:List Nat}(hK:oP h)(H:jB c s h F){p:Pk}(w:p.wf){pf:Tx}{x:Int}(hl:s.nts.length<1000000){kk:cD}
  (hbad:jP s p (wS s p pf x)≠0->∀h',jB c s h' F->dD h h'->kk (.int .i64 (jP s p (wS s p pf x))) h')
  (hk:jP s p (wS s p pf x)=0->∀h' F',jB c (s.settled 4 p) h' F'->jI h F h' F'->kk (.int .i64 0) h'):
  aT PG aB8 #[pT c 0,p.v,.string (tx pf),.int .u64 x] h kk:=by
 apply aA2.call;unfold aA2;obtain⟨n,hn⟩:=zLn w.1;have hn2:n<18446744073709551616:=by have:=w.2.1;omega
 intro r1 hr1
 try rw[cW]
 have u1:dD h (h.set r1 (.cells (Value.cells p.v) aR)):=cQ.new hr1;have B1:Bx (h.set r1 (.cells (Value.cells p.v) aR)) r1 p.cells:=Bx.new;generalize h.set r1 (.cells (Value.cells p.v) aR)=h1 at *;intro r3 hr3
 try rw[cW]
 have u3:dD h1 (h1.set r3 (.cells (Value.cells (.string (tx pf))) bT)):=cQ.new hr3;have B3:Bx (h1.set r3 (.cells (Value.cells (.string (tx pf))) bT)) r3 [.string (tx pf)]:=Bx.new;generalize h1.set r3 (.cells (Value.cells (.string (tx pf))) bT)=h3 at *;intro r5 hr5
 try rw[cW]
 have u5:dD h3 (h3.set r5 (.cells (Value.cells (.int .u64 x)) cA)):=cQ.new hr5;have B5:Bx (h3.set r5 (.cells (Value.cells (.int .u64 x)) cA)) r5 [.int .u64 x]:=Bx.new;generalize h3.set r5 (.cells (Value.cells (.int .u64 x)) cA)=h5 at *;have e5:=(u1.trans u3).trans u5;have C1:=(B1.ext u3).ext u5;have C3:=B3.ext u5;have H5:=(jB.good c s).ext H e5;have lx:∀{h'':PH},dD h5 h''->cG PG h'' (loadAt cA (pT r5 0))=some (.int .u64 x):=λv=>by rw[cA.load,(B5.ext v).cell];rfl
 simp only[lx cQ.refl,oR,cE,reduceIte,cZ,Nat.reduceAdd];refine aMq (f:=λroot=>aE5 root pf (iZ 114 p.s.toNat)) H5 rfl (λh' u root k' hk'=>?_) λh4 f1 f2 c1 c2 R1 R2 u4=>?_
 ·show aT PG aAm #[.string (tx root),pT r3 0,pT r1 0] h' k';apply qM.call;unfold qM;have lpf:∀{h'':PH},dD h' h''->cG PG h'' (loadAt bT (pT r3 0))=some (.string (tx pf)):=λv=>by rw[bT.load,((C3.ext u).ext v).cell];rfl
  have ls:cG PG h' (loadAt cA (pT r1 1))=some (.int .u64 (n:Int)):=by rw[cA.load,(C1.ext u).cell,←hn];rfl
  simp only[lpf cQ.refl,aR.f1,fQ,ls,cE,reduceIte,cZ,Nat.reduceAdd];refine aKn hn2 λh6 u6=>?_;refine⟨lpf u6,?_⟩;refine aVf (hK.ext ((e5.trans u).trans u6)) λh7 u7=>?_;have:=hk' h7 (u6.trans u7);rw[hn] at this;exact this
 have e4:=e5.trans u4;simp only[cE,reduceIte,cZ,Nat.reduceAdd];intro r13 hr13
 try rw[cW]
 have u6:dD h4 (h4.set r13 (.cells (dV PG cK) cK)):=cQ.new hr13;have Z13:=cK.zbox (h:=h4) (r:=r13);generalize h4.set r13 (.cells (dV PG cK) cK)=h6 at *;intro r15 hr15
 try rw[cW]
 have u7:dD h6 (h6.set r15 (.cells (dV PG cK) cK)):=cQ.new hr15;have Z15:=cK.zbox (h:=h6) (r:=r15);have n1315:r13≠r15:=Z13.apart hr15;have Y13:=Z13.ext u7;generalize h6.set r15 (.cells (dV PG cK) cK)=h7 at *;have k13:h4 r13=none:=hr13;have k15:h4 r15=none:=u6.none hr15;refine cK.put (vs:=[f1,.int .i64 11]) Y13 (o:=0) rfl (by show 0+2≤2;decide) (by simp only[gU,lH,or_false];rintro z (rfl|rfl);exact c1;rfl) λh8 B8 u8=>?_;refine cK.put (vs:=[f2,.int .i64 9]) (Z15.upd u8 (by simpa using n1315.symm)) (o:=0) rfl (by show 0+2≤2;decide) (by simp only[gU,lH,or_false];rintro z (rfl|rfl);exact c2;rfl) λh9 B9 u9=>?_;have e49:dD h4 h9:=((u6.trans u7).fresh u8 (eK.one k13)).fresh u9 (eK.one k15);have D13:=B8.upd u9 (by simpa using n1315)
 try simp only[oR,aLA,cE,reduceIte,cZ,Nat.reduceAdd]
 intro r23 hr23
 try rw[cW]
 refine cK.fill (vs:=[.func (.func mV) #[] #[pT r5 0,pT r1 0],.int .i64 11]) hr23 rfl (by simp[fW]) λh10 B10 u10=>?_;have e410:=e49.trans u10;have l13:cG PG h10 (loadAt cK (pT r13 0))=some (.agg #[f1,.int .i64 11]):=cK.agg (D13.ext u10) (by show 0+2≤2;decide);have l15:cG PG h10 (loadAt cK (pT r15 0))=some (.agg #[f2,.int .i64 9]):=cK.agg (B9.ext u10) (by show 0+2≤2;decide);have l23:cG PG h10 (loadAt cK (pT r23 0))=some (.agg #[.func (.func mV) #[] #[pT r5 0,pT r1 0],.int .i64 11]):=cK.agg B10 (by show 0+2≤2;decide);have v510:dD h5 h10:=u4.trans e410;have lp8:cG PG h10 (loadAt aR (pT r1 0))=some p.v:=(C1.ext v510).pk rfl;simp only[lp8,l13,l15,l23,aYN,cE,reduceIte,cZ,Nat.reduceAdd];intro r31 hr31;refine fP ?_
 try rw[cW]
 obtain⟨rs,hrs⟩:∃rs:List RuV,rs=[(.func (.func mV) #[] #[pT r5 0,pT r1 0],11,decide (IntKind.u64.wrap (p.t-1)≤x)),(f1,11,(mC s.cl x).isSome),(f2,9,aE5 (wR s.cl x) pf (iZ 114 p.s.toNat))]:=⟨_,rfl⟩;have ecells:(#[.func (.func mV) #[] #[pT r5 0,pT r1 0],.int .i64 11,f1,.int .i64 11,f2,.int .i64 9]:Array Value)=(rs.map mU).flatten.toArray:=by rw[hrs];rfl
 have ers:rs.map (·.2)=wS s p pf x:=by rw[hrs];rfl
 rw[ecells];have u11:dD h10 (h10.set r31 (.cells (rs.map mU).flatten.toArray cK)):=cQ.new hr31;have S11:fZ (h10.set r31 (.cells (rs.map mU).flatten.toArray cK)) 2 (.slice (some ⟨r31,0,none⟩) 3 3) (rs.map mU):=(eM.lit (mU.rows rs) dL (by rw[hrs];simp) (by decide) (by simp)).slR;generalize h10.set r31 (.cells (rs.map mU).flatten.toArray cK)=h11 at *;have e411:=e410.trans u11;have e11:=e4.trans e411;have v511:=v510.trans u11;have hrules:aIG h11 rs:=λy hy=>by
  rw[hrs] at hy;simp only[gU,lH,or_false] at hy;rcases hy with rfl|rfl|rfl
  ·refine⟨rfl,λh' u k' hk'=>?_⟩;show aT PG mV #[pT r5 0,pT r1 0] h' k';apply zC.call;unfold zC;have lt:cG PG h' (loadAt cA (pT r1 2))=some (.int .u64 p.t):=by rw[cA.load,(C1.ext (v511.trans u)).cell];rfl
   simp only[lx (v511.trans u),aR.f2,fQ,lt,cE,reduceIte,cZ,Nat.reduceAdd];exact hk' h' cQ.refl
  ·exact⟨c1,R1.ext e411⟩
  ·exact⟨c2,R2.ext e411⟩
 refine aOM (hK.ext e11) ((jB.good c s).ext H e11) 4 w S11 hrules (by rw[hrs];simp) (by rw[hrs];simp) hl (λhe h' H' u'=>?_) (λhe h' F' H' s'=>?_)
 ·rw[ers] at he ⊢;exact hbad he h' H' (e11.trans u')
 ·rw[ers] at he;exact hk he h' F' H' ((jI.ext e11).trans s')
end
end Go.Proofs.YtppgkeodaejgcaaGreatDoor
