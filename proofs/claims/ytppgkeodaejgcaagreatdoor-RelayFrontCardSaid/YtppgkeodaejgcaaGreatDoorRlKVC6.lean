/- The texts of this claim, put together. -/
import Derived.Test.YtppgkeodaejgcaaGreatDoorRlKVC5
import Derived.Shelf.SlSortCmp.NoneTotal
set_option linter.unusedSimpArgs false
set_option linter.unusedVariables false
set_option linter.unusedSectionVars false
set_option maxRecDepth 100000
open Go.Instr (loadAt fieldAt indexAt extract buildSlice build)
namespace Go.Proofs.YtppgkeodaejgcaaGreatDoor
open Go Go.Sort Go.Shelf
theorem aOZ{α:Type}[Inhabited α](enc:α->List Value)(k:Nat)(hk0:0<k)(hlen:∀x,(enc x).length=k)(l:List α):(l.map enc).flatten=(flatK enc k l.toArray).toList:=by
 have hr:Rows k (l.map enc):=λr hr=>by obtain⟨x,_,rfl⟩:=lO.1 hr;exact hlen x
 apply List.ext_getElem?;intro j;have hfl:(l.map enc).flatten.length=l.length*k:=by rw[hr.flat,iU]
 by_cases hj:j<l.length*k
 ·have hi:j/k<l.length:=(Nat.div_lt_iff_lt_mul hk0).2 hj;have hat:=hr.at (i:=j/k) (r:=enc l[j/k]) (by simp[hi]);have hc:j%k<k:=zLA _ hk0;have e1:(l.map enc).flatten[j]? =(enc l[j/k])[j%k]?:=by
   rw[←hat,aHy,if_pos hc,aK2];congr 1;rw[zLR];exact(Nat.div_add_mod j k).symm
  have hs:j<(flatK enc k l.toArray).size:=by rw[size_flatK];exact hj
  have hg:=get_flatK enc k l.toArray j (by simpa using hj);rw[getElem!_pos _ j hs] at hg;have hle:j%k<(enc l[j/k]).length:=by rw[hlen];exact hc
  have hx:l.toArray[j/k]! =l[j/k]:=by rw[getElem!_pos l.toArray (j/k) (by simpa using hi)];rfl
  have e2:(flatK enc k l.toArray).toList[j]? =(flatK enc k l.toArray)[j]?:=by simp
  rw[e1,e2,Array.getElem?_eq_getElem hs,hg,hx,lU hle,getElem!_pos (enc l[j/k]) (j%k) hle]
 ·rw[List.getElem?_eq_none (by omega),aKq,Array.getElem?_eq_none (by simp;omega)]
theorem aPO(F c:Array Value)(hle:F.size≤c.size):(putCells id 0 F c).toList.take F.size=F.toList:=by
 apply List.ext_getElem?;intro j;rw[aHy,aKq,aKq];by_cases hj:j<F.size
 ·rw[if_pos hj];simp only[putCells,Array.getElem?_mapIdx,fJ,Nat.zero_le,true_and,Nat.sub_zero,hj,if_true,id];rw[Array.getElem?_eq_getElem (by omega),Array.getElem?_eq_getElem hj,getElem!_pos F j hj];rfl
 ·rw[if_neg hj,Array.getElem?_eq_none (by omega)]
theorem aUn{w w':World}(os:w'.os=w.os)(tape:w'.tape=w.tape)(output:w'.output=w.output)(drawn:w.drawn≤w'.drawn)(size:w.heap.size≤w'.heap.size)(far:∀b,b<w.heap.size->w'.heap[b]? =w.heap[b]?):
  ∃q os',w'=grow (w.drewN q) os':=by
 refine⟨w'.drawn-w.drawn,w'.heap.extract w.heap.size w'.heap.size,?_⟩;cases w with|mk heap tp dr o ou=>cases w' with|mk heap' tp' dr' o' ou'=>
 simp only at *;subst os tape output;unfold grow World.drewN;simp only[World.mk.injEq,and_true,true_and];refine⟨?_,by omega⟩;apply Array.ext_getElem?;intro i;rw[Array.getElem?_append];split
 ·rename_i hi;exact far i hi
 ·rename_i hi;rw[Array.getElem?_extract];split
  ·congr 1;omega
  ·rw[Array.getElem?_eq_none (by omega)]
theorem aQz{P:Program}{ρ:Ren}{α:Type}[Inhabited α](L:SlLaysF0.n6 P ρ){f:FuncId}(hf:ρ.f 6=f){k:Nat}(hk0:0<k)(aE:∀w,(isAgg (ρ.t 24)).run P w= .ok true w)(zE:∀w,(Go.sizeOf (ρ.t 24)).run P w= .ok k w)
  (enc:α->List Value) (hlen:∀x,(enc x).length=k) (h1:∀x,∀v∈enc x,v.oneCell'=true) (cf:α->α->Int) (hO:SWO (ltOf cf)) {g:FuncId} (eg:aEL P g=true)
  (hcmp:∀x y,aT P g #[.agg (enc x).toArray,.agg (enc y).toArray] (λ_=>none) λv _=>v= .int .i64 (cf x y)) (hen:aEL P f=true)
  {e:TypeId} {v:Value} {F:List Nat} {l:List α} {h:PH} (H:eD h e k v (l.map enc) F) (hsz:l.length<4611686018427387904) {R:cD}
  (hk:∀(l':List α) h',l'.Perm l->l'.Pairwise (λa b=>ltOf cf b a=false)->eD h' e k v (l'.map enc) F->cU F h h'->R (.tuple #[]) h'):aT P f #[v,.func (.func g) #[] #[]] h R:=by
 subst hf;refine .inl ⟨hen,λw hs=>?_⟩;have heg:∀(args:Array Value) (w:World),(callFunc g args).run P w= .ok (.enter g args) w:=λargs w=>
  cE.run (h:=λ_=>none) (aIH eg) (λ_ _ hb=>by cases hb)
 rcases H.here with⟨hv,hr,hF⟩|⟨b,cap,cs,hv,hF,hb,hle,hcm,hcs,htk⟩
 ·have hl:l=[]:=List.map_eq_nil_iff.1 hr;subst hl hv hF;refine(AnyF.slices_SortFunc_none L none 0 _ w).mono λe1 w' ⟨he,hw⟩=>?_;subst hw;exact⟨_,h,he,hk [] h (List.Perm.refl _) List.Pairwise.nil H cU.refl,hs,Fr.refl _ _⟩
 ·subst hF;have hfl:=aOZ enc k hk0 hlen l;have hrl:(l.map enc).length=l.length:=iU _;rw[hrl] at hv hle htk;have hwb:=hs b _ hb;have hblk:b<w.heap.size:=hs.lt hb;have hH:HoldsK enc k w b 0 l.toArray:=by
   intro j hj;have hj':j<l.length*k:=by simpa using hj
   have hc:cs[j]? =some ((flatK enc k l.toArray)[j]!):=by
    have e1:cs.toList[j]? =(l.map enc).flatten[j]?:=by rw[←htk,aHy,if_pos hj']
    rw[aKq] at e1;rw[e1,hfl,aKq,Array.getElem?_eq_getElem hj,getElem!_pos _ j hj]
   constructor
   ·unfold World.cell?;simp only[fJ,hwb,zLu];simpa using hc
   ·unfold World.frozen?;simp only[hwb];simp
  have hcm':CmpLays P g #[] enc k cf b 0 l.toArray.size w:=by
   intro m os dk _ x y;have hc:=(hcmp x y).calls eg (sortWorldK enc k w b 0 m dk os) (λ_ _ hb=>by cases hb);refine hc.mono λe1 w' ⟨v1,h1,he,hv1,_,fr⟩=>⟨by rw[he,hv1],aUn fr.os fr.tape fr.output fr.drawn fr.size λi hi=>fr.far i hi rfl⟩
  have hS:=AnyQ.slices_SortFunc L k aE zE enc hlen h1 cf hO g #[] b 0 cap l.toArray w heg hcm' hH hblk (by simpa using hsz);subst hv;have hz:l.toArray.size=l.length:=by simp
  rw[hz] at hS;refine hS.mono λe1 w' ⟨he,d',n,os,hp,hso,hw⟩=>?_;obtain⟨hps,_,hpp⟩:=hp;have hds:d'.toList.length=l.length:=by simpa using hps
  let c':=putCells id 0 (flatK enc k d') cs;have hmod:∀i,w'.heap[i]? =if i<w.heap.size then(if i=b then some (.cells c' e (0,0)) else w.heap[i]?) else os[i-w.heap.size]?:=by
   intro i;subst hw;show((w.heap.modify b (onCells (putCells id 0 (flatK enc k d'))))++os)[i]? =_;rw[Array.getElem?_append,Array.size_modify,Array.getElem?_modify];by_cases hi:i<w.heap.size
   ·rw[if_pos hi,if_pos hi];by_cases hib:i=b
    ·subst hib;rw[if_pos rfl,if_pos rfl,hwb];rfl
    ·rw[if_neg (Ne.symm hib),if_neg hib]
   ·rw[if_neg hi,if_neg hi]
  have hsub:pJ (h.set b (.cells c' e (0,0))) w':=by
   intro i o hi;rw[hmod];unfold PH.set at hi;split at hi
   ·rename_i e1;subst e1;rw[if_pos hblk,if_pos rfl];exact hi
   ·rename_i e1;rw[if_pos (hs.lt hi),if_neg e1];exact hs _ _ hi
  have hfr:Fr h w (h.set b (.cells c' e (0,0))) w':=by
   subst hw;refine⟨rfl,rfl,rfl,?_,?_,λi hi hn=>?_,λi hi hn=>?_⟩
   ·show w.drawn≤w.drawn+n;omega
   ·show w.heap.size≤((w.heap.modify b _)++os).size;simp
   ·rw[hmod,if_pos hi,if_neg (λe1=>by subst e1;rw[hb] at hn;cases hn)]
   ·rw[pD (λe1=>by subst e1;rw[hb] at hn;cases hn)];exact hn
  refine⟨_,_,he,hk d'.toList _ ?_ ?_ ⟨λr hr=>?_,.inr ⟨b,cap,c',?_,rfl,dM,?_,hcm,?_,?_⟩⟩ (cU.set (by simp)),hsub,hfr⟩
  ·have e1:d'.extract 0 l.length=d':=by rw[←hz,←hps];simp
   have e2:l.toArray.extract 0 l.length=l.toArray:=by rw[←hz];simp
   rw[e1,e2] at hpp;simpa using hpp
  ·rw[List.pairwise_iff_getElem];intro i j hi hj hij;have:=hso i j (Nat.zero_le _) hij (by rw[←hz,←hps];simpa using hj);rw[getElem!_pos d' i (by simpa using hi),getElem!_pos d' j (by simpa using hj)] at this;simpa using this
  ·obtain⟨x,_,rfl⟩:=lO.1 hr;exact hlen x
  ·rw[iU,hds]
  ·rw[iU,hds];exact hle
  ·show(putCells id 0 (flatK enc k d') cs).size=_;unfold putCells;rw[Array.size_mapIdx];exact hcs
  ·rw[iU,hds];have hfd:=aOZ enc k hk0 hlen d'.toList;rw[hfd];have hsz2:(flatK enc k d').size=l.length*k:=by rw[size_flatK,hps,hz]
   have:=aPO (flatK enc k d') cs (by rw[hsz2,hcs];exact zLO _ hle);rw[hsz2] at this;simpa using this
end Go.Proofs.YtppgkeodaejgcaaGreatDoor
namespace Go.Proofs.YtppgkeodaejgcaaGreatDoor
open Go Go.Shelf
def aJe:Go.Shelf.Ren:=⟨fun|6=>65|15=>128|14=>127|28=>202|29=>203|20=>194|21=>195|22=>196|23=>197|24=>198|25=>199|26=>200|27=>201|46=>252|47=>253|48=>254|49=>255|50=>256|57=>290|n=>n,fun|22=>65|24=>130|25=>147|3=>3|39=>54|0=>0|53=>246|55=>22|4=>4|46=>299|45=>298|50=>127|5=>5|9=>9|66=>342|70=>345|76=>383|77=>384|n=>n,fun|n=>n⟩
theorem aV6:Go.Proofs.SlLaysF0.n6 Tryz.prog aJe:={
 mixed:=by kernel_rfl
 f6:=⟨Tryz.f65.name,by decide,Tryz.func65.trans (congrArg some (by kernel_rfl))⟩
 f14:=⟨Tryz.f127.name,by decide,Tryz.func127.trans (congrArg some (by kernel_rfl))⟩
 f15:=Tryz.func128.trans (congrArg some (by kernel_rfl))
 f20:=⟨Tryz.f194.name,by decide,Tryz.func194.trans (congrArg some (by kernel_rfl))⟩
 f21:=⟨Tryz.f195.name,by decide,Tryz.func195.trans (congrArg some (by kernel_rfl))⟩
 f22:=⟨Tryz.f196.name,by decide,Tryz.func196.trans (congrArg some (by kernel_rfl))⟩
 f23:=⟨Tryz.f197.name,by decide,Tryz.func197.trans (congrArg some (by kernel_rfl))⟩
 f24:=⟨Tryz.f198.name,by decide,Tryz.func198.trans (congrArg some (by kernel_rfl))⟩
 f25:=⟨Tryz.f199.name,by decide,Tryz.func199.trans (congrArg some (by kernel_rfl))⟩
 f26:=⟨Tryz.f200.name,by decide,Tryz.func200.trans (congrArg some (by kernel_rfl))⟩
 f27:=⟨Tryz.f201.name,by decide,Tryz.func201.trans (congrArg some (by kernel_rfl))⟩
 f28:=Tryz.func202.trans (congrArg some (by kernel_rfl))
 f29:=Tryz.func203.trans (congrArg some (by kernel_rfl))
 f46:=⟨Tryz.f252.name,by decide,Tryz.func252.trans (congrArg some (by kernel_rfl))⟩
 f47:=Tryz.func253.trans (congrArg some (by kernel_rfl))
 f48:=Tryz.func254.trans (congrArg some (by kernel_rfl))
 f49:=⟨Tryz.f255.name,by decide,Tryz.func255.trans (congrArg some (by kernel_rfl))⟩
 f50:=⟨Tryz.f256.name,by decide,Tryz.func256.trans (congrArg some (by kernel_rfl))⟩
 f57:=⟨Tryz.f290.name,by decide,Tryz.func290.trans (congrArg some (by kernel_rfl))⟩
 t0:=Tryz.underlying0
 a0:=Tryz.isAgg0
 z0:=Tryz.sizeOf0
 v0:=Tryz.zeroValue0
 t3:=Tryz.underlying3
 a3:=Tryz.isAgg3
 z3:=Tryz.sizeOf3
 v3:=Tryz.zeroValue3
 t4:=Tryz.underlying4
 a4:=Tryz.isAgg4
 z4:=Tryz.sizeOf4
 v4:=Tryz.zeroValue4
 t5:=Tryz.underlying5
 a5:=Tryz.isAgg5
 z5:=Tryz.sizeOf5
 v5:=Tryz.zeroValue5
 t9:=Tryz.underlying9
 a9:=Tryz.isAgg9
 z9:=Tryz.sizeOf9
 v9:=Tryz.zeroValue9
 t22:=Tryz.underlying65
 a22:=Tryz.isAgg65
 z22:=Tryz.sizeOf65
 v22:=Tryz.zeroValue65
 t25:=Tryz.underlying147
 a25:=Tryz.isAgg147
 z25:=Tryz.sizeOf147
 v25:=Tryz.zeroValue147
 t39:=Tryz.underlying54
 a39:=Tryz.isAgg54
 z39:=Tryz.sizeOf54
 v39:=Tryz.zeroValue54
 t45:=Tryz.underlying298
 a45:=Tryz.isAgg298
 z45:=Tryz.sizeOf298
 v45:=Tryz.zeroValue298
 t46:=Tryz.underlying299
 a46:=Tryz.isAgg299
 z46:=Tryz.sizeOf299
 v46:=Tryz.zeroValue299
 t50:=Tryz.underlying127
 a50:=Tryz.isAgg127
 z50:=Tryz.sizeOf127
 v50:=Tryz.zeroValue127
 t53:=Tryz.underlying246
 a53:=Tryz.isAgg246
 z53:=Tryz.sizeOf246
 v53:=Tryz.zeroValue246
 t55:=Tryz.underlying22
 a55:=Tryz.isAgg22
 z55:=Tryz.sizeOf22
 v55:=Tryz.zeroValue22
 t66:=Tryz.underlying342
 a66:=Tryz.isAgg342
 z66:=Tryz.sizeOf342
 v66:=Tryz.zeroValue342
 t70:=Tryz.underlying345
 a70:=Tryz.isAgg345
 z70:=Tryz.sizeOf345
 v70:=Tryz.zeroValue345
 t76:=Tryz.underlying383
 a76:=Tryz.isAgg383
 z76:=Tryz.sizeOf383
 v76:=Tryz.zeroValue383
 t77:=Tryz.underlying384
 a77:=Tryz.isAgg384
 z77:=Tryz.sizeOf384
 v77:=Tryz.zeroValue384}
theorem aV7(w:World):(isAgg (aJe.t 24)).run PG w= .ok true w:=Tryz.isAgg130 w
theorem aVE(w:World):(Go.sizeOf (aJe.t 24)).run PG w= .ok 2 w:=Tryz.sizeOf130 w
end Go.Proofs.YtppgkeodaejgcaaGreatDoor
namespace Go.Proofs.YtppgkeodaejgcaaGreatDoor
open Go Bld Go.Sort Go.Shelf
def cfP(p q:Pr):Int:=if p.k<q.k then -1 else if q.k<p.k then 1 else 0
theorem aNO{h:PH}{a b:Tx}{k:cD}(hk:k (.int .i64 (if a<b then -1 else if b<a then 1 else 0)) h):aT PG yA #[.string (tx a),.string (tx b)] h k:=by
 apply aBF.call;unfold aBF;apply wL.call;unfold wL;simp only[aDS,decide_true,cG,reduceIte];apply wL.call;unfold wL;simp only[aDS,decide_true,cG,reduceIte];by_cases h1:a<b
 ·rw[if_pos h1] at hk;simp only[xJ,h1,cG,reduceIte];exact hk
 ·rw[if_neg h1] at hk;by_cases h2:b<a
  ·rw[if_pos h2] at hk;simp only[xJ,aM4,h1,h2,cG,reduceIte];exact hk
  ·rw[if_neg h2] at hk;simp only[xJ,aM4,h1,h2,cG,reduceIte];exact hk
theorem aUS(p q:Pr){h:PH}{k:cD}(hk:∀h',dD h h'->k (.int .i64 (cfP p q)) h'):aT PG qW #[p.val,q.val] h k:=by
 apply zJ.call;unfold zJ;rw[aMB,aMB];intro r1 hr1
 try rw[cZ]
 have u1:dD h (h.set r1 (.cells #[.string (tx p.k),.string (tx p.v)] cM)):=cU.new hr1;have a1:(h.set r1 (.cells #[.string (tx p.k),.string (tx p.v)] cM)) r1=some (.cells #[.string (tx p.k),.string (tx p.v)] cM (0,0)):=dM;generalize h.set r1 (.cells #[.string (tx p.k),.string (tx p.v)] cM)=h1 at *;intro r2 hr2
 try rw[cZ]
 have u2:dD h1 (h1.set r2 (.cells #[.string (tx q.k),.string (tx q.v)] cM)):=cU.new hr2;have a2:(h1.set r2 (.cells #[.string (tx q.k),.string (tx q.v)] cM)) r2=some (.cells #[.string (tx q.k),.string (tx q.v)] cM (0,0)):=dM;generalize h1.set r2 (.cells #[.string (tx q.k),.string (tx q.v)] cM)=h2 at *;have b1:=u2.get a1;have c0:dF h2 ⟨r1,0,none⟩=some (.string (tx p.k)):=by simp[dF,b1]
 have c1:dF h2 ⟨r2,0,none⟩=some (.string (tx q.k)):=by simp[dF,a2]
 simp only[cM.f0,bR.load,c0,c1,cG,reduceIte];exact aNO (hk _ (u1.trans u2))
theorem aKR(a b:Pr):ltOf cfP a b=decide (a.k<b.k):=by
 unfold ltOf cfP;by_cases h1:a.k<b.k
 ·simp[h1]
 ·by_cases h2:b.k<a.k
  ·simp[h1,h2]
  ·simp[h1,h2]
theorem aTs{x y z:Tx}(h1:¬x<y)(h2:¬y<z):¬x<z:=by
 intro h;rcases aHB x y with h3|rfl|h3
 ·exact h1 h3
 ·exact h2 h
 ·exact h2 (List.lt_trans h3 h)
theorem aZZ:SWO (ltOf cfP) where
 irrefl x:=by rw[aKR];simp[zL0]
 trans x y z h1 h2:=by
  rw[aKR] at *;simp only[decide_eq_true_eq] at *;exact List.lt_trans h1 h2
 ntrans x y z h1 h2:=by
  rw[aKR] at *;simp only[decide_eq_false_iff_not] at *;exact aTs h1 h2
instance:Inhabited Pr:=⟨⟨[],[]⟩⟩
theorem aU1{h:PH}{v:Value}{F:List Nat}{l:List Pr}(H:eD h cM 2 v (l.map Pr.cells) F)(hl:l.length≤1000000){k:cD}
  (hk:∀(l':List Pr) h',l'.Perm l->l'.Pairwise (λa b=>¬b.k<a.k)->eD h' cM 2 v (l'.map Pr.cells) F->cU F h h'->k (.tuple #[]) h'):
  aT PG oR #[v,.func (.func qW) #[] #[]] h k:=by
 refine aQz (P:=PG) aV6 (f:=oR) rfl (k:=2) (by decide) aV7 aVE Pr.cells (λ_=>rfl) (λx v hv=>?_) cfP aZZ (g:=qW) (by kernel_rfl)
  (λx y=>aUS x y λh' _=>rfl) (by kernel_rfl) H (by omega) (λl' h' hp hs hO u=>hk l' h' hp ?_ hO u)
 ·simp only[Pr.cells,gL,kJ,or_false] at hv;rcases hv with rfl|rfl<;>rfl
 ·refine hs.imp fun {a b} hab=>?_;rw[aKR] at hab;simpa using hab
end Go.Proofs.YtppgkeodaejgcaaGreatDoor
namespace Go.Proofs.YtppgkeodaejgcaaGreatDoor
open Go Bld
def rN(l:List Pr):Prop:=l.Pairwise λa b=>a.k<b.k
def mW(L:List Pr)(p:Pr):List Pr:=L.filter (λq=>decide (q.k<p.k))++p::L.filter (λq=>decide (p.k<q.k))
def uI(L:List Pr)(k:Tx):List Pr:=L.filter λq=>decide (q.k≠k)
def gI(L:List Pr)(k:Tx):Option Pr:=L.find? λq=>decide (k=q.k)
theorem rN.irr{L:List Pr}(h:rN L):L.Nodup:=by
 refine List.Pairwise.imp (fun {a b} hab=>?_) h;rintro rfl;exact zL0 _ hab
theorem rN.keys{L:List Pr}(h:rN L):(L.map Pr.k).Nodup:=by
 unfold List.Nodup;rw[List.pairwise_map];refine List.Pairwise.imp (fun {a b} hab e=>?_) h;rw[e] at hab;exact zL0 _ hab
theorem rN.ext{A B:List Pr}(ha:rN A)(hb:rN B)(h:∀p,p∈A↔p∈B):A=B:=by
 have hp:A.Perm B:=(List.perm_ext_iff_of_nodup ha.irr hb.irr).2 h;unfold rN at ha hb;exact List.Perm.eq_of_pairwise (le:=λa b:Pr=>a.k<b.k) (λa b _ _ (h1:a.k<b.k) h2=>absurd h2 (List.lt_asymm h1)) ha hb hp
theorem rN.one{L:List Pr}(h:rN L){p q:Pr}(hp:p∈L)(hq:q∈L)(e:p.k=q.k):p=q:=aFx h.keys hp hq e
theorem sJ{L:List Pr}{p q:Pr}:q∈mW L p↔q=p∨(q∈L∧q.k≠p.k):=by
 unfold mW;simp only[jG,gL,zL1,decide_eq_true_eq];constructor
 ·rintro(⟨h1,h2⟩|rfl|⟨h1,h2⟩)
  ·exact .inr ⟨h1,λe=>by rw[e] at h2;exact zL0 _ h2⟩
  ·exact .inl rfl
  ·exact .inr ⟨h1,λe=>by rw[e] at h2;exact zL0 _ h2⟩
 ·rintro(rfl|⟨h1,h2⟩)
  ·exact .inr (.inl rfl)
  ·rcases aHB q.k p.k with h|h|h
   ·exact .inl ⟨h1,h⟩
   ·exact absurd h h2
   ·exact .inr (.inr ⟨h1,h⟩)
theorem aPD{L:List Pr}{k:Tx}{q:Pr}:q∈uI L k↔q∈L∧q.k≠k:=by
 unfold uI;simp[zL1]
theorem rN.del{L:List Pr}(h:rN L)(k:Tx):rN (uI L k):=List.Pairwise.filter _ h
theorem rN.set{L:List Pr}(h:rN L)(p:Pr):rN (mW L p):=by
 unfold mW rN;rw[List.pairwise_append,List.pairwise_cons];refine⟨List.Pairwise.filter _ h,⟨λq hq=>?_,List.Pairwise.filter _ h⟩,λa ha b hb=>?_⟩
 ·simpa using(zL1.1 hq).2
 ·have h1:a.k<p.k:=by simpa using(zL1.1 ha).2
  rcases gL.1 hb with rfl|hb
  ·exact h1
  ·have h2:p.k<b.k:=by simpa using(zL1.1 hb).2
   exact List.lt_trans h1 h2
theorem aEs{L:List Pr}{k:Tx}:gI L k=none↔∀p∈L,p.k≠k:=by
 unfold gI;rw[List.find?_eq_none];simp only[decide_eq_true_eq];exact⟨λh p hp e=>h p hp e.symm,λh p hp e=>h p hp e.symm⟩
theorem zM{L:List Pr}(h:rN L){k:Tx}{p:Pr}:gI L k=some p↔p∈L∧p.k=k:=by
 constructor
 ·intro e;have h1:=List.mem_of_find?_eq_some e;have h2:=List.find?_some e;exact⟨h1,by simpa using Eq.symm (by simpa using h2)⟩
 ·rintro⟨h1,h2⟩;cases e:gI L k with
  | none=>exact absurd h2 (aEs.1 e p h1)
  | some q=>
   have h3:=List.mem_of_find?_eq_some e;have h4:k=q.k:=by simpa using List.find?_some e
   rw[h.one h3 h1 (by rw[h2];exact h4.symm)]
theorem aKE{l L:List Pr}(hp:l.Perm L)(hn:rN L)(k:Tx):gI l k=gI L k:=by
 have hnl:(l.map Pr.k).Nodup:=(hp.map Pr.k).nodup_iff.2 hn.keys;cases e:gI L k with
 | none=>
  rw[aEs] at e ⊢;exact λp h=>e p (hp.mem_iff.1 h)
 | some q=>
  obtain⟨h1,h2⟩:=(zM hn).1 e;cases e2:gI l k with
  | none=>exact absurd h2 (aEs.1 e2 q (hp.mem_iff.2 h1))
  | some r=>
   have h3:=List.mem_of_find?_eq_some e2;have h4:k=r.k:=by simpa using List.find?_some e2
   rw[aFx hnl h3 (hp.mem_iff.2 h1) (by rw[h2];exact h4.symm)]
def Pr.pr(p:Pr):Tx×Value:=(p.k,sB p.v)
abbrev aOD(h:PH)(m:Nat)(l:List Pr):Prop:=jZ sB h m (l.map Pr.pr)
theorem aUt(l:List Pr)(k:Tx):aCW (l.map Pr.pr) k=(gI l k).map λp=>sB p.v:=by
 unfold aCW gI;rw[List.find?_map,Option.map_map];rfl
theorem aRH(l:List Pr)(k:Tx):aN1 (l.map Pr.pr) k=(uI l k).map Pr.pr:=by
 unfold aN1 uI;rw[List.filter_map];rfl
theorem aW2(l:List Pr):wX (l.map Pr.pr)=l.map Pr.k:=by unfold wX;rw[zL2];rfl
theorem aOm{l L:List Pr}(hp:l.Perm L)(hs:rN L)(p:Pr):∃l':List Pr,aEZ (l.map Pr.pr) p.k (sB p.v)=l'.map Pr.pr∧l'.Perm (mW L p):=by
 have hnl:(l.map Pr.k).Nodup:=(hp.map Pr.k).nodup_iff.2 hs.keys;have hnd:l.Nodup:=aGl Pr.k hnl;unfold aEZ;rw[aW2];split
 ·rename_i hm;refine⟨l.map λq=>if q.k=p.k then p else q,?_,?_⟩
  ·rw[zL2,zL2];apply zL3;intro x _;show(if x.k=p.k then(p.k,sB p.v) else(x.k,sB x.v))=Pr.pr (if x.k=p.k then p else x);by_cases hc:x.k=p.k
   ·rw[if_pos hc,if_pos hc];rfl
   ·rw[if_neg hc,if_neg hc];rfl
  ·have hk:(l.map λq=>if q.k=p.k then p else q).map Pr.k=l.map Pr.k:=by
    rw[zL2];apply zL3;intro x _;show(if x.k=p.k then p else x).k=x.k;split
    ·rename_i e;exact e.symm
    ·rfl
   have hn2:(l.map λq=>if q.k=p.k then p else q).Nodup:=aGl Pr.k (by rw[hk];exact hnl);refine(List.perm_ext_iff_of_nodup hn2 (hs.set p).irr).2 λq=>?_;rw[sJ,lO];constructor
   ·rintro⟨x,hx,e⟩;by_cases hc:x.k=p.k
    ·rw[if_pos hc] at e;exact .inl e.symm
    ·rw[if_neg hc] at e;subst e;exact .inr ⟨hp.mem_iff.1 hx,hc⟩
   ·rintro(rfl|⟨h1,h2⟩)
    ·obtain⟨x,hx,e⟩:=lO.1 hm;exact⟨x,hx,by rw[if_pos e]⟩
    ·exact⟨q,hp.mem_iff.2 h1,by rw[if_neg h2]⟩
 ·rename_i hm;refine⟨l++[p],by rw[qX];rfl,?_⟩;have hno:∀x∈l,x.k≠p.k:=λx hx e=>hm (by rw[←e];exact zL6 hx);have hn2:(l++[p]).Nodup:=by
   rw[List.nodup_append];refine⟨hnd,by simp,λa ha b hb e=>?_⟩;simp only[fU] at hb;subst hb;subst e;exact hno _ ha rfl
  refine(List.perm_ext_iff_of_nodup hn2 (hs.set p).irr).2 λq=>?_;rw[sJ,jG,fU];constructor
  ·rintro(h1|rfl)
   ·exact .inr ⟨hp.mem_iff.1 h1,hno q h1⟩
   ·exact .inl rfl
  ·rintro(rfl|⟨h1,h2⟩)
   ·exact .inr rfl
   ·exact .inl (hp.mem_iff.2 h1)
theorem aHK{h:PH}{m:Nat}{l:List Pr}(hm:aOD h m l)(k:Tx):cE PG h (Instr.lookup dV (.map (some m)) (.string (tx k)) true)=some (.tuple #[.string (tx (((gI l k).map Pr.v).getD [])),.bool (gI l k).isSome]):=by
 have:=aIE aIb dV.und bR.info bR.zero hm k true;rw[aUt] at this;rw[show(.string (tx k):Value)=sB k from rfl,this];cases gI l k<;>rfl
structure St where
 now:List Pr
 blocks:List (List Pr)
 height:Nat
def aCd(s:St)(k v:Tx):St×Int:=
 if k.length<1∨16<k.length∨64<v.length then(s,1) else if gI s.now k=none∧4096≤s.now.length then(s,2) else({s with now:=mW s.now ⟨k,v⟩},0)
def aE5(s:St)(k:Tx):St×Int:=if gI s.now k=none then(s,3) else({s with now:=uI s.now k},0)
def jV(s:St):St×(Nat×Int):=
 if s.height=18446744073709551615 then(s,(0,12)) else if 4096≤s.blocks.length then(s,(0,2)) else({s with blocks:=s.blocks++[s.now],height:=s.height+1},(s.height+1,0))
def oO(s:St)(x:Nat):Option (List Pr):=if s.height<x∨s.blocks.length≤s.height-x then none else s.blocks[s.blocks.length-1-(s.height-x)]?
structure St.Ok(s:St):Prop where
 up:rN s.now
 fit:∀p∈s.now,aOM p
 few:s.now.length≤4096
 blk:∀b∈s.blocks,rN b∧(∀p∈b,aOM p)∧b.length≤4096
 h1:1≤s.blocks.length
 h2:s.blocks.length≤4096
 h3:s.blocks.length-1≤s.height
 h4:s.height<18446744073709551616
end Go.Proofs.YtppgkeodaejgcaaGreatDoor
namespace Go.Proofs.YtppgkeodaejgcaaGreatDoor
open Go
structure Pf where
 ab:Bool
 lv:List Lf
 deriving DecidableEq
def Pf.zero:Pf:=⟨false,[]⟩
def Lf.okb(f:Lf):Bool:=decide (0≤f.i)&&decide (f.i≤4096)&&decide (0≤f.n)&&decide (f.n≤4096)&&decide (f.p.k.length≤16)&&decide (f.p.v.length≤64)&&decide (f.path.length≤16)&&f.path.all λd=>decide (d.length=32)
structure Lf.Ok(f:Lf):Prop where
 i0:0≤f.i
 i1:f.i≤4096
 n0:0≤f.n
 n1:f.n≤4096
 k:f.p.k.length≤16
 v:f.p.v.length≤64
 m:f.path.length≤16
 d:∀d∈f.path,d.length=32
theorem Lf.ok_iff{f:Lf}:f.okb=true↔f.Ok:=by
 unfold Lf.okb;simp only[yB,decide_eq_true_eq,aDO];constructor
 ·rintro⟨⟨⟨⟨⟨⟨⟨a,b⟩,c⟩,d⟩,e⟩,g⟩,h⟩,i⟩;exact⟨a,b,c,d,e,g,h,i⟩
 ·rintro⟨a,b,c,d,e,g,h,i⟩;exact⟨⟨⟨⟨⟨⟨⟨a,b⟩,c⟩,d⟩,e⟩,g⟩,h⟩,i⟩
def aFh(f:Lf):Tx:=be f.i.toNat 8++(be f.n.toNat 8++((be f.p.k.length 2++f.p.k)++((be f.p.v.length 2++f.p.v)++(be f.path.length 1++f.path.flatten))))
def lF:List Lf->Tx
 | []=>[]
 | f::l=>aFh f++lF l
def aAt(p:Pf):Tx:=be (if p.ab then 2 else 1) 1++(be p.lv.length 1++lF p.lv)
def kY(p:Pf):Tx×Int:=if p.lv.length≤2∧p.lv.all Lf.okb=true then(aAt p,0) else([],1)
def kL(st:kM):Nat×kM:=if 4096<(gQ st 8).1 then(0,aKZ (gQ st 8).2 5) else gQ st 8
def yG:Nat->kM->List Tx->List Tx×kM
 | 0,st,acc=>(acc,st)
 | n+1,st,acc=>if st.1=0 then yG n (jQ st 32).2 (acc++[(jQ st 32).1]) else(acc,st)
def aDl(st:kM):Lf×kM:=
 let a:=kL st;let b:=kL a.2;let k:=mH b.2;let v:=mH k.2;let c:=gQ v.2 1;let m:=yG c.1 c.2 []
 (⟨(a.1:Int),(b.1:Int),⟨k.1,v.1⟩,m.1⟩,m.2)
def qM(st:kM):Lf×kM:=((aDl st).1,if (aDl st).1.okb then(aDl st).2 else aKZ (aDl st).2 5)
def oY:Nat->kM->List Lf->List Lf×kM
 | 0,st,acc=>(acc,st)
 | n+1,st,acc=>oY n (qM st).2 (acc++[(qM st).1])
def hZ(s:Tx):Pf×Int:=
 if (gQ (0,s) 1).1<1∨2<(gQ (0,s) 1).1∨2<(gQ (gQ (0,s) 1).2 1).1 then(Pf.zero,5)
 else if aLG (oY (gQ (gQ (0,s) 1).2 1).1 (gQ (gQ (0,s) 1).2 1).2 []).2≠0 then(Pf.zero,5)
 else(⟨decide ((gQ (0,s) 1).1=2),(oY (gQ (gQ (0,s) 1).2 1).1 (gQ (gQ (0,s) 1).2 1).2 []).1⟩,0)
theorem aHM.fwd{α:Type}{R:kM->α×kM}{bs:Tx}{v:α}(h:aHM R bs v)(r:Tx):R (0,bs++r)=(v,(0,r)):=h.all r
theorem aNj{n:Nat}(hn:n≤4096)(r:Tx):kL (0,be n 8++r)=(n,(0,r)):=by
 unfold kL;rw[(wT (n:=n) (c:=8) (by omega)).fwd r,if_neg (by simp only;omega)]
theorem aOy:∀(path acc:List Tx) (r:Tx),(∀d∈path,d.length=32)->yG path.length (0,path.flatten++r) acc=(acc++path,(0,r))
 | [],acc,r,_=>by simp[yG]
 | d::path,acc,r,h=>by
  have hd:=h d (by simp);have e:jQ (0,d++(path.flatten++r)) 32=(d,(0,path.flatten++r)):=by
   have:=(aIN d).fwd (path.flatten++r);rw[hd] at this;exact this
  rw[uW,aJk,mR,yG,if_pos rfl,e];simp only;rw[aOy path (acc++[d]) r (λx hx=>h x (by simp[hx])),mR];rfl
theorem aTO{f:Lf}(h:f.Ok)(r:Tx):qM (0,aFh f++r)=(f,(0,r)):=by
 have e1:aDl (0,aFh f++r)=(f,(0,r)):=by
  obtain⟨i,n,p,path⟩:=f;obtain⟨i0,i1,n0,n1,k,v,m,d⟩:=h;simp only at i0 i1 n0 n1 k v m d;obtain⟨i,rfl⟩:=zLn i0;obtain⟨n,rfl⟩:=zLn n0;unfold aDl aFh;simp only[qF,mR];rw[aNj (by omega)];simp only;rw[aNj (by omega)];simp only;rw[show be p.k.length 2++(p.k++(be p.v.length 2++(p.v++(be path.length 1++(path.flatten++r)))))=(be p.k.length 2++p.k)++(be p.v.length 2++(p.v++(be path.length 1++(path.flatten++r)))) by rw[mR],
   (aHY (l:=p.k) (by omega)).fwd]
  simp only;rw[show be p.v.length 2++(p.v++(be path.length 1++(path.flatten++r)))=(be p.v.length 2++p.v)++(be path.length 1++(path.flatten++r)) by rw[mR],
   (aHY (l:=p.v) (by omega)).fwd]
  simp only;rw[(wT (n:=path.length) (c:=1) (by omega)).fwd];simp only;rw[aOy path [] r d];rfl
 unfold qM;rw[e1,if_pos (Lf.ok_iff.2 h)]
theorem aMG:∀(l acc:List Lf) (r:Tx),(∀f∈l,f.Ok)->oY l.length (0,lF l++r) acc=(acc++l,(0,r))
 | [],acc,r,_=>by simp[oY,lF]
 | f::l,acc,r,h=>by
  rw[uW,lF,mR,oY,aTO (h f (by simp))];simp only;rw[aMG l (acc++[f]) r (λx hx=>h x (by simp[hx])),mR];rfl
theorem aQO{p:Pf}(h2:p.lv.length≤2)(h:∀f∈p.lv,f.Ok):hZ (aAt p)=(p,0):=by
 have e1:gQ (0,aAt p) 1=((if p.ab then 2 else 1),(0,be p.lv.length 1++lF p.lv)):=by
  unfold aAt;exact(wT (n:=if p.ab then 2 else 1) (c:=1) (by split<;>decide)).fwd _
 have e2:gQ (0,be p.lv.length 1++lF p.lv) 1=(p.lv.length,(0,lF p.lv)):=(wT (n:=p.lv.length) (c:=1) (by omega)).fwd _;have e3:oY p.lv.length (0,lF p.lv) []=(p.lv,(0,[])):=by
  have:=aMG p.lv [] [] h;rw[zLP,xZ] at this;exact this
 unfold hZ;rw[e1];simp only;rw[e2];simp only;rw[e3,if_neg (by cases p.ab<;>simp<;>omega),if_neg (by simp[aLG])];obtain⟨ab,lv⟩:=p;cases ab<;>rfl
def gT(l:List Pr)(k:Tx):Nat:=(l.filter λq=>decide (q.k<k)).length
def kD(l:List Pr)(j:Nat):Lf:=⟨(j:Int),(l.length:Int),l.getD j ⟨[],[]⟩,nV l j⟩
def jN(l:List Pr)(k:Tx):Pf:=
 if (gI l k).isSome then⟨false,[kD l (gT l k)]⟩
 else if l=[] then⟨true,[]⟩ else if gT l k=0 then⟨true,[kD l 0]⟩ else if gT l k=l.length then⟨true,[kD l (l.length-1)]⟩ else⟨true,[kD l (gT l k-1),kD l (gT l k)]⟩
def mY(root:Tx)(l:List Lf):Bool:=l.all λf=>oT f==some root
def aCH(root s k v:Tx):Bool:=
 (hZ s).2==0 && !(hZ s).1.ab&&(match (hZ s).1.lv with|[f]=>f.p==⟨k,v⟩|_=>false)&&mY root (hZ s).1.lv
def aCY(root s k:Tx):Bool:=
 (hZ s).2==0&&(hZ s).1.ab&&decide (1≤k.length)&&decide (k.length≤16)&&mY root (hZ s).1.lv&&(match (hZ s).1.lv with
  | []=>root==lB []
  | [f]=>(f.i==0&&decide (k<f.p.k))||(f.i==IntKind.i64.wrap (f.n-1)&&decide (f.p.k<k))
  | f::g::_=>f.n==g.n&&(IntKind.i64.wrap (f.i+1)==g.i)&&decide (f.p.k<k)&&decide (k<g.p.k))
theorem aFk{k:Tx}:∀{l:List Pr},rN l->∀{j:Nat} {x:Pr},l[j]? =some x->(j<gT l k↔x.k<k)
 | [],_,j,x,h=>by simp at h
 | a::l,hs,j,x,h=>by
  unfold rN at hs;rw[List.pairwise_cons] at hs;by_cases ha:a.k<k
  ·have e:gT (a::l) k=gT l k+1:=by unfold gT;rw[List.filter_cons_of_pos (by simpa using ha)];rfl
   rw[e];cases j with
   | zero=>
    simp only[pR,zL8] at h;subst h;exact⟨λ_=>ha,λ_=>by omega⟩
   | succ j=>
    rw[rY] at h;rw[Nat.add_lt_add_iff_right];exact aFk hs.2 h
  ·have hn:∀y∈l,¬y.k<k:=λy hy h'=>ha (List.lt_trans (hs.1 y hy) h');have e:gT (a::l) k=0:=by
    unfold gT;rw[List.filter_cons_of_neg (by simpa using ha),List.filter_eq_nil_iff.2 (λy hy=>by simpa using hn y hy)];rfl
   rw[e];have hx:¬x.k<k:=by
    cases j with
    | zero=>
     simp only[pR,zL8] at h;subst h;exact ha
    | succ j=>
     rw[rY] at h;exact hn x (rA h)
   exact⟨λc=>by omega,λc=>absurd c hx⟩
theorem aId(l:List Pr)(k:Tx):gT l k≤l.length:=aMb _ _
theorem rN.lt{l:List Pr}(h:rN l){i j:Nat}{x y:Pr}(hx:l[i]? =some x)(hy:l[j]? =some y)(hij:i<j):x.k<y.k:=by
 obtain⟨h1,e1⟩:=zLz.1 hx;obtain⟨h2,e2⟩:=zLz.1 hy;have:=List.pairwise_iff_getElem.1 h i j h1 h2 hij;rw[e1,e2] at this;exact this
theorem aLR{l:List Pr}(hs:rN l){k:Tx}{p:Pr}(hg:gI l k=some p):l[gT l k]? =some p:=by
 obtain⟨hm,hk⟩:=(zM hs).1 hg;obtain⟨j,hj⟩:=List.mem_iff_getElem?.1 hm;have h1:¬j<gT l k:=λc=>by
  have:=(aFk hs hj).1 c;rw[hk] at this;exact zL0 _ this
 have hjl:=(zLz.1 hj).1;have h2:¬gT l k<j:=λc=>by
  obtain⟨x,hx⟩:∃x,l[gT l k]? =some x:=⟨_,lU (by omega)⟩;have h3:=hs.lt hx hj c;rw[hk] at h3;have:=(aFk hs hx).2 h3;omega
 have:gT l k=j:=by omega
 rw[this];exact hj
structure MOk(l:List Pr):Prop where
 up:rN l
 len:l.length≤4096
 k:∀p∈l,p.k.length≤16
 v:∀p∈l,p.v.length≤64
theorem aK4{l:List Pr}{j:Nat}{p:Pr}(hj:l[j]? =some p):kD l j=⟨(j:Int),(l.length:Int),p,nV l j⟩:=by
 unfold kD;rw[aAT,hj];rfl
theorem aPK{l:List Pr}(H:MOk l){j:Nat}(hj:j<l.length):(kD l j).Ok:=by
 have e:l[j]? =some l[j]:=lU hj;rw[aK4 e];have hm:l[j]∈l:=aLH hj;have hl:=H.len;exact⟨by simp,by simp only;omega,by simp,by simp only;omega,H.k _ hm,H.v _ hm,by
  have:=aEv 12 l j (by omega);simp only;omega,λd hd=>aTJ _ l j rfl d hd⟩
theorem aLO{l:List Pr}(H:MOk l)(k:Tx):(jN l k).lv.length≤2∧∀f∈(jN l k).lv,∃j,j<l.length∧f=kD l j:=by
 have hp:=aId l k;unfold jN;by_cases hg:(gI l k).isSome=true
 ·obtain⟨p,hgp⟩:=Option.isSome_iff_exists.1 hg;have:=(zLz.1 (aLR H.up hgp)).1;rw[if_pos hg];exact⟨by simp,λf hf=>⟨_,this,by simpa using hf⟩⟩
 ·rw[if_neg hg];by_cases h0:l=[]
  ·rw[if_pos h0];exact⟨by simp,by simp⟩
  ·rw[if_neg h0];have hpos:=aG2.2 h0;by_cases h1:gT l k=0
   ·rw[if_pos h1];exact⟨by simp,λf hf=>⟨0,hpos,by simpa using hf⟩⟩
   ·rw[if_neg h1];by_cases h2:gT l k=l.length
    ·rw[if_pos h2];exact⟨by simp,λf hf=>⟨l.length-1,by omega,by simpa using hf⟩⟩
    ·rw[if_neg h2];refine⟨by simp,λf hf=>?_⟩;simp only[gL,kJ,or_false] at hf;rcases hf with rfl|rfl
     ·exact⟨gT l k-1,by omega,rfl⟩
     ·exact⟨gT l k,by omega,rfl⟩
theorem aP8{l:List Pr}(H:MOk l)(k:Tx):kY (jN l k)=(aAt (jN l k),0)∧hZ (aAt (jN l k))=(jN l k,0):=by
 obtain⟨h1,h2⟩:=aLO H k;have hok:∀f∈(jN l k).lv,f.Ok:=λf hf=>by
  obtain⟨j,hj,rfl⟩:=h2 f hf;exact aPK H hj
 refine⟨?_,aQO h1 hok⟩;unfold kY;rw[if_pos ⟨h1,aDO.2 λf hf=>Lf.ok_iff.2 (hok f hf)⟩]
abbrev LV:=Lf×Value
def pX(y:LV):List Value:=y.1.cells y.2
def LfS(h:PH)(l:List LV):Prop:=∀y∈l,fR h 1 y.2 (y.1.path.map iY)
theorem LfS.ext{h h':PH}{l:List LV}(H:LfS h l)(u:dD h h'):LfS h' l:=λy hy=>(H y hy).ext u
theorem aWU{h:PH}{x fv:Value}{xs:List Tx}{f:Tx->Bool}(hx:fR h 1 x (xs.map iY))(hl:xs.length≤1000000)
  (hf:∀p∈xs,∀h',dD h h'->∀k':Value->PH->Prop,(∀h'',dD h' h''->k' (.bool (f p)) h'')->yP PG fv #[.string (tx p)] h' k') {k:cD}
  (hk:∀h',dD h h'->k (.bool (xs.any f)) h'):aT PG oP #[x,fv] h k:=by
 have lx:=hx.len (t':=bT) cP.und;rw[iU] at lx;apply mT.call;unfold mT;apply nU.call;unfold nU;simp only[lx,cG,reduceIte];refine⟨λvs h'=>∃i:Nat,i≤xs.length∧vs=[x,fv,.int .i64 xs.length,.int .i64 i]∧dD h h'∧∀p∈xs.take i,f p=false,gY xs.length 3,⟨0,by omega,rfl,cU.refl,by simp⟩,?_⟩;rintro ρ h' ⟨i,hi,hvs,w,hq⟩;simp only[iJ,iV,kW,and_true] at hvs;obtain⟨e0,e1,e2,e5⟩:=hvs;rw[e0,e1,e2,e5];unfold xN;by_cases hlt:i<xs.length
 ·have hd:((i:Int)<(xs.length:Int))=True:=by apply eq_true;omega
  obtain⟨m,hm⟩:∃m,xs[i]? =some m:=⟨_,lU hlt⟩;obtain⟨a,a1,a2⟩:=(hx.ext w).loadCell cP.und bR.info bR.size bR.und rfl (k:=.i64) (j:=(i:Int)) (x:=.string (tx m)) (by omega) (by rw[qF,wN,hm];rfl);have ei:=qG (i:=i) (by omega);simp only[hd,a1,a2,cG,reduceIte];refine hf m (rA hm) _ w _ λh2 u2=>?_;cases c:f m with
  | true=>
   have h0:(0≤(i:Int))=True:=by apply eq_true;omega
   have hin:xs.any f=true:=List.any_eq_true.2 ⟨m,rA hm,c⟩;have:=hk _ (w.trans u2);rw[hin] at this;simp only[h0,cG,reduceIte];exact this
  | false=>
   simp only[ei,cG,reduceIte];refine⟨⟨i+1,by omega,rfl,w.trans u2,?_⟩,by simp[gY,e5];omega⟩;intro p hp;rw[zLT,hm] at hp;rcases jG.1 hp with hp|hp
   ·exact hq p hp
   ·simp at hp;subst hp;exact c
 ·have hd:((i:Int)<(xs.length:Int))=False:=by apply eq_false;omega
  have h0:(0≤(-1:Int))=False:=by apply eq_false;omega
  rw[mU (by omega)] at hq;have hin:xs.any f=false:=by
   rw[List.any_eq_false];intro p hp;simp[hq p hp]
  have:=hk _ w;rw[hin] at this;simp only[hd,h0,cG,reduceIte];exact this
theorem aRT{h:PH}{x fv:Value}{xs:List LV}{f:LV->Bool}(hx:fR h 5 x (xs.map pX))(hl:xs.length≤1000000)
  (hf:∀p∈xs,∀h',dD h h'->∀k':Value->PH->Prop,(∀h'',dD h' h''->k' (.bool (f p)) h'')->yP PG fv #[p.1.val p.2] h' k') {k:cD}
  (hk:∀h',dD h h'->k (.bool (xs.any f)) h'):aT PG lN #[x,fv] h k:=by
 have lx:=hx.len (t':=bT) cN.und;rw[iU] at lx;apply lX.call;unfold lX;apply mN.call;unfold mN;simp only[lx,cG,reduceIte];refine⟨λvs h'=>∃i:Nat,i≤xs.length∧vs=[x,fv,.int .i64 xs.length,.int .i64 i]∧dD h h'∧∀p∈xs.take i,f p=false,gY xs.length 3,⟨0,by omega,rfl,cU.refl,by simp⟩,?_⟩;rintro ρ h' ⟨i,hi,hvs,w,hq⟩;simp only[iJ,iV,kW,and_true] at hvs;obtain⟨e0,e1,e2,e5⟩:=hvs;rw[e0,e1,e2,e5];unfold tQ;by_cases hlt:i<xs.length
 ·have hd:((i:Int)<(xs.length:Int))=True:=by apply eq_true;omega
  obtain⟨m,hm⟩:∃m,xs[i]? =some m:=⟨_,lU hlt⟩;obtain⟨a,a1,a2⟩:=(hx.ext w).loadAgg cN.und cB.info cB.size cB.und rfl (k:=.i64) (j:=(i:Int)) (r:=pX m) (by omega) (by rw[qF,wN,hm];rfl);have ei:=qG (i:=i) (by omega);simp only[hd,a1,a2,cG,reduceIte];refine hf m (rA hm) _ w _ λh2 u2=>?_;cases c:f m with
  | true=>
   have h0:(0≤(i:Int))=True:=by apply eq_true;omega
   have hin:xs.any f=true:=List.any_eq_true.2 ⟨m,rA hm,c⟩;have:=hk _ (w.trans u2);rw[hin] at this;simp only[h0,cG,reduceIte];exact this
  | false=>
   simp only[ei,cG,reduceIte];refine⟨⟨i+1,by omega,rfl,w.trans u2,?_⟩,by simp[gY,e5];omega⟩;intro p hp;rw[zLT,hm] at hp;rcases jG.1 hp with hp|hp
   ·exact hq p hp
   ·simp at hp;subst hp;exact c
 ·have hd:((i:Int)<(xs.length:Int))=False:=by apply eq_false;omega
  have h0:(0≤(-1:Int))=False:=by apply eq_false;omega
  rw[mU (by omega)] at hq;have hin:xs.any f=false:=by
   rw[List.any_eq_false];intro p hp;simp[hq p hp]
  have:=hk _ w;rw[hin] at this;simp only[hd,h0,cG,reduceIte];exact this
theorem aO8{h:PH}{f:Lf}{fv:Value}(S:fR h 1 fv (f.path.map iY))(hl:f.path.length≤1000000){k:cD}(hk:∀h',dD h h'->k (.bool f.okb) h'):aT PG aBX #[f.val fv] h k:=by
 apply aGO.call;unfold aGO;intro r1 hr1
 try rw[cZ]
 have u1:dD h (h.set r1 (.cells (Value.cells (f.val fv)) cB)):=cU.new hr1;have B1:Bx (h.set r1 (.cells (Value.cells (f.val fv)) cB)) r1 (f.cells fv):=Bx.new;generalize h.set r1 (.cells (Value.cells (f.val fv)) cB)=h1 at *;have li:cE PG h1 (loadAt bT (pT r1 0))=some (.int .i64 f.i):=by rw[bT.load,B1.cell];rfl
 have ln:cE PG h1 (loadAt bT (pT r1 1))=some (.int .i64 f.n):=by rw[bT.load,B1.cell];rfl
 have lk:cE PG h1 (loadAt bR (pT r1 2))=some (.string (tx f.p.k)):=by rw[bR.load,B1.cell];rfl
 have lv:cE PG h1 (loadAt bR (pT r1 3))=some (.string (tx f.p.v)):=by rw[bR.load,B1.cell];rfl
 have lp:cE PG h1 (loadAt cP (pT r1 4))=some fv:=by rw[cP.load,B1.cell];rfl
 have len0:∀x:Tx,cV PG (Builtin.len_ #[bR] bT #[.string (tx x)])=some (.int .i64 (x.length:Int)):=λx=>by rw[lQ bR.und,iB]
 have lenp:=(S.ext u1).len (t':=bT) cP.und;rw[iU] at lenp;have bad:¬f.Ok->k (.bool false) h1:=λc=>by
  have:=hk h1 u1;rw[show f.okb=false by rw[←Bool.not_eq_true];exact λe=>c (Lf.ok_iff.1 e)] at this;exact this
 by_cases a1:f.i<0
 ·have g1:=eq_true a1;simp only[cB.f0,li,g1,cG,reduceIte,cT,Nat.reduceAdd];exact bad λc=>by have:=c.i0;omega
 have g1:=eq_false a1;by_cases a2:4096<f.i
 ·have g2:=eq_true a2;simp only[cB.f0,li,g1,g2,cG,reduceIte,cT,Nat.reduceAdd];exact bad λc=>by have:=c.i1;omega
 have g2:=eq_false a2;by_cases a3:f.n<0
 ·have g3:=eq_true a3;simp only[cB.f0,cB.f1,fJ,li,ln,g1,g2,g3,cG,reduceIte,cT,Nat.reduceAdd];exact bad λc=>by have:=c.n0;omega
 have g3:=eq_false a3;by_cases a4:4096<f.n
 ·have g4:=eq_true a4;simp only[cB.f0,cB.f1,fJ,li,ln,g1,g2,g3,g4,cG,reduceIte,cT,Nat.reduceAdd];exact bad λc=>by have:=c.n1;omega
 have g4:=eq_false a4;by_cases a5:16<f.p.k.length
 ·have g5:((16:Int)<(f.p.k.length:Int))=True:=eq_true (by omega);simp only[cB.f0,cB.f1,cB.f2,cM.f0,fJ,li,ln,lk,len0,g1,g2,g3,g4,g5,cG,reduceIte,cT,Nat.reduceAdd];exact bad λc=>by have:=c.k;omega
 have g5:((16:Int)<(f.p.k.length:Int))=False:=eq_false (by omega);by_cases a6:64<f.p.v.length
 ·have g6:((64:Int)<(f.p.v.length:Int))=True:=eq_true (by omega);simp only[cB.f0,cB.f1,cB.f2,cM.f0,cM.f1,fJ,Nat.reduceAdd,li,ln,lk,lv,len0,g1,g2,g3,g4,g5,g6,cG,reduceIte,cT,Nat.reduceAdd];exact bad λc=>by have:=c.v;omega
 have g6:((64:Int)<(f.p.v.length:Int))=False:=eq_false (by omega);by_cases a7:16<f.path.length
 ·have g7:((16:Int)<(f.path.length:Int))=True:=eq_true (by omega);simp only[cB.f0,cB.f1,cB.f2,cB.f3,cM.f0,cM.f1,fJ,Nat.reduceAdd,li,ln,lk,lv,lp,len0,lenp,g1,g2,g3,g4,g5,g6,g7,cG,reduceIte,cT,Nat.reduceAdd];exact bad λc=>by have:=c.m;omega
 have g7:((16:Int)<(f.path.length:Int))=False:=eq_false (by omega);simp only[cB.f0,cB.f1,cB.f2,cB.f3,cM.f0,cM.f1,fJ,Nat.reduceAdd,li,ln,lk,lv,lp,len0,lenp,g1,g2,g3,g4,g5,g6,g7,cG,reduceIte,cT,Nat.reduceAdd];refine aWU (f:=λd=>(d.length:Int) !=32) (S.ext u1) hl (λp hp h' u k' hk'=>?_) λh2 u2=>?_
 ·show aT PG aE8 #[.string (tx p)] h' k';apply aEf.call;unfold aEf;simp only[len0,kK,cG,reduceIte,cT,Nat.reduceAdd];exact hk' _ cU.refl
 ·have:=hk h2 (u1.trans u2);have e:f.okb=!(f.path.any λd=>(d.length:Int) !=32):=by
   rw[zLm,Lf.ok_iff,Bool.not_eq_true',List.any_eq_false];constructor
   ·intro c d hd;have:=c.d d hd;simp[this]
   ·intro c;refine⟨by omega,by omega,by omega,by omega,by omega,by omega,by omega,λd hd=>?_⟩;have:=c d hd;simp at this;omega
  rw[e] at this;generalize (f.path.any λd=>(d.length:Int) !=32)=b at this ⊢;cases b<;>(simp only[cG,reduceIte,cT,Nat.reduceAdd];exact this)
def Pf.val(ab:Bool)(v:Value):Value:=.agg #[.bool ab,v]
theorem aNY(l:List Lf)(f:Lf):lF (l++[f])=lF l++aFh f:=by
 induction l with
 | nil=>simp[lF]
 | cons a l ih=>simp[lF,ih]
theorem aMg{l:List Tx}(h:∀d∈l,d.length=32):l.flatten.length=32*l.length:=by
 induction l with
 | nil=>rfl
 | cons a l ih=>
  rw[aJk,jR,h a (by simp),ih λd hd=>h d (by simp[hd]),uW];omega
theorem aPr{f:Lf}(h:f.Ok):(aFh f).length≤1000:=by
 have h1:=h.k;have h2:=h.v;have h3:=h.m;have h4:=aMg h.d;simp only[aFh,jR,iD];omega
theorem aLU:∀{l:List Lf},(∀f∈l,f.Ok)->(lF l).length≤1000*l.length
 | [],_=>by simp[lF]
 | f::l,h=>by
  have h1:=aPr (h f (by simp));have h2:=aLU (l:=l) λx hx=>h x (by simp[hx]);simp only[lF,jR,uW];omega
theorem fR.lf{h:PH}{v:Value}{l:List LV}(S:fR h 5 v (l.map pX)){j:Nat}{y:LV}(hy:l[j]? =some y):
  ∃a,cV PG (indexAt cN v (.int .i64 (j:Int)))=some (.pointer (some a))∧cE PG h (loadAt cB (.pointer (some a)))=some (y.1.val y.2):=
 S.loadAgg cN.und cB.info cB.size cB.und rfl (k:=.i64) (j:=(j:Int)) (r:=pX y) (by omega) (by rw[qF,wN,hy];rfl)
theorem aIo{h:PH}{v:Value}{l:List LV}(S:fR h 5 v (l.map pX)):cV PG (Builtin.len_ #[cN] bT #[v])=some (.int .i64 l.length):=by
 have:=S.len (t':=bT) cN.und;rw[iU] at this;exact this
theorem Lf.isC(f:Lf){v:Value}(hv:eP v=true):∀u∈f.cells v,eP u=true:=λu hu=>by
 simp only[Lf.cells,gL,kJ,or_false] at hu;rcases hu with rfl|rfl|rfl|rfl|rfl<;>first|rfl|exact hv
theorem fR.st{h:PH}{v:Value}{l:List Tx}(S:fR h 1 v (l.map iY)){j:Nat}{x:Tx}(hx:l[j]? =some x):
  ∃a,cV PG (indexAt cP v (.int .i64 (j:Int)))=some (.pointer (some a))∧cE PG h (loadAt bR (.pointer (some a)))=some (.string (tx x)):=
 S.loadCell cP.und bR.info bR.size bR.und rfl (k:=.i64) (j:=(j:Int)) (x:=.string (tx x)) (by omega) (by rw[qF,wN,hx];rfl)
theorem aNe{h:PH}{v:Value}{l:List Tx}(S:fR h 1 v (l.map iY)):cV PG (Builtin.len_ #[cP] bT #[v])=some (.int .i64 l.length):=by
 have:=S.len (t':=bT) cP.und;rw[iU] at this;exact this
theorem aWf{h0 h:PH}{a:Nat}{base:Tx}{F:List Nat}(W:WN h0 h a (0,base) F)(hb:base.length≤100000){fv:Value}{path:List Tx}(P:fR h0 1 fv (path.map iY))(hd:∀d∈path,d.length=32)(hm:path.length≤16){x:Value}{n i:Nat}(hi:i≤100){R:cD}{nxt:gP}
  (hn:∀h' F',WN h0 h' a (0,base++path.flatten) F'->nxt [pT a 0,x,.int .i64 (n:Int),.int .i64 ((i+1:Nat):Int)] h'):
  iM [4,28,29,30,55,56,57] (λn73 ρ h=>aGA R nxt n73 (ρ 4) (ρ 28) (ρ 29) (ρ 30) (ρ 55) (ρ 56) (ρ 57) h) [pT a 0,x,.int .i64 (n:Int),.int .i64 (i:Int),fv,.int .i64 (path.length:Int),.int .i64 0] h:=by
 refine⟨λvs h'=>∃(j:Nat) (F':List Nat),j≤path.length∧vs=[pT a 0,x,.int .i64 (n:Int),.int .i64 (i:Int),fv,.int .i64 (path.length:Int),.int .i64 (j:Int)]∧WN h0 h' a (0,base++(path.take j).flatten) F',gY path.length 6,⟨0,F,by omega,rfl,by simpa using W⟩,?_⟩;rintro ρ h' ⟨j,F',hj,hvs,W'⟩;simp only[iJ,iV,kW,and_true] at hvs;obtain⟨v0,v1,v2,v3,v4,v5,v6⟩:=hvs;unfold aGA;rw[v0,v1,v2,v3,v4,v5,v6];by_cases hlt:j<path.length
 ·have g:((j:Int)<(path.length:Int))=True:=eq_true (by omega);have gi:=qG (i:=j) (by omega);obtain⟨d,hdj⟩:∃d,path[j]? =some d:=⟨_,lU hlt⟩;obtain⟨pa,p1,p2⟩:=(P.ext W'.upd).st hdj;have hd32:=hd d (rA hdj);have hfl:(path.take j).flatten.length≤32*16:=by
   rw[aMg λd hd'=>hd d (aJf hd'),uX];omega
  simp only[g,p1,p2,gi,cG,reduceIte,cT,Nat.reduceAdd];refine aVk W' (by rw[jR];omega) (by omega) λh2 F2 x2 e2 W2 _=>?_;have ex:x2=(0,base++(path.take (j+1)).flatten):=by
   rw[e2,zLT,hdj];simp[mR]
  rw[ex] at W2;exact⟨⟨j+1,F2,by omega,rfl,W2⟩,by simp[gY,v6];omega⟩
 ·have g:((j:Int)<(path.length:Int))=False:=eq_false (by omega);have gi:=qG (i:=i) (by omega);rw[mU (by omega)] at W';simp only[g,gi,cG,reduceIte,cT,Nat.reduceAdd];exact hn h' F' W'
theorem aNH{st:kM}{l:Tx}(h:l.length≤65535):aJQ st l=(st.1,st.2++(be l.length 2++l)):=by unfold aJQ;rw[if_pos h]
theorem aKK{st:kM}{n:Nat}(h:n≤255):aGu st (n:Int)=(st.1,st.2++be n 1):=by unfold aGu;rw[if_pos (by omega),qF]
theorem aTT{h0 h:PH}{a:Nat}{base:Tx}{F:List Nat}(W:WN h0 h a (0,base) F)(hb:base.length≤1000){v:Value}{l:List LV}(S:fR h0 5 v (l.map pX))(HS:LfS h0 l)(hok:∀y∈l,y.1.Ok)(hl:l.length≤2){R:cD}
  (hR:∀h',dD h0 h'->R (.tuple #[.string (tx (base++lF (l.map (·.1)))),.int .i64 0]) h'):
  iM [4,28,29,30] (λn36 ρ h=>aGC R n36 (ρ 4) (ρ 28) (ρ 29) (ρ 30) h) [pT a 0,v,.int .i64 (l.length:Int),.int .i64 0] h:=by
 refine⟨λvs h'=>∃(i:Nat) (F':List Nat),i≤l.length∧vs=[pT a 0,v,.int .i64 (l.length:Int),.int .i64 (i:Int)]∧WN h0 h' a (0,base++lF ((l.take i).map (·.1))) F',gY l.length 3,⟨0,F,by omega,rfl,by simpa[lF] using W⟩,?_⟩;rintro ρ h' ⟨i,F',hi,hvs,W'⟩;simp only[iJ,iV,kW,and_true] at hvs;obtain⟨v0,v1,v2,v3⟩:=hvs;unfold aGC;rw[v0,v1,v2,v3];have hpre:(lF ((l.take i).map (·.1))).length≤2000:=by
  have:=aLU (l:=(l.take i).map (·.1)) (by
   simp only[List.forall_mem_map];exact λy hy=>hok y (aJf hy))
  rw[iU,uX] at this;omega
 by_cases hlt:i<l.length
 ·have g:((i:Int)<(l.length:Int))=True:=eq_true (by omega);obtain⟨y,hy⟩:∃y,l[i]? =some y:=⟨_,lU hlt⟩;have hmem:=rA hy;have ok:=hok y hmem;have Py:=HS y hmem;obtain⟨pa,p1,p2⟩:=(S.ext W'.upd).lf hy;simp only[g,p1,p2,cG,reduceIte,cT,Nat.reduceAdd];intro r41 hr41
  try rw[cZ]
  refine cB.fill hr41 rfl (Lf.isC _ Py.isc) λh1 B1 u1=>?_;have W1:=WS.ext W' u1;have K1:BK h1 F' r41 (y.1.cells y.2):=⟨B1,W'.box hr41⟩;obtain⟨i0,i1,n0,n1,k16,v64,m16,d32⟩:=ok;obtain⟨fi,efi⟩:=zLn i0;obtain⟨fn,efn⟩:=zLn n0;have li:∀{h':PH} {F},BK h' F r41 (y.1.cells y.2)->cE PG h' (loadAt bT (pT r41 0))=some (.int .i64 (fi:Int)):=λB=>by rw[bT.load,B.bx.cell,←efi];rfl
  have ln:∀{h':PH} {F},BK h' F r41 (y.1.cells y.2)->cE PG h' (loadAt bT (pT r41 1))=some (.int .i64 (fn:Int)):=λB=>by rw[bT.load,B.bx.cell,←efn];rfl
  have lk:∀{h':PH} {F},BK h' F r41 (y.1.cells y.2)->cE PG h' (loadAt bR (pT r41 2))=some (.string (tx y.1.p.k)):=λB=>by rw[bR.load,B.bx.cell];rfl
  have lv:∀{h':PH} {F},BK h' F r41 (y.1.cells y.2)->cE PG h' (loadAt bR (pT r41 3))=some (.string (tx y.1.p.v)):=λB=>by rw[bR.load,B.bx.cell];rfl
  have lp:∀{h':PH} {F},BK h' F r41 (y.1.cells y.2)->cE PG h' (loadAt cP (pT r41 4))=some y.2:=λB=>by rw[cP.load,B.bx.cell];rfl
  have lenp:=aNe Py;have c1:IntKind.u64.wrap (fi:Int)=(fi:Int):=gJ (by omega) (by omega);have c2:IntKind.u64.wrap (fn:Int)=(fn:Int):=gJ (by omega) (by omega);simp only[cB.f0,li K1,aIV,c1,cG,reduceIte,cT,Nat.reduceAdd];refine aIv W1 (by rw[jR];omega) (by omega) λh2 F2 x2 e2 W2 k2=>?_;have K2:=K1.keep k2;simp only[cB.f1,fJ,ln K2,aIV,c2,cG,reduceIte,cT,Nat.reduceAdd];refine aIv W2 (by rw[e2];simp only[aH2,jR,iD];omega) (by omega) λh3 F3 x3 e3 W3 k3=>?_;have K3:=K2.keep k3;simp only[cB.f2,cM.f0,fJ,lk K3,cG,reduceIte,cT,Nat.reduceAdd];refine aQb W3 (by rw[e3,e2];simp only[aH2,jR,iD];omega) _ λh4 F4 x4 e4 W4 k4=>?_;have K4:=K3.keep k4;rw[aNH (by omega)] at e4;simp only[cB.f2,cM.f1,fJ,Nat.reduceAdd,lv K4,cG,reduceIte,cT,Nat.reduceAdd];refine aQb W4 (by rw[e4,e3,e2];simp only[aH2,jR,iD];omega) _ λh5 F5 x5 e5 W5 k5=>?_;have K5:=K4.keep k5;rw[aNH (by omega)] at e5;simp only[cB.f3,fJ,lp K5,lenp,cG,reduceIte,cT,Nat.reduceAdd];refine aLu W5 (by rw[e5,e4,e3,e2];simp only[aH2,jR,iD];omega) _ λh6 F6 x6 e6 W6 k6=>?_;have K6:=K5.keep k6;rw[aKK (by omega)] at e6;simp only[cB.f3,fJ,lp K6,lenp,cG,reduceIte,cT,Nat.reduceAdd];have ex:x6=(0,(base++lF ((l.take i).map (·.1)))++(be fi 8++(be fn 8++((be y.1.p.k.length 2++y.1.p.k)++((be y.1.p.v.length 2++y.1.p.v)++be y.1.path.length 1))))):=by
   rw[e6,e5,e4,e3,e2];simp[aH2,mR]
  rw[ex] at W6;refine aWf W6 (by simp only[jR,iD];omega) Py d32 m16 (by omega) λh7 F7 W7=>?_;have ef:((base++lF ((l.take i).map (·.1)))++(be fi 8++(be fn 8++((be y.1.p.k.length 2++y.1.p.k)++((be y.1.p.v.length 2++y.1.p.v)++be y.1.path.length 1)))))++y.1.path.flatten=base++lF ((l.take (i+1)).map (·.1)):=by
   rw[zLT,hy];simp only[Option.toList,qX,iJ,iV,aNY,aFh,efi,efn,qF,mR]
  rw[ef] at W7;exact⟨⟨i+1,F7,by omega,rfl,W7⟩,by simp[gY,v3];omega⟩
 ·have g:((i:Int)<(l.length:Int))=False:=eq_false (by omega);rw[mU (by omega)] at W';simp only[g,cG,reduceIte,cT,Nat.reduceAdd];refine aMu W'.at_ λh2 u2=>?_;have eb:aIw (0,base++lF (l.map (·.1)))=(base++lF (l.map (·.1)),0):=rfl;simp only[eb,cG,reduceIte,cT,Nat.reduceAdd];exact hR _ (W'.upd.fresh u2 W'.fresh)
theorem aS4{h:PH}{ab:Bool}{v:Value}{l:List LV}(S:fR h 5 v (l.map pX))(HS:LfS h l)(hl:l.length≤1000000)(hp:∀y∈l,y.1.path.length≤1000000){k:cD}
  (hk:∀h',dD h h'->k (.tuple #[.string (tx (kY ⟨ab,l.map (·.1)⟩).1),.int .i64 (kY ⟨ab,l.map (·.1)⟩).2]) h'):aT PG aHJ #[Pf.val ab v] h k:=by
 apply aDc.call;unfold aDc;intro r1 hr1
 try rw[cZ]
 have u1:dD h (h.set r1 (.cells (Value.cells (Pf.val ab v)) cC)):=cU.new hr1;have B1:Bx (h.set r1 (.cells (Value.cells (Pf.val ab v)) cC)) r1 [.bool ab,v]:=Bx.new;generalize h.set r1 (.cells (Value.cells (Pf.val ab v)) cC)=h1 at *;have la:∀{h':PH},Bx h' r1 [.bool ab,v]->cE PG h' (loadAt fZ (pT r1 0))=some (.bool ab):=λB=>by rw[fZ.load,B.cell];rfl
 have lv:∀{h':PH},Bx h' r1 [.bool ab,v]->cE PG h' (loadAt cN (pT r1 1))=some v:=λB=>by rw[cN.load,B.cell];rfl
 have ll:=aIo S;have q0:({data:=#[]}:ByteArray)=tx []:=rfl;have el:(l.map (·.1)).length=l.length:=by simp
 by_cases h2:2<l.length
 ·have g:((2:Int)<(l.length:Int))=True:=eq_true (by omega);have eb:kY ⟨ab,l.map (·.1)⟩=([],1):=by unfold kY;rw[if_neg (λc=>by have:=c.1;simp only[el] at this;omega)]
  simp only[cC.f1,fJ,lv B1,ll,g,q0,cG,reduceIte,cT,Nat.reduceAdd];rw[eb] at hk;exact hk _ u1
 have g:((2:Int)<(l.length:Int))=False:=eq_false (by omega);simp only[cC.f1,fJ,lv B1,ll,g,cG,reduceIte,cT,Nat.reduceAdd];refine aRT (f:=λy=>!y.1.okb) (S.ext u1) hl (λy hy h' u k' hk'=>?_) λh3 u3=>?_
 ·show aT PG aFn #[y.1.val y.2] h' k';apply aFc.call;unfold aFc;intro r hr
  try rw[cZ]
  have v1:dD h' (h'.set r (.cells (Value.cells (y.1.val y.2)) cB)):=cU.new hr;have C1:Bx (h'.set r (.cells (Value.cells (y.1.val y.2)) cB)) r (y.1.cells y.2):=Bx.new;generalize h'.set r (.cells (Value.cells (y.1.val y.2)) cB)=h'' at *;have lf:cE PG h'' (loadAt cB (pT r 0))=some (y.1.val y.2):=cB.agg C1 (by show 0+5≤5;decide);simp only[lf,cG,reduceIte,cT,Nat.reduceAdd];refine aO8 ((HS y hy).ext ((u1.trans u).trans v1)) (hp y hy) λh4 u4=>?_;simp only[cG,reduceIte,cT,Nat.reduceAdd];exact hk' _ (v1.trans u4)
 ·have e3:=u1.trans u3;have B3:=B1.ext u3;cases hb:l.any λy=>!y.1.okb with
  | true=>
   have eb:kY ⟨ab,l.map (·.1)⟩=([],1):=by
    unfold kY;rw[if_neg (λc=>?_)];obtain⟨y,hy,hyb⟩:=List.any_eq_true.1 hb;have:=aDO.1 c.2 y.1 (zL6 hy);rw[this] at hyb;cases hyb
   simp only[q0,cG,reduceIte,cT,Nat.reduceAdd];rw[eb] at hk;exact hk _ e3
  | false=>
   have hok:∀y∈l,y.1.Ok:=λy hy=>by
    have:=List.any_eq_false.1 hb y hy;exact Lf.ok_iff.1 (by simpa using this)
   have eb:kY ⟨ab,l.map (·.1)⟩=(aAt ⟨ab,l.map (·.1)⟩,0):=by
    have hall:(l.map (·.1)).all Lf.okb=true:=aDO.2 λf hf=>by
     obtain⟨y,hy,rfl⟩:=lO.1 hf;exact Lf.ok_iff.2 (hok y hy)
    unfold kY;exact if_pos ⟨by simp only[el];omega,hall⟩
   rw[eb] at hk;simp only[cG,reduceIte,cT,Nat.reduceAdd];intro r21 hr21
   try rw[cZ]
   have W0:=WN.start hr21;have u4:dD h3 (h3.set r21 (.cells (dL PG fI) fI)):=cU.new hr21;generalize h3.set r21 (.cells (dL PG fI) fI)=h4 at *;have out:∀kd:Nat,kd=(if ab then 2 else 1)->aEE k (pT r1 0) (pT r21 0) (.int .i64 (kd:Int)) h4:=λkd hkd=>by
    have k2:kd≤2:=by rw[hkd];split<;>decide
    unfold aEE;refine aLu W0 (by simp) _ λh5 F5 x5 e5 W5 _=>?_;rw[aKK (by omega)] at e5;simp only[cC.f1,fJ,lv (B3.ext W5.upd),ll,cG,reduceIte,cT,Nat.reduceAdd];refine aLu W5 (by rw[e5];simp[iD]) _ λh6 F6 x6 e6 W6 _=>?_;rw[aKK (by omega)] at e6;have ex:x6=(0,be kd 1++be l.length 1):=by rw[e6,e5];simp
    rw[ex] at W6;simp only[cC.f1,fJ,lv (B3.ext W6.upd),ll,cG,reduceIte,cT,Nat.reduceAdd];refine aTT W6 (by simp[iD]) (S.ext e3) (HS.ext e3) hok (by omega) λh7 u7=>?_;have ep:(be kd 1++be l.length 1)++lF (l.map (·.1))=aAt ⟨ab,l.map (·.1)⟩:=by
     unfold aAt;simp only[el,hkd,mR]
    rw[ep];exact hk _ (e3.trans u7)
   simp only[cC.f0,la (B3.ext u4),cG,reduceIte,cT,Nat.reduceAdd];cases ab with
   | true=>simp only[cG,reduceIte,cT,Nat.reduceAdd];exact out 2 rfl
   | false=>simp only[cG,reduceIte,cT,Nat.reduceAdd];exact out 1 rfl
theorem aRY{h:PH}{a:Nat}{st:kM}(R:qY h a st.1 st.2){k:cD}(hk:∀h',qY h' a (kL st).2.1 (kL st).2.2->cU [a] h h'->k (.int .i64 ((kL st).1:Int)) h'):aT PG aEo #[pT a 0,.int .u64 4096] h k:=by
 apply aHX.call;unfold aHX;unfold kL at hk;refine aRu R λh1 R1 u1=>?_;show dY (cV PG (binOp BinOp.gtr cA (.int .u64 ((gQ st 8).1:Int)) (.int .u64 4096))) _;by_cases c:4096<(gQ st 8).1
 ·have g:((4096:Int)<((gQ st 8).1:Int))=True:=eq_true (by omega);rw[if_pos c] at hk;simp only[g,gH.f0,cG,reduceIte,cT,Nat.reduceAdd];refine aQP (st:=(gQ st 8).2) R1 5 λh2 R2 u2=>?_;exact hk h2 R2 (u1.trans u2)
 ·have g:((4096:Int)<((gQ st 8).1:Int))=False:=eq_false (by omega);rw[if_neg c] at hk;have e1:IntKind.i64.wrap ((gQ st 8).1:Int)=((gQ st 8).1:Int):=eX (by omega) (by omega);simp only[g,aIW,e1,cG,reduceIte,cT,Nat.reduceAdd];exact hk h1 R1 u1
theorem aSa{n:Nat}{st:kM}{acc:List Tx}(h:n=0∨st.1≠0):yG n st acc=(acc,st):=by
 cases n with
 | zero=>rfl
 | succ n=>rw[yG,if_neg (by rcases h with h|h;cases h;exact h)]
theorem aYa(x y:Int):cV PG (build cB #[(0,.int .i64 x),(1,.int .i64 y)])=some (Lf.val ⟨x,y,⟨[],[]⟩,[]⟩ (.slice none 0 0)):=by kernel_rfl
theorem aXu{h:PH}{a:Nat}{st:kM}(R:qY h a st.1 st.2){k:cD}
  (hk:∀h' v F,qY h' a (qM st).2.1 (qM st).2.2->eD h' bR 1 v ((qM st).1.path.map iY) F->dZ h F->cU [a] h h'->k ((qM st).1.val v) h'):aT PG aHz #[pT a 0] h k:=by
 apply aEp.call;unfold aEp;have ka:h a≠none:=by rw[R.here];simp
 intro r1 hr1
 try rw[cZ]
 have u1:dD h (h.set r1 (.cells (dL PG cB) cB)):=cU.new hr1;have Z1:=cB.zbox (h:=h) (r:=r1);have R1:=R.ext u1;have na1:r1≠a:=λe=>ka (e▸hr1);generalize h.set r1 (.cells (dL PG cB) cB)=h1 at *;refine aRY R1 λh2 R2 u2=>?_;refine aRY R2 λh3 R3 u3=>?_;simp only[aYa,cG,reduceIte,cT,Nat.reduceAdd];have Z3:=(Z1.upd u2 (by simpa using na1)).upd u3 (by simpa using na1);have e3:cU [a] h h3:=(u1.upd.trans u2).trans u3;intro r8 hr8
 try rw[cZ]
 have n18:r1≠r8:=Z3.apart hr8;have na8:r8≠a:=λe=>by
  have:=(qY.here R3);rw[←e,hr8] at this;cases this
 have k8:h r8=none:=by
  cases hx:h r8 with
  | none=>rfl
  | some o=>have:=e3 r8 o hx (by simpa using na8);rw[hr8] at this;cases this
 refine cB.fill (vs:=Lf.cells ⟨((kL st).1:Int),((kL (kL st).2).1:Int),⟨[],[]⟩,[]⟩ (.slice none 0 0)) hr8 rfl (Lf.isC _ rfl) λh4 B4 u4=>?_;have R4:=R3.ext u4;have e4:cU [a] h h4:=e3.trans u4.upd;have Z4:=Z3.ext u4;refine aPo R4 λh5 R5 u5=>?_;have B5:=B4.upd u5 (by simpa using na8);have Z5:=Z4.upd u5 (by simpa using na1);simp only[cB.f2,cM.f0,fJ,cG,reduceIte,cT,Nat.reduceAdd];refine bR.put B5 (o:=2) (by show 2<5;decide) rfl λh6 B6 u6=>?_;have R6:=R5.upd u6 (by simpa using na8.symm);have Z6:=Z5.upd u6 (by simpa using n18);refine aPo R6 λh7 R7 u7=>?_;have B7:=B6.upd u7 (by simpa using na8);have Z7:=Z6.upd u7 (by simpa using na1);simp only[cB.f2,cM.f1,fJ,Nat.reduceAdd,cG,reduceIte,cT,Nat.reduceAdd];refine bR.put B7 (o:=3) (by show 3<5;decide) rfl λh8 B8 u8=>?_;have R8:=R7.upd u8 (by simpa using na8.symm);have Z8:=Z7.upd u8 (by simpa using n18);refine aMs R8 λh9 R9 u9=>?_;have B9:=B8.upd u9 (by simpa using na8);have Z9:=Z8.upd u9 (by simpa using na1);have e9:cU [a] h h9:=by
  have f8:∀b∈[r8],b∈[a]∨h b=none:=λb hb=>.inr (by simp at hb;rw[hb];exact k8);exact(((((e4.trans u5).then u6 f8).trans u7).then u8 f8).trans u9)
 -- names
 obtain⟨st2,hst2⟩:∃x,x=(kL (kL st).2).2:=⟨_,rfl⟩;obtain⟨kk,hkk⟩:∃x,x=mH (kL (kL st).2).2:=⟨_,rfl⟩;obtain⟨vv,hvv⟩:∃x,x=mH kk.2:=⟨_,rfl⟩;obtain⟨cc,hcc⟩:∃x,x=gQ vv.2 1:=⟨_,rfl⟩;have hc255:cc.1<256:=by rw[hcc];exact aHG _ 1
 have e1:(aDl st)=(⟨((kL st).1:Int),((kL (kL st).2).1:Int),⟨kk.1,vv.1⟩,(yG cc.1 cc.2 []).1⟩,(yG cc.1 cc.2 []).2):=by rw[hcc,hvv,hkk];rfl
 have R9':qY h9 a cc.2.1 cc.2.2:=by rw[hcc,hvv,hkk];exact R9
 have B9':Bx h9 r8 (Lf.cells ⟨((kL st).1:Int),((kL (kL st).2).1:Int),⟨kk.1,vv.1⟩,[]⟩ (.slice none 0 0)):=by rw[hvv,hkk];exact B9
 have ev:(Value.int .i64 ((gQ (mH (mH (kL (kL st).2).2).2).2 1).1:Int))= .int .i64 (cc.1:Int):=by rw[hcc,hvv,hkk]
 show iM _ _ [_,_,_,(Value.int .i64 ((gQ (mH (mH (kL (kL st).2).2).2).2 1).1:Int))] h9;rw[ev];clear R9 B9 ev;generalize (kL st).1=f1 at *;generalize (kL (kL st).2).1=f2 at *;refine⟨λvs h'=>∃(m:Nat) (acc:List Tx) (s':kM) (pv:Value) (F:List Nat),vs=[pT a 0,pT r1 0,pT r8 0,.int .i64 (m:Int)]∧qY h' a s'.1 s'.2∧Bx h' r8 (Lf.cells ⟨(f1:Int),(f2:Int),⟨kk.1,vv.1⟩,acc⟩ pv)∧eD h' bR 1 pv (acc.map iY) F∧dZ h F∧r8∉F∧r1∉F∧Bx h' r1 (Lf.cells ⟨0,0,⟨[],[]⟩,[]⟩ (.slice none 0 0))∧cU [a] h h'∧yG cc.1 cc.2 []=yG m s' acc∧acc.length+m≤255,aVm 3,⟨cc.1,[],cc.2,_,[],rfl,R9',B9',eD.nil,(λb hb=>by cases hb),by simp,by simp,Z9,e9,rfl,by simp;omega⟩,?_⟩;rintro ρ h' ⟨m,acc,s',pv,F,hvs,R',B',O',f',n8,n1,Z',u',hp,hacc⟩;simp only[iJ,iV,kW,and_true] at hvs;obtain⟨v0,v1,v2,v3⟩:=hvs;unfold aJ4;rw[v0,v1,v2,v3];have na':a∉F:=λhm=>ka (f' a hm);by_cases hgo:0<m∧s'.1=0
 ·obtain⟨hm,hs0⟩:=hgo;obtain⟨m,rfl⟩:∃n,m=n+1:=⟨m-1,by omega⟩;have g:((0:Int)<((m+1:Nat):Int))=True:=eq_true (by omega);have gi:IntKind.i64.wrap (((m+1:Nat):Int)-1)=(m:Int):=by rw[eX (by omega) (by omega)];omega
  have lp:∀{h'':PH},Bx h'' r8 (Lf.cells ⟨(f1:Int),(f2:Int),⟨kk.1,vv.1⟩,acc⟩ pv)->cE PG h'' (loadAt cP (pT r8 4))=some pv:=λB=>by rw[cP.load,B.cell];rfl
  simp only[g,gH.f0,cG,reduceIte,cT,Nat.reduceAdd];refine aOP R' ?_;simp only[hs0,iA,cB.f3,fJ,lp B',cG,reduceIte,cT,Nat.reduceAdd];refine aQJ R' 32 λh2 R2 u2=>?_;have B2:=B'.upd u2 (by simpa using na8);refine⟨lp B2,?_⟩;have O2:=O'.upd u2 (λb hb=>by simp only[fU];rintro rfl;exact na' hb);have Z2:=Z'.upd u2 (by simpa using na1);simp only[aL1,cG,reduceIte,cT,Nat.reduceAdd];intro r54 hr54;refine fL ?_
  try rw[cZ]
  have u3:dD h2 (h2.set r54 (.cells #[.string (tx (jQ (s'.1,s'.2) 32).1)] bR)):=cU.new hr54;have s1:fR (h2.set r54 (.cells #[.string (tx (jQ (s'.1,s'.2) 32).1)] bR)) 1 (.slice (some ⟨r54,0,none⟩) 1 1) ([(jQ (s'.1,s'.2) 32).1].map iY):=(eD.lit (iY.rows [(jQ (s'.1,s'.2) 32).1]) dM (by simp) (by decide) (by simp[iY])).slR;generalize h2.set r54 (.cells #[.string (tx (jQ (s'.1,s'.2) 32).1)] bR)=h3 at *;refine jF cP.und cP.und bR.info bR.size bR.bytes bR.zero rfl (by decide) (O2.ext u3) s1 (λr hr u hu=>by
   obtain⟨s,-,rfl⟩:=lO.1 hr;exact iY.isC s u hu) (by simp;omega) ?_
  intro v4 h4 F4 O4 u4 g4 _;rw[←qX] at O4;have n84:r8∉F4:=λhb=>by
   rcases g4 _ hb with hx|hx
   ·exact n8 hx
   ·exact(B2.ext u3).known hx
  have n14:r1∉F4:=λhb=>by
   rcases g4 _ hb with hx|hx
   ·exact n1 hx
   ·exact(Z2.ext u3).known hx
  have e23:cU [a] h h3:=(u'.trans u2).trans u3.upd;have f4:dZ h F4:=λb hb=>by
   rcases g4 b hb with hx|hx
   ·exact f' b hx
   ·cases hy:h b with
    | none=>rfl
    | some o=>
     by_cases hba:b=a
     ·rw[hba] at hx;have:=(R2.ext u3).here;rw[hx] at this;cases this
     ·have:=e23 b o hy (by simpa using hba);rw[hx] at this;cases this
  have B4:=(B2.ext u3).upd u4 n8;simp only[cB.f3,fJ,gi,cG,reduceIte,cT,Nat.reduceAdd];refine cP.put B4 (o:=4) (by show 4<5;decide) O4.slR.isc λh5 B5 u5=>?_;refine⟨⟨m,acc++[(jQ s' 32).1],(jQ s' 32).2,v4,F4,rfl,((R2.ext u3).upd u4 na').upd u5 (by simpa using na8.symm),B5,O4.upd u5 (λb hb=>by simp only[fU];rintro rfl;exact n84 hb),f4,n84,n14,((Z2.ext u3).upd u4 n1).upd u5 (by simpa using n18),(e23.then u4 (λb hb=>.inr (f' b hb))).then u5 (λb hb=>.inr (by simp at hb;rw[hb];exact k8)),?_,by simp;omega⟩,?_⟩
  ·rw[hp,yG,if_pos hs0]
  ·simp only[aVm,rY,pR,iJ,iV,v3];omega
 ·have hstop:m=0∨s'.1≠0:=by omega
  rw[aSa hstop] at hp;rw[hp] at e1;simp only at e1;have ll:cE PG h' (loadAt cB (pT r8 0))=some ((aDl st).1.val pv):=by rw[e1];exact cB.agg B' (by show 0+5≤5;decide)
  have S':fR h' 1 pv ((aDl st).1.path.map iY):=by rw[e1];exact O'.slR
  have fin:dY (cE PG h' (loadAt cB (pT r8 0))) λv64=>
    aT PG aBX #[v64] h' λv65 h66=>
    dY (cV PG (Op.unary UnOp.not v65)) λv67=>
    dI v67
    (dY (cV PG (aEV (pT a 0))) λv68=>
    dY (cV PG (fieldAt gH v68 0)) λv69=>
    aT PG lD #[v69,(Value.int IntKind.i64 5)] h66 λv70 h71=>
    aAH k (pT r1 0) (pT r8 0) h71)
    (aAH k (pT r1 0) (pT r8 0) h66):=by
   simp only[ll,cG,reduceIte,cT,Nat.reduceAdd];have hpl:(aDl st).1.path.length≤1000000:=by rw[e1];simp only;omega
   refine aO8 S' hpl λh2 u2=>?_;have last:∀{h5:PH},qY h5 a (qM st).2.1 (qM st).2.2->cU [a] h2 h5->aAH k (pT r1 0) (pT r8 0) h5:=by
    intro h5 R5 u5;unfold aAH;have B5:=(B'.ext u2).upd u5 (by simpa using na8);have Z5:=(Z'.ext u2).upd u5 (by simpa using na1);have l5:cE PG h5 (loadAt cB (pT r8 0))=some ((aDl st).1.val pv):=by rw[e1];exact cB.agg B5 (by show 0+5≤5;decide)
    simp only[l5,cG,reduceIte,cT,Nat.reduceAdd];refine cB.put (vs:=(aDl st).1.cells pv) Z5 (o:=0) rfl (by show 0+5≤5;decide) (Lf.isC _ S'.isc) λh6 B6 u6=>?_;have l6:cE PG h6 (loadAt cB (pT r1 0))=some ((aDl st).1.val pv):=cB.agg B6 (by show 0+5≤5;decide);simp only[l6,cG,reduceIte,cT,Nat.reduceAdd];refine hk h6 pv F (R5.upd u6 (by simpa using na1.symm)) ?_ f' (((u'.trans u2.upd).trans u5).then u6 (λb hb=>.inr (by simp at hb;rw[hb];exact hr1)));have:(qM st).1.path=acc:=by unfold qM;rw[e1]
    rw[this];exact((O'.ext u2).upd u5 (λb hb=>by simp only[fU];rintro rfl;exact na' hb)).upd u6 (λb hb=>by simp only[fU];rintro rfl;exact n1 hb)
   have R2:qY h2 a (aDl st).2.1 (aDl st).2.2:=by rw[e1];exact R'.ext u2
   cases hb:(aDl st).1.okb with
   | true=>
    simp only[cG,reduceIte,cT,Nat.reduceAdd];refine last ?_ cU.refl;unfold qM;rw[if_pos hb];exact R2
   | false=>
    simp only[gH.f0,cG,reduceIte,cT,Nat.reduceAdd];refine aQP (st:=(aDl st).2) R2 5 λh3 R3 u3=>?_;refine last ?_ u3;unfold qM;rw[if_neg (by rw[hb];decide)];exact R3
  by_cases hm:0<m
  ·have hs:s'.1≠0:=by omega
   have g:((0:Int)<(m:Int))=True:=eq_true (by omega);have q:(s'.1==0)=false:=by simpa using hs
   simp only[g,gH.f0,cG,reduceIte,cT,Nat.reduceAdd];refine aOP R' ?_;simp only[iA,q,cG,reduceIte,cT,Nat.reduceAdd];simp only[cG,reduceIte,cT,Nat.reduceAdd] at fin;exact fin
  ·have g:((0:Int)<(m:Int))=False:=eq_false (by omega);simp only[g,cG,reduceIte,cT,Nat.reduceAdd];simp only[cG,reduceIte,cT,Nat.reduceAdd] at fin;exact fin
def LfO(h:PH)(l:List LV)(B:List Nat):Prop:=∀y∈l,∃G,eD h bR 1 y.2 (y.1.path.map iY) G∧∀b∈G,b∉B
theorem LfO.upd{h h':PH}{l:List LV}{B K:List Nat}(H:LfO h l B)(u:cU K h h')(hK:∀b∈K,b∈B):LfO h' l B:=λy hy=>by
 obtain⟨G,O,hG⟩:=H y hy;exact⟨G,O.upd u (λb hb hk=>hG b hb (hK b hk)),hG⟩
theorem LfO.grow{h:PH}{l:List LV}{B B':List Nat}(H:LfO h l B)(hB:∀b∈B',b∈B∨h b=none):LfO h l B':=λy hy=>by
 obtain⟨G,O,hG⟩:=H y hy;exact⟨G,O,λb hb hb'=>by
  rcases hB b hb' with hx|hx
  ·exact hG b hb hx
  ·exact O.known b hb hx⟩
theorem LfO.lfs{h:PH}{l:List LV}{B:List Nat}(H:LfO h l B):LfS h l:=λy hy=>by
 obtain⟨G,O,-⟩:=H y hy;exact O.slR
theorem aGK:cV PG (build cC #[])=some (Pf.val false (.slice none 0 0)):=by kernel_rfl
theorem aKi(b:Bool):cV PG (build cC #[(0,.bool b)])=some (Pf.val b (.slice none 0 0)):=by kernel_rfl
theorem aL5(f:Lf)(v:Value):jM PG (buildSlice cN 1 #[(0,f.val v)])=some (.cells (f.cells v).toArray cB,λr=>pure (.slice (some ⟨r,0,none⟩) 1 1)):=by kernel_rfl
theorem pX.rows(l:List LV):Rows 5 (l.map pX):=λr hr=>by obtain⟨m,_,rfl⟩:=lO.1 hr;rfl
theorem aQV{h:PH}{s:Tx}{k:cD}
  (hk:∀h' v (l:List LV),l.map (·.1)=(hZ s).1.lv->fR h' 5 v (l.map pX)->LfS h' l->dD h h'->k (.tuple #[Pf.val (hZ s).1.ab v,.int .i64 (hZ s).2]) h'):aT PG aEl #[.string (tx s)] h k:=by
 apply aDX.call;unfold aDX;intro r1 hr1
 try rw[cZ]
 have u1:dD h (h.set r1 (.cells (dL PG cC) cC)):=cU.new hr1;have Z1:=cC.zbox (h:=h) (r:=r1);generalize h.set r1 (.cells (dL PG cC) cC)=h1 at *;refine aPc s λa h2 R2 u2 ha=>?_;have Z2:=Z1.ext u2;have na1:r1≠a:=λe=>by rw[←e] at ha;exact Z1.known ha
 have ka:h a=none:=u1.none ha;refine aMs R2 λh3 R3 u3=>?_;refine aMs R3 λh4 R4 u4=>?_;have Z4:=(Z2.upd u3 (by simpa using na1)).upd u4 (by simpa using na1);have fa:dZ h [a]:=dZ.one ka;have f1:dZ h [r1]:=dZ.one hr1;have e4:dD h h4:=((u1.trans u2).fresh u3 fa).fresh u4 fa;obtain⟨kd,hkd⟩:∃x,x=gQ (0,s) 1:=⟨_,rfl⟩;obtain⟨nn,hnn⟩:∃x,x=gQ kd.2 1:=⟨_,rfl⟩;have hp:hZ s=if kd.1<1∨2<kd.1∨2<nn.1 then(Pf.zero,5) else if aLG (oY nn.1 nn.2 []).2≠0 then(Pf.zero,5) else(⟨decide (kd.1=2),(oY nn.1 nn.2 []).1⟩,0):=by
  unfold hZ;rw[hnn,hkd]
 have R4':qY h4 a nn.2.1 nn.2.2:=by rw[hnn,hkd];exact R4
 have ev1:(Value.int .i64 ((gQ (0,s) 1).1:Int))= .int .i64 (kd.1:Int):=by rw[hkd]
 have ev2:(Value.int .i64 ((gQ ((gQ (0,s) 1).2.1,(gQ (0,s) 1).2.2) 1).1:Int))= .int .i64 (nn.1:Int):=by rw[hnn,hkd]
 rw[ev1,ev2];clear ev1 ev2 R4;have bad:∀{h5:PH},dD h h5->Bx h5 r1 (Value.cells (Pf.val false (.slice none 0 0))).toList->hZ s=(Pf.zero,5)->cY PG (dJ cC (pT r1 0) (Pf.val false (.slice none 0 0))) h5 λv27 h28=>dY (cE PG h28 (loadAt cC (pT r1 0))) λv29=>k (.tuple #[v29,(Value.int IntKind.i64 5)]) h28:=by
  intro h5 e5 B5 hz;refine cC.put (vs:=[.bool false,.slice none 0 0]) B5 (o:=0) rfl (by show 0+2≤2;decide) (by simp[eP]) λh6 B6 u6=>?_;have l6:cE PG h6 (loadAt cC (pT r1 0))=some (Pf.val false (.slice none 0 0)):=cC.agg B6 (by show 0+2≤2;decide);simp only[l6,cG,reduceIte,cT,Nat.reduceAdd];rw[hz] at hk;exact hk h6 _ [] rfl (eD.nil (h:=h6) (e:=cB) (size:=5)).slR (λy hy=>by cases hy) (e5.fresh u6 f1)
 by_cases c1:kd.1<1
 ·have g1:((kd.1:Int)<1)=True:=eq_true (by omega);rw[if_pos (.inl c1)] at hp;simp only[g1,aGK,cG,reduceIte,cT,Nat.reduceAdd];exact bad e4 Z4 hp
 have g1:((kd.1:Int)<1)=False:=eq_false (by omega);by_cases c2:2<kd.1
 ·have g2:((2:Int)<(kd.1:Int))=True:=eq_true (by omega);rw[if_pos (.inr (.inl c2))] at hp;simp only[g1,g2,aGK,cG,reduceIte,cT,Nat.reduceAdd];exact bad e4 Z4 hp
 have g2:((2:Int)<(kd.1:Int))=False:=eq_false (by omega);by_cases c3:2<nn.1
 ·have g3:((2:Int)<(nn.1:Int))=True:=eq_true (by omega);rw[if_pos (.inr (.inr c3))] at hp;simp only[g1,g2,g3,aGK,cG,reduceIte,cT,Nat.reduceAdd];exact bad e4 Z4 hp
 have g3:((2:Int)<(nn.1:Int))=False:=eq_false (by omega);rw[if_neg (by omega)] at hp;have eab:((kd.1:Int)==2)=decide (kd.1=2):=by rw[zLm];simp;omega
 simp only[g1,g2,g3,iA,eab,aKi,cG,reduceIte,cT,Nat.reduceAdd];intro r32 hr32
 try rw[cZ]
 have n132:r1≠r32:=Z4.apart hr32;have na32:r32≠a:=λe=>by have:=R4'.here;rw[←e,hr32] at this;cases this
 have k32:h r32=none:=e4.none hr32;refine cC.fill (vs:=[.bool (decide (kd.1=2)),.slice none 0 0]) hr32 rfl (by simp[eP]) λh5 B5 u5=>?_;have f32:dZ h [r32]:=dZ.one k32;refine⟨λvs h'=>∃(i:Nat) (l:List LV) (s':kM) (lv:Value) (F:List Nat),i≤nn.1∧vs=[pT r1 0,pT a 0,pT r32 0,.int .i64 (nn.1:Int),.int .i64 (i:Int)]∧qY h' a s'.1 s'.2∧Bx h' r32 [.bool (decide (kd.1=2)),lv]∧eD h' cB 5 lv (l.map pX) F∧LfO h' l (a::r1::r32::F)∧dZ h F∧a∉F∧r1∉F∧r32∉F∧Bx h' r1 (Value.cells (Pf.val false (.slice none 0 0))).toList∧dD h h'∧oY nn.1 nn.2 []=oY (nn.1-i) s' (l.map (·.1))∧l.length≤i,gY nn.1 4,⟨0,[],nn.2,_,[],by omega,rfl,R4'.ext u5,B5,eD.nil,(λy hy=>by cases hy),(λb hb=>by cases hb),by simp,by simp,by simp,Z4.ext u5,e4.trans u5,rfl,by simp⟩,?_⟩;rintro ρ h' ⟨i,l,s',lv,F,hi,hvs,R',B',O',L',f',na,n1,n32,Z',e',hr,hll⟩;simp only[iJ,iV,kW,and_true] at hvs;obtain⟨v0,v1,v2,v3,v4⟩:=hvs;unfold aJU;rw[v0,v1,v2,v3,v4];by_cases hlt:i<nn.1
 ·have g:((i:Int)<(nn.1:Int))=True:=eq_true (by omega);have gi:=qG (i:=i) (by omega);have ll:∀{h'':PH},Bx h'' r32 [.bool (decide (kd.1=2)),lv]->cE PG h'' (loadAt cN (pT r32 1))=some lv:=λB=>by rw[cN.load,B.cell];rfl
  simp only[g,cC.f1,fJ,ll B',cG,reduceIte,cT,Nat.reduceAdd];refine aXu R' λh2 pv G R2 O2 fG u2=>?_;have B2:=B'.upd u2 (by simpa using na32);refine⟨ll B2,?_⟩;have OL2:=O'.upd u2 (λb hb=>by simp only[fU];rintro rfl;exact na hb);have L2:=L'.upd u2 (λb hb=>by simp at hb;simp[hb]);have Z2':=Z'.upd u2 (by simpa using na1);have e2:=e'.fresh u2 fa;simp only[aL5,cG,reduceIte,cT,Nat.reduceAdd];intro r43 hr43;refine fL ?_
  try rw[cZ]
  have u3:dD h2 (h2.set r43 (.cells ((qM s').1.cells pv).toArray cB)):=cU.new hr43;have s1:fR (h2.set r43 (.cells ((qM s').1.cells pv).toArray cB)) 5 (.slice (some ⟨r43,0,none⟩) 1 1) ([((qM s').1,pv)].map pX):=(eD.lit (pX.rows [((qM s').1,pv)]) dM (by simp) (by decide) (by simp[pX])).slR;generalize h2.set r43 (.cells ((qM s').1.cells pv).toArray cB)=h3 at *;refine jF cN.und cN.und cB.info cB.size cB.bytes cB.zero rfl (by decide) (OL2.ext u3) s1 (λr hr u hu=>by
   obtain⟨y,hy,rfl⟩:=lO.1 hr;simp only[fU] at hy;subst hy;exact Lf.isC _ O2.slR.isc u hu) (by simp;omega) ?_
  intro v4' h4' F4 O4 u4' g4 _;rw[←qX] at O4;have R3:=R2.ext u3;have na4:a∉F4:=λhb=>by
   rcases g4 _ hb with hx|hx
   ·exact na hx
   ·have:=R3.here;rw[hx] at this;cases this
  have n14:r1∉F4:=λhb=>by
   rcases g4 _ hb with hx|hx
   ·exact n1 hx
   ·exact(Z2'.ext u3).known hx
  have n324:r32∉F4:=λhb=>by
   rcases g4 _ hb with hx|hx
   ·exact n32 hx
   ·exact(B2.ext u3).known hx
  have e3:=e2.trans u3;have f4:dZ h F4:=f'.grow e3 g4
  -- the paths, the new one too
  have L3:LfO h3 (l++[((qM s').1,pv)]) (a::r1::r32::F):=λy hy=>by
   rcases jG.1 hy with hy|hy
   ·exact(L2.upd (K:=[]) u3 (λb hb=>by cases hb)) y hy
   ·simp only[fU] at hy;subst hy;refine⟨G,O2.ext u3,λb hb hb'=>?_⟩;have hb0:=fG b hb;simp only[gL] at hb';rcases hb' with rfl|rfl|rfl|hb'
    ·have:=R'.here;rw[hb0] at this;cases this
    ·exact Z'.known hb0
    ·exact B'.known hb0
    ·exact O'.known _ hb' hb0
  have L4:LfO h4' (l++[((qM s').1,pv)]) (a::r1::r32::F4):=by
   have:=L3.grow (B':=a::r1::r32::(F++F4)) (λb hb=>by
    simp only[gL,jG] at hb ⊢;rcases hb with hb|hb|hb|hb|hb
    ·exact .inl (.inl hb)
    ·exact .inl (.inr (.inl hb))
    ·exact .inl (.inr (.inr (.inl hb)))
    ·exact .inl (.inr (.inr (.inr hb)))
    ·rcases g4 b hb with hx|hx
     ·exact .inl (.inr (.inr (.inr hx)))
     ·exact .inr hx)
   exact(this.upd u4' (λb hb=>by simp[hb])).grow (λb hb=>.inl (by
    simp only[gL,jG] at hb ⊢;rcases hb with hb|hb|hb|hb
    ·exact .inl hb
    ·exact .inr (.inl hb)
    ·exact .inr (.inr (.inl hb))
    ·exact .inr (.inr (.inr (.inr hb)))))
  have B4':=(B2.ext u3).upd u4' n32;simp only[cC.f1,fJ,gi,cG,reduceIte,cT,Nat.reduceAdd];refine cN.put B4' (o:=1) (by show 1<2;decide) O4.slR.isc λh5' B5' u5'=>?_;refine⟨⟨i+1,l++[((qM s').1,pv)],(qM s').2,v4',F4,by omega,rfl,(R3.upd u4' na).upd u5' (by simpa using na32.symm),B5',O4.upd u5' (λb hb=>by simp only[fU];rintro rfl;exact n324 hb),L4.upd u5' (λb hb=>by simp at hb;simp[hb]),f4,na4,n14,n324,((Z2'.ext u3).upd u4' n1).upd u5' (by simpa using n132),(e3.fresh u4' f').fresh u5' f32,?_,by simp;omega⟩,by simp[gY,v4];omega⟩;rw[hr,show nn.1-i=(nn.1-(i+1))+1 by omega,oY];simp
 ·have g:((i:Int)<(nn.1:Int))=False:=eq_false (by omega);rw[show nn.1-i=0 by omega,oY] at hr;rw[hr] at hp;simp only at hp;simp only[g,cG,reduceIte,cT,Nat.reduceAdd];refine aWn R' ?_;by_cases hz:aLG s'=0
  ·rw[if_neg (by simpa using hz)] at hp;have lf:cE PG h' (loadAt cC (pT r32 0))=some (Pf.val (decide (kd.1=2)) lv):=cC.agg B' (by show 0+2≤2;decide);simp only[hz,kK,lf,cG,reduceIte,cT,Nat.reduceAdd];refine cC.put (vs:=[.bool (decide (kd.1=2)),lv]) Z' (o:=0) rfl (by show 0+2≤2;decide) (by
    have:=O'.slR.isc;simp[eP];exact this) λh6 B6 u6=>?_
   have l6:cE PG h6 (loadAt cC (pT r1 0))=some (Pf.val (decide (kd.1=2)) lv):=cC.agg B6 (by show 0+2≤2;decide);simp only[l6,cG,reduceIte,cT,Nat.reduceAdd];rw[hp] at hk;exact hk h6 lv l rfl (O'.upd u6 (λb hb=>by simp only[fU];rintro rfl;exact n1 hb)).slR (L'.upd u6 (λb hb=>by simp at hb;simp[hb])).lfs (e'.fresh u6 f1)
  ·rw[if_pos hz] at hp;have q:(aLG s' !=0)=true:=by simp[hz]
   simp only[kK,q,aGK,cG,reduceIte,cT,Nat.reduceAdd];exact bad e' Z' hp
structure Lf.Bd(f:Lf):Prop where
 m:f.path.length≤255
 k:f.p.k.length≤65535
 v:f.p.v.length≤65535
theorem aOa:∀(n:Nat) (st:kM) (acc:List Tx),(yG n st acc).1.length≤acc.length+n
 | 0,st,acc=>by simp[yG]
 | n+1,st,acc=>by
  rw[yG];split
  ·have:=aOa n (jQ st 32).2 (acc++[(jQ st 32).1]);rw[jR] at this;simp at this ⊢;omega
  ·simp only;omega
theorem aQD(st:kM):(mH st).1.length≤65535:=by
 have h1:=aIt (gQ st 2).2 (gQ st 2).1;have h2:=aHG st 2;unfold mH;omega
theorem aUM(st:kM):(qM st).1.Bd:=by
 have h1:=aOa (gQ (mH (mH (kL (kL st).2).2).2).2 1).1 (gQ (mH (mH (kL (kL st).2).2).2).2 1).2 [];have h2:=aHG (mH (mH (kL (kL st).2).2).2).2 1;exact⟨by
  show(yG _ _ []).1.length≤255;simp only[zLM] at h1;omega,aQD _,aQD _⟩
theorem aND:∀(n:Nat) (st:kM) (acc:List Lf),(∀f∈acc,f.Bd)->∀f∈(oY n st acc).1,f.Bd
 | 0,st,acc,h=>h
 | n+1,st,acc,h=>by
  rw[oY];refine aND n _ _ λf hf=>?_;rcases jG.1 hf with hf|hf
  ·exact h f hf
  ·simp only[fU] at hf;subst hf;exact aUM st
theorem aKL(s:Tx):∀f∈(hZ s).1.lv,f.Bd:=by
 unfold hZ;split
 ·intro f hf;cases hf
 ·split
  ·intro f hf;cases hf
  ·exact aND _ _ _ (λf hf=>by cases hf)
theorem aMO:∀(n:Nat) (st:kM) (acc:List Lf),(oY n st acc).1.length=acc.length+n
 | 0,st,acc=>rfl
 | n+1,st,acc=>by rw[oY,aMO n];simp;omega
theorem aJP(s:Tx):(hZ s).1.lv.length≤2:=by
 unfold hZ;split
 ·decide
 ·split
  ·decide
  ·simp only[aMO];simp;omega
theorem Pr.eql{h:PH}{x y:Operand}(p q:Pr):cE PG h (kB .eql cM x y p.val q.val)=some (.bool (p==q)):=by
 have e:cE PG h (Op.equalIn (9999+1) cM (.agg #[.string (tx p.k),.string (tx p.v)]) (.agg #[.string (tx q.k),.string (tx q.v)]))=some ((tx p.k==tx q.k)&&((tx p.v==tx q.v)&&true)):=by
  refine(aDa cM.und (by kernel_rfl) (λf=>match f.offset with|0=>tx p.k==tx q.k|_=>tx p.v==tx q.v) ?_);intro f hf;simp only[gL,kJ,or_false] at hf;rcases hf with rfl|rfl
  ·exact⟨by decide,_,_,iR bR.und rfl rfl,iR bR.und rfl rfl,aBj bR.und⟩
  ·exact⟨by decide,_,_,iR bR.und rfl rfl,iR bR.und rfl rfl,aBj bR.und⟩
 have:=aLs (x:=x) (y:=y) (t:=cM) (P:=PG) (h:=h) (by kernel_rfl) e;rw[show p.val= .agg #[.string (tx p.k),.string (tx p.v)] from rfl,show q.val= .agg #[.string (tx q.k),.string (tx q.v)] from rfl,this];congr 2;rw[aCk,aCk,zLm];obtain⟨a,b⟩:=p;obtain⟨c,d⟩:=q;simp only[Bool.and_true,yB,decide_eq_true_eq,beq_iff_eq,Pr.mk.injEq];exact⟨λ⟨x,y⟩=>⟨aLq x,aLq y⟩,λ⟨x,y⟩=>⟨by rw[x],by rw[y]⟩⟩
theorem fR.lff{h:PH}{v:Value}{l:List LV}(S:fR h 5 v (l.map pX)){j:Nat}{y:LV}(hy:l[j]? =some y):
  ∃b o,cV PG (indexAt cN v (.int .i64 (j:Int)))=some (pT b o)∧(∀{h':PH},dD h h'->cE PG h' (loadAt bT (pT b o))=some (.int .i64 y.1.i)∧cE PG h' (loadAt bT (pT b (o+1)))=some (.int .i64 y.1.n)∧cE PG h' (loadAt bR (pT b (o+2)))=some (.string (tx y.1.p.k))∧cE PG h' (loadAt cM (pT b (o+2)))=some y.1.p.val):=by
 obtain⟨b,o,cs,e',fr,h1,hb,hle,hex⟩:=S.at cN.und cB.info cB.size (k:=.i64) (j:=(j:Int)) (r:=pX y) (by omega) (by rw[wN,qF,hy];rfl);have hd:∀i n,i+n≤5->(cs.extract (o+i) (o+i+n)).toList=((pX y).drop i).take n:=λi n hi=>by
  rw[←hex];simp only[zLC,zLw,aMz,zLx,aIn,List.take_take];congr 1;omega
 have hc:∀i,i<5->cs[o+i]? =(pX y)[i]?:=λi hi=>by
  have:=congrArg (λl:List Value=>l[0]?) (hd i 1 (by omega));simp only[zLC,zLw,aMz,aHy,aK2,Nat.add_zero] at this;simpa using this
 refine⟨b,o,h1,fun {h'} u=>?_⟩;have hb':=u.get hb;refine⟨?_,?_,?_,?_⟩
 ·rw[bT.load];unfold dF;simp only[hb'];exact hc 0 (by decide)
 ·rw[bT.load];unfold dF;simp only[hb'];exact hc 1 (by decide)
 ·rw[bR.load];unfold dF;simp only[hb'];exact hc 2 (by decide)
 ·rw[cM.loadAgg hb' (by omega)];congr 2;exact zLv (hd 2 2 (by decide))
theorem aNM{h:PH}{root:Tx}{v:Value}{l:List LV}(hK:nJ h)(S:fR h 5 v (l.map pX))(HS:LfS h l)(hl:l.length≤1000000)(hb:∀y∈l,y.1.Bd){k:cD}(hk:∀h',dD h h'->k (.bool (mY root (l.map (·.1)))) h'):
  aT PG aEu #[.string (tx root),v] h k:=by
 apply aHL.call;unfold aHL;intro r1 hr1
 try rw[cZ]
 have u1:dD h (h.set r1 (.cells (Value.cells (.string (tx root))) bR)):=cU.new hr1;have B1:Bx (h.set r1 (.cells (Value.cells (.string (tx root))) bR)) r1 [.string (tx root)]:=Bx.new;generalize h.set r1 (.cells (Value.cells (.string (tx root))) bR)=h1 at *
 try simp only[mV,cG,reduceIte,cT,Nat.reduceAdd]
 refine aRT (f:=λy=>!(oT y.1==some root)) (S.ext u1) hl (λy hy h' u k' hk'=>?_) λh3 u3=>?_
 ·show aT PG aFi #[y.1.val y.2,pT r1 0] h' k';apply aFb.call;unfold aFb;intro r hr
  try rw[cZ]
  have v1:dD h' (h'.set r (.cells (Value.cells (y.1.val y.2)) cB)):=cU.new hr;have C1:Bx (h'.set r (.cells (Value.cells (y.1.val y.2)) cB)) r (y.1.cells y.2):=Bx.new;generalize h'.set r (.cells (Value.cells (y.1.val y.2)) cB)=h'' at *;have lf:cE PG h'' (loadAt cB (pT r 0))=some (y.1.val y.2):=cB.agg C1 (by show 0+5≤5;decide);have lr:∀{h4:PH},dD h'' h4->cE PG h4 (loadAt bR (pT r1 0))=some (.string (tx root)):=λw=>by rw[bR.load,(((B1.ext u).ext v1).ext w).cell];rfl
  have bd:=hb y hy;have b1:=bd.m;have b2:=bd.k;have b3:=bd.v;simp only[lf,cG,reduceIte,cT,Nat.reduceAdd];refine aUT ((HS y hy).ext ((u1.trans u).trans v1)) (by omega) (by omega) (hK.ext ((u1.trans u).trans v1)) (λt h4 e4 _ u4=>?_) (λe4 h4 u4=>?_)
  ·have:=hk' h4 (v1.trans u4);have ed:(!(oT y.1==some root))=!decide (t=root):=by rw[e4,zLm];simp
   rw[ed] at this;simp only[lr u4,aDS,cG,reduceIte,cT,Nat.reduceAdd];exact this
  ·have:=hk' h4 (v1.trans u4);have ed:(!(oT y.1==some root))=true:=by rw[e4];rfl
   rw[ed] at this;simp only[cG,reduceIte,cT,Nat.reduceAdd];exact this
 ·have:=hk h3 (u1.trans u3);have e:mY root (l.map (·.1))=!(l.any λy=>!(oT y.1==some root)):=by
   unfold mY;rw[List.all_map,zLm];simp[aDO,List.any_eq_true]
  rw[e] at this;generalize (l.any λy=>!(oT y.1==some root))=b at this ⊢;cases b<;>(simp only[cG,reduceIte,cT,Nat.reduceAdd];exact this)
theorem aSz{h:PH}{root s key v:Tx}(hK:nJ h){k:cD}(hk:∀h',dD h h'->k (.bool (aCH root s key v)) h'):aT PG aGp #[.string (tx root),.string (tx s),.string (tx key),.string (tx v)] h k:=by
 apply aJS.call;unfold aJS;have hbd:=aKL s;unfold aCH at hk;refine aQV λh1 lv l el S HS u1=>?_;have hl2:l.length≤2:=by have:=aJP s;rw[←el] at this;simpa using this
 rw[←el] at hk hbd;generalize hZ s=P at *;obtain⟨⟨ab,_⟩,e⟩:=P;simp only at hk hbd;simp only[cG,reduceIte,cT,Nat.reduceAdd];intro r5 hr5
 try rw[cZ]
 refine cC.fill (vs:=[.bool ab,lv]) hr5 rfl (by have:=S.isc;simp[eP];exact this) λh2 B2 u2=>?_;have e2:=u1.trans u2;have la:cE PG h2 (loadAt fZ (pT r5 0))=some (.bool ab):=by rw[fZ.load,B2.cell];rfl
 have ll:cE PG h2 (loadAt cN (pT r5 1))=some lv:=by rw[cN.load,B2.cell];rfl
 have ln:=aIo S;by_cases c0:e=0
 case neg=>
  have q:(e==0)=false:=by simpa using c0
  simp only[q,wM] at hk;simp only[iA,q,cG,reduceIte,cT,Nat.reduceAdd];exact hk _ e2
 subst c0;cases ab with
 | true=>
  simp only[beq_self_eq_true,Bool.not_true,aFo,wM,zLp] at hk;simp only[iA,cC.f0,la,cG,reduceIte,cT,Nat.reduceAdd];exact hk _ e2
 | false=>
  match l,hl2 with
  | [],_=>
   have q:(((([]:List LV).length:Nat):Int)==1)=false:=rfl;simp only[iV,aFo,wM] at hk;simp only[iA,cC.f0,cC.f1,fJ,la,ll,ln,q,cG,reduceIte,cT,Nat.reduceAdd];exact hk _ e2
  | [a,b],_=>
   have q:((([a,b].length:Nat):Int)==1)=false:=rfl;simp only[iJ,iV,aFo,wM] at hk;simp only[iA,cC.f0,cC.f1,fJ,la,ll,ln,q,cG,reduceIte,cT,Nat.reduceAdd];exact hk _ e2
  | [a],_=>
   have q:((([a].length:Nat):Int)==1)=true:=rfl;obtain⟨b,o,i1,i2⟩:=S.lff (j:=0) (y:=a) rfl;rw[show((0:Nat):Int)=0 from rfl] at i1;obtain⟨-,-,-,i3⟩:=i2 u2;have pb:cV PG (build cM #[(0,.string (tx key)),(1,.string (tx v))])=some (Pr.val ⟨key,v⟩):=by kernel_rfl
   simp only[iJ,iV,beq_self_eq_true,zLq,zLp] at hk;simp only[iA,cC.f0,cC.f1,cB.f2,fJ,la,ll,ln,q,i1,i3,pb,Pr.eql,cG,reduceIte,cT,Nat.reduceAdd];cases hq:(a.1.p==(⟨key,v⟩:Pr)) with
   | false=>
    rw[hq] at hk;simp only[wM] at hk;simp only[cG,reduceIte,cT,Nat.reduceAdd];exact hk _ e2
   | true=>
    rw[hq] at hk;simp only[zLp] at hk;simp only[cC.f1,fJ,ll,cG,reduceIte,cT,Nat.reduceAdd];refine aNM (l:=[a]) (hK.ext e2) (S.ext u2) (HS.ext u2) (by simp) (λy hy=>hbd y.1 (zL6 hy)) λh3 u3=>?_
    try simp only[cG,reduceIte,cT,Nat.reduceAdd]
    exact hk h3 (e2.trans u3)
theorem aVX{h:PH}{root s key:Tx}(hK:nJ h){k:cD}(hk:∀h',dD h h'->k (.bool (aCY root s key)) h'):aT PG aHD #[.string (tx root),.string (tx s),.string (tx key)] h k:=by
 apply aDd.call;unfold aDd;have hbd:=aKL s;unfold aCY at hk;refine aQV λh1 lv l el S HS u1=>?_;have hl2:l.length≤2:=by have:=aJP s;rw[←el] at this;simpa using this
 rw[←el] at hk hbd;generalize hZ s=P at *;obtain⟨⟨ab,_⟩,e⟩:=P;simp only at hk hbd;simp only[cG,reduceIte,cT,Nat.reduceAdd];intro r5 hr5
 try rw[cZ]
 refine cC.fill (vs:=[.bool ab,lv]) hr5 rfl (by have:=S.isc;simp[eP];exact this) λh2 B2 u2=>?_;have e2:=u1.trans u2;have la:cE PG h2 (loadAt fZ (pT r5 0))=some (.bool ab):=by rw[fZ.load,B2.cell];rfl
 have ll:∀{h':PH},dD h2 h'->cE PG h' (loadAt cN (pT r5 1))=some lv:=λu=>by rw[cN.load,(B2.ext u).cell];rfl
 have ln:=aIo S;have lk:cV PG (Builtin.len_ #[bR] bT #[.string (tx key)])=some (.int .i64 (key.length:Int)):=by rw[lQ bR.und,iB]
 by_cases c0:e=0
 case neg=>
  have q:(e==0)=false:=by simpa using c0
  have q':(e !=0)=true:=by simpa using c0
  simp only[q,wM] at hk;simp only[kK,q',cG,reduceIte,cT,Nat.reduceAdd];exact hk _ e2
 subst c0;cases ab with
 | false=>
  simp only[aFo,wM] at hk;simp only[kK,cC.f0,la,cG,reduceIte,cT,Nat.reduceAdd];exact hk _ e2
 | true=>
  by_cases c1:key.length<1
  ·have g1:((key.length:Int)<1)=True:=eq_true (by omega);have d1:decide (1≤key.length)=false:=decide_eq_false (by omega);simp only[d1,aFo,wM] at hk;simp only[kK,cC.f0,la,lk,g1,cG,reduceIte,cT,Nat.reduceAdd];exact hk _ e2
  have g1:((key.length:Int)<1)=False:=eq_false (by omega);have d1:decide (1≤key.length)=true:=decide_eq_true (by omega);by_cases c2:16<key.length
  ·have g2:((16:Int)<(key.length:Int))=True:=eq_true (by omega);have d2:decide (key.length≤16)=false:=decide_eq_false (by omega);simp only[d2,aFo,wM] at hk;simp only[kK,cC.f0,la,lk,g1,g2,cG,reduceIte,cT,Nat.reduceAdd];exact hk _ e2
  have g2:((16:Int)<(key.length:Int))=False:=eq_false (by omega);have d2:decide (key.length≤16)=true:=decide_eq_true (by omega);simp only[d1,d2,beq_self_eq_true,zLp,Bool.and_self] at hk;simp only[kK,cC.f0,cC.f1,fJ,la,lk,ll cU.refl,g1,g2,cG,reduceIte,cT,Nat.reduceAdd];refine aNM (l:=l) (hK.ext e2) (S.ext u2) (HS.ext u2) (by omega) (λy hy=>hbd y.1 (zL6 hy)) λh3 u3=>?_;have e3:=e2.trans u3;cases hc:mY root (l.map (·.1)) with
  | false=>
   rw[hc] at hk;simp only[wM] at hk;simp only[cG,reduceIte,cT,Nat.reduceAdd];exact hk _ e3
  | true=>
   rw[hc] at hk;simp only[zLp] at hk
   match l,hl2 with
   | [],_=>
    have q:(((([]:List LV).length:Nat):Int)==0)=true:=rfl;simp only[iV] at hk;simp only[iA,cC.f1,fJ,ll u3,ln,q,cG,reduceIte,cT,Nat.reduceAdd];refine aMd (l:=[]) (by simp) (hK.ext e3) (eD.nil (e:=cM) (size:=2)).slR (λp hp=>by cases hp) λh4 u4=>?_;have:=hk h4 (e3.trans u4);rw[show(root==lB [])=decide (root=lB []) by rw[zLm];simp] at this;simp only[aCK,cG,reduceIte,cT,Nat.reduceAdd];exact this
   | [a],_=>
    have q0:((([a].length:Nat):Int)==0)=false:=rfl;have q1:((([a].length:Nat):Int)==1)=true:=rfl;obtain⟨b,o,i1,i2⟩:=S.lff (j:=0) (y:=a) rfl;rw[show((0:Nat):Int)=0 from rfl] at i1;obtain⟨x1,x2,x3,-⟩:=i2 (u2.trans u3);have hk:=hk h3 e3;simp only[iJ,iV] at hk;simp only[iA,cC.f1,cB.f0,cB.f1,cB.f2,cM.f0,fJ,ll u3,ln,q0,q1,i1,x1,cG,reduceIte,cT,Nat.reduceAdd];cases hi:a.1.i==0 with
    | true=>
     rw[hi] at hk;by_cases c3:key<a.1.p.k
     ·have d3:=decide_eq_true c3;rw[d3] at hk;simp only[Bool.true_or,Bool.and_self] at hk;simp only[i1,cB.f2,cM.f0,x3,xJ,d3,cG,reduceIte,cT,Nat.reduceAdd];exact hk
     ·have d3:=decide_eq_false c3;rw[d3] at hk;simp only[aFo,aKA] at hk;simp only[i1,cB.f0,cB.f1,cB.f2,cM.f0,x1,x2,x3,xJ,d3,iA,cG,reduceIte,cT,Nat.reduceAdd];cases hj:a.1.i==IntKind.i64.wrap (a.1.n-1) with
      | true=>
       rw[hj] at hk;simp only[zLp] at hk;simp only[i1,cB.f2,cM.f0,x3,xJ,cG,reduceIte,cT,Nat.reduceAdd];exact hk
      | false=>
       rw[hj] at hk;simp only[wM] at hk;simp only[cG,reduceIte,cT,Nat.reduceAdd];exact hk
    | false=>
     rw[hi] at hk;simp only[wM,aKA] at hk;simp only[i1,cB.f0,cB.f1,x1,x2,iA,cG,reduceIte,cT,Nat.reduceAdd];cases hj:a.1.i==IntKind.i64.wrap (a.1.n-1) with
     | true=>
      rw[hj] at hk;simp only[zLp] at hk;simp only[i1,cB.f2,cM.f0,x3,xJ,cG,reduceIte,cT,Nat.reduceAdd];exact hk
     | false=>
      rw[hj] at hk;simp only[wM] at hk;simp only[cG,reduceIte,cT,Nat.reduceAdd];exact hk
   | [a,c],_=>
    have q0:((([a,c].length:Nat):Int)==0)=false:=rfl;have q1:((([a,c].length:Nat):Int)==1)=false:=rfl;obtain⟨b,o,i1,i2⟩:=S.lff (j:=0) (y:=a) rfl;rw[show((0:Nat):Int)=0 from rfl] at i1;obtain⟨x1,x2,x3,-⟩:=i2 (u2.trans u3);obtain⟨b',o',j1,j2⟩:=S.lff (j:=1) (y:=c) rfl;rw[show((1:Nat):Int)=1 from rfl] at j1;obtain⟨y1,y2,y3,-⟩:=j2 (u2.trans u3);have hk:=hk h3 e3;simp only[iJ,iV] at hk;simp only[iA,cC.f1,cB.f0,cB.f1,cB.f2,cM.f0,fJ,ll u3,ln,q0,q1,i1,x2,j1,y2,cG,reduceIte,cT,Nat.reduceAdd];cases h1:a.1.n==c.1.n with
    | false=>
     rw[h1] at hk;simp only[wM] at hk;simp only[cG,reduceIte,cT,Nat.reduceAdd];exact hk
    | true=>
     rw[h1] at hk;simp only[zLp] at hk;simp only[i1,j1,cB.f0,x1,y1,iA,cG,reduceIte,cT,Nat.reduceAdd];cases h2':IntKind.i64.wrap (a.1.i+1)==c.1.i with
     | false=>
      rw[h2'] at hk;simp only[wM] at hk;simp only[cG,reduceIte,cT,Nat.reduceAdd];exact hk
     | true=>
      rw[h2'] at hk;simp only[zLp] at hk;simp only[i1,j1,cB.f2,cM.f0,x3,y3,xJ,cG,reduceIte,cT,Nat.reduceAdd];cases h3':decide (a.1.p.k<key) with
      | false=>
       rw[h3'] at hk;simp only[wM] at hk;simp only[cG,reduceIte,cT,Nat.reduceAdd];exact hk
      | true=>
       rw[h3'] at hk;simp only[zLp] at hk;simp only[i1,j1,cB.f2,cM.f0,x3,y3,xJ,cG,reduceIte,cT,Nat.reduceAdd];exact hk
theorem aYC(x:Int):cV PG (convert bT nI (.int .i64 x))=some (.int .u64 (IntKind.u64.wrap x)):=by kernel_rfl
theorem aYV(x:Int):cV PG (convert nI bT (.int .u64 x))=some (.int .i64 (IntKind.i64.wrap x)):=by kernel_rfl
theorem aZT{t:TypeId}{n:Nat}:cV PG (binOp .shr t (.int .u64 (n:Int)) (.int .u64 1))=some (.int .u64 ((n/2:Nat):Int)):=by
 rw[aIs (by decide)];congr 2;show(n:Int).fdiv (2^1)=_;rw[Int.fdiv_eq_ediv_of_nonneg _ (by decide)];have:(2:Int)^1=2:=by rfl
 omega
def fnF:Value:=.func (.func xX) #[] #[]
theorem aRV{h:PH}{p:Pr}{key:Tx}{k:cD}(hk:∀h',dD h h'->k (.int .i64 (if p.k<key then -1 else if key<p.k then 1 else 0)) h'):aT PG xX #[p.val,.string (tx key)] h k:=by
 apply aGU.call;unfold aGU;intro r1 hr1
 try rw[cZ]
 have u1:dD h (h.set r1 (.cells (Value.cells p.val) cM)):=cU.new hr1;have B1:Bx (h.set r1 (.cells (Value.cells p.val) cM)) r1 p.cells:=Bx.new;generalize h.set r1 (.cells (Value.cells p.val) cM)=h1 at *;have lk:cE PG h1 (loadAt bR (pT r1 0))=some (.string (tx p.k)):=by rw[bR.load,B1.cell];rfl
 simp only[cM.f0,lk,cG,reduceIte,cT,Nat.reduceAdd];refine aNO ?_;exact hk _ u1
theorem aQp{h:PH}{v:Value}{l:List Pr}(S:fR h 2 v (l.map Pr.cells))(hs:rN l)(hl:l.length≤1000000)(key:Tx){k:cD}(hk:∀h',dD h h'->k (.tuple #[.int .i64 ((gT l key:Nat):Int),.bool (gI l key).isSome]) h'):
  aT PG aFf #[v,.string (tx key)] h k:=by
 apply aIQ.call;unfold aIQ;apply kF.call;unfold kF;have lv:=S.len (t':=bT) cJ.und;rw[iU] at lv;have hple:=aId l key;simp only[lv,cG,reduceIte,cT,Nat.reduceAdd];refine⟨λvs h'=>∃i j:Nat,i≤gT l key∧gT l key≤j∧j≤l.length∧vs=[v,.string (tx key),fnF,.int .i64 (l.length:Int),.int .i64 (i:Int),.int .i64 (j:Int)]∧dD h h',λvs _=>match vs with|[_,_,_,_,.int _ i,.int _ j]=>(j-i).toNat|_=>0,⟨0,l.length,by omega,hple,by omega,rfl,cU.refl⟩,?_⟩;rintro ρ h' ⟨i,j,h1,h2,h3,hvs,u⟩;simp only[iJ,iV,kW,and_true] at hvs;obtain⟨v0,v1,v2,v3,v4,v5⟩:=hvs;unfold oB;rw[v0,v1,v2,v3,v4,v5];by_cases hlt:i<j
 ·have g:((i:Int)<(j:Int))=True:=eq_true (by omega);have w1:IntKind.i64.wrap ((i:Int)+(j:Int))=((i+j:Nat):Int):=by rw[eX (by omega) (by omega)];omega
  have w2:IntKind.u64.wrap ((i+j:Nat):Int)=((i+j:Nat):Int):=gJ (by omega) (by omega);have w3:IntKind.i64.wrap (((i+j)/2:Nat):Int)=(((i+j)/2:Nat):Int):=eX (by omega) (by omega);obtain⟨m,hm⟩:∃m,m=(i+j)/2:=⟨_,rfl⟩;have hmj:m<j:=by omega
  have him:i≤m:=by omega
  have w4:=qG (i:=m) (by omega);rw[←hm] at w3;obtain⟨p,hp⟩:∃p,l[m]? =some p:=⟨_,lU (by omega)⟩;obtain⟨b,o,a1,-,-,a2⟩:=(S.ext u).pair hp;have hpl:=aFk (k:=key) hs hp;simp only[g,w1,aYC,w2,aZT,←hm,aYV,w3,a1,a2,cG,reduceIte,cT,Nat.reduceAdd];show aT PG xX #[p.val,.string (tx key)] h' _;refine aRV λh4 u4=>?_;unfold lG;by_cases c:p.k<key
  ·have gc:((-1:Int)<0)=True:=eq_true (by decide);have:=hpl.2 c;rw[if_pos c];simp only[gc,w4,cG,reduceIte,cT,Nat.reduceAdd];exact⟨⟨m+1,j,by omega,h2,h3,rfl,u.trans u4⟩,by simp[v4,v5];omega⟩
  ·have hpn:¬m<gT l key:=λx=>c (hpl.1 x);rw[if_neg c];have gc:((if key<p.k then(1:Int) else 0)<0)=False:=eq_false (by split<;>decide);simp only[gc,cG,reduceIte,cT,Nat.reduceAdd];exact⟨⟨i,m,h1,by omega,by omega,rfl,u.trans u4⟩,by simp[v4,v5];omega⟩
 ·have g:((i:Int)<(j:Int))=False:=eq_false (by omega);have ei:i=gT l key:=by omega
  by_cases hil:i<l.length
  ·have g2:((i:Int)<(l.length:Int))=True:=eq_true (by omega);obtain⟨p,hp⟩:∃p,l[i]? =some p:=⟨_,lU hil⟩;obtain⟨b,o,a1,-,-,a2⟩:=(S.ext u).pair hp;have hpl:=aFk (k:=key) hs hp;have hnl:¬p.k<key:=λc=>by have:=hpl.2 c;omega
   simp only[g,g2,a1,a2,cG,reduceIte,cT,Nat.reduceAdd];show aT PG xX #[p.val,.string (tx key)] h' _;refine aRV λh4 u4=>?_;rw[if_neg hnl];have hk:=hk h4 (u.trans u4);rw[←ei] at hk;by_cases c:key<p.k
   ·have hno:(gI l key).isSome=false:=by
     rw[Option.isSome_eq_false_iff,Option.isNone_iff_eq_none,aEs];intro q hq e;obtain⟨x,hx⟩:=List.mem_iff_getElem?.1 hq;have hqk:¬q.k<key:=by rw[e];exact zL0 _
     have:¬x<gT l key:=λy=>hqk ((aFk hs hx).1 y);rcases Nat.lt_or_ge i x with hix|hix
     ·have:=hs.lt hp hx hix;rw[e] at this;exact zL0 _ (List.lt_trans c this)
     ·have:x=i:=by omega
      rw[this,hp] at hx;cases hx;rw[e] at c;exact zL0 _ c
    have q1:((1:Int)==0)=false:=by decide
    rw[hno] at hk;rw[if_pos c];simp only[iA,q1,cG,reduceIte,cT,Nat.reduceAdd];exact hk
   ·have e:p.k=key:=by
     rcases aHB p.k key with h|h|h
     ·exact absurd h hnl
     ·exact h
     ·exact absurd h c
    have hyes:(gI l key).isSome=true:=by rw[(zM hs).2 ⟨rA hp,e⟩];rfl
    have q1:((0:Int)==0)=true:=by decide
    rw[hyes] at hk;rw[if_neg c];simp only[iA,q1,cG,reduceIte,cT,Nat.reduceAdd];exact hk
  ·have g2:((i:Int)<(l.length:Int))=False:=eq_false (by omega);have hno:(gI l key).isSome=false:=by
    rw[Option.isSome_eq_false_iff,Option.isNone_iff_eq_none,aEs];intro q hq e;obtain⟨x,hx⟩:=List.mem_iff_getElem?.1 hq;have hxl:=(zLz.1 hx).1;have:=(aFk (k:=key) hs hx).1 (by omega);rw[e] at this;exact zL0 _ this
   have hk:=hk h' u;rw[←ei,hno] at hk;simp only[g,g2,cG,reduceIte,cT,Nat.reduceAdd];exact hk
def vX(j:Nat):List Value:=[.int .i64 (j:Int)]
theorem vX.rows(l:List Nat):Rows 1 (l.map vX):=λr hr=>by obtain⟨m,_,rfl⟩:=lO.1 hr;rfl
theorem fR.ic{h:PH}{v:Value}{l:List Nat}(S:fR h 1 v (l.map vX)){j:Nat}{x:Nat}(hx:l[j]? =some x):
  ∃a,cV PG (indexAt uD v (.int .i64 (j:Int)))=some (.pointer (some a))∧cE PG h (loadAt bT (.pointer (some a)))=some (.int .i64 (x:Int)):=
 S.loadCell uD.und bT.info bT.size bT.und rfl (k:=.i64) (j:=(j:Int)) (x:=.int .i64 (x:Int)) (by omega) (by rw[qF,wN,hx];rfl)
theorem aYB{h:PH}{v:Value}{l:List Nat}(S:fR h 1 v (l.map vX)):cV PG (Builtin.len_ #[uD] bT #[v])=some (.int .i64 l.length):=by
 have:=S.len (t':=bT) uD.und;rw[iU] at this;exact this
def LfN(h0 h:PH)(l:List LV)(B:List Nat):Prop:=∀y∈l,∃G,eD h bR 1 y.2 (y.1.path.map iY) G∧dZ h0 G∧∀b∈G,b∉B
theorem LfN.upd{h0 h h':PH}{l:List LV}{B K:List Nat}(H:LfN h0 h l B)(u:cU K h h')(hK:∀b∈K,b∈B∨h0 b≠none):LfN h0 h' l B:=λy hy=>by
 obtain⟨G,O,f,hG⟩:=H y hy;refine⟨G,O.upd u (λb hb hk=>?_),f,hG⟩;rcases hK b hk with hx|hx
 ·exact hG b hb hx
 ·exact hx (f b hb)
theorem LfN.grow{h0 h:PH}{l:List LV}{B B':List Nat}(H:LfN h0 h l B)(hB:∀b∈B',b∈B∨h b=none):LfN h0 h l B':=λy hy=>by
 obtain⟨G,O,f,hG⟩:=H y hy;exact⟨G,O,f,λb hb hb'=>by
  rcases hB b hb' with hx|hx
  ·exact hG b hb hx
  ·exact O.known b hb hx⟩
theorem LfN.lfs{h0 h:PH}{l:List LV}{B:List Nat}(H:LfN h0 h l B):LfS h l:=λy hy=>by
 obtain⟨G,O,-⟩:=H y hy;exact O.slR
theorem aVu(x y:Int)(p:Pr)(b:Option Addr)(n c:Nat):cV PG (build cB #[(0,.int .i64 x),(1,.int .i64 y),(2,p.val),(3,.slice b n c)])=some (Lf.val ⟨x,y,p,[]⟩ (.slice b n c)):=by kernel_rfl
structure nK(h0 h:PH)(v:Value)(fs:List Lf):Prop where
 here:∃(l:List LV) (F:List Nat),l.map (·.1)=fs∧eD h cB 5 v (l.map pX) F∧dZ h0 F∧LfN h0 h l F
theorem nK.upd{h0 h h':PH}{v:Value}{fs:List Lf}{K:List Nat}(H:nK h0 h v fs)(u:cU K h h')(hK:∀b∈K,h0 b≠none):nK h0 h' v fs:=by
 obtain⟨l,F,e,O,f,L⟩:=H.here;exact⟨l,F,e,O.upd u (λb hb hk=>hK b hk (f b hb)),f,L.upd u (λb hb=>.inr (hK b hb))⟩
theorem nK.isc{h0 h:PH}{v:Value}{fs:List Lf}(H:nK h0 h v fs):eP v=true:=by
 obtain⟨l,F,e,O,f,L⟩:=H.here;exact O.slR.isc
theorem nK.nil{h0 h:PH}:nK h0 h (.slice none 0 0) []:=⟨[],[],rfl,eD.nil,(λb hb=>by cases hb),(λy hy=>by cases hy)⟩
theorem aO9{h0 h:PH}{v av:Value}{l:List Pr}{js:List Nat}(u0:dD h0 h)(hK:nJ h)(S:fR h 2 v (l.map Pr.cells))(hs:aAN l)(hl:l.length≤4096)(A:fR h 1 av (js.map vX))(hj:∀j∈js,j<l.length)(h2:js.length≤2){k:cD}
  (hk:∀h' v',nK h0 h' v' (js.map (kD l))->dD h h'->k v' h'):aT PG uJ #[v,av] h k:=by
 apply aCO.call;unfold aCO;have la:=aYB A;have lv:=S.len (t':=bT) cJ.und;rw[iU] at lv;simp only[la,cG,reduceIte,cT,Nat.reduceAdd];refine⟨λvs h'=>∃(i:Nat) (o:Value) (r:List LV) (F:List Nat),i≤js.length∧vs=[v,o,av,.int .i64 (js.length:Int),.int .i64 (i:Int)]∧dD h h'∧r.map (·.1)=(js.take i).map (kD l)∧eD h' cB 5 o (r.map pX) F∧dZ h F∧LfN h h' r F∧r.length≤i,gY js.length 4,⟨0,_,[],[],by omega,rfl,cU.refl,rfl,eD.nil,(λb hb=>by cases hb),(λy hy=>by cases hy),by simp⟩,?_⟩;rintro ρ h' ⟨i,o,r,F,hi,hvs,u,hr,O,f,L,hrl⟩;simp only[iJ,iV,kW,and_true] at hvs;obtain⟨v0,v1,v2,v3,v4⟩:=hvs;unfold aJO;rw[v0,v1,v2,v3,v4];by_cases hlt:i<js.length
 ·have g:((i:Int)<(js.length:Int))=True:=eq_true (by omega);have gi:=qG (i:=i) (by omega);obtain⟨j,hjj⟩:∃j,js[i]? =some j:=⟨_,lU hlt⟩;have hjl:=hj j (rA hjj);obtain⟨p,hp⟩:∃p,l[j]? =some p:=⟨_,lU hjl⟩;obtain⟨aa,a1,a2⟩:=(A.ext u).ic hjj;obtain⟨b,q,b1,-⟩:=S.pair hp;have b2:∀{h'':PH},dD h h''->cE PG h'' (loadAt cM (pT b q))=some p.val:=λw=>by
   obtain⟨b',q',c1,-,-,c2⟩:=(S.ext w).pair hp;rw[b1] at c1;cases c1;exact c2
  simp only[g,a1,a2,lv,b1,b2 u,cG,reduceIte,cT,Nat.reduceAdd];refine aWL hjl hl (hK.ext u) (S.ext u) hs λpv h3 G O3 fG u3=>?_;have e3:=u.trans u3;obtain⟨pa,pc,epv,-⟩:=O3.slR.here;refine⟨b2 e3,?_⟩;have hb:cV PG (build cB #[(0,.int .i64 (j:Int)),(1,.int .i64 (l.length:Int)),(2,p.val),(3,pv)])=some ((kD l j).val pv):=by
   rw[epv,aVu,aK4 hp];rfl
  have hpath:(kD l j).path=nV l j:=rfl;simp only[hb,aL5,cG,reduceIte,cT,Nat.reduceAdd];intro r13 hr13;refine fL ?_
  try rw[cZ]
  have u4:dD h3 (h3.set r13 (.cells ((kD l j).cells pv).toArray cB)):=cU.new hr13;have s1:fR (h3.set r13 (.cells ((kD l j).cells pv).toArray cB)) 5 (.slice (some ⟨r13,0,none⟩) 1 1) ([(kD l j,pv)].map pX):=(eD.lit (pX.rows [(kD l j,pv)]) dM (by simp) (by decide) (by simp[pX])).slR;generalize h3.set r13 (.cells ((kD l j).cells pv).toArray cB)=h4 at *;have e4:=e3.trans u4;refine jF cN.und cN.und cB.info cB.size cB.bytes cB.zero rfl (by decide) ((O.ext u3).ext u4) s1 (λr hr u hu=>by
   obtain⟨y,hy,rfl⟩:=lO.1 hr;simp only[fU] at hy;subst hy;exact Lf.isC _ O3.slR.isc u hu) (by simp;omega) ?_
  intro v5 h5 F5 O5 u5 g5 _;rw[←qX] at O5;have L4:LfN h h4 (r++[(kD l j,pv)]) F:=λy hy=>by
   rcases jG.1 hy with hy|hy
   ·exact((L.upd u3 (λb hb=>by cases hb)).upd u4 (λb hb=>by cases hb)) y hy
   ·simp only[fU] at hy;subst hy;exact⟨G,O3.ext u4,fG.of u,λb hb hb'=>O.known b hb' (fG b hb)⟩
  have L5:LfN h h5 (r++[(kD l j,pv)]) F5:=by
   have:=L4.grow (B':=F++F5) (λb hb=>by
    rcases jG.1 hb with hb|hb
    ·exact .inl hb
    ·exact g5 b hb)
   exact(this.upd u5 (λb hb=>.inl (by simp[hb]))).grow (λb hb=>.inl (by simp[hb]))
  simp only[gi,cG,reduceIte,cT,Nat.reduceAdd];refine⟨⟨i+1,v5,r++[(kD l j,pv)],F5,by omega,rfl,e4.fresh u5 f,?_,O5,f.grow e4 g5,L5,by simp;omega⟩,by simp[gY,v4];omega⟩;rw[qX,hr,zLT,hjj];simp
 ·have g:((i:Int)<(js.length:Int))=False:=eq_false (by omega);rw[mU (by omega)] at hr;simp only[g,cG,reduceIte,cT,Nat.reduceAdd];refine hk h' o ⟨r,F,hr,O,f.of u0,λy hy=>?_⟩ u;obtain⟨G,OG,fG,hG⟩:=L y hy;exact⟨G,OG,fG.of u0,hG⟩
theorem nK.of{h0 h1 h:PH}{v:Value}{fs:List Lf}(H:nK h1 h v fs)(u:dD h0 h1):nK h0 h v fs:=by
 obtain⟨l,F,e,O,f,L⟩:=H.here;exact⟨l,F,e,O,f.of u,λy hy=>by
  obtain⟨G,OG,fG,hG⟩:=L y hy;exact⟨G,OG,fG.of u,hG⟩⟩
theorem MOk.small{l:List Pr}(H:MOk l):aAN l:=λp hp=>by
 have:=H.k p hp;have:=H.v p hp;omega
theorem il1(a:Int):jM PG (buildSlice uD 1 #[(0,.int .i64 a)])=some (.cells #[.int .i64 a] bT,λr=>pure (.slice (some ⟨r,0,none⟩) 1 1)):=by kernel_rfl
theorem il2(a b:Int):jM PG (buildSlice uD 2 #[(0,.int .i64 a),(1,.int .i64 b)])=some (.cells #[.int .i64 a,.int .i64 b] bT,λr=>pure (.slice (some ⟨r,0,none⟩) 2 2)):=by kernel_rfl
theorem aVr(b:Option Addr)(n c:Nat):cV PG (build cC #[(1,.slice b n c)])=some (Pf.val false (.slice b n c)):=by kernel_rfl
theorem aSg{h:PH}{v:Value}{l:List Pr}{key:Tx}(H:MOk l)(hK:nJ h)(S:fR h 2 v (l.map Pr.cells)){kk:cD}(hno:gI l key=none->∀h',dD h h'->kk (.tuple #[Pf.val false (.slice none 0 0),.int .i64 3]) h')
  (hyes:(gI l key).isSome=true->∀h' v',nK h h' v' [kD l (gT l key)]->dD h h'->kk (.tuple #[Pf.val false v',.int .i64 0]) h'):aT PG aFp #[v,.string (tx key)] h kk:=by
 apply aFe.call;unfold aFe;have hl:=H.len;intro r1 hr1
 try rw[cZ]
 have u1:dD h (h.set r1 (.cells (dL PG cC) cC)):=cU.new hr1;have Z1:=cC.zbox (h:=h) (r:=r1);generalize h.set r1 (.cells (dL PG cC) cC)=h1 at *;have f1:dZ h [r1]:=dZ.one hr1;refine aQp (S.ext u1) H.up (by omega) key λh2 u2=>?_;have e2:=u1.trans u2;have Z2:=Z1.ext u2;cases hg:(gI l key).isSome with
 | false=>
  simp only[aGK,cG,reduceIte,cT,Nat.reduceAdd];refine cC.put (vs:=[.bool false,.slice none 0 0]) Z2 (o:=0) rfl (by show 0+2≤2;decide) (by simp[eP]) λh6 B6 u6=>?_;have l6:cE PG h6 (loadAt cC (pT r1 0))=some (Pf.val false (.slice none 0 0)):=cC.agg B6 (by show 0+2≤2;decide);simp only[l6,cG,reduceIte,cT,Nat.reduceAdd];exact hno (by simpa using hg) h6 (e2.fresh u6 f1)
 | true=>
  obtain⟨p,hp⟩:=Option.isSome_iff_exists.1 hg;have hj:=(zLz.1 (aLR H.up hp)).1;simp only[il1,cG,reduceIte,cT,Nat.reduceAdd];intro r12 hr12;refine fL ?_
  try rw[cZ]
  have u3:dD h2 (h2.set r12 (.cells #[.int .i64 ((gT l key:Nat):Int)] bT)):=cU.new hr12;have A:fR (h2.set r12 (.cells #[.int .i64 ((gT l key:Nat):Int)] bT)) 1 (.slice (some ⟨r12,0,none⟩) 1 1) ([gT l key].map vX):=(eD.lit (vX.rows [gT l key]) dM (by simp) (by decide) (by simp[vX])).slR;generalize h2.set r12 (.cells #[.int .i64 ((gT l key:Nat):Int)] bT)=h3 at *;have e3:=e2.trans u3;refine aO9 (h0:=h1) (u2.trans u3) (hK.ext e3) (S.ext e3) H.small hl A (by simpa using hj) (by simp) λh4 v4 L4 u4=>?_;obtain⟨b,n,c,ev⟩:∃b n c,v4= .slice b n c:=by
   obtain⟨l',F,-,O,-⟩:=L4.here;obtain⟨b,c,ev,-⟩:=O.slR.here;exact⟨b,_,c,ev⟩
  have hb:cV PG (build cC #[(1,v4)])=some (Pf.val false v4):=by rw[ev];exact aVr _ _ _
  simp only[hb,cG,reduceIte,cT,Nat.reduceAdd];refine cC.put (vs:=[.bool false,v4]) ((Z2.ext u3).ext u4) (o:=0) rfl (by show 0+2≤2;decide) (by
   have:=L4.isc;simp[eP];exact this) λh6 B6 u6=>?_
  have l6:cE PG h6 (loadAt cC (pT r1 0))=some (Pf.val false v4):=cC.agg B6 (by show 0+2≤2;decide);simp only[l6,cG,reduceIte,cT,Nat.reduceAdd];exact hyes hg h6 v4 ((L4.upd u6 (λb hb=>by simp at hb;rw[hb];exact Z1.known)).of u1) ((e3.trans u4).fresh u6 f1)
theorem aTD{h:PH}{v:Value}{l:List Pr}{key:Tx}(H:MOk l)(hK:nJ h)(S:fR h 2 v (l.map Pr.cells)){kk:cD}(hbad:¬(1≤key.length∧key.length≤16)->∀h',dD h h'->kk (.tuple #[Pf.val false (.slice none 0 0),.int .i64 1]) h')
  (hyes:(gI l key).isSome=true->∀h',dD h h'->kk (.tuple #[Pf.val false (.slice none 0 0),.int .i64 4]) h')
  (hno:1≤key.length->key.length≤16->gI l key=none->∀h' v',nK h h' v' (jN l key).lv->dD h h'->kk (.tuple #[Pf.val true v',.int .i64 0]) h'):aT PG aGM #[v,.string (tx key)] h kk:=by
 apply aGa.call;unfold aGa;have hl:=H.len;have hple:=aId l key;intro r1 hr1
 try rw[cZ]
 have u1:dD h (h.set r1 (.cells (dL PG cC) cC)):=cU.new hr1;have Z1:=cC.zbox (h:=h) (r:=r1);generalize h.set r1 (.cells (dL PG cC) cC)=h1 at *;have f1:dZ h [r1]:=dZ.one hr1;have lk:cV PG (Builtin.len_ #[bR] bT #[.string (tx key)])=some (.int .i64 (key.length:Int)):=by rw[lQ bR.und,iB]
 have lv:=S.len (t':=bT) cJ.und;rw[iU] at lv;have err:∀{h5:PH} {e:Int},dD h h5->Bx h5 r1 (Value.cells (Pf.val false (.slice none 0 0))).toList->(∀h',dD h h'->kk (.tuple #[Pf.val false (.slice none 0 0),.int .i64 e]) h')->cY PG (dJ cC (pT r1 0) (Pf.val false (.slice none 0 0))) h5 λv27 h28=>dY (cE PG h28 (loadAt cC (pT r1 0))) λv29=>kk (.tuple #[v29,(Value.int IntKind.i64 e)]) h28:=by
  intro h5 e e5 B5 hk;refine cC.put (vs:=[.bool false,.slice none 0 0]) B5 (o:=0) rfl (by show 0+2≤2;decide) (by simp[eP]) λh6 B6 u6=>?_;have l6:cE PG h6 (loadAt cC (pT r1 0))=some (Pf.val false (.slice none 0 0)):=cC.agg B6 (by show 0+2≤2;decide);simp only[l6,cG,reduceIte,cT,Nat.reduceAdd];exact hk h6 (e5.fresh u6 f1)
 by_cases c1:key.length<1
 ·have g1:((key.length:Int)<1)=True:=eq_true (by omega);simp only[lk,g1,aGK,cG,reduceIte,cT,Nat.reduceAdd];exact err u1 Z1 (hbad (by omega))
 have g1:((key.length:Int)<1)=False:=eq_false (by omega);by_cases c2:16<key.length
 ·have g2:((16:Int)<(key.length:Int))=True:=eq_true (by omega);simp only[lk,g1,g2,aGK,cG,reduceIte,cT,Nat.reduceAdd];exact err u1 Z1 (hbad (by omega))
 have g2:((16:Int)<(key.length:Int))=False:=eq_false (by omega);simp only[lk,g1,g2,cG,reduceIte,cT,Nat.reduceAdd];refine aQp (S.ext u1) H.up (by omega) key λh2 u2=>?_;have e2:=u1.trans u2;have Z2:=Z1.ext u2;simp only[aKi,cG,reduceIte,cT,Nat.reduceAdd];intro r26 hr26
 try rw[cZ]
 have n126:r1≠r26:=Z2.apart hr26;refine cC.fill (vs:=[.bool true,.slice none 0 0]) hr26 rfl (by simp[eP]) λh3 B3 u3=>?_;have e3:=e2.trans u3;have Z3:=Z2.ext u3;have f26:dZ h [r26]:=dZ.one (e2.none hr26);cases hg:(gI l key).isSome with
 | true=>
  simp only[aGK,cG,reduceIte,cT,Nat.reduceAdd];exact err e3 Z3 (hyes hg)
 | false=>
  have hgn:gI l key=none:=by simpa using hg
  have hno:=hno (by omega) (by omega) hgn;have epf:(jN l key).lv=if l=[] then [] else if gT l key=0 then [kD l 0] else if gT l key=l.length then [kD l (l.length-1)] else [kD l (gT l key-1),kD l (gT l key)]:=by
   unfold jN;rw[if_neg (by rw[hg];decide)];split
   ·rfl
   ·split
    ·rfl
    ·split<;>rfl
  -- the end
  have fin:∀{h5:PH} {v5:Value},dD h h5->Bx h5 r1 (Value.cells (Pf.val false (.slice none 0 0))).toList->Bx h5 r26 [.bool true,v5]->nK h3 h5 v5 (jN l key).lv->sC kk (pT r1 0) (pT r26 0) h5:=by
   intro h5 v5 e5 Z5 B5 L5;unfold sC aIh;have l5:cE PG h5 (loadAt cC (pT r26 0))=some (Pf.val true v5):=cC.agg B5 (by show 0+2≤2;decide);simp only[l5,cG,reduceIte,cT,Nat.reduceAdd];refine cC.put (vs:=[.bool true,v5]) Z5 (o:=0) rfl (by show 0+2≤2;decide) (by
    have:=L5.isc;simp[eP];exact this) λh6 B6 u6=>?_
   have l6:cE PG h6 (loadAt cC (pT r1 0))=some (Pf.val true v5):=cC.agg B6 (by show 0+2≤2;decide);simp only[l6,cG,reduceIte,cT,Nat.reduceAdd];exact hno h6 v5 ((L5.upd u6 (λb hb=>by simp at hb;rw[hb];exact Z3.known)).of e3) (e5.fresh u6 f1)
  -- with leaves
  have mk:∀{h4:PH} {js:List Nat} {av:Value},dD h3 h4->fR h4 1 av (js.map vX)->(∀j∈js,j<l.length)->js.length≤2->js.map (kD l)=(jN l key).lv->
    aT PG uJ #[v,av] h4 λv47 h48=>cY PG (dJ cN (pT r26 1) v47) h48 λv50 h51=>sC kk (pT r1 0) (pT r26 0) h51:=by
   intro h4 js av u4 A hj h2' ej;have e4:=e3.trans u4;refine aO9 (h0:=h3) u4 (hK.ext e4) (S.ext e4) H.small hl A hj h2' λh5 v5 L5 u5=>?_;refine cN.put ((B3.ext u4).ext u5) (o:=1) (by show 1<2;decide) L5.isc λh6 B6 u6=>?_;rw[ej] at L5;exact fin ((e4.trans u5).fresh u6 f26) (((Z3.ext u4).ext u5).upd u6 (by simpa using n126)) B6 (L5.upd u6 (λb hb=>by simp at hb;rw[hb];exact B3.known))
  by_cases h0:l=[]
  ·have q:((l.length:Int)==0)=true:=by simp[h0]
   rw[if_pos h0] at epf;simp only[lv,iA,q,cG,reduceIte,cT,Nat.reduceAdd];exact fin e3 Z3 B3 (by rw[epf];exact nK.nil)
  ·have hpos:=aG2.2 h0;have q:((l.length:Int)==0)=false:=by simpa using h0
   rw[if_neg h0] at epf;by_cases hp0:gT l key=0
   ·have q2:(((gT l key:Nat):Int)==0)=true:=by simp[hp0]
    rw[if_pos hp0] at epf;simp only[lv,iA,q,q2,il1,cC.f1,fJ,cG,reduceIte,cT,Nat.reduceAdd];intro r43 hr43;refine fL ?_
    try rw[cZ]
    have u4:dD h3 (h3.set r43 (.cells #[.int .i64 0] bT)):=cU.new hr43;have A:fR (h3.set r43 (.cells #[.int .i64 0] bT)) 1 (.slice (some ⟨r43,0,none⟩) 1 1) ([0].map vX):=(eD.lit (vX.rows [0]) dM (by simp) (by decide) (by simp[vX])).slR;exact mk u4 A (by simpa using hpos) (by simp) (by rw[epf];rfl)
   ·have q2:(((gT l key:Nat):Int)==0)=false:=by rw[beq_eq_false_iff_ne];omega
    have w1:IntKind.i64.wrap (((gT l key:Nat):Int)-1)=((gT l key-1:Nat):Int):=by rw[eX (by omega) (by omega)];omega
    rw[if_neg hp0] at epf;by_cases hpl:gT l key=l.length
    ·have q3:(((gT l key:Nat):Int)==(l.length:Int))=true:=by rw[hpl];simp
     rw[if_pos hpl] at epf;simp only[lv,iA,q,q2,q3,w1,il1,cC.f1,fJ,cG,reduceIte,cT,Nat.reduceAdd];intro r43 hr43;refine fL ?_
     try rw[cZ]
     have u4:dD h3 (h3.set r43 (.cells #[.int .i64 ((gT l key-1:Nat):Int)] bT)):=cU.new hr43;have A:fR (h3.set r43 (.cells #[.int .i64 ((gT l key-1:Nat):Int)] bT)) 1 (.slice (some ⟨r43,0,none⟩) 1 1) ([gT l key-1].map vX):=(eD.lit (vX.rows [gT l key-1]) dM (by simp) (by decide) (by simp[vX])).slR;exact mk u4 A (by simp;omega) (by simp) (by rw[epf,hpl];rfl)
    ·have q3:(((gT l key:Nat):Int)==(l.length:Int))=false:=by rw[beq_eq_false_iff_ne];omega
     rw[if_neg hpl] at epf;simp only[lv,iA,q,q2,q3,w1,il2,cC.f1,fJ,cG,reduceIte,cT,Nat.reduceAdd];intro r43 hr43;refine fL ?_
     try rw[cZ]
     have u4:dD h3 (h3.set r43 (.cells #[.int .i64 ((gT l key-1:Nat):Int),.int .i64 ((gT l key:Nat):Int)] bT)):=cU.new hr43;have A:fR (h3.set r43 (.cells #[.int .i64 ((gT l key-1:Nat):Int),.int .i64 ((gT l key:Nat):Int)] bT)) 1 (.slice (some ⟨r43,0,none⟩) 2 2) ([gT l key-1,gT l key].map vX):=(eD.lit (vX.rows [gT l key-1,gT l key]) dM (by simp) (by decide) (by simp[vX])).slR;exact mk u4 A (by simp;omega) (by simp) (by rw[epf];rfl)
end Go.Proofs.YtppgkeodaejgcaaGreatDoor
namespace Go.Proofs.YtppgkeodaejgcaaGreatDoor
open Go Bld
def aEO(x:Value×List Pr):List Value:=[x.1,.string (tx (lB x.2))]
theorem aEO.rows(l:List (Value×List Pr)):Rows 2 (l.map aEO):=λr hr=>by
 obtain⟨p,-,rfl⟩:=lO.1 hr;rfl
structure rZ(h:PH)(a:Nat)(s:St)(F:List Nat):Prop where
 here:∃(m:Nat) (l:List Pr) (v:Value) (bl:List (Value×List Pr)) (Fb G:List Nat),h a=some (.cells #[.map (some m),v,.int .u64 s.height] eM (0,0))∧aOD h m l∧l.Perm s.now∧eD h dT 2 v (bl.map aEO) Fb∧(∀x∈bl,fR h 2 x.1 (x.2.map Pr.cells)∧aDF x.1 G)∧
  bl.map (·.2)=s.blocks∧F=a::m::(Fb++G)∧a≠m∧a∉Fb∧m∉Fb∧∀g∈G,g≠a∧g≠m∧g∉Fb∧h g≠none
 ok:s.Ok
theorem rZ.upd{h h':PH}{a:Nat}{s:St}{F K:List Nat}(H:rZ h a s F)(u:cU K h h')(hd:∀b∈F,b∉K):rZ h' a s F:=by
 obtain⟨m,l,v,bl,Fb,G,h1,h2,h3,h4,h5,h6,rfl,h8,h9,h10,h11⟩:=H.here;refine⟨⟨m,l,v,bl,Fb,G,u.get h1 (hd _ (by simp)),jZ.upd h2 u (hd _ (by simp)),h3,h4.upd u (λb hb=>hd b (by simp[hb])),λx hx=>⟨(h5 x hx).1.upd u λy n c e=>hd _ ?_,(h5 x hx).2⟩,h6,rfl,h8,h9,h10,λg hg=>⟨(h11 g hg).1,(h11 g hg).2.1,(h11 g hg).2.2.1,?_⟩⟩,H.ok⟩
 ·have:=(h5 x hx).2 y n c e;simp[this]
 ·have:=(h11 g hg).2.2.2;obtain⟨o,ho⟩:=aHC.1 this;rw[u.get ho (hd g (by simp[hg]))];simp
theorem rZ.ext{h h':PH}{a:Nat}{s:St}{F:List Nat}(H:rZ h a s F)(u:dD h h'):rZ h' a s F:=H.upd u (by simp)
theorem rZ.known{h:PH}{a:Nat}{s:St}{F:List Nat}(H:rZ h a s F):∀b∈F,h b≠none:=by
 obtain⟨m,l,v,bl,Fb,G,h1,h2,h3,h4,h5,h6,rfl,h8,h9,h10,h11⟩:=H.here;intro b hb;simp only[gL,jG] at hb;rcases hb with rfl|rfl|hb|hb
 ·rw[h1];simp
 ·exact jZ.known h2
 ·exact h4.known b hb
 ·exact(h11 b hb).2.2.2
theorem St.Ok.new(n:Nat)(hn:n<18446744073709551616):St.Ok ⟨[],[[]],n⟩:=⟨List.Pairwise.nil,by simp,by simp,by simp[rN],by simp,by simp,by simp,hn⟩
theorem aT7{h:PH}(n:Nat)(hn:n<18446744073709551616)(hK:nJ h){k:cD}(hk:∀a h' F,rZ h' a ⟨[],[[]],n⟩ F->dZ h F->dD h h'->k (pT a 0) h'):aT PG aIi #[.int .u64 (n:Int)] h k:=by
 apply aJT.call;unfold aJT;simp only[aGW,cG,reduceIte];intro m hm;refine fL ?_
 try rw[cZ]
 have u1:dD h (h.set m (.map #[] 0)):=cU.new hm;have m1:aOD (h.set m (.map #[] 0)) m []:=jZ.new;generalize h.set m (.map #[] 0)=h1 at *;refine aMd (l:=[]) (by decide) (hK.ext u1) (eD.nil (e:=cM)).slR (λp hp=>by cases hp) λh2 u2=>?_;have b1:∀d:ByteArray,cV PG (build dT #[(1,.string d)])=some (.agg #[.slice none 0 0,.string d]):=λd=>by kernel_rfl
 have b2:∀d:ByteArray,jM PG (buildSlice fO 1 #[(0,.agg #[.slice none 0 0,.string d])])=some (.cells #[.slice none 0 0,.string d] dT,λr=>pure (.slice (some ⟨r,0,none⟩) 1 1)):=λd=>by kernel_rfl
 simp only[b1,b2,cG,reduceIte];intro r hr;refine fL ?_
 try rw[cZ]
 have u3:dD h2 (h2.set r (.cells #[.slice none 0 0,.string (tx (lB []))] dT)):=cU.new hr;have O3:eD (h2.set r (.cells #[.slice none 0 0,.string (tx (lB []))] dT)) dT 2 (.slice (some ⟨r,0,none⟩) 1 1) ([((.slice none 0 0:Value),([]:List Pr))].map aEO) [r]:=eD.lit (n:=1) (aEO.rows [((.slice none 0 0:Value),([]:List Pr))]) dM (by simp) (by decide) rfl;generalize h2.set r (.cells #[.slice none 0 0,.string (tx (lB []))] dT)=h3 at *;have b3:cV PG (build eM #[(0,.map (some m)),(1,.slice (some ⟨r,0,none⟩) 1 1),(2,.int .u64 (n:Int))])=some (.agg #[.map (some m),.slice (some ⟨r,0,none⟩) 1 1,.int .u64 (n:Int)]):=by kernel_rfl
 simp only[b3,cG,reduceIte];intro a ha
 try rw[cZ]
 have u4:dD h3 (h3.set a (.cells (Value.cells (.agg #[.map (some m),.slice (some ⟨r,0,none⟩) 1 1,.int .u64 (n:Int)])) eM)):=cU.new ha;have m3:=jZ.ext m1 (u2.trans u3);have hma:a≠m:=by rintro rfl;exact jZ.known m3 ha
 have har:a≠r:=by rintro rfl;exact O3.known _ (by simp) ha
 have hmr:m≠r:=by rintro rfl;exact jZ.known (jZ.ext m1 u2) hr
 refine hk a _ [a,m,r] ⟨⟨m,[],_,[(.slice none 0 0,[])],[r],[],dM,jZ.ext m3 u4,List.Perm.refl _,O3.ext u4,?_,rfl,rfl,hma,by simpa using har,by simpa using hmr,by simp⟩,St.Ok.new n hn⟩ (λb hb=>?_) (((u1.trans u2).trans u3).trans u4)
 ·intro x hx;simp only[fU] at hx;subst hx;exact⟨(eD.nil (e:=cM)).slR,λx n c e=>by cases e⟩
 ·simp only[gL,kJ,or_false] at hb;rcases hb with rfl|rfl|rfl
  ·exact((u1.trans u2).trans u3).none ha
  ·exact hm
  ·exact(u1.trans u2).none hr
theorem aS1{h:PH}{m:Nat}{l L:List Pr}(hm:aOD h m l)(hp:l.Perm L):cE PG h (Builtin.len_ #[dV] bT #[.map (some m)])=some (.int .i64 L.length):=by
 have lm:=jZ.len hm (t':=bT) dV.und;rw[iU,hp.length_eq] at lm;exact lm
theorem St.Ok.setOk{s:St}(H:s.Ok){k v:Tx}(hk:¬(k.length<1∨16<k.length∨64<v.length))(hf:¬(gI s.now k=none∧4096≤s.now.length)):St.Ok {s with now:=mW s.now ⟨k,v⟩}:=by
 refine⟨H.up.set _,λp hp=>?_,?_,H.blk,H.h1,H.h2,H.h3,H.h4⟩
 ·rcases sJ.1 hp with rfl|⟨h1,_⟩
  ·refine⟨?_,?_,?_⟩<;>simp only<;>omega
  ·exact H.fit p h1
 ·have hle:(mW s.now ⟨k,v⟩).length≤s.now.length+(if gI s.now k=none then 1 else 0):=by
   have hn:=(H.up.set ⟨k,v⟩).irr;split
   ·have:=aJR (mW s.now ⟨k,v⟩) (⟨k,v⟩::s.now) hn λp hp=>by
     rcases sJ.1 hp with rfl|⟨h1,_⟩
     ·simp
     ·simp[h1]
    simpa using this
   ·rename_i hne;obtain⟨q,hq⟩:=aHC.1 hne;obtain⟨q1,q2⟩:=(zM H.up).1 hq;have:=aJR (mW s.now ⟨k,v⟩) (⟨k,v⟩::s.now.erase q) hn λp hp=>by
     rcases sJ.1 hp with rfl|⟨h1,h2⟩
     ·simp
     ·refine aKr _ ?_;rw[List.mem_erase_of_ne]
      ·exact h1
      ·rintro rfl;exact h2 q2
    rw[uW,List.length_erase_of_mem q1] at this;have hpos:0<s.now.length:=List.length_pos_of_mem q1;omega
  have:=H.few;show(mW s.now ⟨k,v⟩).length≤4096;split at hle
  ·rename_i e;have:¬4096≤s.now.length:=λh=>hf ⟨e,h⟩;omega
  ·omega
theorem aWP{h:PH}{a:Nat}{s:St}{F:List Nat}(H:rZ h a s F)(k v:Tx){kk:cD}(hk:∀h',rZ h' a (aCd s k v).1 F->cU F h h'->kk (.int .i64 (aCd s k v).2) h'):
  aT PG aEX #[pT a 0,.string (tx k),.string (tx v)] h kk:=by
 apply aD4.call;unfold aD4;have fin1:(k.length<1∨16<k.length∨64<v.length)->kk (.int .i64 1) h:=λhb=>by
  have:=hk h (by unfold aCd;rw[if_pos hb];exact H) cU.refl;unfold aCd at this;rw[if_pos hb] at this;exact this
 by_cases d1:k.length<1
 ·have g1:((k.length:Int)<1)=True:=eq_true (by omega);simp only[bR.len,iB,g1,cG,reduceIte];exact fin1 (.inl d1)
 have g1:((k.length:Int)<1)=False:=eq_false (by omega);by_cases d2:16<k.length
 ·have g2:((16:Int)<(k.length:Int))=True:=eq_true (by omega);simp only[bR.len,iB,g1,g2,cG,reduceIte];exact fin1 (.inr (.inl d2))
 have g2:((16:Int)<(k.length:Int))=False:=eq_false (by omega);by_cases d3:64<v.length
 ·have g3:((64:Int)<(v.length:Int))=True:=eq_true (by omega);simp only[bR.len,iB,g1,g2,g3,cG,reduceIte];exact fin1 (.inr (.inr d3))
 have g3:((64:Int)<(v.length:Int))=False:=eq_false (by omega);have hok:=H.ok;have hr:¬(k.length<1∨16<k.length∨64<v.length):=by omega
 have hH:=H;obtain⟨m,l,vv,bl,Fb,G,ha,hm,hp,hO,hS,hbl,rfl,hn1,hn2,hn3,hG⟩:=H.here;have c0:dF h ⟨a,0,none⟩=some (.map (some m)):=by simp[dF,ha]
 have hg:=aKE hp hok.up k;have hl:=aS1 hm hp;have fin:¬(gI s.now k=none∧4096≤s.now.length)->cY PG (aHA dV (.map (some m)) (.string (tx k)) (.string (tx v))) h λv61 h62=>kk (.int .i64 0) h62:=λhc=>by
  refine aL7 aIb dV.und hm k (.string (tx v)) λh6 hm6 u6=>?_;obtain⟨l',e1,e2⟩:=aOm hp hok.up ⟨k,v⟩;have e1':aEZ (l.map Pr.pr) k (.string (tx v))=l'.map Pr.pr:=e1;rw[e1'] at hm6;have hs:aCd s k v=({s with now:=mW s.now ⟨k,v⟩},0):=by unfold aCd;rw[if_neg hr,if_neg hc]
  rw[hs] at hk;refine hk h6 ⟨⟨m,l',vv,bl,Fb,G,u6.get ha (by simpa using hn1),hm6,e2,hO.upd u6 (λb hb=>by simp;rintro rfl;exact hn3 hb),λx hx=>⟨(hS x hx).1.upd u6 λy n c e=>?_,(hS x hx).2⟩,hbl,rfl,hn1,hn2,hn3,λg hg=>⟨(hG g hg).1,(hG g hg).2.1,(hG g hg).2.2.1,?_⟩⟩,hok.setOk hr hc⟩ (u6.mono λb hb=>.inl (by simp at hb;simp[hb]))
  ·have:=(hG _ ((hS x hx).2 y n c e)).2.1;simpa using this
  ·obtain⟨o,ho⟩:=aHC.1 (hG g hg).2.2.2;rw[u6.get ho (by simpa using(hG g hg).2.1)];simp
 cases eg:gI s.now k with
 | some q=>
  simp only[bR.len,iB,g1,g2,g3,eM.f0,dV.load,c0,aHK hm,hg,eg,aMe,cG,reduceIte];exact fin (by simp[eg])
 | none=>
  by_cases d4:4096≤s.now.length
  ·have g4:((4096:Int)≤(s.now.length:Int))=True:=eq_true (by omega);simp only[bR.len,iB,g1,g2,g3,eM.f0,dV.load,c0,aHK hm,hg,eg,hl,g4,zLu,cG,reduceIte];have hs:aCd s k v=(s,2):=by unfold aCd;rw[if_neg hr,if_pos ⟨eg,d4⟩]
   have:=hk h (by rw[hs];exact hH) cU.refl;rw[hs] at this;exact this
  ·have g4:((4096:Int)≤(s.now.length:Int))=False:=eq_false (by omega);simp only[bR.len,iB,g1,g2,g3,eM.f0,dV.load,c0,aHK hm,hg,eg,hl,g4,zLu,cG,reduceIte];exact fin (λh=>d4 h.2)
theorem aSZ{h:PH}{a:Nat}{s:St}{F:List Nat}(H:rZ h a s F)(k:Tx){kk:cD}(hk:∀h',rZ h' a (aE5 s k).1 F->cU F h h'->kk (.int .i64 (aE5 s k).2) h'):
  aT PG aCc #[pT a 0,.string (tx k)] h kk:=by
 apply aBa.call;unfold aBa;have hok:=H.ok;have hH:=H;obtain⟨m,l,vv,bl,Fb,G,ha,hm,hp,hO,hS,hbl,rfl,hn1,hn2,hn3,hG⟩:=H.here;have c0:dF h ⟨a,0,none⟩=some (.map (some m)):=by simp[dF,ha]
 have hg:=aKE hp hok.up k;cases eg:gI s.now k with
 | none=>
  simp only[eM.f0,dV.load,c0,aHK hm,hg,eg,zLu,cG,reduceIte];have hs:aE5 s k=(s,3):=by unfold aE5;rw[if_pos eg]
  have:=hk h (by rw[hs];exact hH) cU.refl;rw[hs] at this;exact this
 | some q=>
  simp only[eM.f0,dV.load,c0,aHK hm,hg,eg,aMe,cG,reduceIte];refine aRa aIb dV.und hm k rfl λh6 hm6 u6=>?_;have hs:aE5 s k=({s with now:=uI s.now k},0):=by unfold aE5;rw[if_neg (by rw[eg];simp)]
  rw[hs] at hk;rw[aRH] at hm6;refine hk h6 ⟨⟨m,uI l k,vv,bl,Fb,G,u6.get ha (by simpa using hn1),hm6,hp.filter _,hO.upd u6 (λb hb=>by simp;rintro rfl;exact hn3 hb),λx hx=>⟨(hS x hx).1.upd u6 λy n c e=>?_,(hS x hx).2⟩,hbl,rfl,hn1,hn2,hn3,λg hg=>⟨(hG g hg).1,(hG g hg).2.1,(hG g hg).2.2.1,?_⟩⟩,⟨hok.up.del _,λp hp=>hok.fit p (aPD.1 hp).1,zLD (aMb _ _) hok.few,hok.blk,hok.h1,hok.h2,hok.h3,hok.h4⟩⟩ (u6.mono λb hb=>.inl (by simp at hb;simp[hb]))
  ·have:=(hG _ ((hS x hx).2 y n c e)).2.1;simpa using this
  ·obtain⟨o,ho⟩:=aHC.1 (hG g hg).2.2.2;rw[u6.get ho (by simpa using(hG g hg).2.1)];simp
theorem aME{h:PH}{a:Nat}{s:St}{F:List Nat}(H:rZ h a s F)(k:Tx){kk:cD}(hk:kk (.tuple #[.string (tx (((gI s.now k).map Pr.v).getD [])),.bool (gI s.now k).isSome]) h):
  aT PG sI #[pT a 0,.string (tx k)] h kk:=by
 apply aD8.call;unfold aD8;obtain⟨m,l,vv,bl,Fb,G,ha,hm,hp,hO,hS,hbl,rfl,hn1,hn2,hn3,hG⟩:=H.here;have c0:dF h ⟨a,0,none⟩=some (.map (some m)):=by simp[dF,ha]
 have hg:=aKE hp H.ok.up k;simp only[eM.f0,dV.load,c0,aHK hm,hg,cG,reduceIte];exact hk
theorem aXG{h:PH}{a:Nat}{s:St}{F:List Nat}(H:rZ h a s F){kk:cD}(hk:kk (.int .i64 s.now.length) h):aT PG aEa #[pT a 0] h kk:=by
 apply aDv.call;unfold aDv;obtain⟨m,l,vv,bl,Fb,G,ha,hm,hp,hO,hS,hbl,rfl,hn1,hn2,hn3,hG⟩:=H.here;have c0:dF h ⟨a,0,none⟩=some (.map (some m)):=by simp[dF,ha]
 simp only[eM.f0,dV.load,c0,aS1 hm hp,cG,reduceIte];exact hk
theorem aJN{h:PH}{a:Nat}{s:St}{F:List Nat}(H:rZ h a s F){kk:cD}(hk:kk (.int .u64 s.height) h):aT PG pN #[pT a 0] h kk:=by
 apply aBb.call;unfold aBb;obtain⟨m,l,vv,bl,Fb,G,ha,-⟩:=H.here;have c2:dF h ⟨a,0+2,none⟩=some (.int .u64 s.height):=by simp[dF,ha]
 simp only[eM.f2,cA.load,c2,cG,reduceIte];exact hk
def aR7(v:Value)(d:Tx):Value:=.agg #[v,.string (tx d)]
theorem aJx{s:St}{x:Nat}{b:List Pr}(h:oO s x=some b):¬(s.height<x∨s.blocks.length≤s.height-x)∧s.blocks[s.blocks.length-1-(s.height-x)]? =some b:=by
 unfold oO at h;split at h
 ·cases h
 ·rename_i hn;exact⟨hn,h⟩
theorem aM0{s:St}(hs:1≤s.blocks.length){x:Nat}:oO s x=none↔(s.height<x∨s.blocks.length≤s.height-x):=by
 unfold oO;split
 ·simp[*]
 ·rename_i hn;simp only[hn,iff_false,ne_eq];intro h;rw[List.getElem?_eq_none_iff] at h;omega
theorem zbl:dL PG dT= #[.slice none 0 0,.string (tx [])]:=by rw[dT.zc];rfl
theorem aVg{h:PH}{a:Nat}{s:St}{F:List Nat}(H:rZ h a s F)(x:Nat)(hx:x<18446744073709551616){k:cD}(hn:oO s x=none->∀h',dD h h'->k (.tuple #[aR7 (.slice none 0 0) [],.int .i64 3]) h')
  (hk:∀b v h',oO s x=some b->fR h' 2 v (b.map Pr.cells)->eP v=true->dD h h'->k (.tuple #[aR7 v (lB b),.int .i64 0]) h'):aT PG aCC #[pT a 0,.int .u64 (x:Int)] h k:=by
 apply aAE.call;unfold aAE;rw[zbl];intro r1 hr1
 try rw[cZ]
 have u1:dD h (h.set r1 (.cells #[.slice none 0 0,.string (tx [])] dT)):=cU.new hr1;have a1:(h.set r1 (.cells #[.slice none 0 0,.string (tx [])] dT)) r1=some (.cells #[.slice none 0 0,.string (tx [])] dT (0,0)):=dM;generalize h.set r1 (.cells #[.slice none 0 0,.string (tx [])] dT)=h1 at *;have H1:=H.ext u1;have hok:=H.ok;obtain⟨m,l,vv,bl,Fb,G,ha,hm,hp,hO,hS,hbl,rfl,hn1,hn2,hn3,hG⟩:=H1.here;have c1:dF h1 ⟨a,0+1,none⟩=some vv:=by simp[dF,ha]
 have c2:dF h1 ⟨a,0+2,none⟩=some (.int .u64 s.height):=by simp[dF,ha]
 have hbn:bl.length=s.blocks.length:=by rw[←hbl,iU]
 have lv:=hO.slR.len (t':=bT) fO.und;rw[iU,hbn] at lv;have h3:=hok.h3;have h4:=hok.h4;have h2:=hok.h2;have h1':=hok.h1;have ew:IntKind.u64.wrap ((s.blocks.length:Nat):Int)=((s.blocks.length:Nat):Int):=gJ (by omega) (by omega);have bz:cV PG (build dT #[])=some (.agg #[.slice none 0 0,.string (tx [])]):=by kernel_rfl
 have bad:oO s x=none->cY PG (dJ dT (pT r1 0) (.agg #[.slice none 0 0,.string (tx [])])) h1 λ_ h44=>dY (cE PG h44 (loadAt dT (pT r1 0))) λv45=>k (Value.tuple #[v45,(Value.int IntKind.i64 3)]) h44:=λhs=>by
  refine xF a1 dT.info rfl (by simp) rfl (by simp[eP]) ?_;have l1:=dT.loadAgg (h:=h1.set r1 (.cells #[.slice none 0 0,.string (tx [])] dT (0,0))) (b:=r1) (o:=0) dM (by simp);simp only[l1,cG,reduceIte];exact hn hs _ (u1.fresh (cU.set (F:=[r1]) (by simp)) (dZ.one hr1))
 by_cases d1:s.height<x
 ·have g1:((s.height:Int)<(x:Int))=True:=eq_true (by omega);simp only[eM.f2,cA.load,c2,g1,bz,cG,reduceIte];exact bad ((aM0 h1').2 (.inl d1))
 have g1:((s.height:Int)<(x:Int))=False:=eq_false (by omega);have e1:IntKind.u64.wrap ((s.height:Int)-(x:Int))=((s.height-x:Nat):Int):=by rw[gJ (by omega) (by omega)];omega
 by_cases d2:s.blocks.length≤s.height-x
 ·have g2:(((s.blocks.length:Nat):Int)≤((s.height-x:Nat):Int))=True:=eq_true (by omega);simp only[eM.f2,eM.f1,cA.load,fO.load,c1,c2,g1,e1,lv,aA7,ew,g2,bz,cG,reduceIte];exact bad ((aM0 h1').2 (.inr d2))
 have g2:(((s.blocks.length:Nat):Int)≤((s.height-x:Nat):Int))=False:=eq_false (by omega);have e2:IntKind.u64.wrap (((s.blocks.length:Nat):Int)-1)=((s.blocks.length-1:Nat):Int):=by rw[gJ (by omega) (by omega)];omega
 have e3:IntKind.u64.wrap (((s.blocks.length-1:Nat):Int)-((s.height-x:Nat):Int))=((s.blocks.length-1-(s.height-x):Nat):Int):=by rw[gJ (by omega) (by omega)];omega
 obtain⟨j,hj⟩:∃j,j=s.blocks.length-1-(s.height-x):=⟨_,rfl⟩;rw[←hj] at e3;have hjl:j<bl.length:=by omega
 have hrow:(bl.map aEO)[((j:Nat):Int).toNat]? =some (aEO bl[j]):=by rw[qF,wN,lU hjl];rfl
 obtain⟨pa,hpa,hload⟩:=hO.slR.loadAgg (t:=fO) (k:=.u64) (j:=((j:Nat):Int)) fO.und dT.info dT.size dT.und rfl (by omega) hrow;have hmem:bl[j]∈bl:=aLH hjl;have hsat:oO s x=some (bl[j]).2:=by
  unfold oO;rw[if_neg (by omega),←hj,←hbl,wN,lU hjl];rfl
 obtain⟨hs1,hs2⟩:=hS _ hmem;generalize bl[j]=y at *;have hyc:eP y.1=true:=by obtain⟨_,_,e,_⟩:=hs1.here;rw[e];rfl
 simp only[eM.f2,eM.f1,cA.load,fO.load,c1,c2,g1,e1,lv,aA7,ew,g2,e2,e3,hpa,hload,cG,reduceIte];refine xF a1 dT.info rfl (by simp[aEO]) rfl ?_ ?_
 ·intro v hv;simp only[aEO,gL,kJ,or_false] at hv;rcases hv with rfl|rfl
  ·exact hyc
  ·rfl
 ·have ub:dD h1 h1:=cU.refl;have u2:dD h (h1.set r1 (.cells (aEO y).toArray dT (0,0))):=u1.fresh (cU.set (F:=[r1]) (by simp)) (dZ.one hr1);have l1:=dT.loadAgg (h:=h1.set r1 (.cells (aEO y).toArray dT (0,0))) (b:=r1) (o:=0) dM (by simp[aEO]);have le:((aEO y).toArray).extract 0 (0+2)=(aEO y).toArray:=rfl;rw[le] at l1;simp only[l1,cG,reduceIte];refine hk y.2 y.1 _ hsat ?_ hyc u2;refine hs1.upd (cU.set (F:=[r1]) (by simp)) λz n c e=>?_;have:=hs2 z n c e;intro hm;simp only[fU] at hm;have hkn:=H.known z.block (by simp[this]);rw[hm] at hkn;exact hkn hr1
theorem aTv{h:PH}{a:Nat}{s:St}{F:List Nat}(H:rZ h a s F)(x:Nat)(hx:x<18446744073709551616){k:cD}(hn:oO s x=none->∀h',dD h h'->k (.tuple #[.string (tx []),.int .i64 3]) h')
  (hk:∀b h',oO s x=some b->dD h h'->k (.tuple #[.string (tx (lB b)),.int .i64 0]) h'):aT PG aDu #[pT a 0,.int .u64 (x:Int)] h k:=by
 apply aC9.call;unfold aC9;have key:∀(v:Value) (d:Tx) (e:Int) (h1:PH),eP v=true->(∀h',dD h1 h'->k (.tuple #[.string (tx d),.int .i64 e]) h')->∀r5,h1 r5=none->eJ (PH.set h1 r5 (.cells (dL PG dT) dT)) λh6=>
   cY PG (dJ dT (pT r5 0) (aR7 v d)) h6 λv7 h8=>dY (cV PG (fieldAt dT (pT r5 0) 1)) λv9=>dY (cE PG h8 (loadAt bR v9)) λv10=>k (Value.tuple #[v10,.int .i64 e]) h8:=by
  intro v d e h1 hv hkk r hr
  try rw[cZ]
  rw[zbl];refine xF dM dT.info rfl (by simp) rfl ?_ ?_
  ·intro y hy;simp only[gL,kJ,or_false] at hy;rcases hy with rfl|rfl
   ·exact hv
   ·rfl
  ·rw[aAX];have c1:dF (h1.set r (.cells #[v,.string (tx d)] dT (0,0))) ⟨r,0+1,none⟩=some (.string (tx d)):=by simp[dF,dM]
   simp only[dT.f1,bR.load,c1,cG,reduceIte];exact hkk _ (cU.new hr)
 refine aVg H x hx (λhs h1 u1=>?_) (λb v h1 hs S hv u1=>?_)
 ·simp only[cG,reduceIte];exact key _ _ _ h1 rfl (λh' u=>hn hs _ (u1.trans u))
 ·simp only[cG,reduceIte];exact key _ _ _ h1 hv (λh' u=>hk b _ hs (u1.trans u))
theorem aS0{h:PH}{v:Value}{l:List Pr}(S:fR h 2 v (l.map Pr.cells))(hl:l.length≤1000000){k:cD}(hk:∀v' h' F,eD h' cM 2 v' (l.map Pr.cells) F->dZ h F->dD h h'->k v' h'):aT PG pW #[v] h k:=by
 apply nS.call;unfold nS;have hS:=S;obtain⟨va,c,hv,hc1,hc2,hc3,-⟩:=S.here;rw[iU] at hv;subst hv;cases va with
 | none=>
  have hnil:l.map Pr.cells=[]:=by
   by_cases h0:l.map Pr.cells=[]
   ·exact h0
   ·obtain⟨b,o,cs,e,fr,e1,_⟩:=hc3 h0;cases e1
  have hl0:l=[]:=List.map_eq_nil_iff.1 hnil;subst hl0;simp only[aQG cJ.und,Option.isNone_none,cG,reduceIte];exact hk _ _ [] eD.nil (λb hb=>by cases hb) cU.refl
 | some va=>
  have b0:jM PG (buildSlice cJ 0 #[])=some (.cells #[] cM,λr=>pure (.slice (some ⟨r,0,none⟩) 0 0)):=by kernel_rfl
  simp only[aQG cJ.und,Option.isNone_some,b0,cG,reduceIte];intro r hr;refine fL ?_
  try rw[cZ]
  have u1:dD h (h.set r (.cells #[] cM)):=cU.new hr;have O1:eD (h.set r (.cells #[] cM)) cM 2 (.slice (some ⟨r,0,none⟩) 0 0) (([]:List Pr).map Pr.cells) [r]:=eD.lit (n:=0) (Pr.rows []) dM (by simp) (by decide) rfl;generalize h.set r (.cells #[] cM)=h1 at *;refine jF cJ.und cJ.und cM.info cM.size cM.bytes cM.zero rfl (by decide) O1 (hS.ext u1) (Pr.isCell l) (by simp;omega) ?_;intro v2 h2 F2 O2 u2 k2 _;rw[iV,xZ] at O2;exact hk _ _ F2 O2 (λb hb=>by
   rcases k2 b hb with h1|h1
   ·simp only[fU] at h1;subst h1;exact hr
   ·exact u1.none h1) (u1.fresh u2 (dZ.one hr))
theorem aYg{h:PH}{a:Nat}{s:St}{F:List Nat}(H:rZ h a s F)(x:Nat)(hx:x<18446744073709551616){k:cD}(hn:oO s x=none->∀v h' F',eD h' cM 2 v (([]:List Pr).map Pr.cells) F'->dZ h F'->dD h h'->k (.tuple #[v,.int .i64 3]) h')
  (hk:∀b v h' F',oO s x=some b->eD h' cM 2 v (b.map Pr.cells) F'->dZ h F'->dD h h'->k (.tuple #[v,.int .i64 0]) h'):aT PG aE6 #[pT a 0,.int .u64 (x:Int)] h k:=by
 apply aEw.call;unfold aEw;have hok:=H.ok;have key:∀(v:Value) (b:List Pr) (d:Tx) (e:Int) (h1:PH),eP v=true->fR h1 2 v (b.map Pr.cells)->b.length≤4096->(∀v' h' F',eD h' cM 2 v' (b.map Pr.cells) F'->dZ h1 F'->dD h1 h'->k (.tuple #[v',.int .i64 e]) h')->∀r5,h1 r5=none->eJ (PH.set h1 r5 (.cells (dL PG dT) dT)) λh6=>
   cY PG (dJ dT (pT r5 0) (aR7 v d)) h6 λv7 h8=>dY (cV PG (fieldAt dT (pT r5 0) 0)) λv9=>dY (cE PG h8 (loadAt iS v9)) λv10=>aT PG aCP #[v10] h8 λv11 h12=>k (Value.tuple #[v11,.int .i64 e]) h12:=by
  intro v b d e h1 hv S hbl hkk r hr
  try rw[cZ]
  rw[zbl];refine xF dM dT.info rfl (by simp) rfl ?_ ?_
  ·intro y hy;simp only[gL,kJ,or_false] at hy;rcases hy with rfl|rfl
   ·exact hv
   ·rfl
  ·rw[aAX];have u2:dD h1 (h1.set r (.cells #[v,.string (tx d)] dT (0,0))):=cU.new hr;have a2:(h1.set r (.cells #[v,.string (tx d)] dT (0,0))) r=some (.cells #[v,.string (tx d)] dT (0,0)):=dM;generalize h1.set r (.cells #[v,.string (tx d)] dT (0,0))=h2 at *;have l1:=iS.loadAgg (o:=0) a2 (by simp);have le:(#[v,.string (tx d)]:Array Value).extract 0 (0+1)= #[v]:=rfl;rw[le] at l1;simp only[dT.f0,l1,cG,reduceIte];apply aBR.call;unfold aBR;intro r2 hr2
   try rw[cZ]
   have ec:Value.cells (.agg #[v])= #[v]:=rfl;rw[ec];have u3:dD h2 (h2.set r2 (.cells #[v] iS)):=cU.new hr2;have a3:(h2.set r2 (.cells #[v] iS)) r2=some (.cells #[v] iS (0,0)):=dM;generalize h2.set r2 (.cells #[v] iS)=h3 at *;have c0:dF h3 ⟨r2,0,none⟩=some v:=by simp[dF,a3]
   simp only[iS.f0,cJ.load,c0,cG,reduceIte];have u:=u2.trans u3;refine aS0 (S.ext u) (by omega) λv' h4 F4 O4 f4 u4=>?_;exact hkk v' h4 F4 O4 (f4.of u) (u.trans u4)
 refine aVg H x hx (λhs h1 u1=>?_) (λb v h1 hs S hv u1=>?_)
 ·simp only[cG,reduceIte];exact key _ [] _ _ h1 rfl (eD.nil (e:=cM)).slR (by decide) (λv' h' F' O' f' u'=>hn hs v' h' F' O' (f'.of u1) (u1.trans u'))
 ·simp only[cG,reduceIte];have hb:b∈s.blocks:=rA (aJx hs).2;exact key _ b _ _ h1 hv S (hok.blk b hb).2.2 (λv' h' F' O' f' u'=>hk b v' h' F' hs O' (f'.of u1) (u1.trans u'))
def unP(q:Tx×Value):Pr:=match q.2 with
 | Value.string t=>⟨q.1,t.data.toList⟩
 | _=>⟨[],[]⟩
theorem aYA(p:Pr):unP p.pr=p:=by
 obtain⟨k,v⟩:=p;simp[unP,Pr.pr,sB,tx]
theorem aTY(l:List Pr):(l.map Pr.pr).map unP=l:=by
 rw[zL2];have:unP ∘ Pr.pr=id:=by funext p;exact aYA p
 rw[this,List.map_id]
theorem aW6{a b:List Pr}(h:(a.map Pr.pr).Perm (b.map Pr.pr)):a.Perm b:=by
 have:=h.map unP;rw[aTY,aTY] at this;exact this
theorem rN.of{l L:List Pr}(hp:l.Perm L)(hs:rN L)(ho:l.Pairwise λa b=>¬b.k<a.k):l=L:=by
 have hk:(l.map Pr.k).Nodup:=(hp.map Pr.k).nodup_iff.2 hs.keys;have hu:rN l:=by
  unfold List.Nodup at hk;rw[List.pairwise_map] at hk;have:=ho.and hk;refine List.Pairwise.imp (fun {a b} hab=>?_) this;obtain⟨h1,h2⟩:=hab;rcases aHB a.k b.k with h|h|h
  ·exact h
  ·exact absurd h h2
  ·exact absurd h h1
 exact hu.ext hs λp=>hp.mem_iff
theorem aPb(p:Pr):cV PG (build cM #[(0,.string (tx p.k)),(1,.string (tx p.v))])=some p.val:=by kernel_rfl
theorem aTj(p:Pr):jM PG (buildSlice cJ 1 #[(0,p.val)])=some (.cells #[.string (tx p.k),.string (tx p.v)] cM,λr=>pure (.slice (some ⟨r,0,none⟩) 1 1)):=by kernel_rfl
theorem aUY(a:Option Addr)(n c:Nat):cV PG (build iS #[(0,.slice a n c)])=some (.agg #[.slice a n c]):=by kernel_rfl
theorem aT9(a:Option Addr)(n c:Nat)(d:ByteArray):cV PG (build dT #[(0,.agg #[.slice a n c]),(1,.string d)])=some (.agg #[.slice a n c,.string d]):=by kernel_rfl
theorem aXV(a:Option Addr)(n c:Nat)(d:ByteArray):jM PG (buildSlice fO 1 #[(0,.agg #[.slice a n c,.string d])])=some (.cells #[.slice a n c,.string d] dT,λr=>pure (.slice (some ⟨r,0,none⟩) 1 1)):=by kernel_rfl
theorem aSv{h:PH}{a:Nat}{s:St}{F:List Nat}(hK:nJ h)(H:rZ h a s F){k:cD}(hk:∀h' F',rZ h' a (jV s).1 F'->cU F h h'->(∀b∈F',b∈F∨h b=none)->k (.tuple #[.int .u64 ((jV s).2.1:Int),.int .i64 (jV s).2.2]) h'):
  aT PG aCN #[pT a 0] h k:=by
 apply sM.call;unfold sM;have hok:=H.ok;have hH:=H;have hkn:=H.known;obtain⟨m,l,vv,bl,Fb,G,ha,hm,hp,hO,hS,hbl,rfl,hn1,hn2,hn3,hG⟩:=H.here;have c0:dF h ⟨a,0,none⟩=some (.map (some m)):=by simp[dF,ha]
 have c1:dF h ⟨a,0+1,none⟩=some vv:=by simp[dF,ha]
 have c2:dF h ⟨a,0+2,none⟩=some (.int .u64 s.height):=by simp[dF,ha]
 have h4:=hok.h4;by_cases d1:s.height=18446744073709551615
 ·have g1:((s.height:Int)==18446744073709551615)=true:=by simp;omega
  simp only[eM.f2,cA.load,c2,g1,cG,reduceIte];have hs:jV s=(s,(0,12)):=by unfold jV;rw[if_pos d1]
  rw[hs] at hk;exact hk h _ hH cU.refl (λb hb=>.inl hb)
 have g1:((s.height:Int)==18446744073709551615)=false:=by simp;omega
 have lv:=hO.slR.len (t':=bT) fO.und;have hbn:bl.length=s.blocks.length:=by rw[←hbl,iU]
 rw[iU,hbn] at lv;by_cases d2:4096≤s.blocks.length
 ·have g2:((4096:Int)≤((s.blocks.length:Nat):Int))=True:=eq_true (by omega);simp only[eM.f2,eM.f1,cA.load,fO.load,c1,c2,lv,g1,g2,cG,reduceIte];have hs:jV s=(s,(0,2)):=by unfold jV;rw[if_neg d1,if_pos d2]
  rw[hs] at hk;exact hk h _ hH cU.refl (λb hb=>.inl hb)
 have g2:((4096:Int)≤((s.blocks.length:Nat):Int))=False:=eq_false (by omega);simp only[eM.f2,eM.f1,eM.f0,cA.load,fO.load,dV.load,c0,c1,c2,lv,g1,g2,cG,reduceIte];refine aUo dV.und hm λit h1 hit HI u1=>?_;have hll:l.length≤4096:=by rw[hp.length_eq];exact hok.few
 refine⟨λvs h'=>∃(pre:List Pr) (v:Value) (Fl:List Nat),vs=[pT a 0,v,pT it 0]∧aBw sB h' m it (l.map Pr.pr) (pre.map Pr.pr)∧eD h' cM 2 v (pre.map Pr.cells) Fl∧dZ h Fl∧it∉Fl∧dD h h',λ_ h'=>aP6 l.length it h',⟨[],_,[],rfl,HI,eD.nil,(λb hb=>by cases hb),by simp,u1⟩,?_⟩;rintro ρ h' ⟨pre,v,Fl,hvs,HI,O,fl,hil,u⟩;simp only[iJ,iV,kW,and_true] at hvs;obtain⟨v0,v4,v24⟩:=hvs;simp only[v0,v4,v24,iJ,iV];unfold aFO;have hlen:=HI.le;rw[iU,iU] at hlen;refine aWV HI (λhperm=>?_) (λky vl h2 hmem hnot HI2 u2=>?_)
 ·-- all are gathered
  have hpp:pre.Perm s.now:=(aW6 hperm).trans hp;simp only[cG,reduceIte];refine aU1 O (by omega) λl' h2 hp2 hs2 O2 u2=>?_;have hl':l'=s.now:=rN.of (hp2.trans hpp) hok.up hs2;subst hl';have e2:dD h h2:=u.fresh u2 fl;have ha2:=e2.get ha;have c1:dF h2 ⟨a,0+1,none⟩=some vv:=by simp[dF,ha2]
  obtain⟨va,cap,hv,-⟩:=O2.slR.here;rw[iU] at hv;have hsl:=O2.slR;rw[hv] at hsl;simp only[eM.f1,fO.load,c1,hv,aUY,cG,reduceIte];refine aMd (by have:=hok.few;omega) (hK.ext e2) hsl (λp hp=>by have:=hok.fit p hp;unfold aOM at this;omega) λh3 u3=>?_;have e3:=e2.trans u3;have ha3:=e3.get ha;refine⟨by simp[dF,ha3],?_⟩;simp only[aT9,aXV,cG,reduceIte];intro r hr;refine fL ?_
  try rw[cZ]
  have u4:dD h3 (h3.set r (.cells #[.slice va s.now.length cap,.string (tx (lB s.now))] dT)):=cU.new hr;have s4:fR (h3.set r (.cells #[.slice va s.now.length cap,.string (tx (lB s.now))] dT)) 2 (.slice (some ⟨r,0,none⟩) 1 1) ([((.slice va s.now.length cap:Value),s.now)].map aEO):=(eD.lit (n:=1) (aEO.rows [((.slice va s.now.length cap:Value),s.now)]) dM (by simp) (by decide) rfl).slR;generalize h3.set r (.cells #[.slice va s.now.length cap,.string (tx (lB s.now))] dT)=h4' at *;have e4:=e3.trans u4;have hO4:=hO.ext e4;refine jF fO.und fO.und dT.info dT.size dT.bytes dT.zero rfl (by decide) hO4 s4 ?_ (by simp only[iU,zLS];omega) ?_
  ·intro r hr u hu;obtain⟨y,hy,rfl⟩:=lO.1 hr;simp only[fU] at hy;subst hy;simp only[aEO,gL,kJ,or_false] at hu;rcases hu with rfl|rfl<;>rfl
  intro v5 h5 F5 O5 u5 k5 _;have ha4:=e4.get ha;have ha5:=u5.get ha4 hn2;obtain⟨x5,y5,hv5,-⟩:=O5.slR.here;have hvc:eP v5=true:=by rw[hv5];rfl
  try simp only[eM.f1,cG,reduceIte]
  refine iT fO.und rfl ha5 (by simp) hvc fO.info fO.size ?_;have ew1:(#[(Value.map (some m)),vv,.int .u64 (s.height:Int)]:Array Value).setIfInBounds (0+1) v5= #[.map (some m),v5,.int .u64 (s.height:Int)]:=rfl;rw[ew1];have u6:cU [a] h5 (h5.set a (.cells #[.map (some m),v5,.int .u64 (s.height:Int)] eM (0,0))):=cU.set (by simp);have a6:(h5.set a (.cells #[.map (some m),v5,.int .u64 (s.height:Int)] eM (0,0))) a=some (.cells #[.map (some m),v5,.int .u64 (s.height:Int)] eM (0,0)):=dM;generalize h5.set a (.cells #[.map (some m),v5,.int .u64 (s.height:Int)] eM (0,0))=h6 at *;have c2:dF h6 ⟨a,0+2,none⟩=some (.int .u64 s.height):=by simp[dF,a6]
  have ei:IntKind.u64.wrap ((s.height:Int)+1)=((s.height+1:Nat):Int):=by rw[gJ (by omega) (by omega)];omega
  simp only[eM.f2,cA.load,c2,ei,cG,reduceIte];refine iT cA.und rfl a6 (by simp) rfl cA.info cA.size ?_;have ew2:(#[(Value.map (some m)),v5,.int .u64 (s.height:Int)]:Array Value).setIfInBounds (0+2) (.int .u64 ((s.height+1:Nat):Int))= #[.map (some m),v5,.int .u64 ((s.height+1:Nat):Int)]:=rfl;rw[ew2];have u7:cU [a] h6 (h6.set a (.cells #[.map (some m),v5,.int .u64 ((s.height+1:Nat):Int)] eM (0,0))):=cU.set (by simp);have a7:(h6.set a (.cells #[.map (some m),v5,.int .u64 ((s.height+1:Nat):Int)] eM (0,0))) a=some (.cells #[.map (some m),v5,.int .u64 ((s.height+1:Nat):Int)] eM (0,0)):=dM;generalize h6.set a (.cells #[.map (some m),v5,.int .u64 ((s.height+1:Nat):Int)] eM (0,0))=h7 at *;have c2:dF h7 ⟨a,0+2,none⟩=some (.int .u64 ((s.height+1:Nat):Int)):=by simp[dF,a7]
  simp only[eM.f2,cA.load,c2,cG,reduceIte];have hs:jV s=({s with blocks:=s.blocks++[s.now],height:=s.height+1},(s.height+1,0)):=by unfold jV;rw[if_neg d1,if_neg d2]
  rw[hs] at hk
  -- what was changed
  have w5:cU (a::Fb) h4' h5:=u5.mono λb hb=>.inl (by simp[hb]);have w7:cU (a::Fb) h5 h7:=(u6.trans u7).mono λb hb=>.inl (by simp at hb;simp[hb]);have w:cU (a::Fb) h4' h7:=w5.trans w7;have wh:cU (a::Fb) h h7:=e4.upd.trans w;have hflh:∀b∈Fl,b≠a∧b≠m∧b∉Fb:=λb hb=>by
   have:=fl b hb;refine⟨λe=>?_,λe=>?_,λe=>?_⟩
   ·subst e;rw[ha] at this;cases this
   ·subst e;exact jZ.known hm this
   ·exact hO.known b e this
  have hO4l:=(O2.ext u3).ext u4;have hFlk:∀b∈Fl,h4' b≠none:=hO4l.known;have hnoF5:∀b,h4' b≠none->b∉Fb->b∉F5:=λb h1 h2 h3=>by
   rcases k5 b h3 with h|h
   ·exact h2 h
   ·exact h1 h
  have ha4n:h4' a≠none:=by rw[ha4];simp
  have hm4n:h4' m≠none:=jZ.known (jZ.ext hm e4);have hG4:∀g∈G,h4' g≠none:=λg hg=>by
   obtain⟨o,ho⟩:=aHC.1 (hG g hg).2.2.2;rw[e4.get ho];simp
  have hOl7:=hO4l.upd w (λb hb=>by simp only[gL,not_or];exact⟨(hflh b hb).1,(hflh b hb).2.2⟩);refine hk h7 (a::m::(F5++(G++Fl))) ⟨⟨m,l,v5,bl++[(.slice va s.now.length cap,s.now)],F5,G++Fl,a7,jZ.upd hm wh (by simp only[gL,not_or];exact⟨hn1.symm,hn3⟩),hp,?_,?_,?_,rfl,hn1,hnoF5 a ha4n hn2,hnoF5 m hm4n hn3,?_⟩,?_⟩ (wh.mono λb hb=>.inl ?_) ?_
  ·rw[qX];exact O5.upd (u6.trans u7) (λb hb=>by simp only[fU];rintro rfl;exact hnoF5 _ ha4n hn2 hb)
  ·intro x hx;rw[jG] at hx;rcases hx with hx|hx
   ·refine⟨(hS x hx).1.upd wh λy n c e=>?_,λy n c e=>zLk _ ((hS x hx).2 y n c e)⟩;have hg:=hG _ ((hS x hx).2 y n c e);simp only[gL,not_or];exact⟨hg.1,hg.2.2.1⟩
   ·simp only[fU] at hx;subst hx;have hs7:=hOl7.slR;rw[hv] at hs7;refine⟨hs7,λy n c e=>zLl _ ?_⟩;rcases hOl7.here with⟨e1,_,_⟩|⟨b,cap',cs,e1,e2,_⟩
    ·rw[hv] at e1;simp only[Value.slice.injEq] at e1 e;rw[e1.1] at e;cases e.1
    ·rw[hv] at e1;simp only[Value.slice.injEq] at e1 e;rw[e1.1] at e;simp only[zL8] at e;rw[←e.1,e2];simp
  ·rw[qX,hbl];rfl
  ·intro g hg;rw[jG] at hg;have wk:h4' g≠none->g≠a->g∉Fb->h7 g≠none:=λh1 h2 h3=>by
    obtain⟨o,ho⟩:=aHC.1 h1;rw[w.get ho (by simp only[gL,not_or];exact⟨h2,h3⟩)];simp
   rcases hg with hg|hg
   ·have:=hG g hg;exact⟨this.1,this.2.1,hnoF5 g (hG4 g hg) this.2.2.1,wk (hG4 g hg) this.1 this.2.2.1⟩
   ·have:=hflh g hg;exact⟨this.1,this.2.1,hnoF5 g (hFlk g hg) this.2.2,wk (hFlk g hg) this.1 this.2.2⟩
  ·refine⟨hok.up,hok.fit,hok.few,λb hb=>?_,?_,?_,?_,?_⟩
   ·simp only[jG,fU] at hb;rcases hb with hb|rfl
    ·exact hok.blk b hb
    ·exact⟨hok.up,hok.fit,hok.few⟩
   ·simp
   ·simp only[jR,zLS];omega
   ·have:=hok.h3;have:=hok.h1;simp only[jR,zLS];omega
   ·show s.height+1<18446744073709551616;omega
  ·simp only[gL] at hb;simp only[gL,jG];rcases hb with hb|hb
   ·exact .inl hb
   ·exact .inr (.inr (.inl hb))
  ·intro b hb;simp only[gL,jG] at hb ⊢;rcases hb with hb|hb|hb|hb|hb
   ·exact .inl (.inl hb)
   ·exact .inl (.inr (.inl hb))
   ·rcases k5 b hb with h1|h1
    ·exact .inl (.inr (.inr (.inl h1)))
    ·exact .inr (e4.none h1)
   ·exact .inl (.inr (.inr (.inr hb)))
   ·exact .inr (fl b hb)
 ·-- one more
  obtain⟨p,hpl,hpe⟩:=lO.1 hmem;have hky:ky=p.k:=by have:=congrArg Prod.fst hpe;exact this.symm
  have hvl:vl= .string (tx p.v):=by have:=congrArg Prod.snd hpe;exact this.symm
  subst hky hvl;have O2:=O.upd u2 (λb hb=>by simp only[fU];rintro rfl;exact hil hb);have e2:dD h h2:=u.fresh u2 (dZ.one hit);simp only[cG,reduceIte];refine aUO HI2 ?_;have ek:sB p.k= .string (tx p.k):=rfl;simp only[ek,aPb,aTj,cG,reduceIte];intro r hr;refine fL ?_
  try rw[cZ]
  have u3:dD h2 (h2.set r (.cells #[.string (tx p.k),.string (tx p.v)] cM)):=cU.new hr;have s3:fR (h2.set r (.cells #[.string (tx p.k),.string (tx p.v)] cM)) 2 (.slice (some ⟨r,0,none⟩) 1 1) ([p].map Pr.cells):=(eD.lit (n:=1) (Pr.rows [p]) dM (by simp) (by decide) rfl).slR;generalize h2.set r (.cells #[.string (tx p.k),.string (tx p.v)] cM)=h3 at *;have HI3:=HI2.upd u3 (by simp) (by simp);have O3:=O2.ext u3;refine jF cJ.und cJ.und cM.info cM.size cM.bytes cM.zero rfl (by decide) O3 s3 (Pr.isCell [p]) (by simp;omega) ?_;intro v4' h4' F4 O4 u4 k4 _;have e3:=e2.trans u3;have hit3:it∉F4:=λhm=>by
   rcases k4 it hm with h1|h1
   ·exact hil h1
   ·exact HI3.known h1
  have HI4:=HI3.upd u4 (λhm'=>by have:=fl m hm';exact jZ.known hm this) hil;refine⟨⟨pre++[p],v4',F4,(by trivial),?_,?_,fl.grow e3 k4,hit3,e3.fresh u4 fl⟩,?_⟩
  ·rw[qX];exact HI4
  ·rw[qX];exact O4
  ·rw[HI4.left,HI.left];have:=HI4.le;simp only[jR,iU,uW,zLM] at this ⊢;omega
end Go.Proofs.YtppgkeodaejgcaaGreatDoor
namespace Go.Proofs.YtppgkeodaejgcaaGreatDoor
open Go
structure Ch where
 id:Int
 st:St
 first:Nat
 blk:List (List Nt)
 nts:List Nt
 cl:List gV
 seq:Nat
def stA(a:Nat)(s:St):mF:=λh F=>rZ h a s F
theorem stA.good(a:Nat)(s:St):mA (stA a s):=⟨λH=>rZ.known H,λH u hK=>rZ.upd H u hK⟩
def aC8(m:Nat)(l:List Pr):mF:=λh F=>F=[m]∧aOD h m l
theorem aC8.good(m:Nat)(l:List Pr):mA (aC8 m l) where
 known:=by
  rintro h F ⟨rfl,H⟩ b hb;simp only[fU] at hb;subst hb;exact jZ.known H
 upd:=by
  rintro h h' F K ⟨rfl,H⟩ u hK;exact⟨rfl,jZ.upd H u (hK m (by simp))⟩
def aC6(a:Nat)(l:List gV):mF:=λh F=>∃hs,qB h a l hs F
theorem aC6.good(a:Nat)(l:List gV):mA (aC6 a l):=⟨λ⟨_,H⟩=>qB.known H,λ⟨hs,H⟩ u hK=>⟨hs,qB.upd H u hK⟩⟩
def aKn(x:Value×List Nt):List Value:=[x.1]
theorem aKn.rows(l:List (Value×List Nt)):Rows 1 (l.map aKn):=λr hr=>by obtain⟨m,_,rfl⟩:=lO.1 hr;rfl
def aAw(v:Value)(blk:List (List Nt)):mF:=λh F=>∃(bl:List (Value×List Nt)) (Fb G:List Nat),eD h dR 1 v (bl.map aKn) Fb∧(∀x∈bl,fR h 5 x.1 (x.2.map Nt.cells)∧aDF x.1 G)∧bl.map (·.2)=blk∧F=Fb++G∧∀g∈G,g∉Fb∧h g≠none
theorem aAw.good(v:Value)(blk:List (List Nt)):mA (aAw v blk) where
 known:=by
  rintro h F ⟨bl,Fb,G,O,S,e,rfl,hG⟩ b hb;rcases jG.1 hb with hb|hb
  ·exact O.known b hb
  ·exact(hG b hb).2
 upd:=by
  rintro h h' F K ⟨bl,Fb,G,O,S,e,rfl,hG⟩ u hK;refine⟨bl,Fb,G,O.upd u (λb hb=>hK b (by simp[hb])),λx hx=>⟨(S x hx).1.upd u λa n c ev=>hK _ (by have:=(S x hx).2 a n c ev;simp[this]),(S x hx).2⟩,e,rfl,λg hg=>⟨(hG g hg).1,?_⟩⟩;obtain⟨o,ho⟩:=aHC.1 (hG g hg).2;rw[u.get ho (hK g (by simp[hg]))];simp
def Ch.cells(s:Ch)(sp:Nat)(bv nv:Value)(m cp:Nat):List Value:=[pT sp 0,.int .u64 s.first,bv,nv,.map (some m),.int .i64 s.id,pT cp 0,.int .u64 s.seq]
def jE(c:Nat)(cs:List Value)(sp:Nat)(st:St)(m:Nat)(lk:List Pr)(cp:Nat)(cl:List gV)(nv:Value)(nts:List Nt)(bv:Value)(blk:List (List Nt)):mF:=
eO (vT c cs) (eO (stA sp st) (eO (aC8 m lk) (eO (aC6 cp cl) (eO (wU fY 5 nv (nts.map Nt.cells)) (aAw bv blk)))))
structure Ch.Ok(s:Ch):Prop where
 id:s.id=0∨s.id=1
 len:s.blk.length=s.st.blocks.length
 first:s.first+(s.blk.length-1)=s.st.height
 seq:s.seq<18446744073709551616
 seq1:1≤s.seq
 nts:s.nts.length≤1000000
 wf:∀n∈s.nts,n.p.wf
 bwf:∀b∈s.blk,b.length≤1000000∧∀n∈b,n.p.wf
def iF(c:Nat)(s:Ch):mF:=λh F=>∃sp m cp nv bv lk,jE c (s.cells sp bv nv m cp) sp s.st m lk cp s.cl nv s.nts bv s.blk h F∧lk.Perm s.st.now∧s.Ok
section
variable{c:Nat}{cs:List Value}{sp:Nat}{st:St}{m:Nat}{lk:List Pr}{cp:Nat}{cl:List gV}{nv:Value}{nts:List Nt}{bv:Value}{blk:List (List Nt)}
theorem gN:mA (wU fY 5 nv (nts.map Nt.cells)):=wU.good _ _ _ _
theorem g5:mA (eO (wU fY 5 nv (nts.map Nt.cells)) (aAw bv blk)):=gN.star (aAw.good _ _)
theorem g4:mA (eO (aC6 cp cl) (eO (wU fY 5 nv (nts.map Nt.cells)) (aAw bv blk))):=(aC6.good _ _).star g5
theorem g3:mA (eO (aC8 m lk) (eO (aC6 cp cl) (eO (wU fY 5 nv (nts.map Nt.cells)) (aAw bv blk)))):=(aC8.good _ _).star g4
theorem g2:mA (eO (stA sp st) (eO (aC8 m lk) (eO (aC6 cp cl) (eO (wU fY 5 nv (nts.map Nt.cells)) (aAw bv blk))))):=(stA.good _ _).star g3
theorem jE.good:mA (jE c cs sp st m lk cp cl nv nts bv blk):=(vT.good _ _).star g2
variable{h:PH}{F:List Nat}(H:jE c cs sp st m lk cp cl nv nts bv blk h F)
include H
theorem jE.fBox:aBB h F (vT c cs) (λX=>eO X (eO (stA sp st) (eO (aC8 m lk) (eO (aC6 cp cl) (eO (wU fY 5 nv (nts.map Nt.cells)) (aAw bv blk)))))):=eO.left g2 H
theorem jE.fSt:aBB h F (stA sp st) (λX=>eO (vT c cs) (eO X (eO (aC8 m lk) (eO (aC6 cp cl) (eO (wU fY 5 nv (nts.map Nt.cells)) (aAw bv blk)))))):=(eO.right (vT.good _ _) H).comp λ_ H=>eO.left g3 H
theorem jE.fMap:aBB h F (aC8 m lk) (λX=>eO (vT c cs) (eO (stA sp st) (eO X (eO (aC6 cp cl) (eO (wU fY 5 nv (nts.map Nt.cells)) (aAw bv blk)))))):=(eO.right (vT.good _ _) H).comp λ_ H=>(eO.right (stA.good _ _) H).comp λ_ H=>eO.left g4 H
theorem jE.fCli:aBB h F (aC6 cp cl) (λX=>eO (vT c cs) (eO (stA sp st) (eO (aC8 m lk) (eO X (eO (wU fY 5 nv (nts.map Nt.cells)) (aAw bv blk)))))):=(eO.right (vT.good _ _) H).comp λ_ H=>(eO.right (stA.good _ _) H).comp λ_ H=>(eO.right (aC8.good _ _) H).comp λ_ H=>eO.left g5 H
theorem jE.fNts:aBB h F (wU fY 5 nv (nts.map Nt.cells)) (λX=>eO (vT c cs) (eO (stA sp st) (eO (aC8 m lk) (eO (aC6 cp cl) (eO X (aAw bv blk)))))):=(eO.right (vT.good _ _) H).comp λ_ H=>(eO.right (stA.good _ _) H).comp λ_ H=>(eO.right (aC8.good _ _) H).comp λ_ H=>(eO.right (aC6.good _ _) H).comp λ_ H=>eO.left (aAw.good _ _) H
theorem jE.fTwo:aBB h F (eO (wU fY 5 nv (nts.map Nt.cells)) (aAw bv blk)) (λX=>eO (vT c cs) (eO (stA sp st) (eO (aC8 m lk) (eO (aC6 cp cl) X)))):=(eO.right (vT.good _ _) H).comp λ_ H=>(eO.right (stA.good _ _) H).comp λ_ H=>(eO.right (aC8.good _ _) H).comp λ_ H=>eO.right (aC6.good _ _) H
end
theorem iF.good(c:Nat)(s:Ch):mA (iF c s) where
 known:=λ⟨_,_,_,_,_,_,H,_⟩=>jE.good.known H
 upd:=λ⟨sp,m,cp,nv,bv,lk,H,e⟩ u hK=>⟨sp,m,cp,nv,bv,lk,jE.good.upd H u hK,e⟩
theorem jE.cell{c:Nat}{cs:List Value}{sp:Nat}{st:St}{m:Nat}{lk:List Pr}{cp:Nat}{cl:List gV}{nv:Value}{nts:List Nt}{bv:Value}{blk:List (List Nt)}{h:PH}{F:List Nat}(H:jE c cs sp st m lk cp cl nv nts bv blk h F):Bx h c cs:=by
 obtain⟨Fa,⟨-,B⟩,-,-⟩:=H.fBox;exact B
theorem Ch.load0{h:PH}{c:Nat}{s:Ch}{sp:Nat}{bv nv:Value}{m cp:Nat}(B:Bx h c (s.cells sp bv nv m cp)):cE PG h (loadAt hQ (pT c 0))=some (pT sp 0):=by rw[hQ.load,B.cell];rfl
theorem Ch.load2{h:PH}{c:Nat}{s:Ch}{sp:Nat}{bv nv:Value}{m cp:Nat}(B:Bx h c (s.cells sp bv nv m cp)):cE PG h (loadAt eR (pT c 2))=some bv:=by rw[eR.load,B.cell];rfl
theorem Ch.load3{h:PH}{c:Nat}{s:Ch}{sp:Nat}{bv nv:Value}{m cp:Nat}(B:Bx h c (s.cells sp bv nv m cp)):cE PG h (loadAt dR (pT c 3))=some nv:=by rw[dR.load,B.cell];rfl
theorem Ch.load4{h:PH}{c:Nat}{s:Ch}{sp:Nat}{bv nv:Value}{m cp:Nat}(B:Bx h c (s.cells sp bv nv m cp)):cE PG h (loadAt dV (pT c 4))=some (.map (some m)):=by rw[dV.load,B.cell];rfl
theorem Ch.load5{h:PH}{c:Nat}{s:Ch}{sp:Nat}{bv nv:Value}{m cp:Nat}(B:Bx h c (s.cells sp bv nv m cp)):cE PG h (loadAt bT (pT c 5))=some (.int .i64 s.id):=by rw[bT.load,B.cell];rfl
theorem Ch.load6{h:PH}{c:Nat}{s:Ch}{sp:Nat}{bv nv:Value}{m cp:Nat}(B:Bx h c (s.cells sp bv nv m cp)):cE PG h (loadAt iP (pT c 6))=some (pT cp 0):=by rw[iP.load,B.cell];rfl
theorem Ch.load7{h:PH}{c:Nat}{s:Ch}{sp:Nat}{bv nv:Value}{m cp:Nat}(B:Bx h c (s.cells sp bv nv m cp)):cE PG h (loadAt cA (pT c 7))=some (.int .u64 s.seq):=by rw[cA.load,B.cell];rfl
def Ch.put(s:Ch)(k v:Tx):Ch:={s with st:={s.st with now:=mW s.st.now ⟨k,v⟩}}
def Ch.del(s:Ch)(k:Tx):Ch:={s with st:={s.st with now:=uI s.st.now k}}
def Ch.add(s:Ch)(n:Nt):Ch:={s with nts:=s.nts++[n]}
theorem jE.okst{c:Nat}{cs:List Value}{sp:Nat}{st:St}{m:Nat}{lk:List Pr}{cp:Nat}{cl:List gV}{nv:Value}{nts:List Nt}{bv:Value}{blk:List (List Nt)}{h:PH}{F:List Nat}(H:jE c cs sp st m lk cp cl nv nts bv blk h F):st.Ok:=by
 obtain⟨Fs,S,-,-⟩:=H.fSt;exact rZ.ok S
theorem aNu{h:PH}{c:Nat}{s:Ch}{F:List Nat}(H:iF c s h F){k v:Tx}(h1:1≤k.length)(h2:k.length≤16)(h3:v.length≤64)(hr:¬(gI s.st.now k=none∧4096≤s.st.now.length)){kk:cD}
  (hk:∀h' F',iF c (s.put k v) h' F'->iX h F h' F'->kk (.tuple #[]) h'):aT PG vW #[pT c 0,.string (tx k),.string (tx v)] h kk:=by
 apply aDC.call;unfold aDC;obtain⟨sp,m,cp,nv,bv,lk,P,perm,ok⟩:=H;have hst:=P.okst;simp only[eZ.f4,fJ,Ch.load4 P.cell,cG,reduceIte,cT,Nat.reduceAdd];obtain⟨Fm,⟨rfl,M⟩,hFm,back⟩:=P.fMap;refine aL7 aIb dV.und M k (.string (tx v)) λh4 M4 u4=>?_;obtain⟨l',e1,e2⟩:=aOm perm hst.up ⟨k,v⟩;have e1':aEZ (lk.map Pr.pr) k (.string (tx v))=l'.map Pr.pr:=e1;rw[e1'] at M4;obtain⟨F4,P4,s4⟩:=back (aC8 m l') h4 [m] ⟨rfl,M4⟩ ⟨u4,λb hb=>.inl hb⟩;have P4:jE c (s.cells sp bv nv m cp) sp s.st m l' cp s.cl nv s.nts bv s.blk h4 F4:=P4;simp only[eZ.f0,Ch.load0 P4.cell,cG,reduceIte,cT,Nat.reduceAdd];obtain⟨Fs,S,hFs,back2⟩:=P4.fSt;have es:aCd s.st k v=({s.st with now:=mW s.st.now ⟨k,v⟩},0):=by
  unfold aCd;rw[if_neg (by omega),if_neg hr]
 refine aWP S k v λh5 S5 u5=>?_;rw[es] at S5;obtain⟨F5,P5,s5⟩:=back2 (stA sp {s.st with now:=mW s.st.now ⟨k,v⟩}) h5 Fs S5 ⟨u5,λb hb=>.inl hb⟩;exact hk h5 F5 ⟨sp,m,cp,nv,bv,l',P5,e2,⟨ok.id,ok.len,ok.first,ok.seq,ok.seq1,ok.nts,ok.wf,ok.bwf⟩⟩ (s4.trans s5)
theorem aU3{h:PH}{c:Nat}{s:Ch}{F:List Nat}(H:iF c s h F){k:Tx}(hg:gI s.st.now k≠none){kk:cD}
  (hk:∀h' F',iF c (s.del k) h' F'->iX h F h' F'->kk (.tuple #[]) h'):aT PG aC1 #[pT c 0,.string (tx k)] h kk:=by
 apply aCD.call;unfold aCD;obtain⟨sp,m,cp,nv,bv,lk,P,perm,ok⟩:=H;have hst:=P.okst;simp only[eZ.f4,fJ,Ch.load4 P.cell,cG,reduceIte,cT,Nat.reduceAdd];obtain⟨Fm,⟨rfl,M⟩,hFm,back⟩:=P.fMap;refine aRa aIb dV.und M k rfl λh4 M4 u4=>?_;rw[aRH] at M4;obtain⟨F4,P4,s4⟩:=back (aC8 m (uI lk k)) h4 [m] ⟨rfl,M4⟩ ⟨u4,λb hb=>.inl hb⟩;have P4:jE c (s.cells sp bv nv m cp) sp s.st m (uI lk k) cp s.cl nv s.nts bv s.blk h4 F4:=P4;simp only[eZ.f0,Ch.load0 P4.cell,cG,reduceIte,cT,Nat.reduceAdd];obtain⟨Fs,S,hFs,back2⟩:=P4.fSt;have es:aE5 s.st k=({s.st with now:=uI s.st.now k},0):=by
  unfold aE5;rw[if_neg hg]
 refine aSZ S k λh5 S5 u5=>?_;rw[es] at S5;obtain⟨F5,P5,s5⟩:=back2 (stA sp {s.st with now:=uI s.st.now k}) h5 Fs S5 ⟨u5,λb hb=>.inl hb⟩;exact hk h5 F5 ⟨sp,m,cp,nv,bv,_,P5,perm.filter _,⟨ok.id,ok.len,ok.first,ok.seq,ok.seq1,ok.nts,ok.wf,ok.bwf⟩⟩ (s4.trans s5)
theorem aQg{h:PH}{c:Nat}{s:Ch}{F:List Nat}(H:iF c s h F){n:Nat}(hn:n≤100){kk:cD}(hk:kk (.bool (decide (s.st.now.length+n≤4096))) h):aT PG zF #[pT c 0,.int .i64 (n:Int)] h kk:=by
 apply aB5.call;unfold aB5;obtain⟨sp,m,cp,nv,bv,lk,P,perm,ok⟩:=H;have hf:=P.okst.few;simp only[eZ.f0,Ch.load0 P.cell,cG,reduceIte,cT,Nat.reduceAdd];obtain⟨Fs,S,-,-⟩:=P.fSt;refine aXG S ?_;have e1:IntKind.i64.wrap ((s.st.now.length:Int)+(n:Int))=((s.st.now.length+n:Nat):Int):=by rw[eX (by omega) (by omega)];omega
 have e2:(((s.st.now.length+n:Nat):Int)≤4096)=(s.st.now.length+n≤4096):=by apply propext;omega
 simp only[e1,e2,cG,reduceIte,cT,Nat.reduceAdd];exact hk
theorem aYn(k:Int)(p:Pk):cV PG (build fY #[(0,.int .i64 k),(1,p.v)])=some (.agg (Nt.cells ⟨k,p⟩).toArray):=by kernel_rfl
theorem aWG(x:Nt):jM PG (buildSlice dR 1 #[(0,.agg x.cells.toArray)])=some (.cells x.cells.toArray fY (0,0),λr=>pure (.slice (some ⟨r,0,none⟩) 1 1)):=by kernel_rfl
theorem aYv(l:List Nt):Rows 5 (l.map Nt.cells):=λr hr=>by obtain⟨m,_,rfl⟩:=lO.1 hr;rfl
theorem aYu(l:List Nt):∀r∈l.map Nt.cells,∀u∈r,eP u=true:=λr hr u hu=>by
 obtain⟨m,_,rfl⟩:=lO.1 hr;simp only[Nt.cells,Pk.cells,gL,zLV,xZ,kJ,or_false] at hu;rcases hu with rfl|rfl|rfl|rfl|rfl<;>rfl
theorem aMw{h:PH}{c:Nat}{s:Ch}{F:List Nat}(H:iF c s h F)(k:Int){p:Pk}(w:p.wf)(hl:s.nts.length<1000000){kk:cD}
  (hk:∀h' F',iF c (s.add ⟨k,p⟩) h' F'->iX h F h' F'->kk (.tuple #[]) h'):aT PG vS #[pT c 0,.int .i64 k,p.v] h kk:=by
 apply wD.call;unfold wD;intro r1 hr1
 try rw[cZ]
 have u1:dD h (h.set r1 (.cells (Value.cells p.v) aR)):=cU.new hr1;have B1:Bx (h.set r1 (.cells (Value.cells p.v) aR)) r1 p.cells:=Bx.new;generalize h.set r1 (.cells (Value.cells p.v) aR)=h1 at *;have H1:=(iF.good c s).ext H u1;obtain⟨sp,m,cp,nv,bv,lk,P,perm,ok⟩:=H1;have lp:cE PG h1 (loadAt aR (pT r1 0))=some p.v:=B1.pk rfl;simp only[dX.f0,eZ.f3,fJ,Ch.load3 P.cell,lp,aYn,aWG,cG,reduceIte,cT,Nat.reduceAdd];intro r9 hr9;refine fL ?_
 try rw[cZ]
 have u2:dD h1 (h1.set r9 (.cells (Nt.cells ⟨k,p⟩).toArray fY (0,0))):=cU.new hr9;have s1:fR (h1.set r9 (.cells (Nt.cells ⟨k,p⟩).toArray fY (0,0))) 5 (.slice (some ⟨r9,0,none⟩) 1 1) ([⟨k,p⟩].map Nt.cells):=(eD.lit (aYv [⟨k,p⟩]) dM (by simp) (by decide) (by simp)).slR;generalize h1.set r9 (.cells (Nt.cells ⟨k,p⟩).toArray fY (0,0))=h2 at *;have P2:=jE.good.ext P u2;obtain⟨Fn,O,hFn,back⟩:=P2.fNts;refine jF dR.und dR.und fY.info fY.size fY.bytes fY.zero rfl (by decide) O s1 (aYu _) (by simp;omega) ?_;intro v3 h3 F3 O3 u3 g3 _;rw[←qX] at O3;obtain⟨F4,P4,s4⟩:=back (wU fY 5 v3 ((s.nts++[(⟨k,p⟩:Nt)]).map Nt.cells)) h3 F3 O3 ⟨u3,g3⟩;have P4:jE c (s.cells sp bv nv m cp) sp s.st m lk cp s.cl v3 (s.nts++[⟨k,p⟩]) bv s.blk h3 F4:=P4;obtain⟨Fb,⟨rfl,B⟩,hFb,back2⟩:=P4.fBox;refine dR.put B (o:=3) (by show 3<8;decide) O3.slR.isc λh5 B5 u5=>?_;obtain⟨F5,P5,s5⟩:=back2 (vT c (s.cells sp bv v3 m cp)) h5 [c] ⟨rfl,B5⟩ ⟨u5,λb hb=>.inl hb⟩;refine hk h5 F5 ⟨sp,m,cp,v3,bv,lk,P5,perm,⟨ok.id,ok.len,ok.first,ok.seq,ok.seq1,?_,?_,ok.bwf⟩⟩ (((iX.ext (u1.trans u2)).trans s4).trans s5)
 ·show(s.nts++[(⟨k,p⟩:Nt)]).length≤1000000;rw[jR];simp;omega
 ·intro n hn;rcases jG.1 hn with hn|hn
  ·exact ok.wf n hn
  ·simp only[fU] at hn;subst hn;exact w
def aHf(h:PH)(fv:Value)(b:Bool):Prop:=∀h',dD h h'->∀k':Value->PH->Prop,(∀h'',dD h' h''->k' (.bool b) h'')->yP PG fv #[] h' k'
theorem aHf.ext{h h':PH}{fv:Value}{b:Bool}(R:aHf h fv b)(u:dD h h'):aHf h' fv b:=λh2 u2 k hk=>R h2 (u.trans u2) k hk
abbrev RuV:=Value×Int×Bool
def mE(x:RuV):List Value:=[x.1,.int .i64 x.2.1]
theorem mE.rows(l:List RuV):Rows 2 (l.map mE):=λr hr=>by obtain⟨m,_,rfl⟩:=lO.1 hr;rfl
def aHW(h:PH)(rs:List RuV):Prop:=∀x∈rs,eP x.1=true∧aHf h x.1 x.2.2
theorem aHW.ext{h h':PH}{rs:List RuV}(R:aHW h rs)(u:dD h h'):aHW h' rs:=λx hx=>⟨(R x hx).1,(R x hx).2.ext u⟩
def aEN:List RuV->Int
 | []=>0
 | x::l=>if x.2.2 then aEN l else x.2.1
def aMv(s:Ch)(rs:List RuV):Int:=if s.st.height=18446744073709551615 then 12 else aEN rs
theorem aOL{h:PH}{c:Nat}{s:Ch}{F:List Nat}(H:iF c s h F){v:Value}{rs:List RuV}(S:fR h 2 v (rs.map mE))(hf:aHW h rs)(hl:rs.length≤100){kk:cD}(hk:∀h',dD h h'->kk (.int .i64 (aMv s rs)) h'):
  aT PG xP #[pT c 0,v] h kk:=by
 apply aEC.call;unfold aEC;obtain⟨sp,m,cp,nv,bv,lk,P,perm,ok⟩:=H;simp only[dX.f0,eZ.f0,Ch.load0 P.cell,cG,reduceIte,cT,Nat.reduceAdd];obtain⟨Fs,St,-,-⟩:=P.fSt;refine aJN St ?_;unfold aMv at hk;by_cases hm:s.st.height=18446744073709551615
 ·have q:((s.st.height:Int)==18446744073709551615)=true:=by rw[hm];rfl
  rw[if_pos hm] at hk;simp only[iA,q,cG,reduceIte,cT,Nat.reduceAdd];exact hk h cU.refl
 have q:((s.st.height:Int)==18446744073709551615)=false:=by rw[beq_eq_false_iff_ne];omega
 rw[if_neg hm] at hk;have lv:=S.len (t':=bT) jC.und;rw[iU] at lv;simp only[iA,q,lv,cG,reduceIte,cT,Nat.reduceAdd];refine⟨λvs h'=>∃i:Nat,i≤rs.length∧vs=[v,.int .i64 (rs.length:Int),.int .i64 (i:Int)]∧dD h h'∧aEN rs=aEN (rs.drop i),gY rs.length 2,⟨0,by omega,rfl,cU.refl,rfl⟩,?_⟩;rintro ρ h' ⟨i,hi,hvs,u,hfb⟩;simp only[iJ,iV,kW,and_true] at hvs;obtain⟨v0,v1,v2⟩:=hvs;unfold aGx;rw[v0,v1,v2];by_cases hlt:i<rs.length
 ·have g:((i:Int)<(rs.length:Int))=True:=eq_true (by omega);have gi:=qG (i:=i) (by omega);obtain⟨x,hx⟩:∃x,rs[i]? =some x:=⟨_,lU hlt⟩;have hmem:=rA hx;have hd:rs.drop i=x::rs.drop (i+1):=by
   obtain⟨h1,e1⟩:=zLz.1 hx;rw[←e1];exact aMf h1
  rw[hd,aEN] at hfb;obtain⟨a,a1,a2⟩:=(S.ext u).loadAgg jC.und cK.info cK.size cK.und rfl (k:=.i64) (j:=(i:Int)) (r:=mE x) (by omega) (by rw[qF,wN,hx];rfl);obtain⟨hc,hr⟩:=hf x hmem;simp only[g,a1,a2,cG,reduceIte,cT,Nat.reduceAdd];intro r14 hr14
  try rw[cZ]
  refine cK.fill (vs:=mE x) hr14 rfl (by
   simp only[mE,gL,kJ,or_false];rintro w (rfl|rfl)
   ·exact hc
   ·rfl) λh2 B2 u2=>?_
  have lf:cE PG h2 (loadAt aAA (pT r14 0))=some x.1:=by rw[aAA.load,B2.cell];rfl
  simp only[cK.f0,lf,cG,reduceIte,cT,Nat.reduceAdd];refine hr h2 (u.trans u2) _ λh3 u3=>?_;have e3:=(u.trans u2).trans u3;cases hb:x.2.2 with
  | true=>
   rw[hb,if_pos rfl] at hfb;simp only[gi,cG,reduceIte,cT,Nat.reduceAdd];exact⟨⟨i+1,by omega,rfl,e3,hfb⟩,by simp[gY,v2];omega⟩
  | false=>
   rw[hb,if_neg (by decide)] at hfb;have le:cE PG h3 (loadAt fW (pT r14 1))=some (.int .i64 x.2.1):=by rw[fW.load,(B2.ext u3).cell];rfl
   simp only[cK.f1,fJ,le,cG,reduceIte,cT,Nat.reduceAdd];have:=hk h3 e3;rw[hfb] at this;exact this
 ·have g:((i:Int)<(rs.length:Int))=False:=eq_false (by omega);rw[aLt (by omega),aEN] at hfb;simp only[g,cG,reduceIte,cT,Nat.reduceAdd];have:=hk h' u;rw[hfb] at this;exact this
theorem aJy(f:FuncId)(cap:Array Value)(e:Int):cV PG (build cK #[(0,.func (.func f) #[] cap),(1,.int .i64 e)])=some (.agg #[.func (.func f) #[] cap,.int .i64 e]):=by kernel_rfl
theorem aQT{h:PH}{p:Pk}{id:Int}{kk:cD}(hk:∀h' fv,eP fv=true->aHf h' fv (p.right&&(p.f==id))->dD h h'->kk (.agg #[fv,.int .i64 1]) h'):aT PG aFa #[p.v,.int .i64 id] h kk:=by
 apply aII.call;unfold aII;intro r1 hr1
 try rw[cZ]
 have u1:dD h (h.set r1 (.cells (Value.cells p.v) aR)):=cU.new hr1;have B1:Bx (h.set r1 (.cells (Value.cells p.v) aR)) r1 p.cells:=Bx.new;generalize h.set r1 (.cells (Value.cells p.v) aR)=h1 at *;intro r3 hr3
 try rw[cZ]
 have u3:dD h1 (h1.set r3 (.cells (Value.cells (.int .i64 id)) bT)):=cU.new hr3;have B3:Bx (h1.set r3 (.cells (Value.cells (.int .i64 id)) bT)) r3 [.int .i64 id]:=Bx.new;generalize h1.set r3 (.cells (Value.cells (.int .i64 id)) bT)=h3 at *;intro r5 hr5
 try rw[cZ]
 simp only[mV,aJy,cG,reduceIte,cT,Nat.reduceAdd];refine cK.fill (vs:=[.func (.func aBT) #[] #[pT r1 0,pT r3 0],.int .i64 1]) hr5 rfl (by simp[eP]) λh5 B5 u5=>?_;have l5:cE PG h5 (loadAt cK (pT r5 0))=some (.agg #[.func (.func aBT) #[] #[pT r1 0,pT r3 0],.int .i64 1]):=cK.agg B5 (by show 0+2≤2;decide);simp only[l5,cG,reduceIte,cT,Nat.reduceAdd];refine hk h5 _ rfl (λh' u k' hk'=>?_) ((u1.trans u3).trans u5);show aT PG aBT #[pT r1 0,pT r3 0] h' k';apply aGk.call;unfold aGk;have C1:=((B1.ext u3).ext u5).ext u;have C3:=(B3.ext u5).ext u;have lp:cE PG h' (loadAt aR (pT r1 0))=some (.agg p.cells.toArray):=C1.pk rfl;simp only[lp,cG,reduceIte,cT,Nat.reduceAdd];refine aKG p λh6 u6=>?_;have lf:cE PG h6 (loadAt bT (pT r1 0))=some (.int .i64 p.f):=by rw[bT.load,(C1.ext u6).cell];rfl
 have li:cE PG h6 (loadAt bT (pT r3 0))=some (.int .i64 id):=by rw[bT.load,(C3.ext u6).cell];rfl
 have hk':=hk' h6 u6;cases hr:p.right with
 | false=>
  rw[hr] at hk';have q:((1:Int)==0)=false:=by decide
  simp only[wM] at hk';simp only[iA,q,zLt,if_false,cG,reduceIte,cT,Nat.reduceAdd];exact hk'
 | true=>
  rw[hr] at hk';have q:((0:Int)==0)=true:=by decide
  simp only[zLp] at hk';simp only[iA,q,if_true,aR.f0,lf,li,cG,reduceIte,cT,Nat.reduceAdd];exact hk'
def aSP(h:PH)(fv:Value)(f:Tx->Bool):Prop:=∀h',dD h h'->∀(root:Tx) (k':cD),(∀h'',dD h' h''->k' (.bool (f root)) h'')->yP PG fv #[.string (tx root)] h' k'
theorem aSP.ext{h h':PH}{fv:Value}{f:Tx->Bool}(R:aSP h fv f)(u:dD h h'):aSP h' fv f:=λh2 u2 r k hk=>R h2 (u.trans u2) r k hk
def pS(l:List gV)(x:Int):Tx:=((kN l x).getD ⟨#[]⟩).data.toList
theorem aLm{h:PH}{c:Nat}{s:Ch}{F:List Nat}(H:iF c s h F){x:Int}{fis:Value}{f:Tx->Bool}(hfc:eP fis=true)(hf:aSP h fis f){kk:cD}
  (hk:∀h' f1 f2,eP f1=true->eP f2=true->aHf h' f1 (kN s.cl x).isSome->aHf h' f2 (f (pS s.cl x))->dD h h'->kk (.tuple #[.agg #[f1,.int .i64 11],.agg #[f2,.int .i64 9]]) h'):aT PG sK #[pT c 0,.int .u64 x,fis] h kk:=by
 apply aBO.call;unfold aBO;have eone:Value.cells fis= #[fis]:=by cases fis<;>first|rfl|cases hfc
 intro r1 hr1
 try rw[cZ]
 have u1:dD h (h.set r1 (.cells (Value.cells fis) kV)):=cU.new hr1;have B1:Bx (h.set r1 (.cells (Value.cells fis) kV)) r1 [fis]:=by rw[eone];exact Bx.new
 generalize h.set r1 (.cells (Value.cells fis) kV)=h1 at *;intro r3 hr3
 try rw[cZ]
 have u3:dD h1 (h1.set r3 (.cells (dL PG cK) cK)):=cU.new hr3;have Z3:=cK.zbox (h:=h1) (r:=r3);generalize h1.set r3 (.cells (dL PG cK) cK)=h3 at *;intro r5 hr5
 try rw[cZ]
 have u5:dD h3 (h3.set r5 (.cells (dL PG cK) cK)):=cU.new hr5;have Z5:=cK.zbox (h:=h3) (r:=r5);have Y3:=Z3.ext u5;have n35:r3≠r5:=Z3.apart hr5;have n13:r1≠r3:=B1.apart hr3;have n15:r1≠r5:=(B1.ext u3).apart hr5;generalize h3.set r5 (.cells (dL PG cK) cK)=h5 at *;have e5:=(u1.trans u3).trans u5;have H5:=(iF.good c s).ext H e5;obtain⟨sp,m,cp,nv,bv,lk,P,perm,ok⟩:=H5;simp only[dX.f2,fJ,Ch.load6 P.cell,cG,reduceIte,cT,Nat.reduceAdd];obtain⟨Fc,⟨hs,C⟩,-,-⟩:=P.fCli;refine aWI C x ?_;simp only[cG,reduceIte,cT,Nat.reduceAdd];intro r14 hr14
 try rw[cZ]
 have u14:dD h5 (h5.set r14 (.cells (dL PG bR) bR)):=cU.new hr14;have Z14:=bR.zbox (h:=h5) (r:=r14);have Y5:=Z5.ext u14;have Y3':=Y3.ext u14;have n314:r3≠r14:=Y3.apart hr14;have n514:r5≠r14:=Z5.apart hr14;generalize h5.set r14 (.cells (dL PG bR) bR)=h14 at *;intro r16 hr16
 try rw[cZ]
 have u16:dD h14 (h14.set r16 (.cells (dL PG fZ) fZ)):=cU.new hr16;have Z16:=fZ.zbox (h:=h14) (r:=r16);have X14:=Z14.ext u16;have X5:=Y5.ext u16;have X3:=Y3'.ext u16;have n1416:r14≠r16:=Z14.apart hr16;have n316:r3≠r16:=Y3'.apart hr16;have n516:r5≠r16:=Y5.apart hr16;generalize h14.set r16 (.cells (dL PG fZ) fZ)=h16 at *;have e16:=(e5.trans u14).trans u16;have k3:h r3=none:=u1.none hr3;have k5:h r5=none:=(u1.trans u3).none hr5;have k14:h r14=none:=e5.none hr14;have k16:h r16=none:=(e5.trans u14).none hr16;refine bR.put X14 (o:=0) (by decide) rfl λh17 B17 u17=>?_;refine fZ.put (Z16.upd u17 (by simpa using n1416.symm)) (o:=0) (by decide) rfl λh18 B18 u18=>?_;have C14:=B17.upd u18 (by simpa using n1416);have C3:=(X3.upd u17 (by simpa using n314)).upd u18 (by simpa using n316);have C5:=(X5.upd u17 (by simpa using n514)).upd u18 (by simpa using n516);have e18:dD h h18:=(e16.fresh u17 (dZ.one k14)).fresh u18 (dZ.one k16)
 try simp only[mV,aJy,cG,reduceIte,cT,Nat.reduceAdd]
 refine cK.put (vs:=[.func (.func qS) #[] #[pT r16 0],.int .i64 11]) C3 (o:=0) rfl (by show 0+2≤2;decide) (by simp[eP]) λh19 B19 u19=>?_;refine cK.put (vs:=[.func (.func qT) #[] #[pT r1 0,pT r14 0],.int .i64 9]) (C5.upd u19 (by simpa using n35.symm)) (o:=0) rfl (by show 0+2≤2;decide) (by simp[eP]) λh20 B20 u20=>?_;have D3:=B19.upd u20 (by simpa using n35);have l3:cE PG h20 (loadAt cK (pT r3 0))=some (.agg #[.func (.func qS) #[] #[pT r16 0],.int .i64 11]):=cK.agg D3 (by show 0+2≤2;decide);have l5:cE PG h20 (loadAt cK (pT r5 0))=some (.agg #[.func (.func qT) #[] #[pT r1 0,pT r14 0],.int .i64 9]):=cK.agg B20 (by show 0+2≤2;decide);have e20:dD h h20:=(e18.fresh u19 (dZ.one k3)).fresh u20 (dZ.one k5);have D16:Bx h20 r16 [.bool (kN s.cl x).isSome]:=(B18.upd u19 (by simpa using n316.symm)).upd u20 (by simpa using n516.symm);have D14:Bx h20 r14 [.string ((kN s.cl x).getD ⟨#[]⟩)]:=(C14.upd u19 (by simpa using n314.symm)).upd u20 (by simpa using n514.symm);have n114:r1≠r14:=((B1.ext u3).ext u5).apart hr14;have n116:r1≠r16:=(((B1.ext u3).ext u5).ext u14).apart hr16;have D1:Bx h20 r1 [fis]:=((((((((B1.ext u3).ext u5).ext u14).ext u16).upd u17 (by simpa using n114)).upd u18 (by simpa using n116)).upd u19 (by simpa using n13)).upd u20 (by simpa using n15));simp only[l3,l5,cG,reduceIte,cT,Nat.reduceAdd];refine hk h20 _ _ rfl rfl (λh' u k' hk'=>?_) (λh' u k' hk'=>?_) e20
 ·show aT PG qS #[pT r16 0] h' k';apply zT.call;unfold zT;have lb:cE PG h' (loadAt fZ (pT r16 0))=some (.bool (kN s.cl x).isSome):=by rw[fZ.load,(D16.ext u).cell];rfl
  simp only[lb,cG,reduceIte,cT,Nat.reduceAdd];exact hk' h' cU.refl
 ·show aT PG qT #[pT r1 0,pT r14 0] h' k';apply zQ.call;unfold zQ;have lf:cE PG h' (loadAt kV (pT r1 0))=some fis:=by rw[kV.load,(D1.ext u).cell];rfl
  have ls:cE PG h' (loadAt bR (pT r14 0))=some (.string (tx (pS s.cl x))):=by
   rw[bR.load,(D14.ext u).cell];unfold pS;rw[aIY];rfl
  simp only[lf,ls,cG,reduceIte,cT,Nat.reduceAdd];exact hf h' (e20.trans u) (pS s.cl x) _ hk'
def oW(s:Ch)(p:Pk):Bool:=match gI s.st.now (fS 99 p.s.toNat) with
 | some q=>decide (q.v=mL p)
 | none=>false
theorem aVO{h:PH}{c:Nat}{s:Ch}{F:List Nat}(hK:nJ h)(H:iF c s h F){p:Pk}(w:p.wf){kk:cD}(hk:∀h' fv,eP fv=true->aHf h' fv (oW s p)->dD h h'->kk (.agg #[fv,.int .i64 3]) h'):aT PG aDh #[pT c 0,p.v] h kk:=by
 apply aCt.call;unfold aCt;intro r1 hr1
 try rw[cZ]
 have u1:dD h (h.set r1 (.cells (Value.cells (pT c 0)) dG)):=cU.new hr1;have B1:Bx (h.set r1 (.cells (Value.cells (pT c 0)) dG)) r1 [pT c 0]:=Bx.new;generalize h.set r1 (.cells (Value.cells (pT c 0)) dG)=h1 at *;intro r3 hr3
 try rw[cZ]
 have u3:dD h1 (h1.set r3 (.cells (Value.cells p.v) aR)):=cU.new hr3;have B3:Bx (h1.set r3 (.cells (Value.cells p.v) aR)) r3 p.cells:=Bx.new;generalize h1.set r3 (.cells (Value.cells p.v) aR)=h3 at *;intro r5 hr5
 try rw[cZ]
 simp only[mV,aJy,cG,reduceIte,cT,Nat.reduceAdd];refine cK.fill (vs:=[.func (.func sO) #[] #[pT r1 0,pT r3 0],.int .i64 3]) hr5 rfl (by simp[eP]) λh5 B5 u5=>?_;have l5:cE PG h5 (loadAt cK (pT r5 0))=some (.agg #[.func (.func sO) #[] #[pT r1 0,pT r3 0],.int .i64 3]):=cK.agg B5 (by show 0+2≤2;decide);have e5:=(u1.trans u3).trans u5;simp only[l5,cG,reduceIte,cT,Nat.reduceAdd];refine hk h5 _ rfl (λh' u k' hk'=>?_) e5;show aT PG sO #[pT r1 0,pT r3 0] h' k';apply tE.call;unfold tE;have C1:=((B1.ext u3).ext u5).ext u;have C3:=(B3.ext u5).ext u;have H':=(iF.good c s).ext H (e5.trans u);obtain⟨sp,m,cp,nv,bv,lk,P,perm,ok⟩:=H';obtain⟨n,hn⟩:=zLn w.1;have hn2:n<18446744073709551616:=by have:=w.2.1;omega
 have lc:∀{h'':PH},dD h' h''->cE PG h'' (loadAt dG (pT r1 0))=some (pT c 0):=λv=>by rw[dG.load,(C1.ext v).cell];rfl
 have ls:cE PG h' (loadAt cA (pT r3 1))=some (.int .u64 (n:Int)):=by rw[cA.load,C3.cell,←hn];rfl
 simp only[lc cU.refl,dX.f0,eZ.f0,aR.f1,fJ,Ch.load0 P.cell,ls,cG,reduceIte,cT,Nat.reduceAdd];refine aIZ hn2 λh6 u6=>?_;have P6:=jE.good.ext P u6;refine⟨Ch.load0 P6.cell,lc u6,?_⟩;obtain⟨Fs,St,-,-⟩:=P6.fSt;refine aME St _ ?_;have es:oW s p=match gI s.st.now (fS 99 n) with|some q=>decide (q.v=mL p)|none=>false:=by
  unfold oW;rw[hn];rfl
 cases hg:gI s.st.now (fS 99 n) with
 | none=>
  have hk':=hk' h6 u6;rw[es,hg] at hk';simp only[zLu,cG,reduceIte,cT,Nat.reduceAdd];exact hk'
 | some q=>
  rw[hg] at es;simp only at es;rw[es] at hk';have lp:cE PG h6 (loadAt aR (pT r3 0))=some p.v:=(C3.ext u6).pk rfl;simp only[aMe,aH7,aH8,lp,cG,reduceIte,cT,Nat.reduceAdd];refine aFd w (hK.ext ((e5.trans u).trans u6)) λh7 u7=>?_;simp only[aCK,cG,reduceIte,cT,Nat.reduceAdd];exact hk' h7 (u6.trans u7)
end Go.Proofs.YtppgkeodaejgcaaGreatDoor
namespace Go.Proofs.YtppgkeodaejgcaaGreatDoor
open Go
theorem nW.uniq{a b:List Int}{l:List gV}(x:nW a l)(y:nW b l):a=b:=
 List.Perm.eq_of_pairwise (le:=λp q:Int=>p<q) (λp q _ _ (h1:p<q) h2=>by omega) x.up y.up (x.perm.trans y.perm.symm)
open Classical in
noncomputable def aJc(l:List gV):Int:=if h:∃hs,nW hs l then aKO h.choose else 0
theorem aN4{hs:List Int}{l:List gV}(R:nW hs l):aJc l=aKO hs:=by
 have h:∃hs,nW hs l:=⟨hs,R⟩;unfold aJc;rw[dif_pos h,nW.uniq h.choose_spec R]
def zD:List (Int×Bool)->Int
 | []=>0
 | x::l=>if x.2 then zD l else x.1
theorem aMX:∀rs:List RuV,aEN rs=zD (rs.map (·.2))
 | []=>rfl
 | x::l=>by simp only[aEN,iJ,zD,aMX l]
def qZ(s:Ch)(l:List (Int×Bool)):Int:=if s.st.height=18446744073709551615 then 12 else zD l
theorem aNt(s:Ch)(rs:List RuV):aMv s rs=qZ s (rs.map (·.2)):=by unfold aMv qZ;rw[aMX]
theorem aWk(f0 f1 f2 f3:Value)(e0 e1 e2 e3:Int):jM PG (buildSlice jC 4 #[(0,.agg #[f0,.int .i64 e0]),(1,.agg #[f1,.int .i64 e1]),(2,.agg #[f2,.int .i64 e2]),(3,.agg #[f3,.int .i64 e3])])=some (.cells #[f0,.int .i64 e0,f1,.int .i64 e1,f2,.int .i64 e2,f3,.int .i64 e3] cK,λr=>pure (.slice (some ⟨r,0,none⟩) 4 4)):=by kernel_rfl
theorem aV1(f s t:Int)(d:ByteArray):cV PG (build aR #[(0,.int .i64 f),(1,.int .u64 s),(2,.int .u64 t),(3,.string d)])=some (Pk.v ⟨f,s,t,d⟩):=by kernel_rfl
def jW(s:Ch)(d:Tx)(t:Nat):Pk:=⟨s.id,(s.seq:Int),(t:Int),tx d⟩
noncomputable def rD(s:Ch)(d:Tx)(t:Nat):Int:=qZ s [(12,decide (s.seq<18446744073709551615)),(1,(jW s d t).right),(10,decide (aJc s.cl<(t:Int))),(2,decide (s.st.now.length+1≤4096))]
def Ch.next(s:Ch):Ch:={s with seq:=s.seq+1}
def Ch.sent(s:Ch)(p:Pk):Ch:=(((s.put (fS 99 s.seq) (mL p)).next).add ⟨1,p⟩)
theorem Pk.isC(p:Pk):∀u∈p.cells,eP u=true:=λu hu=>by
 simp only[Pk.cells,gL,kJ,or_false] at hu;rcases hu with rfl|rfl|rfl|rfl<;>rfl
theorem aLf{s:Ch}{l:List (Int×Bool)}(h:qZ s l=0)(hne:∀x∈l,x.1≠0):s.st.height≠18446744073709551615∧∀x∈l,x.2=true:=by
 unfold qZ at h;by_cases hm:s.st.height=18446744073709551615
 ·rw[if_pos hm] at h;cases h
 ·rw[if_neg hm] at h;refine⟨hm,?_⟩;induction l with
  | nil=>intro x hx;cases hx
  | cons a l ih=>
   rw[zD] at h;cases ha:a.2 with
   | false=>rw[ha,if_neg (by decide)] at h;exact absurd h (hne a (by simp))
   | true=>
    rw[ha,if_pos rfl] at h;intro x hx;rcases gL.1 hx with rfl|hx
    ·exact ha
    ·exact ih h (λy hy=>hne y (by simp[hy])) x hx
theorem aM3{l:List Pr}{k:Tx}{n:Nat}(hn:1≤n)(h:l.length+n≤4096):¬(gI l k=none∧4096≤l.length):=λc=>by omega
theorem aLa(p:Pk):(mL p).length≤64:=by
 unfold mL aG3;split
 ·exact zLD (Nat.le_of_eq rfl) (show 32≤64 by decide)
 ·simp
theorem aVA{h:PH}{c:Nat}{s:Ch}{F:List Nat}(hK:nJ h)(H:iF c s h F)(d:Tx){t:Nat}(ht:t<18446744073709551616)(hl:s.nts.length<1000000){kk:cD}
  (hbad:rD s d t≠0->∀h' F',iF c s h' F'->iX h F h' F'->dD h h'->kk (.tuple #[Pk.v default,.int .i64 (rD s d t)]) h')
  (hk:rD s d t=0->∀h' F',iF c (s.sent (jW s d t)) h' F'->iX h F h' F'->kk (.tuple #[Pk.v (jW s d t),.int .i64 0]) h'):
  aT PG aDm #[pT c 0,.string (tx d),.int .u64 (t:Int)] h kk:=by
 apply wC.call;unfold wC;intro r1 hr1
 try rw[cZ]
 have u1:dD h (h.set r1 (.cells (Value.cells (pT c 0)) dG)):=cU.new hr1;have B1:Bx (h.set r1 (.cells (Value.cells (pT c 0)) dG)) r1 [pT c 0]:=Bx.new;generalize h.set r1 (.cells (Value.cells (pT c 0)) dG)=h1 at *;intro r3 hr3
 try rw[cZ]
 have u3:dD h1 (h1.set r3 (.cells (Value.cells (.int .u64 (t:Int))) cA)):=cU.new hr3;have B3:Bx (h1.set r3 (.cells (Value.cells (.int .u64 (t:Int))) cA)) r3 [.int .u64 (t:Int)]:=Bx.new;generalize h1.set r3 (.cells (Value.cells (.int .u64 (t:Int))) cA)=h3 at *;intro r5 hr5
 try rw[cZ]
 have u5:dD h3 (h3.set r5 (.cells (dL PG aR) aR)):=cU.new hr5;have Z5:=aR.zbox (h:=h3) (r:=r5);generalize h3.set r5 (.cells (dL PG aR) aR)=h5 at *;have e5:=(u1.trans u3).trans u5;have k5:h r5=none:=(u1.trans u3).none hr5;have C1:=(B1.ext u3).ext u5;have C3:=B3.ext u5;have H5:=(iF.good c s).ext H e5;obtain⟨sp,m,cp,nv,bv,lk,P,perm,ok⟩:=H5;have H5':iF c s h5 F:=⟨sp,m,cp,nv,bv,lk,P,perm,ok⟩;have hseq:=ok.seq;have lc:∀{h'':PH},dD h5 h''->cE PG h'' (loadAt dG (pT r1 0))=some (pT c 0):=λv=>by rw[dG.load,(C1.ext v).cell];rfl
 have lt:∀{h'':PH},dD h5 h''->cE PG h'' (loadAt cA (pT r3 0))=some (.int .u64 (t:Int)):=λv=>by rw[cA.load,(C3.ext v).cell];rfl
 simp only[lc cU.refl,lt cU.refl,dX.f1,dX.f3,fJ,Ch.load5 P.cell,Ch.load7 P.cell,aV1,cG,reduceIte,cT,Nat.reduceAdd];intro r17 hr17
 try rw[cZ]
 have n517:r5≠r17:=Z5.apart hr17;refine aR.fill (vs:=(jW s d t).cells) hr17 rfl (Pk.isC _) λh7 B7 u7=>?_;have w:(jW s d t).wf:=⟨by simp[jW],by simp only[jW];omega,by simp[jW],by simp only[jW];omega⟩;have e7:=e5.trans u7;have H7:=(iF.good c s).ext H5' u7;have Z7:=Z5.ext u7;have lpk:∀{h'':PH},dD h7 h''->cE PG h'' (loadAt aR (pT r17 0))=some (jW s d t).v:=λv=>(B7.ext v).pk rfl;simp only[lc u7,mV,aJy,aWk,cG,reduceIte,cT,Nat.reduceAdd];intro r30 hr30;refine fL ?_
 try rw[cZ]
 -- the rules
 obtain⟨rs,hrs⟩:∃rs:List RuV,rs=[(.func (.func tF) #[] #[pT r1 0],12,decide (s.seq<18446744073709551615)),(.func (.func sU) #[] #[pT r17 0],1,(jW s d t).right),(.func (.func sZ) #[] #[pT r3 0,pT r1 0],10,decide (aJc s.cl<(t:Int))),(.func (.func tK) #[] #[pT r1 0],2,decide (s.st.now.length+1≤4096))]:=⟨_,rfl⟩;have eall:aMv s rs=rD s d t:=by rw[aNt,hrs];rfl
 have u8:dD h7 (h7.set r30 (.cells (rs.map mE).flatten.toArray cK)):=cU.new hr30;have s8:fR (h7.set r30 (.cells (rs.map mE).flatten.toArray cK)) 2 (.slice (some ⟨r30,0,none⟩) 4 4) (rs.map mE):=(eD.lit (mE.rows rs) dM (by rw[hrs];simp) (by decide) (by simp)).slR;have ecells:(#[.func (.func tF) #[] #[pT r1 0],.int .i64 12,.func (.func sU) #[] #[pT r17 0],.int .i64 1,.func (.func sZ) #[] #[pT r3 0,pT r1 0],.int .i64 10,.func (.func tK) #[] #[pT r1 0],.int .i64 2]:Array Value)=(rs.map mE).flatten.toArray:=by rw[hrs];rfl
 rw[ecells];generalize h7.set r30 (.cells (rs.map mE).flatten.toArray cK)=h8 at *;have H8:=(iF.good c s).ext H7 u8;have e8:=e7.trans u8;have v58:=u7.trans u8;have hrules:aHW h8 rs:=by
  rw[hrs];intro x hx;simp only[gL,kJ,or_false] at hx;rcases hx with rfl|rfl|rfl|rfl
  ·refine⟨rfl,λh' u k' hk'=>?_⟩;show aT PG tF #[pT r1 0] h' k';apply aA9.call;unfold aA9;obtain⟨sp,m,cp,nv,bv,lk,P,perm,ok⟩:=(iF.good c s).ext H8 u;have eq1:((s.seq:Int)<18446744073709551615)=(s.seq<18446744073709551615):=by apply propext;omega
   simp only[lc (v58.trans u),dX.f3,fJ,Ch.load7 P.cell,eq1,cG,reduceIte,cT,Nat.reduceAdd];exact hk' h' cU.refl
  ·refine⟨rfl,λh' u k' hk'=>?_⟩;show aT PG sU #[pT r17 0] h' k';apply aBA.call;unfold aBA;simp only[lpk (u8.trans u),cG,reduceIte,cT,Nat.reduceAdd];refine aKG (jW s d t) λh9 u9=>?_;have hk':=hk' h9 u9;cases hr:(jW s d t).right with
   | false=>
    rw[hr] at hk';have q:((1:Int)==0)=false:=by decide
    simp only[iA,q,zLt,if_false,cG,reduceIte,cT,Nat.reduceAdd];exact hk'
   | true=>
    rw[hr] at hk';have q:((0:Int)==0)=true:=by decide
    simp only[iA,q,if_true,cG,reduceIte,cT,Nat.reduceAdd];exact hk'
  ·refine⟨rfl,λh' u k' hk'=>?_⟩;show aT PG sZ #[pT r3 0,pT r1 0] h' k';apply sT.call;unfold sT;obtain⟨sp,m,cp,nv,bv,lk,P,perm,ok⟩:=(iF.good c s).ext H8 u;obtain⟨Fc,⟨hs,C⟩,-,-⟩:=P.fCli;simp only[lt (v58.trans u),lc (v58.trans u),dX.f2,fJ,Ch.load6 P.cell,cG,reduceIte,cT,Nat.reduceAdd];refine aTt C ?_;refine⟨lt (v58.trans u),?_⟩;rw[←aN4 C.rank];simp only[cG,reduceIte,cT,Nat.reduceAdd];exact hk' h' cU.refl
  ·refine⟨rfl,λh' u k' hk'=>?_⟩;show aT PG tK #[pT r1 0] h' k';apply aBL.call;unfold aBL;simp only[lc (v58.trans u),dX.f0,cG,reduceIte,cT,Nat.reduceAdd];exact aQg (n:=1) ((iF.good c s).ext H8 u) (by decide) (hk' h' cU.refl)
 refine aOL H8 s8 hrules (by rw[hrs];simp) λh9 u9=>?_;rw[eall];have H9:=(iF.good c s).ext H8 u9;have e9:=e8.trans u9;have v59:=v58.trans u9;have v79:=u8.trans u9;by_cases he:rD s d t=0
 case neg=>
  have q:(rD s d t !=0)=true:=by simpa using he
  simp only[kK,q,Pk.zb,cG,reduceIte,cT,Nat.reduceAdd];refine aR.put (vs:=Pk.cells default) ((Z7.ext u8).ext u9) (o:=0) rfl (by show 0+4≤4;decide) (Pk.isC _) λh10 B10 u10=>?_;have l10:cE PG h10 (loadAt aR (pT r5 0))=some (Pk.v default):=B10.pk rfl;simp only[l10,cG,reduceIte,cT,Nat.reduceAdd];have n5F:∀b∈F,b∉[r5]:=λb hb hb'=>by
   simp only[fU] at hb';exact(iF.good c s).known H b hb (hb'▸k5)
  have e10:=e9.fresh u10 (dZ.one k5);exact hbad he h10 F ((iF.good c s).upd H9 u10 n5F) (iX.ext e10) e10
 obtain⟨hmax,hall⟩:=aLf he (by intro x hx;simp only[gL,kJ,or_false] at hx;rcases hx with rfl|rfl|rfl|rfl<;>simp);have b1:s.seq<18446744073709551615:=by simpa using hall _ (by simp:((12:Int),decide (s.seq<18446744073709551615))∈_)
 have b4:s.st.now.length+1≤4096:=by
  have:=hall (2,decide (s.st.now.length+1≤4096)) (by simp);simpa using this
 have ls:∀{h'':PH},dD h7 h''->cE PG h'' (loadAt cA (pT r17 1))=some (.int .u64 (s.seq:Int)):=λv=>by rw[cA.load,(B7.ext v).cell];rfl
 simp only[he,kK,lc v59,dX.f0,aR.f1,fJ,ls v79,lpk v79,cG,reduceIte,cT,Nat.reduceAdd];refine aIZ hseq λh10 u10=>?_;refine⟨lpk (v79.trans u10),lc (v59.trans u10),?_⟩;refine aFd w (hK.ext (e9.trans u10)) λh11 u11=>?_;have v11:=u10.trans u11;refine⟨lc (v59.trans v11),?_⟩;have H11:=(iF.good c s).ext H9 v11;refine aNu H11 (by rw[wH];decide) (by rw[wH];decide) (aLa _) (aM3 (n:=1) (by decide) b4) λh12 F12 H12 s12=>?_
 -- boxes beside the chain
 have nF:∀{r:Nat},h r=none->r∉F:=λhr hm=>(iF.good c s).known H _ hm hr;have k1:h r1=none:=hr1;have k17:h r17=none:=e5.none hr17;have e11:=e9.trans v11;have nF12:∀{r:Nat} {o:Obj},h r=none->h11 r=some o->r∉F12:=λhr ho hm=>by
  rcases s12.grow _ hm with hx|hx
  ·exact nF hr hx
  ·rw[ho] at hx;cases hx
 have D1:=(C1.ext (v59.trans v11)).upd s12.upd (nF k1);have D17:=(B7.ext (v79.trans v11)).upd s12.upd (nF k17);have D5:=(((Z7.ext u8).ext u9).ext v11).upd s12.upd (nF k5);have m1:r1∉F12:=by obtain⟨_,ho⟩:=(C1.ext (v59.trans v11)).here;exact nF12 k1 ho
 have m17:r17∉F12:=by obtain⟨_,ho⟩:=(B7.ext (v79.trans v11)).here;exact nF12 k17 ho
 have m5:r5∉F12:=by obtain⟨_,ho⟩:=(((Z7.ext u8).ext u9).ext v11).here;exact nF12 k5 ho
 obtain⟨sp',m',cp',nv',bv',lk',P',perm',ok'⟩:=H12;have lc12:cE PG h12 (loadAt dG (pT r1 0))=some (pT c 0):=by rw[dG.load,D1.cell];rfl
 have wq:IntKind.u64.wrap ((s.seq:Int)+1)=((s.seq+1:Nat):Int):=by rw[gJ (by omega) (by omega)];omega
 have l7:cE PG h12 (loadAt cA (pT c 7))=some (.int .u64 (s.seq:Int)):=Ch.load7 P'.cell;simp only[lc12,dX.f3,fJ,l7,wq,cG,reduceIte,cT,Nat.reduceAdd];obtain⟨Fb,⟨rfl,Bc⟩,hFb,back⟩:=P'.fBox;refine cA.put Bc (o:=7) (by show 7<8;decide) rfl λh13 B13 u13=>?_;obtain⟨F13,P13,s13⟩:=back (vT c ((s.put (fS 99 s.seq) (mL (jW s d t))).next.cells sp' bv' nv' m' cp')) h13 [c] ⟨rfl,B13⟩ ⟨u13,λb hb=>.inl hb⟩;have H13:iF c ((s.put (fS 99 s.seq) (mL (jW s d t))).next) h13 F13:=⟨sp',m',cp',nv',bv',lk',P13,perm',⟨ok'.id,ok'.len,ok'.first,by show s.seq+1<_;omega,by show 1≤s.seq+1;omega,ok'.nts,ok'.wf,ok'.bwf⟩⟩;have cF:c∈F12:=hFb c (by simp);have nc:∀{r:Nat},r∉F12->r∉[c]:=λhr hm=>by simp only[fU] at hm;exact hr (hm▸cF)
 have E1:=D1.upd u13 (nc m1);have E17:=D17.upd u13 (nc m17);have E5:=D5.upd u13 (nc m5);have lc13:cE PG h13 (loadAt dG (pT r1 0))=some (pT c 0):=by rw[dG.load,E1.cell];rfl
 have lp13:cE PG h13 (loadAt aR (pT r17 0))=some (jW s d t).v:=E17.pk rfl;simp only[lc13,lp13,cG,reduceIte,cT,Nat.reduceAdd];refine aMw H13 1 w hl λh14 F14 H14 s14=>?_;have grow13:∀{r:Nat},r∉F12->h12 r≠none->r∉F13:=λhr hn hm=>by
  rcases s13.grow _ hm with hx|hx
  ·exact hr hx
  ·exact hn hx
 have G17:=E17.upd s14.upd (grow13 m17 D17.known);have G5:=E5.upd s14.upd (grow13 m5 D5.known);have lp14:cE PG h14 (loadAt aR (pT r17 0))=some (jW s d t).v:=G17.pk rfl;simp only[lp14,cG,reduceIte,cT,Nat.reduceAdd];refine aR.put (vs:=(jW s d t).cells) G5 (o:=0) rfl (by show 0+4≤4;decide) (Pk.isC _) λh15 B15 u15=>?_;have l15:cE PG h15 (loadAt aR (pT r5 0))=some (jW s d t).v:=B15.pk rfl;simp only[l15,cG,reduceIte,cT,Nat.reduceAdd];have m514:r5∉F14:=λhm=>by
  rcases s14.grow _ hm with hx|hx
  ·exact grow13 m5 D5.known hx
  ·exact E5.known hx
 have st14:=(((iX.ext (F:=F) e11).trans s12).trans s13).trans s14;refine hk he h15 F14 ((iF.good c _).upd H14 u15 (λb hb hb'=>by simp only[fU] at hb';exact m514 (hb'▸hb))) ⟨st14.upd.then u15 (λb hb=>.inr (by simp only[fU] at hb;rw[hb];exact k5)),st14.grow⟩
end Go.Proofs.YtppgkeodaejgcaaGreatDoor
namespace Go.Proofs.YtppgkeodaejgcaaGreatDoor
open Go
theorem aRk(f0 f1:Value)(e0 e1:Int):jM PG (buildSlice jC 2 #[(0,.agg #[f0,.int .i64 e0]),(1,.agg #[f1,.int .i64 e1])])=some (.cells #[f0,.int .i64 e0,f1,.int .i64 e1] cK,λr=>pure (.slice (some ⟨r,0,none⟩) 2 2)):=by kernel_rfl
theorem aWm(f0 f1 f2:Value)(e0 e1 e2:Int):jM PG (buildSlice jC 3 #[(0,.agg #[f0,.int .i64 e0]),(1,.agg #[f1,.int .i64 e1]),(2,.agg #[f2,.int .i64 e2])])=some (.cells #[f0,.int .i64 e0,f1,.int .i64 e1,f2,.int .i64 e2] cK,λr=>pure (.slice (some ⟨r,0,none⟩) 3 3)):=by kernel_rfl
def jH(s:Ch)(p:Pk)(l:List (Int×Bool)):Int:=qZ s ([(1,p.right&&(p.f==s.id)),(3,oW s p)]++l)
def Ch.settled(s:Ch)(k:Int)(p:Pk):Ch:=(s.del (fS 99 p.s.toNat)).add ⟨k,p⟩
theorem aNp{h:PH}{c:Nat}{s:Ch}{F:List Nat}(hK:nJ h)(H:iF c s h F)(kind:Int){p:Pk}(w:p.wf){v:Value}{rs:List RuV}(S:fR h 2 v (rs.map mE))(hrs:aHW h rs)(hlr:rs.length≤10)(hne:∀x∈rs,x.2.1≠0)(hl:s.nts.length<1000000){kk:cD}
  (hbad:jH s p (rs.map (·.2))≠0->∀h',iF c s h' F->dD h h'->kk (.int .i64 (jH s p (rs.map (·.2)))) h')
  (hk:jH s p (rs.map (·.2))=0->∀h' F',iF c (s.settled kind p) h' F'->iX h F h' F'->kk (.int .i64 0) h'):
  aT PG yE #[pT c 0,.int .i64 kind,p.v,v] h kk:=by
 apply sX.call;unfold sX;intro r1 hr1
 try rw[cZ]
 have u1:dD h (h.set r1 (.cells (Value.cells p.v) aR)):=cU.new hr1;have B1:Bx (h.set r1 (.cells (Value.cells p.v) aR)) r1 p.cells:=Bx.new;generalize h.set r1 (.cells (Value.cells p.v) aR)=h1 at *;have lp:∀{h'':PH},dD h1 h''->cE PG h'' (loadAt aR (pT r1 0))=some p.v:=λv=>(B1.ext v).pk rfl;have H1:=(iF.good c s).ext H u1;obtain⟨sp,m,cp,nv,bv,lk,P,perm,ok⟩:=H1;have H1:iF c s h1 F:=⟨sp,m,cp,nv,bv,lk,P,perm,ok⟩;simp only[lp cU.refl,dX.f1,fJ,Ch.load5 P.cell,cG,reduceIte,cT,Nat.reduceAdd];refine aQT λh2 f0 c0 R0 u2=>?_;refine⟨lp u2,?_⟩;have H2:=(iF.good c s).ext H1 u2;refine aVO (hK.ext (u1.trans u2)) H2 w λh3 f1 c1 R1 u3=>?_;have H3:=(iF.good c s).ext H2 u3;have e3:=(u1.trans u2).trans u3;simp only[aRk,cG,reduceIte,cT,Nat.reduceAdd];intro r12 hr12;refine fL ?_
 try rw[cZ]
 obtain⟨hd,hhd⟩:∃hd:List RuV,hd=[(f0,1,p.right&&(p.f==s.id)),(f1,3,oW s p)]:=⟨_,rfl⟩;have ecells:(#[f0,.int .i64 1,f1,.int .i64 3]:Array Value)=(hd.map mE).flatten.toArray:=by rw[hhd];rfl
 rw[ecells];have u4:dD h3 (h3.set r12 (.cells (hd.map mE).flatten.toArray cK)):=cU.new hr12;have O4:eD (h3.set r12 (.cells (hd.map mE).flatten.toArray cK)) cK 2 (.slice (some ⟨r12,0,none⟩) 2 2) (hd.map mE) [r12]:=eD.lit (mE.rows hd) dM (by rw[hhd];simp) (by decide) (by simp);generalize h3.set r12 (.cells (hd.map mE).flatten.toArray cK)=h4 at *;have e4:=e3.trans u4;refine jF jC.und jC.und cK.info cK.size cK.bytes cK.zero rfl (by decide) O4 (S.ext e4) (λr hr u hu=>by
  obtain⟨x,hx,rfl⟩:=lO.1 hr;simp only[mE,gL,kJ,or_false] at hu;rcases hu with rfl|rfl
  ·exact(hrs x hx).1
  ·rfl) (by rw[hhd];simp;omega) ?_
 intro v5 h5 F5 O5 u5 g5 _;rw[←qX] at O5;have f12:dZ h [r12]:=dZ.one (e3.none hr12);have k12:h3 r12=none:=hr12;have e5:dD h h5:=e4.fresh u5 f12;have e35:dD h3 h5:=u4.fresh u5 (dZ.one k12);have H5:=(iF.good c s).ext H3 e35;have hrules:aHW h5 (hd++rs):=λx hx=>by
  rcases jG.1 hx with hx|hx
  ·rw[hhd] at hx;simp only[gL,kJ,or_false] at hx;rcases hx with rfl|rfl
   ·exact⟨c0,(R0.ext u3).ext e35⟩
   ·exact⟨c1,R1.ext e35⟩
  ·exact(hrs.ext e5) x hx
 refine aOL H5 O5.slR hrules (by rw[hhd];simp;omega) λh6 u6=>?_;have eall:aMv s (hd++rs)=jH s p (rs.map (·.2)):=by rw[aNt,hhd];rfl
 rw[eall];have H6:=(iF.good c s).ext H5 u6;have e6:=e5.trans u6;have v16:dD h1 h6:=((u2.trans u3).trans e35).trans u6;unfold aBp;by_cases he:jH s p (rs.map (·.2))=0
 case neg=>
  have q:(jH s p (rs.map (·.2))==0)=false:=by simpa using he
  simp only[iA,q,cG,reduceIte,cT,Nat.reduceAdd];exact hbad he h6 H6 e6
 obtain⟨n,hn⟩:=zLn w.1;have hn2:n<18446744073709551616:=by have:=w.2.1;omega
 obtain⟨-,hall⟩:=aLf he (by
  intro x hx;rcases jG.1 hx with hx|hx
  ·simp only[gL,kJ,or_false] at hx;rcases hx with rfl|rfl<;>simp
  ·obtain⟨y,hy,rfl⟩:=lO.1 hx;exact hne y hy)
 have hsent:oW s p=true:=hall (3,oW s p) (by simp);have hg:gI s.st.now (fS 99 n)≠none:=λhg=>by
  unfold oW at hsent;rw[hn,qF,hg] at hsent;cases hsent
 have ls:cE PG h6 (loadAt cA (pT r1 1))=some (.int .u64 (n:Int)):=by rw[cA.load,(B1.ext v16).cell,←hn];rfl
 simp only[he,iA,dX.f0,aR.f1,fJ,ls,cG,reduceIte,cT,Nat.reduceAdd];refine aIZ hn2 λh7 u7=>?_;have H7:=(iF.good c s).ext H6 u7;refine aU3 H7 hg λh8 F8 H8 s8=>?_;have nF:r1∉F:=λhm=>(iF.good c s).known H _ hm hr1;have D1:=(B1.ext (v16.trans u7)).upd s8.upd nF;have lp8:cE PG h8 (loadAt aR (pT r1 0))=some p.v:=D1.pk rfl;simp only[lp8,cG,reduceIte,cT,Nat.reduceAdd];refine aMw H8 kind w hl λh9 F9 H9 s9=>?_;have es:(s.del (fS 99 n)).add ⟨kind,p⟩=s.settled kind p:=by unfold Ch.settled;rw[hn];rfl
 rw[es] at H9;exact hk he h9 F9 H9 (((iX.ext (e6.trans u7)).trans s8).trans s9)
noncomputable def xK(s:Ch)(p:Pk)(pf:Tx)(x:Int):List (Int×Bool):=[(11,(kN s.cl x).isSome),(9,aCH (pS s.cl x) pf (fS 97 p.s.toNat) (aBo p))]
theorem aWR{h:PH}{c:Nat}{s:Ch}{F:List Nat}(hK:nJ h)(H:iF c s h F){p:Pk}(w:p.wf){pf:Tx}{x:Int}(hl:s.nts.length<1000000){kk:cD}
  (hbad:jH s p (xK s p pf x)≠0->∀h',iF c s h' F->dD h h'->kk (.int .i64 (jH s p (xK s p pf x))) h')
  (hk:jH s p (xK s p pf x)=0->∀h' F',iF c (s.settled 3 p) h' F'->iX h F h' F'->kk (.int .i64 0) h'):
  aT PG aET #[pT c 0,p.v,.string (tx pf),.int .u64 x] h kk:=by
 apply aDw.call;unfold aDw;obtain⟨n,hn⟩:=zLn w.1;have hn2:n<18446744073709551616:=by have:=w.2.1;omega
 intro r1 hr1
 try rw[cZ]
 have u1:dD h (h.set r1 (.cells (Value.cells p.v) aR)):=cU.new hr1;have B1:Bx (h.set r1 (.cells (Value.cells p.v) aR)) r1 p.cells:=Bx.new;generalize h.set r1 (.cells (Value.cells p.v) aR)=h1 at *;intro r3 hr3
 try rw[cZ]
 have u3:dD h1 (h1.set r3 (.cells (Value.cells (.string (tx pf))) bR)):=cU.new hr3;have B3:Bx (h1.set r3 (.cells (Value.cells (.string (tx pf))) bR)) r3 [.string (tx pf)]:=Bx.new;generalize h1.set r3 (.cells (Value.cells (.string (tx pf))) bR)=h3 at *;have e3:=u1.trans u3;have C1:=B1.ext u3;have H3:=(iF.good c s).ext H e3
 try simp only[mV,cG,reduceIte,cT,Nat.reduceAdd]
 refine aLm (f:=λroot=>aCH root pf (fS 97 p.s.toNat) (aBo p)) H3 rfl (λh' u root k' hk'=>?_) λh4 f1 f2 c1 c2 R1 R2 u4=>?_
 ·show aT PG aDJ #[.string (tx root),pT r3 0,pT r1 0] h' k';apply uO.call;unfold uO;have lpf:∀{h'':PH},dD h' h''->cE PG h'' (loadAt bR (pT r3 0))=some (.string (tx pf)):=λv=>by rw[bR.load,((B3.ext u).ext v).cell];rfl
  have lp:∀{h'':PH},dD h' h''->cE PG h'' (loadAt aR (pT r1 0))=some p.v:=λv=>((C1.ext u).ext v).pk rfl;have ls:cE PG h' (loadAt cA (pT r1 1))=some (.int .u64 (n:Int)):=by rw[cA.load,(C1.ext u).cell,←hn];rfl
  simp only[lpf cU.refl,lp cU.refl,aR.f1,fJ,ls,cG,reduceIte,cT,Nat.reduceAdd];refine aJi hn2 λh5 u5=>?_;refine⟨lp u5,lpf u5,?_⟩;refine aOk w (hK.ext ((e3.trans u).trans u5)) λh6 u6=>?_;refine⟨lpf (u5.trans u6),?_⟩;refine aSz (hK.ext (((e3.trans u).trans u5).trans u6)) λh7 u7=>?_;have:=hk' h7 ((u5.trans u6).trans u7);rw[hn] at this;exact this
 have e4:=e3.trans u4;simp only[cG,reduceIte,cT,Nat.reduceAdd];intro r10 hr10
 try rw[cZ]
 have u5:dD h4 (h4.set r10 (.cells (dL PG cK) cK)):=cU.new hr10;have Z10:=cK.zbox (h:=h4) (r:=r10);generalize h4.set r10 (.cells (dL PG cK) cK)=h5 at *;intro r12 hr12
 try rw[cZ]
 have u6:dD h5 (h5.set r12 (.cells (dL PG cK) cK)):=cU.new hr12;have Z12:=cK.zbox (h:=h5) (r:=r12);have n1012:r10≠r12:=Z10.apart hr12;have Y10:=Z10.ext u6;generalize h5.set r12 (.cells (dL PG cK) cK)=h6 at *;have k10:h4 r10=none:=hr10;have k12:h4 r12=none:=u5.none hr12;refine cK.put (vs:=[f1,.int .i64 11]) Y10 (o:=0) rfl (by show 0+2≤2;decide) (by simp only[gL,kJ,or_false];rintro z (rfl|rfl);exact c1;rfl) λh7 B7 u7=>?_;refine cK.put (vs:=[f2,.int .i64 9]) (Z12.upd u7 (by simpa using n1012.symm)) (o:=0) rfl (by show 0+2≤2;decide) (by simp only[gL,kJ,or_false];rintro z (rfl|rfl);exact c2;rfl) λh8 B8 u8=>?_;have e48:dD h4 h8:=((u5.trans u6).fresh u7 (dZ.one k10)).fresh u8 (dZ.one k12);have l10:cE PG h8 (loadAt cK (pT r10 0))=some (.agg #[f1,.int .i64 11]):=cK.agg (B7.upd u8 (by simpa using n1012)) (by show 0+2≤2;decide);have l12:cE PG h8 (loadAt cK (pT r12 0))=some (.agg #[f2,.int .i64 9]):=cK.agg B8 (by show 0+2≤2;decide);have lp8:cE PG h8 (loadAt aR (pT r1 0))=some p.v:=(C1.ext (u4.trans e48)).pk rfl;simp only[lp8,l10,l12,aRk,cG,reduceIte,cT,Nat.reduceAdd];intro r21 hr21;refine fL ?_
 try rw[cZ]
 obtain⟨rs,hrs⟩:∃rs:List RuV,rs=[(f1,11,(kN s.cl x).isSome),(f2,9,aCH (pS s.cl x) pf (fS 97 p.s.toNat) (aBo p))]:=⟨_,rfl⟩;have ecells:(#[f1,.int .i64 11,f2,.int .i64 9]:Array Value)=(rs.map mE).flatten.toArray:=by rw[hrs];rfl
 have ers:rs.map (·.2)=xK s p pf x:=by rw[hrs];rfl
 rw[ecells];have u9:dD h8 (h8.set r21 (.cells (rs.map mE).flatten.toArray cK)):=cU.new hr21;have S9:fR (h8.set r21 (.cells (rs.map mE).flatten.toArray cK)) 2 (.slice (some ⟨r21,0,none⟩) 2 2) (rs.map mE):=(eD.lit (mE.rows rs) dM (by rw[hrs];simp) (by decide) (by simp)).slR;generalize h8.set r21 (.cells (rs.map mE).flatten.toArray cK)=h9 at *;have e49:=e48.trans u9;have e9:=e4.trans e49;have hrules:aHW h9 rs:=λy hy=>by
  rw[hrs] at hy;simp only[gL,kJ,or_false] at hy;rcases hy with rfl|rfl
  ·exact⟨c1,R1.ext e49⟩
  ·exact⟨c2,R2.ext e49⟩
 refine aNp (hK.ext e9) ((iF.good c s).ext H e9) 3 w S9 hrules (by rw[hrs];simp) (by rw[hrs];simp) hl (λhe h' H' u'=>?_) (λhe h' F' H' s'=>?_)
 ·rw[ers] at he ⊢;exact hbad he h' H' (e9.trans u')
 ·rw[ers] at he;exact hk he h' F' H' ((iX.ext e9).trans s')
noncomputable def qO(s:Ch)(p:Pk)(pf:Tx)(x:Int):List (Int×Bool):=[(11,decide (IntKind.u64.wrap (p.t-1)≤x)),(11,(kN s.cl x).isSome),(9,aCY (pS s.cl x) pf (fS 114 p.s.toNat))]
theorem aQ6{h:PH}{c:Nat}{s:Ch}{F:List Nat}(hK:nJ h)(H:iF c s h F){p:Pk}(w:p.wf){pf:Tx}{x:Int}(hl:s.nts.length<1000000){kk:cD}
  (hbad:jH s p (qO s p pf x)≠0->∀h',iF c s h' F->dD h h'->kk (.int .i64 (jH s p (qO s p pf x))) h')
  (hk:jH s p (qO s p pf x)=0->∀h' F',iF c (s.settled 4 p) h' F'->iX h F h' F'->kk (.int .i64 0) h'):
  aT PG aBk #[pT c 0,p.v,.string (tx pf),.int .u64 x] h kk:=by
 apply aAa.call;unfold aAa;obtain⟨n,hn⟩:=zLn w.1;have hn2:n<18446744073709551616:=by have:=w.2.1;omega
 intro r1 hr1
 try rw[cZ]
 have u1:dD h (h.set r1 (.cells (Value.cells p.v) aR)):=cU.new hr1;have B1:Bx (h.set r1 (.cells (Value.cells p.v) aR)) r1 p.cells:=Bx.new;generalize h.set r1 (.cells (Value.cells p.v) aR)=h1 at *;intro r3 hr3
 try rw[cZ]
 have u3:dD h1 (h1.set r3 (.cells (Value.cells (.string (tx pf))) bR)):=cU.new hr3;have B3:Bx (h1.set r3 (.cells (Value.cells (.string (tx pf))) bR)) r3 [.string (tx pf)]:=Bx.new;generalize h1.set r3 (.cells (Value.cells (.string (tx pf))) bR)=h3 at *;intro r5 hr5
 try rw[cZ]
 have u5:dD h3 (h3.set r5 (.cells (Value.cells (.int .u64 x)) cA)):=cU.new hr5;have B5:Bx (h3.set r5 (.cells (Value.cells (.int .u64 x)) cA)) r5 [.int .u64 x]:=Bx.new;generalize h3.set r5 (.cells (Value.cells (.int .u64 x)) cA)=h5 at *;have e5:=(u1.trans u3).trans u5;have C1:=(B1.ext u3).ext u5;have C3:=B3.ext u5;have H5:=(iF.good c s).ext H e5;have lx:∀{h'':PH},dD h5 h''->cE PG h'' (loadAt cA (pT r5 0))=some (.int .u64 x):=λv=>by rw[cA.load,(B5.ext v).cell];rfl
 simp only[lx cU.refl,mV,cG,reduceIte,cT,Nat.reduceAdd];refine aLm (f:=λroot=>aCY root pf (fS 114 p.s.toNat)) H5 rfl (λh' u root k' hk'=>?_) λh4 f1 f2 c1 c2 R1 R2 u4=>?_
 ·show aT PG aAK #[.string (tx root),pT r3 0,pT r1 0] h' k';apply pL.call;unfold pL;have lpf:∀{h'':PH},dD h' h''->cE PG h'' (loadAt bR (pT r3 0))=some (.string (tx pf)):=λv=>by rw[bR.load,((C3.ext u).ext v).cell];rfl
  have ls:cE PG h' (loadAt cA (pT r1 1))=some (.int .u64 (n:Int)):=by rw[cA.load,(C1.ext u).cell,←hn];rfl
  simp only[lpf cU.refl,aR.f1,fJ,ls,cG,reduceIte,cT,Nat.reduceAdd];refine aDW hn2 λh6 u6=>?_;refine⟨lpf u6,?_⟩;refine aVX (hK.ext ((e5.trans u).trans u6)) λh7 u7=>?_;have:=hk' h7 (u6.trans u7);rw[hn] at this;exact this
 have e4:=e5.trans u4;simp only[cG,reduceIte,cT,Nat.reduceAdd];intro r13 hr13
 try rw[cZ]
 have u6:dD h4 (h4.set r13 (.cells (dL PG cK) cK)):=cU.new hr13;have Z13:=cK.zbox (h:=h4) (r:=r13);generalize h4.set r13 (.cells (dL PG cK) cK)=h6 at *;intro r15 hr15
 try rw[cZ]
 have u7:dD h6 (h6.set r15 (.cells (dL PG cK) cK)):=cU.new hr15;have Z15:=cK.zbox (h:=h6) (r:=r15);have n1315:r13≠r15:=Z13.apart hr15;have Y13:=Z13.ext u7;generalize h6.set r15 (.cells (dL PG cK) cK)=h7 at *;have k13:h4 r13=none:=hr13;have k15:h4 r15=none:=u6.none hr15;refine cK.put (vs:=[f1,.int .i64 11]) Y13 (o:=0) rfl (by show 0+2≤2;decide) (by simp only[gL,kJ,or_false];rintro z (rfl|rfl);exact c1;rfl) λh8 B8 u8=>?_;refine cK.put (vs:=[f2,.int .i64 9]) (Z15.upd u8 (by simpa using n1315.symm)) (o:=0) rfl (by show 0+2≤2;decide) (by simp only[gL,kJ,or_false];rintro z (rfl|rfl);exact c2;rfl) λh9 B9 u9=>?_;have e49:dD h4 h9:=((u6.trans u7).fresh u8 (dZ.one k13)).fresh u9 (dZ.one k15);have D13:=B8.upd u9 (by simpa using n1315)
 try simp only[mV,aJy,cG,reduceIte,cT,Nat.reduceAdd]
 intro r23 hr23
 try rw[cZ]
 refine cK.fill (vs:=[.func (.func mG) #[] #[pT r5 0,pT r1 0],.int .i64 11]) hr23 rfl (by simp[eP]) λh10 B10 u10=>?_;have e410:=e49.trans u10;have l13:cE PG h10 (loadAt cK (pT r13 0))=some (.agg #[f1,.int .i64 11]):=cK.agg (D13.ext u10) (by show 0+2≤2;decide);have l15:cE PG h10 (loadAt cK (pT r15 0))=some (.agg #[f2,.int .i64 9]):=cK.agg (B9.ext u10) (by show 0+2≤2;decide);have l23:cE PG h10 (loadAt cK (pT r23 0))=some (.agg #[.func (.func mG) #[] #[pT r5 0,pT r1 0],.int .i64 11]):=cK.agg B10 (by show 0+2≤2;decide);have v510:dD h5 h10:=u4.trans e410;have lp8:cE PG h10 (loadAt aR (pT r1 0))=some p.v:=(C1.ext v510).pk rfl;simp only[lp8,l13,l15,l23,aWm,cG,reduceIte,cT,Nat.reduceAdd];intro r31 hr31;refine fL ?_
 try rw[cZ]
 obtain⟨rs,hrs⟩:∃rs:List RuV,rs=[(.func (.func mG) #[] #[pT r5 0,pT r1 0],11,decide (IntKind.u64.wrap (p.t-1)≤x)),(f1,11,(kN s.cl x).isSome),(f2,9,aCY (pS s.cl x) pf (fS 114 p.s.toNat))]:=⟨_,rfl⟩;have ecells:(#[.func (.func mG) #[] #[pT r5 0,pT r1 0],.int .i64 11,f1,.int .i64 11,f2,.int .i64 9]:Array Value)=(rs.map mE).flatten.toArray:=by rw[hrs];rfl
 have ers:rs.map (·.2)=qO s p pf x:=by rw[hrs];rfl
 rw[ecells];have u11:dD h10 (h10.set r31 (.cells (rs.map mE).flatten.toArray cK)):=cU.new hr31;have S11:fR (h10.set r31 (.cells (rs.map mE).flatten.toArray cK)) 2 (.slice (some ⟨r31,0,none⟩) 3 3) (rs.map mE):=(eD.lit (mE.rows rs) dM (by rw[hrs];simp) (by decide) (by simp)).slR;generalize h10.set r31 (.cells (rs.map mE).flatten.toArray cK)=h11 at *;have e411:=e410.trans u11;have e11:=e4.trans e411;have v511:=v510.trans u11;have hrules:aHW h11 rs:=λy hy=>by
  rw[hrs] at hy;simp only[gL,kJ,or_false] at hy;rcases hy with rfl|rfl|rfl
  ·refine⟨rfl,λh' u k' hk'=>?_⟩;show aT PG mG #[pT r5 0,pT r1 0] h' k';apply yO.call;unfold yO;have lt:cE PG h' (loadAt cA (pT r1 2))=some (.int .u64 p.t):=by rw[cA.load,(C1.ext (v511.trans u)).cell];rfl
   simp only[lx (v511.trans u),aR.f2,fJ,lt,cG,reduceIte,cT,Nat.reduceAdd];exact hk' h' cU.refl
  ·exact⟨c1,R1.ext e411⟩
  ·exact⟨c2,R2.ext e411⟩
 refine aNp (hK.ext e11) ((iF.good c s).ext H e11) 4 w S11 hrules (by rw[hrs];simp) (by rw[hrs];simp) hl (λhe h' H' u'=>?_) (λhe h' F' H' s'=>?_)
 ·rw[ers] at he ⊢;exact hbad he h' H' (e11.trans u')
 ·rw[ers] at he;exact hk he h' F' H' ((iX.ext e11).trans s')
end Go.Proofs.YtppgkeodaejgcaaGreatDoor
