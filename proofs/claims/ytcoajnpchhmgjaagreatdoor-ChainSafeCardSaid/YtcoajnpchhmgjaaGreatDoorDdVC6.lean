/- The texts of this claim, put together. -/
import Derived.Test.YtcoajnpchhmgjaaGreatDoorDdVC5
import Derived.Shelf.SlSortCmp.NoneTotal
set_option linter.unusedSimpArgs false
set_option linter.unusedVariables false
set_option linter.unusedSectionVars false
set_option maxRecDepth 100000
open Go.Instr (loadAt fieldAt indexAt extract buildSlice build)
namespace Go.Proofs.YtcoajnpchhmgjaaGreatDoor
open Go Go.Sort Go.Shelf
theorem aOA{α:Type}[Inhabited α](enc:α->List Value)(k:Nat)(hk0:0<k)(hlen:∀x,(enc x).length=k)(l:List α):(l.map enc).flatten=(flatK enc k l.toArray).toList:=by
 have hr:lC k (l.map enc):=λr hr=>by obtain⟨x,_,rfl⟩:=mT.1 hr;exact hlen x
 apply List.ext_getElem?
 intro j
 have hfl:(l.map enc).flatten.length=l.length*k:=by rw[hr.flat,kQ]
 by_cases hj:j<l.length*k
 ·have hi:j/k<l.length:=(Nat.div_lt_iff_lt_mul hk0).2 hj
  have hat:=hr.at (i:=j/k) (r:=enc l[j/k]) (by simp[hi])
  have hc:j%k<k:=zLy _ hk0
  have e1:(l.map enc).flatten[j]? =(enc l[j/k])[j%k]?:=by
   rw[←hat,aGj,if_pos hc,aJ7]
   congr 1
   rw[zLP];exact(Nat.div_add_mod j k).symm
  have hs:j<(flatK enc k l.toArray).size:=by rw[size_flatK];exact hj
  have hg:=get_flatK enc k l.toArray j (by simpa using hj)
  rw[getElem!_pos _ j hs] at hg
  have hle:j%k<(enc l[j/k]).length:=by rw[hlen];exact hc
  have hx:l.toArray[j/k]! =l[j/k]:=by rw[getElem!_pos l.toArray (j/k) (by simpa using hi)];rfl
  have e2:(flatK enc k l.toArray).toList[j]? =(flatK enc k l.toArray)[j]?:=by simp
  rw[e1,e2,Array.getElem?_eq_getElem hs,hg,hx,nM hle,getElem!_pos (enc l[j/k]) (j%k) hle]
 ·rw[List.getElem?_eq_none (by omega),aJ2,Array.getElem?_eq_none (by simp;omega)]
theorem aOM(F c:Array Value)(hle:F.size≤c.size):(putCells id 0 F c).toList.take F.size=F.toList:=by
 apply List.ext_getElem?
 intro j
 rw[aGj,aJ2,aJ2]
 by_cases hj:j<F.size
 ·rw[if_pos hj]
  simp only[putCells,Array.getElem?_mapIdx,iG,Nat.zero_le,true_and,Nat.sub_zero,hj,if_true,id]
  rw[Array.getElem?_eq_getElem (by omega),Array.getElem?_eq_getElem hj,getElem!_pos F j hj];rfl
 ·rw[if_neg hj,Array.getElem?_eq_none (by omega)]
theorem aS8{w w':World}(os:w'.os=w.os)(tape:w'.tape=w.tape)(output:w'.output=w.output)(drawn:w.drawn≤w'.drawn)(size:w.heap.size≤w'.heap.size)(far:∀b,b<w.heap.size->w'.heap[b]? =w.heap[b]?):
  ∃q os',w'=grow (w.drewN q) os':=by
 refine⟨w'.drawn-w.drawn,w'.heap.extract w.heap.size w'.heap.size,?_⟩
 cases w with|mk heap tp dr o ou=>cases w' with|mk heap' tp' dr' o' ou'=>
 simp only at *
 subst os tape output
 unfold grow World.drewN
 simp only[World.mk.injEq,and_true,true_and]
 refine⟨?_,by omega⟩
 apply Array.ext_getElem?
 intro i
 rw[Array.getElem?_append]
 split
 ·rename_i hi;exact far i hi
 ·rename_i hi
  rw[Array.getElem?_extract]
  split
  ·congr 1;omega
  ·rw[Array.getElem?_eq_none (by omega)]
theorem aPw{P:Program}{ρ:Ren}{α:Type}[Inhabited α](L:SlLaysF0.n6 P ρ){f:FuncId}(hf:ρ.f 6=f){k:Nat}(hk0:0<k)(aE:∀w,(isAgg (ρ.t 24)).run P w= .ok true w)(zE:∀w,(Go.sizeOf (ρ.t 24)).run P w= .ok k w)
  (enc:α->List Value) (hlen:∀x,(enc x).length=k) (h1:∀x,∀v∈enc x,v.oneCell'=true) (cf:α->α->Int) (hO:SWO (ltOf cf)) {g:FuncId} (eg:aEE P g=true)
  (hcmp:∀x y,cR P g #[.agg (enc x).toArray,.agg (enc y).toArray] (λ_=>none) λv _=>v= .int .i64 (cf x y)) (hen:aEE P f=true)
  {e:TypeId} {v:Value} {F:List Nat} {l:List α} {h:PH} (H:gU h e k v (l.map enc) F) (hsz:l.length<4611686018427387904) {R:eJ}
  (hk:∀(l':List α) h',l'.Perm l->l'.Pairwise (λa b=>ltOf cf b a=false)->gU h' e k v (l'.map enc) F->eW F h h'->R (.tuple #[]) h'):cR P f #[v,.func (.func g) #[] #[]] h R:=by
 subst hf
 refine .inl ⟨hen,λw hs=>?_⟩
 have heg:∀(args:Array Value) (w:World),(callFunc g args).run P w= .ok (.enter g args) w:=λargs w=>
  bT.run (h:=λ_=>none) (aHu eg) (λ_ _ hb=>by cases hb)
 rcases H.here with⟨hv,hr,hF⟩|⟨b,cap,cs,hv,hF,hb,hle,hcm,hcs,htk⟩
 ·have hl:l=[]:=List.map_eq_nil_iff.1 hr
  subst hl hv hF
  refine(AnyF.slices_SortFunc_none L none 0 _ w).mono λe1 w' ⟨he,hw⟩=>?_
  subst hw
  exact⟨_,h,he,hk [] h (List.Perm.refl _) List.Pairwise.nil H eW.refl,hs,Fr.refl _ _⟩
 ·subst hF
  have hfl:=aOA enc k hk0 hlen l
  have hrl:(l.map enc).length=l.length:=kQ _
  rw[hrl] at hv hle htk
  have hwb:=hs b _ hb
  have hblk:b<w.heap.size:=hs.lt hb
  have hH:HoldsK enc k w b 0 l.toArray:=by
   intro j hj
   have hj':j<l.length*k:=by simpa using hj
   have hc:cs[j]? =some ((flatK enc k l.toArray)[j]!):=by
    have e1:cs.toList[j]? =(l.map enc).flatten[j]?:=by rw[←htk,aGj,if_pos hj']
    rw[aJ2] at e1
    rw[e1,hfl,aJ2,Array.getElem?_eq_getElem hj,getElem!_pos _ j hj]
   constructor
   ·unfold World.cell?;simp only[iG,hwb,zLs];simpa using hc
   ·unfold World.frozen?;simp only[hwb];simp
  have hcm':CmpLays P g #[] enc k cf b 0 l.toArray.size w:=by
   intro m os dk _ x y
   have hc:=(hcmp x y).calls eg (sortWorldK enc k w b 0 m dk os) (λ_ _ hb=>by cases hb)
   refine hc.mono λe1 w' ⟨v1,h1,he,hv1,_,fr⟩=>⟨by rw[he,hv1],aS8 fr.os fr.tape fr.output fr.drawn fr.size λi hi=>fr.far i hi rfl⟩
  have hS:=AnyQ.slices_SortFunc L k aE zE enc hlen h1 cf hO g #[] b 0 cap l.toArray w heg hcm' hH hblk (by simpa using hsz)
  subst hv
  have hz:l.toArray.size=l.length:=by simp
  rw[hz] at hS
  refine hS.mono λe1 w' ⟨he,d',n,os,hp,hso,hw⟩=>?_
  obtain⟨hps,_,hpp⟩:=hp
  have hds:d'.toList.length=l.length:=by simpa using hps
  let c':=putCells id 0 (flatK enc k d') cs
  have hmod:∀i,w'.heap[i]? =if i<w.heap.size then(if i=b then some (.cells c' e (0,0)) else w.heap[i]?) else os[i-w.heap.size]?:=by
   intro i
   subst hw
   show((w.heap.modify b (onCells (putCells id 0 (flatK enc k d'))))++os)[i]? =_
   rw[Array.getElem?_append,Array.size_modify,Array.getElem?_modify]
   by_cases hi:i<w.heap.size
   ·rw[if_pos hi,if_pos hi]
    by_cases hib:i=b
    ·subst hib;rw[if_pos rfl,if_pos rfl,hwb];rfl
    ·rw[if_neg (Ne.symm hib),if_neg hib]
   ·rw[if_neg hi,if_neg hi]
  have hsub:qC (h.set b (.cells c' e (0,0))) w':=by
   intro i o hi
   rw[hmod]
   unfold PH.set at hi
   split at hi
   ·rename_i e1;subst e1;rw[if_pos hblk,if_pos rfl];exact hi
   ·rename_i e1;rw[if_pos (hs.lt hi),if_neg e1];exact hs _ _ hi
  have hfr:Fr h w (h.set b (.cells c' e (0,0))) w':=by
   subst hw
   refine⟨rfl,rfl,rfl,?_,?_,λi hi hn=>?_,λi hi hn=>?_⟩
   ·show w.drawn≤w.drawn+n;omega
   ·show w.heap.size≤((w.heap.modify b _)++os).size;simp
   ·rw[hmod,if_pos hi,if_neg (λe1=>by subst e1;rw[hb] at hn;cases hn)]
   ·rw[qK (λe1=>by subst e1;rw[hb] at hn;cases hn)];exact hn
  refine⟨_,_,he,hk d'.toList _ ?_ ?_ ⟨λr hr=>?_,.inr ⟨b,cap,c',?_,rfl,fP,?_,hcm,?_,?_⟩⟩ (eW.set (by simp)),hsub,hfr⟩
  ·have e1:d'.extract 0 l.length=d':=by rw[←hz,←hps];simp
   have e2:l.toArray.extract 0 l.length=l.toArray:=by rw[←hz];simp
   rw[e1,e2] at hpp
   simpa using hpp
  ·rw[List.pairwise_iff_getElem]
   intro i j hi hj hij
   have:=hso i j (Nat.zero_le _) hij (by rw[←hz,←hps];simpa using hj)
   rw[getElem!_pos d' i (by simpa using hi),getElem!_pos d' j (by simpa using hj)] at this
   simpa using this
  ·obtain⟨x,_,rfl⟩:=mT.1 hr;exact hlen x
  ·rw[kQ,hds]
  ·rw[kQ,hds];exact hle
  ·show(putCells id 0 (flatK enc k d') cs).size=_
   unfold putCells
   rw[Array.size_mapIdx];exact hcs
  ·rw[kQ,hds]
   have hfd:=aOA enc k hk0 hlen d'.toList
   rw[hfd]
   have hsz2:(flatK enc k d').size=l.length*k:=by rw[size_flatK,hps,hz]
   have:=aOM (flatK enc k d') cs (by rw[hsz2,hcs];exact zLM _ hle)
   rw[hsz2] at this
   simpa using this
end Go.Proofs.YtcoajnpchhmgjaaGreatDoor
namespace Go.Proofs.YtcoajnpchhmgjaaGreatDoor
open Go Go.Shelf
def aJC:Go.Shelf.Ren:=⟨fun|6=>58|15=>131|14=>130|28=>190|29=>191|20=>182|21=>183|22=>184|23=>185|24=>186|25=>187|26=>188|27=>189|46=>215|47=>216|48=>217|49=>218|50=>219|57=>235|n=>n,fun|22=>90|24=>133|25=>144|3=>3|39=>209|0=>0|53=>216|55=>22|4=>4|46=>256|45=>255|50=>180|5=>5|9=>9|66=>285|70=>288|76=>307|77=>308|n=>n,fun|n=>n⟩
theorem aU7:Go.Proofs.SlLaysF0.n6 Tryz.prog aJC:={
 mixed:=by kernel_rfl
 f6:=⟨Tryz.f58.name,by decide,Tryz.func58.trans (congrArg some (by kernel_rfl))⟩
 f14:=⟨Tryz.f130.name,by decide,Tryz.func130.trans (congrArg some (by kernel_rfl))⟩
 f15:=Tryz.func131.trans (congrArg some (by kernel_rfl))
 f20:=⟨Tryz.f182.name,by decide,Tryz.func182.trans (congrArg some (by kernel_rfl))⟩
 f21:=⟨Tryz.f183.name,by decide,Tryz.func183.trans (congrArg some (by kernel_rfl))⟩
 f22:=⟨Tryz.f184.name,by decide,Tryz.func184.trans (congrArg some (by kernel_rfl))⟩
 f23:=⟨Tryz.f185.name,by decide,Tryz.func185.trans (congrArg some (by kernel_rfl))⟩
 f24:=⟨Tryz.f186.name,by decide,Tryz.func186.trans (congrArg some (by kernel_rfl))⟩
 f25:=⟨Tryz.f187.name,by decide,Tryz.func187.trans (congrArg some (by kernel_rfl))⟩
 f26:=⟨Tryz.f188.name,by decide,Tryz.func188.trans (congrArg some (by kernel_rfl))⟩
 f27:=⟨Tryz.f189.name,by decide,Tryz.func189.trans (congrArg some (by kernel_rfl))⟩
 f28:=Tryz.func190.trans (congrArg some (by kernel_rfl))
 f29:=Tryz.func191.trans (congrArg some (by kernel_rfl))
 f46:=⟨Tryz.f215.name,by decide,Tryz.func215.trans (congrArg some (by kernel_rfl))⟩
 f47:=Tryz.func216.trans (congrArg some (by kernel_rfl))
 f48:=Tryz.func217.trans (congrArg some (by kernel_rfl))
 f49:=⟨Tryz.f218.name,by decide,Tryz.func218.trans (congrArg some (by kernel_rfl))⟩
 f50:=⟨Tryz.f219.name,by decide,Tryz.func219.trans (congrArg some (by kernel_rfl))⟩
 f57:=⟨Tryz.f235.name,by decide,Tryz.func235.trans (congrArg some (by kernel_rfl))⟩
 t0:=Tryz.underlying0
 a0:=Tryz.isAgg0
 z0:=Tryz.sizeOf0
 v0:=Tryz.zeroValue0
 t3:=Tryz.underlying3
 a3:=Tryz.isAgg3
 z3:=Tryz.sizeOf3
 v3:=Tryz.zeroValue3
 t4:=Tryz.underlying4
 a4:=Tryz.isAgg4
 z4:=Tryz.sizeOf4
 v4:=Tryz.zeroValue4
 t5:=Tryz.underlying5
 a5:=Tryz.isAgg5
 z5:=Tryz.sizeOf5
 v5:=Tryz.zeroValue5
 t9:=Tryz.underlying9
 a9:=Tryz.isAgg9
 z9:=Tryz.sizeOf9
 v9:=Tryz.zeroValue9
 t22:=Tryz.underlying90
 a22:=Tryz.isAgg90
 z22:=Tryz.sizeOf90
 v22:=Tryz.zeroValue90
 t25:=Tryz.underlying144
 a25:=Tryz.isAgg144
 z25:=Tryz.sizeOf144
 v25:=Tryz.zeroValue144
 t39:=Tryz.underlying209
 a39:=Tryz.isAgg209
 z39:=Tryz.sizeOf209
 v39:=Tryz.zeroValue209
 t45:=Tryz.underlying255
 a45:=Tryz.isAgg255
 z45:=Tryz.sizeOf255
 v45:=Tryz.zeroValue255
 t46:=Tryz.underlying256
 a46:=Tryz.isAgg256
 z46:=Tryz.sizeOf256
 v46:=Tryz.zeroValue256
 t50:=Tryz.underlying180
 a50:=Tryz.isAgg180
 z50:=Tryz.sizeOf180
 v50:=Tryz.zeroValue180
 t53:=Tryz.underlying216
 a53:=Tryz.isAgg216
 z53:=Tryz.sizeOf216
 v53:=Tryz.zeroValue216
 t55:=Tryz.underlying22
 a55:=Tryz.isAgg22
 z55:=Tryz.sizeOf22
 v55:=Tryz.zeroValue22
 t66:=Tryz.underlying285
 a66:=Tryz.isAgg285
 z66:=Tryz.sizeOf285
 v66:=Tryz.zeroValue285
 t70:=Tryz.underlying288
 a70:=Tryz.isAgg288
 z70:=Tryz.sizeOf288
 v70:=Tryz.zeroValue288
 t76:=Tryz.underlying307
 a76:=Tryz.isAgg307
 z76:=Tryz.sizeOf307
 v76:=Tryz.zeroValue307
 t77:=Tryz.underlying308
 a77:=Tryz.isAgg308
 z77:=Tryz.sizeOf308
 v77:=Tryz.zeroValue308}
theorem aVl(w:World):(isAgg (aJC.t 24)).run PG w= .ok true w:=Tryz.isAgg133 w
theorem aTs(w:World):(Go.sizeOf (aJC.t 24)).run PG w= .ok 2 w:=Tryz.sizeOf133 w
end Go.Proofs.YtcoajnpchhmgjaaGreatDoor
namespace Go.Proofs.YtcoajnpchhmgjaaGreatDoor
open Go Bld Go.Sort Go.Shelf
def cfP(p q:Pr):Int:=if p.k<q.k then -1 else if q.k<p.k then 1 else 0
theorem aMf{h:PH}{a b:Tx}{k:eJ}(hk:k (.int .i64 (if a<b then -1 else if b<a then 1 else 0)) h):cR PG yH #[.string (tx a),.string (tx b)] h k:=by
 apply aBV.call
 unfold aBV
 apply wG.call
 unfold wG
 simp only[aEw,decide_true,eK,reduceIte]
 apply wG.call
 unfold wG
 simp only[aEw,decide_true,eK,reduceIte]
 by_cases h1:a<b
 ·rw[if_pos h1] at hk
  simp only[xQ,h1,eK,reduceIte]
  exact hk
 ·rw[if_neg h1] at hk
  by_cases h2:b<a
  ·rw[if_pos h2] at hk
   simp only[xQ,aMm,h1,h2,eK,reduceIte]
   exact hk
  ·rw[if_neg h2] at hk
   simp only[xQ,aMm,h1,h2,eK,reduceIte]
   exact hk
theorem aUH(p q:Pr){h:PH}{k:eJ}(hk:∀h',fE h h'->k (.int .i64 (cfP p q)) h'):cR PG rE #[p.val,q.val] h k:=by
 apply zO.call
 unfold zO
 rw[aLS,aLS]
 intro r1 hr1
 try rw[eY]
 have u1:fE h (h.set r1 (.cells #[.string (tx p.k),.string (tx p.v)] eQ)):=eW.new hr1
 have a1:(h.set r1 (.cells #[.string (tx p.k),.string (tx p.v)] eQ)) r1=some (.cells #[.string (tx p.k),.string (tx p.v)] eQ (0,0)):=fP
 generalize h.set r1 (.cells #[.string (tx p.k),.string (tx p.v)] eQ)=h1 at *
 intro r2 hr2
 try rw[eY]
 have u2:fE h1 (h1.set r2 (.cells #[.string (tx q.k),.string (tx q.v)] eQ)):=eW.new hr2
 have a2:(h1.set r2 (.cells #[.string (tx q.k),.string (tx q.v)] eQ)) r2=some (.cells #[.string (tx q.k),.string (tx q.v)] eQ (0,0)):=fP
 generalize h1.set r2 (.cells #[.string (tx q.k),.string (tx q.v)] eQ)=h2 at *
 have b1:=u2.get a1
 have c0:fH h2 ⟨r1,0,none⟩=some (.string (tx p.k)):=by simp[fH,b1]
 have c1:fH h2 ⟨r2,0,none⟩=some (.string (tx q.k)):=by simp[fH,a2]
 simp only[eQ.f0,cT.load,c0,c1,eK,reduceIte]
 exact aMf (hk _ (u1.trans u2))
theorem aKB(a b:Pr):ltOf cfP a b=decide (a.k<b.k):=by
 unfold ltOf cfP
 by_cases h1:a.k<b.k
 ·simp[h1]
 ·by_cases h2:b.k<a.k
  ·simp[h1,h2]
  ·simp[h1,h2]
theorem aRn{x y z:Tx}(h1:¬x<y)(h2:¬y<z):¬x<z:=by
 intro h
 rcases aGw x y with h3|rfl|h3
 ·exact h1 h3
 ·exact h2 h
 ·exact h2 (List.lt_trans h3 h)
theorem aX1:SWO (ltOf cfP) where
 irrefl x:=by rw[aKB];simp[zLY]
 trans x y z h1 h2:=by
  rw[aKB] at *
  simp only[decide_eq_true_eq] at *
  exact List.lt_trans h1 h2
 ntrans x y z h1 h2:=by
  rw[aKB] at *
  simp only[decide_eq_false_iff_not] at *
  exact aRn h1 h2
instance:Inhabited Pr:=⟨⟨[],[]⟩⟩
theorem aTc{h:PH}{v:Value}{F:List Nat}{l:List Pr}(H:gU h eQ 2 v (l.map Pr.cells) F)(hl:l.length≤1000000){k:eJ}
  (hk:∀(l':List Pr) h',l'.Perm l->l'.Pairwise (λa b=>¬b.k<a.k)->gU h' eQ 2 v (l'.map Pr.cells) F->eW F h h'->k (.tuple #[]) h'):
  cR PG pO #[v,.func (.func rE) #[] #[]] h k:=by
 refine aPw (P:=PG) aU7 (f:=pO) rfl (k:=2) (by decide) aVl aTs Pr.cells (λ_=>rfl) (λx v hv=>?_) cfP aX1 (g:=rE) (by kernel_rfl)
  (λx y=>aUH x y λh' _=>rfl) (by kernel_rfl) H (by omega) (λl' h' hp hs hO u=>hk l' h' hp ?_ hO u)
 ·simp only[Pr.cells,jG,mD,or_false] at hv
  rcases hv with rfl|rfl<;>rfl
 ·refine hs.imp fun {a b} hab=>?_
  rw[aKB] at hab
  simpa using hab
end Go.Proofs.YtcoajnpchhmgjaaGreatDoor
namespace Go.Proofs.YtcoajnpchhmgjaaGreatDoor
open Go Bld
def rG(l:List Pr):Prop:=l.Pairwise λa b=>a.k<b.k
def oV(L:List Pr)(p:Pr):List Pr:=L.filter (λq=>decide (q.k<p.k))++p::L.filter (λq=>decide (p.k<q.k))
def zR(L:List Pr)(k:Tx):List Pr:=L.filter λq=>decide (q.k≠k)
def jI(L:List Pr)(k:Tx):Option Pr:=L.find? λq=>decide (k=q.k)
theorem rG.irr{L:List Pr}(h:rG L):L.Nodup:=by
 refine List.Pairwise.imp (fun {a b} hab=>?_) h
 rintro rfl
 exact zLY _ hab
theorem rG.keys{L:List Pr}(h:rG L):(L.map Pr.k).Nodup:=by
 unfold List.Nodup
 rw[List.pairwise_map]
 refine List.Pairwise.imp (fun {a b} hab e=>?_) h
 rw[e] at hab
 exact zLY _ hab
theorem rG.ext{A B:List Pr}(ha:rG A)(hb:rG B)(h:∀p,p∈A↔p∈B):A=B:=by
 have hp:A.Perm B:=(List.perm_ext_iff_of_nodup ha.irr hb.irr).2 h
 unfold rG at ha hb
 exact List.Perm.eq_of_pairwise (le:=λa b:Pr=>a.k<b.k) (λa b _ _ (h1:a.k<b.k) h2=>absurd h2 (List.lt_asymm h1)) ha hb hp
theorem rG.one{L:List Pr}(h:rG L){p q:Pr}(hp:p∈L)(hq:q∈L)(e:p.k=q.k):p=q:=aFg h.keys hp hq e
theorem yA{L:List Pr}{p q:Pr}:q∈oV L p↔q=p∨(q∈L∧q.k≠p.k):=by
 unfold oV
 simp only[kR,jG,zLZ,decide_eq_true_eq]
 constructor
 ·rintro(⟨h1,h2⟩|rfl|⟨h1,h2⟩)
  ·exact .inr ⟨h1,λe=>by rw[e] at h2;exact zLY _ h2⟩
  ·exact .inl rfl
  ·exact .inr ⟨h1,λe=>by rw[e] at h2;exact zLY _ h2⟩
 ·rintro(rfl|⟨h1,h2⟩)
  ·exact .inr (.inl rfl)
  ·rcases aGw q.k p.k with h|h|h
   ·exact .inl ⟨h1,h⟩
   ·exact absurd h h2
   ·exact .inr (.inr ⟨h1,h⟩)
theorem aN5{L:List Pr}{k:Tx}{q:Pr}:q∈zR L k↔q∈L∧q.k≠k:=by
 unfold zR
 simp[zLZ]
theorem rG.del{L:List Pr}(h:rG L)(k:Tx):rG (zR L k):=List.Pairwise.filter _ h
theorem rG.set{L:List Pr}(h:rG L)(p:Pr):rG (oV L p):=by
 unfold oV rG
 rw[List.pairwise_append,List.pairwise_cons]
 refine⟨List.Pairwise.filter _ h,⟨λq hq=>?_,List.Pairwise.filter _ h⟩,λa ha b hb=>?_⟩
 ·simpa using(zLZ.1 hq).2
 ·have h1:a.k<p.k:=by simpa using(zLZ.1 ha).2
  rcases jG.1 hb with rfl|hb
  ·exact h1
  ·have h2:p.k<b.k:=by simpa using(zLZ.1 hb).2
   exact List.lt_trans h1 h2
theorem aEb{L:List Pr}{k:Tx}:jI L k=none↔∀p∈L,p.k≠k:=by
 unfold jI
 rw[List.find?_eq_none]
 simp only[decide_eq_true_eq]
 exact⟨λh p hp e=>h p hp e.symm,λh p hp e=>h p hp e.symm⟩
theorem uQ{L:List Pr}(h:rG L){k:Tx}{p:Pr}:jI L k=some p↔p∈L∧p.k=k:=by
 constructor
 ·intro e
  have h1:=List.mem_of_find?_eq_some e
  have h2:=List.find?_some e
  exact⟨h1,by simpa using Eq.symm (by simpa using h2)⟩
 ·rintro⟨h1,h2⟩
  cases e:jI L k with
  | none=>exact absurd h2 (aEb.1 e p h1)
  | some q=>
   have h3:=List.mem_of_find?_eq_some e
   have h4:k=q.k:=by simpa using List.find?_some e
   rw[h.one h3 h1 (by rw[h2];exact h4.symm)]
theorem aJn{l L:List Pr}(hp:l.Perm L)(hn:rG L)(k:Tx):jI l k=jI L k:=by
 have hnl:(l.map Pr.k).Nodup:=(hp.map Pr.k).nodup_iff.2 hn.keys
 cases e:jI L k with
 | none=>
  rw[aEb] at e ⊢
  exact λp h=>e p (hp.mem_iff.1 h)
 | some q=>
  obtain⟨h1,h2⟩:=(uQ hn).1 e
  cases e2:jI l k with
  | none=>exact absurd h2 (aEb.1 e2 q (hp.mem_iff.2 h1))
  | some r=>
   have h3:=List.mem_of_find?_eq_some e2
   have h4:k=r.k:=by simpa using List.find?_some e2
   rw[aFg hnl h3 (hp.mem_iff.2 h1) (by rw[h2];exact h4.symm)]
def Pr.pr(p:Pr):Tx×Value:=(p.k,sO p.v)
abbrev aNF(h:PH)(m:Nat)(l:List Pr):Prop:=kE sO h m (l.map Pr.pr)
theorem aTX(l:List Pr)(k:Tx):aAu (l.map Pr.pr) k=(jI l k).map λp=>sO p.v:=by
 unfold aAu jI
 rw[List.find?_map,Option.map_map]
 rfl
theorem aQI(l:List Pr)(k:Tx):aNJ (l.map Pr.pr) k=(zR l k).map Pr.pr:=by
 unfold aNJ zR
 rw[List.filter_map];rfl
theorem aVt(l:List Pr):uP (l.map Pr.pr)=l.map Pr.k:=by unfold uP;rw[zL0];rfl
theorem aNv{l L:List Pr}(hp:l.Perm L)(hs:rG L)(p:Pr):∃l':List Pr,aC7 (l.map Pr.pr) p.k (sO p.v)=l'.map Pr.pr∧l'.Perm (oV L p):=by
 have hnl:(l.map Pr.k).Nodup:=(hp.map Pr.k).nodup_iff.2 hs.keys
 have hnd:l.Nodup:=aGD Pr.k hnl
 unfold aC7
 rw[aVt]
 split
 ·rename_i hm
  refine⟨l.map λq=>if q.k=p.k then p else q,?_,?_⟩
  ·rw[zL0,zL0]
   apply zL1
   intro x _
   show(if x.k=p.k then(p.k,sO p.v) else(x.k,sO x.v))=Pr.pr (if x.k=p.k then p else x)
   by_cases hc:x.k=p.k
   ·rw[if_pos hc,if_pos hc];rfl
   ·rw[if_neg hc,if_neg hc];rfl
  ·have hk:(l.map λq=>if q.k=p.k then p else q).map Pr.k=l.map Pr.k:=by
    rw[zL0]
    apply zL1
    intro x _
    show(if x.k=p.k then p else x).k=x.k
    split
    ·rename_i e;exact e.symm
    ·rfl
   have hn2:(l.map λq=>if q.k=p.k then p else q).Nodup:=aGD Pr.k (by rw[hk];exact hnl)
   refine(List.perm_ext_iff_of_nodup hn2 (hs.set p).irr).2 λq=>?_
   rw[yA,mT]
   constructor
   ·rintro⟨x,hx,e⟩
    by_cases hc:x.k=p.k
    ·rw[if_pos hc] at e;exact .inl e.symm
    ·rw[if_neg hc] at e;subst e;exact .inr ⟨hp.mem_iff.1 hx,hc⟩
   ·rintro(rfl|⟨h1,h2⟩)
    ·obtain⟨x,hx,e⟩:=mT.1 hm
     exact⟨x,hx,by rw[if_pos e]⟩
    ·exact⟨q,hp.mem_iff.2 h1,by rw[if_neg h2]⟩
 ·rename_i hm
  refine⟨l++[p],by rw[rL];rfl,?_⟩
  have hno:∀x∈l,x.k≠p.k:=λx hx e=>hm (by rw[←e];exact zL4 hx)
  have hn2:(l++[p]).Nodup:=by
   rw[List.nodup_append]
   refine⟨hnd,by simp,λa ha b hb e=>?_⟩
   simp only[iQ] at hb
   subst hb;subst e
   exact hno _ ha rfl
  refine(List.perm_ext_iff_of_nodup hn2 (hs.set p).irr).2 λq=>?_
  rw[yA,kR,iQ]
  constructor
  ·rintro(h1|rfl)
   ·exact .inr ⟨hp.mem_iff.1 h1,hno q h1⟩
   ·exact .inl rfl
  ·rintro(rfl|⟨h1,h2⟩)
   ·exact .inr rfl
   ·exact .inl (hp.mem_iff.2 h1)
theorem aGs{h:PH}{m:Nat}{l:List Pr}(hm:aNF h m l)(k:Tx):bT PG h (Instr.lookup gB (.map (some m)) (.string (tx k)) true)=some (.tuple #[.string (tx (((jI l k).map Pr.v).getD [])),.bool (jI l k).isSome]):=by
 have:=aGA aIX gB.und cT.info cT.zero hm k true
 rw[aTX] at this
 rw[show(.string (tx k):Value)=sO k from rfl,this]
 cases jI l k<;>rfl
structure St where
 now:List Pr
 blocks:List (List Pr)
 height:Nat
def aCU(s:St)(k v:Tx):St×Int:=
 if k.length<1∨16<k.length∨64<v.length then(s,1) else if jI s.now k=none∧4096≤s.now.length then(s,2) else({s with now:=oV s.now ⟨k,v⟩},0)
def aEp(s:St)(k:Tx):St×Int:=if jI s.now k=none then(s,3) else({s with now:=zR s.now k},0)
def lF(s:St):St×(Nat×Int):=
 if s.height=18446744073709551615 then(s,(0,12)) else if 4096≤s.blocks.length then(s,(0,2)) else({s with blocks:=s.blocks++[s.now],height:=s.height+1},(s.height+1,0))
def tY(s:St)(x:Nat):Option (List Pr):=if s.height<x∨s.blocks.length≤s.height-x then none else s.blocks[s.blocks.length-1-(s.height-x)]?
structure St.Ok(s:St):Prop where
 up:rG s.now
 fit:∀p∈s.now,aNB p
 few:s.now.length≤4096
 blk:∀b∈s.blocks,rG b∧(∀p∈b,aNB p)∧b.length≤4096
 h1:1≤s.blocks.length
 h2:s.blocks.length≤4096
 h3:s.blocks.length-1≤s.height
 h4:s.height<18446744073709551616
end Go.Proofs.YtcoajnpchhmgjaaGreatDoor
namespace Go.Proofs.YtcoajnpchhmgjaaGreatDoor
open Go
structure Pf where
 ab:Bool
 lv:List Lf
 deriving DecidableEq
def Pf.zero:Pf:=⟨false,[]⟩
def Lf.okb(f:Lf):Bool:=decide (0≤f.i)&&decide (f.i≤4096)&&decide (0≤f.n)&&decide (f.n≤4096)&&decide (f.p.k.length≤16)&&decide (f.p.v.length≤64)&&decide (f.path.length≤16)&&f.path.all λd=>decide (d.length=32)
structure Lf.Ok(f:Lf):Prop where
 i0:0≤f.i
 i1:f.i≤4096
 n0:0≤f.n
 n1:f.n≤4096
 k:f.p.k.length≤16
 v:f.p.v.length≤64
 m:f.path.length≤16
 d:∀d∈f.path,d.length=32
theorem Lf.ok_iff{f:Lf}:f.okb=true↔f.Ok:=by
 unfold Lf.okb
 simp only[zF,decide_eq_true_eq,aCB]
 constructor
 ·rintro⟨⟨⟨⟨⟨⟨⟨a,b⟩,c⟩,d⟩,e⟩,g⟩,h⟩,i⟩
  exact⟨a,b,c,d,e,g,h,i⟩
 ·rintro⟨a,b,c,d,e,g,h,i⟩
  exact⟨⟨⟨⟨⟨⟨⟨a,b⟩,c⟩,d⟩,e⟩,g⟩,h⟩,i⟩
def aFY(f:Lf):Tx:=be f.i.toNat 8++(be f.n.toNat 8++((be f.p.k.length 2++f.p.k)++((be f.p.v.length 2++f.p.v)++(be f.path.length 1++f.path.flatten))))
def mJ:List Lf->Tx
 | []=>[]
 | f::l=>aFY f++mJ l
def aA0(p:Pf):Tx:=be (if p.ab then 2 else 1) 1++(be p.lv.length 1++mJ p.lv)
def mG(p:Pf):Tx×Int:=if p.lv.length≤2∧p.lv.all Lf.okb=true then(aA0 p,0) else([],1)
def lU(st:lT):Nat×lT:=if 4096<(jA st 8).1 then(0,aJm (jA st 8).2 5) else jA st 8
def yT:Nat->lT->List Tx->List Tx×lT
 | 0,st,acc=>(acc,st)
 | n+1,st,acc=>if st.1=0 then yT n (kP st 32).2 (acc++[(kP st 32).1]) else(acc,st)
def aDj(st:lT):Lf×lT:=
 let a:=lU st
 let b:=lU a.2
 let k:=nJ b.2
 let v:=nJ k.2
 let c:=jA v.2 1
 let m:=yT c.1 c.2 []
 (⟨(a.1:Int),(b.1:Int),⟨k.1,v.1⟩,m.1⟩,m.2)
def qW(st:lT):Lf×lT:=((aDj st).1,if (aDj st).1.okb then(aDj st).2 else aJm (aDj st).2 5)
def pW:Nat->lT->List Lf->List Lf×lT
 | 0,st,acc=>(acc,st)
 | n+1,st,acc=>pW n (qW st).2 (acc++[(qW st).1])
def jM(s:Tx):Pf×Int:=
 if (jA (0,s) 1).1<1∨2<(jA (0,s) 1).1∨2<(jA (jA (0,s) 1).2 1).1 then(Pf.zero,5)
 else if aLH (pW (jA (jA (0,s) 1).2 1).1 (jA (jA (0,s) 1).2 1).2 []).2≠0 then(Pf.zero,5)
 else(⟨decide ((jA (0,s) 1).1=2),(pW (jA (jA (0,s) 1).2 1).1 (jA (jA (0,s) 1).2 1).2 []).1⟩,0)
theorem aG8.fwd{α:Type}{R:lT->α×lT}{bs:Tx}{v:α}(h:aG8 R bs v)(r:Tx):R (0,bs++r)=(v,(0,r)):=h.all r
theorem aMW{n:Nat}(hn:n≤4096)(r:Tx):lU (0,be n 8++r)=(n,(0,r)):=by
 unfold lU
 rw[(xD (n:=n) (c:=8) (by omega)).fwd r,if_neg (by simp only;omega)]
theorem aOJ:∀(path acc:List Tx) (r:Tx),(∀d∈path,d.length=32)->yT path.length (0,path.flatten++r) acc=(acc++path,(0,r))
 | [],acc,r,_=>by simp[yT]
 | d::path,acc,r,h=>by
  have hd:=h d (by simp)
  have e:kP (0,d++(path.flatten++r)) 32=(d,(0,path.flatten++r)):=by
   have:=(aHx d).fwd (path.flatten++r)
   rw[hd] at this
   exact this
  rw[wT,aJ4,qU,yT,if_pos rfl,e]
  simp only
  rw[aOJ path (acc++[d]) r (λx hx=>h x (by simp[hx])),qU]
  rfl
theorem aSN{f:Lf}(h:f.Ok)(r:Tx):qW (0,aFY f++r)=(f,(0,r)):=by
 have e1:aDj (0,aFY f++r)=(f,(0,r)):=by
  obtain⟨i,n,p,path⟩:=f
  obtain⟨i0,i1,n0,n1,k,v,m,d⟩:=h
  simp only at i0 i1 n0 n1 k v m d
  obtain⟨i,rfl⟩:=zLm i0
  obtain⟨n,rfl⟩:=zLm n0
  unfold aDj aFY
  simp only[sM,qU]
  rw[aMW (by omega)]
  simp only
  rw[aMW (by omega)]
  simp only
  rw[show be p.k.length 2++(p.k++(be p.v.length 2++(p.v++(be path.length 1++(path.flatten++r)))))=(be p.k.length 2++p.k)++(be p.v.length 2++(p.v++(be path.length 1++(path.flatten++r)))) by rw[qU],
   (aG5 (l:=p.k) (by omega)).fwd]
  simp only
  rw[show be p.v.length 2++(p.v++(be path.length 1++(path.flatten++r)))=(be p.v.length 2++p.v)++(be path.length 1++(path.flatten++r)) by rw[qU],
   (aG5 (l:=p.v) (by omega)).fwd]
  simp only
  rw[(xD (n:=path.length) (c:=1) (by omega)).fwd]
  simp only
  rw[aOJ path [] r d]
  rfl
 unfold qW
 rw[e1,if_pos (Lf.ok_iff.2 h)]
theorem aLd:∀(l acc:List Lf) (r:Tx),(∀f∈l,f.Ok)->pW l.length (0,mJ l++r) acc=(acc++l,(0,r))
 | [],acc,r,_=>by simp[pW,mJ]
 | f::l,acc,r,h=>by
  rw[wT,mJ,qU,pW,aSN (h f (by simp))]
  simp only
  rw[aLd l (acc++[f]) r (λx hx=>h x (by simp[hx])),qU]
  rfl
theorem aOe{p:Pf}(h2:p.lv.length≤2)(h:∀f∈p.lv,f.Ok):jM (aA0 p)=(p,0):=by
 have e1:jA (0,aA0 p) 1=((if p.ab then 2 else 1),(0,be p.lv.length 1++mJ p.lv)):=by
  unfold aA0
  exact(xD (n:=if p.ab then 2 else 1) (c:=1) (by split<;>decide)).fwd _
 have e2:jA (0,be p.lv.length 1++mJ p.lv) 1=(p.lv.length,(0,mJ p.lv)):=(xD (n:=p.lv.length) (c:=1) (by omega)).fwd _
 have e3:pW p.lv.length (0,mJ p.lv) []=(p.lv,(0,[])):=by
  have:=aLd p.lv [] [] h
  rw[zLN,yB] at this
  exact this
 unfold jM
 rw[e1]
 simp only
 rw[e2]
 simp only
 rw[e3,if_neg (by cases p.ab<;>simp<;>omega),if_neg (by simp[aLH])]
 obtain⟨ab,lv⟩:=p
 cases ab<;>rfl
def jC(l:List Pr)(k:Tx):Nat:=(l.filter λq=>decide (q.k<k)).length
def lB(l:List Pr)(j:Nat):Lf:=⟨(j:Int),(l.length:Int),l.getD j ⟨[],[]⟩,nQ l j⟩
def kK(l:List Pr)(k:Tx):Pf:=
 if (jI l k).isSome then⟨false,[lB l (jC l k)]⟩
 else if l=[] then⟨true,[]⟩ else if jC l k=0 then⟨true,[lB l 0]⟩ else if jC l k=l.length then⟨true,[lB l (l.length-1)]⟩ else⟨true,[lB l (jC l k-1),lB l (jC l k)]⟩
def nN(root:Tx)(l:List Lf):Bool:=l.all λf=>oM f==some root
def aAM(root s k v:Tx):Bool:=
 (jM s).2==0 && !(jM s).1.ab&&(match (jM s).1.lv with|[f]=>f.p==⟨k,v⟩|_=>false)&&nN root (jM s).1.lv
def aAU(root s k:Tx):Bool:=
 (jM s).2==0&&(jM s).1.ab&&decide (1≤k.length)&&decide (k.length≤16)&&nN root (jM s).1.lv&&(match (jM s).1.lv with
  | []=>root==lO []
  | [f]=>(f.i==0&&decide (k<f.p.k))||(f.i==IntKind.i64.wrap (f.n-1)&&decide (f.p.k<k))
  | f::g::_=>f.n==g.n&&(IntKind.i64.wrap (f.i+1)==g.i)&&decide (f.p.k<k)&&decide (k<g.p.k))
theorem aFW{k:Tx}:∀{l:List Pr},rG l->∀{j:Nat} {x:Pr},l[j]? =some x->(j<jC l k↔x.k<k)
 | [],_,j,x,h=>by simp at h
 | a::l,hs,j,x,h=>by
  unfold rG at hs
  rw[List.pairwise_cons] at hs
  by_cases ha:a.k<k
  ·have e:jC (a::l) k=jC l k+1:=by unfold jC;rw[List.filter_cons_of_pos (by simpa using ha)];rfl
   rw[e]
   cases j with
   | zero=>
    simp only[qA,zL5] at h
    subst h
    exact⟨λ_=>ha,λ_=>by omega⟩
   | succ j=>
    rw[sK] at h
    rw[Nat.add_lt_add_iff_right]
    exact aFW hs.2 h
  ·have hn:∀y∈l,¬y.k<k:=λy hy h'=>ha (List.lt_trans (hs.1 y hy) h')
   have e:jC (a::l) k=0:=by
    unfold jC
    rw[List.filter_cons_of_neg (by simpa using ha),List.filter_eq_nil_iff.2 (λy hy=>by simpa using hn y hy)]
    rfl
   rw[e]
   have hx:¬x.k<k:=by
    cases j with
    | zero=>
     simp only[qA,zL5] at h
     subst h;exact ha
    | succ j=>
     rw[sK] at h
     exact hn x (uJ h)
   exact⟨λc=>by omega,λc=>absurd c hx⟩
theorem aIR(l:List Pr)(k:Tx):jC l k≤l.length:=List.length_filter_le _ _
theorem rG.lt{l:List Pr}(h:rG l){i j:Nat}{x y:Pr}(hx:l[i]? =some x)(hy:l[j]? =some y)(hij:i<j):x.k<y.k:=by
 obtain⟨h1,e1⟩:=zLx.1 hx
 obtain⟨h2,e2⟩:=zLx.1 hy
 have:=List.pairwise_iff_getElem.1 h i j h1 h2 hij
 rw[e1,e2] at this
 exact this
theorem aIz{l:List Pr}(hs:rG l){k:Tx}{p:Pr}(hg:jI l k=some p):l[jC l k]? =some p:=by
 obtain⟨hm,hk⟩:=(uQ hs).1 hg
 obtain⟨j,hj⟩:=List.mem_iff_getElem?.1 hm
 have h1:¬j<jC l k:=λc=>by
  have:=(aFW hs hj).1 c
  rw[hk] at this
  exact zLY _ this
 have hjl:=(zLx.1 hj).1
 have h2:¬jC l k<j:=λc=>by
  obtain⟨x,hx⟩:∃x,l[jC l k]? =some x:=⟨_,nM (by omega)⟩
  have h3:=hs.lt hx hj c
  rw[hk] at h3
  have:=(aFW hs hx).2 h3
  omega
 have:jC l k=j:=by omega
 rw[this];exact hj
structure MOk(l:List Pr):Prop where
 up:rG l
 len:l.length≤4096
 k:∀p∈l,p.k.length≤16
 v:∀p∈l,p.v.length≤64
theorem aHN{l:List Pr}{j:Nat}{p:Pr}(hj:l[j]? =some p):lB l j=⟨(j:Int),(l.length:Int),p,nQ l j⟩:=by
 unfold lB
 rw[aAN,hj];rfl
theorem aNb{l:List Pr}(H:MOk l){j:Nat}(hj:j<l.length):(lB l j).Ok:=by
 have e:l[j]? =some l[j]:=nM hj
 rw[aHN e]
 have hm:l[j]∈l:=aKc hj
 have hl:=H.len
 exact⟨by simp,by simp only;omega,by simp,by simp only;omega,H.k _ hm,H.v _ hm,by
  have:=aEd 12 l j (by omega)
  simp only;omega,λd hd=>aRv _ l j rfl d hd⟩
theorem aPd{l:List Pr}(H:MOk l){j:Nat}(hj:j<l.length):oM (lB l j)=some (lO l):=by
 have e:l[j]? =some l[j]:=nM hj
 rw[aHN e]
 exact aRR e H.len
theorem aIj{l:List Pr}(H:MOk l)(k:Tx):(kK l k).lv.length≤2∧∀f∈(kK l k).lv,∃j,j<l.length∧f=lB l j:=by
 have hp:=aIR l k
 unfold kK
 by_cases hg:(jI l k).isSome=true
 ·obtain⟨p,hgp⟩:=Option.isSome_iff_exists.1 hg
  have:=(zLx.1 (aIz H.up hgp)).1
  rw[if_pos hg]
  exact⟨by simp,λf hf=>⟨_,this,by simpa using hf⟩⟩
 ·rw[if_neg hg]
  by_cases h0:l=[]
  ·rw[if_pos h0];exact⟨by simp,by simp⟩
  ·rw[if_neg h0]
   have hpos:=aGv.2 h0
   by_cases h1:jC l k=0
   ·rw[if_pos h1]
    exact⟨by simp,λf hf=>⟨0,hpos,by simpa using hf⟩⟩
   ·rw[if_neg h1]
    by_cases h2:jC l k=l.length
    ·rw[if_pos h2]
     exact⟨by simp,λf hf=>⟨l.length-1,by omega,by simpa using hf⟩⟩
    ·rw[if_neg h2]
     refine⟨by simp,λf hf=>?_⟩
     simp only[jG,mD,or_false] at hf
     rcases hf with rfl|rfl
     ·exact⟨jC l k-1,by omega,rfl⟩
     ·exact⟨jC l k,by omega,rfl⟩
theorem aKe{l:List Pr}(H:MOk l)(k:Tx):mG (kK l k)=(aA0 (kK l k),0)∧jM (aA0 (kK l k))=(kK l k,0):=by
 obtain⟨h1,h2⟩:=aIj H k
 have hok:∀f∈(kK l k).lv,f.Ok:=λf hf=>by
  obtain⟨j,hj,rfl⟩:=h2 f hf
  exact aNb H hj
 refine⟨?_,aOe h1 hok⟩
 unfold mG
 rw[if_pos ⟨h1,aCB.2 λf hf=>Lf.ok_iff.2 (hok f hf)⟩]
theorem aOS{l:List Pr}(H:MOk l)(k:Tx):nN (lO l) (kK l k).lv=true:=by
 unfold nN
 rw[aCB]
 intro f hf
 obtain⟨j,hj,rfl⟩:=(aIj H k).2 f hf
 rw[aPd H hj]
 simp
theorem aRA{l:List Pr}(H:MOk l){k:Tx}{p:Pr}(hg:jI l k=some p):aAM (lO l) (aA0 (kK l k)) k p.v=true∧aAU (lO l) (aA0 (kK l k)) k=false:=by
 have hc:=aOS H k
 have hs:(jI l k).isSome=true:=by rw[hg];rfl
 have e:kK l k=⟨false,[lB l (jC l k)]⟩:=by unfold kK;rw[if_pos hs]
 have hk:=((uQ H.up).1 hg).2
 have ep:(lB l (jC l k)).p=⟨k,p.v⟩:=by
  rw[aHN (aIz H.up hg)]
  simp only
  rw[←hk]
 unfold aAM aAU
 rw[(aKe H k).2]
 simp only
 rw[hc,e]
 simp[ep]
abbrev LV:=Lf×Value
def qS(y:LV):List Value:=y.1.cells y.2
def LfS(h:PH)(l:List LV):Prop:=∀y∈l,iR h 1 y.2 (y.1.path.map kD)
theorem LfS.ext{h h':PH}{l:List LV}(H:LfS h l)(u:fE h h'):LfS h' l:=λy hy=>(H y hy).ext u
theorem aU8{h:PH}{x fv:Value}{xs:List Tx}{f:Tx->Bool}(hx:iR h 1 x (xs.map kD))(hl:xs.length≤1000000)
  (hf:∀p∈xs,∀h',fE h h'->∀k':Value->PH->Prop,(∀h'',fE h' h''->k' (.bool (f p)) h'')->aAg PG fv #[.string (tx p)] h' k') {k:eJ}
  (hk:∀h',fE h h'->k (.bool (xs.any f)) h'):cR PG pN #[x,fv] h k:=by
 have lx:=hx.len (t':=dR) eS.und
 rw[kQ] at lx
 apply oC.call
 unfold oC
 apply oX.call
 unfold oX
 simp only[lx,eK,reduceIte]
 refine⟨λvs h'=>∃i:Nat,i≤xs.length∧vs=[x,fv,.int .i64 xs.length,.int .i64 i]∧fE h h'∧∀p∈xs.take i,f p=false,jP xs.length 3,⟨0,by omega,rfl,eW.refl,by simp⟩,?_⟩
 rintro ρ h' ⟨i,hi,hvs,w,hq⟩
 simp only[jT,kF,mQ,and_true] at hvs
 obtain⟨e0,e1,e2,e5⟩:=hvs
 rw[e0,e1,e2,e5]
 unfold xX
 by_cases hlt:i<xs.length
 ·have hd:((i:Int)<(xs.length:Int))=True:=by apply eq_true;omega
  obtain⟨m,hm⟩:∃m,xs[i]? =some m:=⟨_,nM hlt⟩
  obtain⟨a,a1,a2⟩:=(hx.ext w).loadCell eS.und cT.info cT.size cT.und rfl (k:=.i64) (j:=(i:Int)) (x:=.string (tx m)) (by omega) (by rw[sM,zLW,hm];rfl)
  have ei:IntKind.i64.wrap ((i:Int)+1)=((i+1:Nat):Int):=by rw[gD (by omega) (by omega)];omega
  simp only[hd,a1,a2,eK,reduceIte]
  refine hf m (uJ hm) _ w _ λh2 u2=>?_
  cases c:f m with
  | true=>
   have h0:(0≤(i:Int))=True:=by apply eq_true;omega
   have hin:xs.any f=true:=List.any_eq_true.2 ⟨m,uJ hm,c⟩
   have:=hk _ (w.trans u2)
   rw[hin] at this
   simp only[h0,eK,reduceIte]
   exact this
  | false=>
   simp only[ei,eK,reduceIte]
   refine⟨⟨i+1,by omega,rfl,w.trans u2,?_⟩,by simp[jP,e5];omega⟩
   intro p hp
   rw[zLR,hm] at hp
   rcases kR.1 hp with hp|hp
   ·exact hq p hp
   ·simp at hp;subst hp;exact c
 ·have hd:((i:Int)<(xs.length:Int))=False:=by apply eq_false;omega
  have h0:(0≤(-1:Int))=False:=by apply eq_false;omega
  rw[qR (by omega)] at hq
  have hin:xs.any f=false:=by
   rw[List.any_eq_false]
   intro p hp
   simp[hq p hp]
  have:=hk _ w
  rw[hin] at this
  simp only[hd,h0,eK,reduceIte]
  exact this
theorem aQE{h:PH}{x fv:Value}{xs:List LV}{f:LV->Bool}(hx:iR h 5 x (xs.map qS))(hl:xs.length≤1000000)
  (hf:∀p∈xs,∀h',fE h h'->∀k':Value->PH->Prop,(∀h'',fE h' h''->k' (.bool (f p)) h'')->aAg PG fv #[p.1.val p.2] h' k') {k:eJ}
  (hk:∀h',fE h h'->k (.bool (xs.any f)) h'):cR PG mP #[x,fv] h k:=by
 have lx:=hx.len (t':=dR) eR.und
 rw[kQ] at lx
 apply mX.call
 unfold mX
 apply nS.call
 unfold nS
 simp only[lx,eK,reduceIte]
 refine⟨λvs h'=>∃i:Nat,i≤xs.length∧vs=[x,fv,.int .i64 xs.length,.int .i64 i]∧fE h h'∧∀p∈xs.take i,f p=false,jP xs.length 3,⟨0,by omega,rfl,eW.refl,by simp⟩,?_⟩
 rintro ρ h' ⟨i,hi,hvs,w,hq⟩
 simp only[jT,kF,mQ,and_true] at hvs
 obtain⟨e0,e1,e2,e5⟩:=hvs
 rw[e0,e1,e2,e5]
 unfold uG
 by_cases hlt:i<xs.length
 ·have hd:((i:Int)<(xs.length:Int))=True:=by apply eq_true;omega
  obtain⟨m,hm⟩:∃m,xs[i]? =some m:=⟨_,nM hlt⟩
  obtain⟨a,a1,a2⟩:=(hx.ext w).loadAgg eR.und eD.info eD.size eD.und rfl (k:=.i64) (j:=(i:Int)) (r:=qS m) (by omega) (by rw[sM,zLW,hm];rfl)
  have ei:IntKind.i64.wrap ((i:Int)+1)=((i+1:Nat):Int):=by rw[gD (by omega) (by omega)];omega
  simp only[hd,a1,a2,eK,reduceIte]
  refine hf m (uJ hm) _ w _ λh2 u2=>?_
  cases c:f m with
  | true=>
   have h0:(0≤(i:Int))=True:=by apply eq_true;omega
   have hin:xs.any f=true:=List.any_eq_true.2 ⟨m,uJ hm,c⟩
   have:=hk _ (w.trans u2)
   rw[hin] at this
   simp only[h0,eK,reduceIte]
   exact this
  | false=>
   simp only[ei,eK,reduceIte]
   refine⟨⟨i+1,by omega,rfl,w.trans u2,?_⟩,by simp[jP,e5];omega⟩
   intro p hp
   rw[zLR,hm] at hp
   rcases kR.1 hp with hp|hp
   ·exact hq p hp
   ·simp at hp;subst hp;exact c
 ·have hd:((i:Int)<(xs.length:Int))=False:=by apply eq_false;omega
  have h0:(0≤(-1:Int))=False:=by apply eq_false;omega
  rw[qR (by omega)] at hq
  have hin:xs.any f=false:=by
   rw[List.any_eq_false]
   intro p hp
   simp[hq p hp]
  have:=hk _ w
  rw[hin] at this
  simp only[hd,h0,eK,reduceIte]
  exact this
theorem aNr{h:PH}{f:Lf}{fv:Value}(S:iR h 1 fv (f.path.map kD))(hl:f.path.length≤1000000){k:eJ}(hk:∀h',fE h h'->k (.bool f.okb) h'):cR PG aBd #[f.val fv] h k:=by
 apply aF7.call
 unfold aF7
 intro r1 hr1
 try rw[eY]
 have u1:fE h (h.set r1 (.cells (Value.cells (f.val fv)) eD)):=eW.new hr1
 have B1:Bx (h.set r1 (.cells (Value.cells (f.val fv)) eD)) r1 (f.cells fv):=Bx.new
 generalize h.set r1 (.cells (Value.cells (f.val fv)) eD)=h1 at *
 have li:bT PG h1 (loadAt dR (pT r1 0))=some (.int .i64 f.i):=by rw[dR.load,B1.cell];rfl
 have ln:bT PG h1 (loadAt dR (pT r1 1))=some (.int .i64 f.n):=by rw[dR.load,B1.cell];rfl
 have lk:bT PG h1 (loadAt cT (pT r1 2))=some (.string (tx f.p.k)):=by rw[cT.load,B1.cell];rfl
 have lv:bT PG h1 (loadAt cT (pT r1 3))=some (.string (tx f.p.v)):=by rw[cT.load,B1.cell];rfl
 have lp:bT PG h1 (loadAt eS (pT r1 4))=some fv:=by rw[eS.load,B1.cell];rfl
 have len0:∀x:Tx,aT PG (Builtin.len_ #[cT] dR #[.string (tx x)])=some (.int .i64 (x.length:Int)):=λx=>by rw[mW cT.und,jL]
 have lenp:=(S.ext u1).len (t':=dR) eS.und
 rw[kQ] at lenp
 have bad:¬f.Ok->k (.bool false) h1:=λc=>by
  have:=hk h1 u1
  rw[show f.okb=false by rw[←Bool.not_eq_true];exact λe=>c (Lf.ok_iff.1 e)] at this
  exact this
 by_cases a1:f.i<0
 ·have g1:=eq_true a1
  simp only[eD.f0,li,g1,eK,reduceIte,eX,Nat.reduceAdd]
  exact bad λc=>by have:=c.i0;omega
 have g1:=eq_false a1
 by_cases a2:4096<f.i
 ·have g2:=eq_true a2
  simp only[eD.f0,li,g1,g2,eK,reduceIte,eX,Nat.reduceAdd]
  exact bad λc=>by have:=c.i1;omega
 have g2:=eq_false a2
 by_cases a3:f.n<0
 ·have g3:=eq_true a3
  simp only[eD.f0,eD.f1,iG,li,ln,g1,g2,g3,eK,reduceIte,eX,Nat.reduceAdd]
  exact bad λc=>by have:=c.n0;omega
 have g3:=eq_false a3
 by_cases a4:4096<f.n
 ·have g4:=eq_true a4
  simp only[eD.f0,eD.f1,iG,li,ln,g1,g2,g3,g4,eK,reduceIte,eX,Nat.reduceAdd]
  exact bad λc=>by have:=c.n1;omega
 have g4:=eq_false a4
 by_cases a5:16<f.p.k.length
 ·have g5:((16:Int)<(f.p.k.length:Int))=True:=eq_true (by omega)
  simp only[eD.f0,eD.f1,eD.f2,eQ.f0,iG,li,ln,lk,len0,g1,g2,g3,g4,g5,eK,reduceIte,eX,Nat.reduceAdd]
  exact bad λc=>by have:=c.k;omega
 have g5:((16:Int)<(f.p.k.length:Int))=False:=eq_false (by omega)
 by_cases a6:64<f.p.v.length
 ·have g6:((64:Int)<(f.p.v.length:Int))=True:=eq_true (by omega)
  simp only[eD.f0,eD.f1,eD.f2,eQ.f0,eQ.f1,iG,Nat.reduceAdd,li,ln,lk,lv,len0,g1,g2,g3,g4,g5,g6,eK,reduceIte,eX,Nat.reduceAdd]
  exact bad λc=>by have:=c.v;omega
 have g6:((64:Int)<(f.p.v.length:Int))=False:=eq_false (by omega)
 by_cases a7:16<f.path.length
 ·have g7:((16:Int)<(f.path.length:Int))=True:=eq_true (by omega)
  simp only[eD.f0,eD.f1,eD.f2,eD.f3,eQ.f0,eQ.f1,iG,Nat.reduceAdd,li,ln,lk,lv,lp,len0,lenp,g1,g2,g3,g4,g5,g6,g7,eK,reduceIte,eX,Nat.reduceAdd]
  exact bad λc=>by have:=c.m;omega
 have g7:((16:Int)<(f.path.length:Int))=False:=eq_false (by omega)
 simp only[eD.f0,eD.f1,eD.f2,eD.f3,eQ.f0,eQ.f1,iG,Nat.reduceAdd,li,ln,lk,lv,lp,len0,lenp,g1,g2,g3,g4,g5,g6,g7,eK,reduceIte,eX,Nat.reduceAdd]
 refine aU8 (f:=λd=>(d.length:Int) !=32) (S.ext u1) hl (λp hp h' u k' hk'=>?_) λh2 u2=>?_
 ·show cR PG aEo #[.string (tx p)] h' k'
  apply aET.call
  unfold aET
  simp only[len0,lR,eK,reduceIte,eX,Nat.reduceAdd]
  exact hk' _ eW.refl
 ·have:=hk h2 (u1.trans u2)
  have e:f.okb=!(f.path.any λd=>(d.length:Int) !=32):=by
   rw[zLl,Lf.ok_iff,Bool.not_eq_true',List.any_eq_false]
   constructor
   ·intro c d hd
    have:=c.d d hd
    simp[this]
   ·intro c
    refine⟨by omega,by omega,by omega,by omega,by omega,by omega,by omega,λd hd=>?_⟩
    have:=c d hd
    simp at this
    omega
  rw[e] at this
  generalize (f.path.any λd=>(d.length:Int) !=32)=b at this ⊢
  cases b<;>(simp only[eK,reduceIte,eX,Nat.reduceAdd];exact this)
def Pf.val(ab:Bool)(v:Value):Value:=.agg #[.bool ab,v]
theorem aMy(l:List Lf)(f:Lf):mJ (l++[f])=mJ l++aFY f:=by
 induction l with
 | nil=>simp[mJ]
 | cons a l ih=>simp[mJ,ih]
theorem aL8{l:List Tx}(h:∀d∈l,d.length=32):l.flatten.length=32*l.length:=by
 induction l with
 | nil=>rfl
 | cons a l ih=>
  rw[aJ4,lH,h a (by simp),ih λd hd=>h d (by simp[hd]),wT]
  omega
theorem aOd{f:Lf}(h:f.Ok):(aFY f).length≤1000:=by
 have h1:=h.k;have h2:=h.v;have h3:=h.m;have h4:=aL8 h.d
 simp only[aFY,lH,jQ]
 omega
theorem aKs:∀{l:List Lf},(∀f∈l,f.Ok)->(mJ l).length≤1000*l.length
 | [],_=>by simp[mJ]
 | f::l,h=>by
  have h1:=aOd (h f (by simp))
  have h2:=aKs (l:=l) λx hx=>h x (by simp[hx])
  simp only[mJ,lH,wT]
  omega
theorem iR.lf{h:PH}{v:Value}{l:List LV}(S:iR h 5 v (l.map qS)){j:Nat}{y:LV}(hy:l[j]? =some y):
  ∃a,aT PG (indexAt eR v (.int .i64 (j:Int)))=some (.pointer (some a))∧bT PG h (loadAt eD (.pointer (some a)))=some (y.1.val y.2):=
 S.loadAgg eR.und eD.info eD.size eD.und rfl (k:=.i64) (j:=(j:Int)) (r:=qS y) (by omega) (by rw[sM,zLW,hy];rfl)
theorem aIZ{h:PH}{v:Value}{l:List LV}(S:iR h 5 v (l.map qS)):aT PG (Builtin.len_ #[eR] dR #[v])=some (.int .i64 l.length):=by
 have:=S.len (t':=dR) eR.und
 rw[kQ] at this
 exact this
theorem Lf.isC(f:Lf){v:Value}(hv:iF v=true):∀u∈f.cells v,iF u=true:=λu hu=>by
 simp only[Lf.cells,jG,mD,or_false] at hu
 rcases hu with rfl|rfl|rfl|rfl|rfl<;>first|rfl|exact hv
theorem iR.st{h:PH}{v:Value}{l:List Tx}(S:iR h 1 v (l.map kD)){j:Nat}{x:Tx}(hx:l[j]? =some x):
  ∃a,aT PG (indexAt eS v (.int .i64 (j:Int)))=some (.pointer (some a))∧bT PG h (loadAt cT (.pointer (some a)))=some (.string (tx x)):=
 S.loadCell eS.und cT.info cT.size cT.und rfl (k:=.i64) (j:=(j:Int)) (x:=.string (tx x)) (by omega) (by rw[sM,zLW,hx];rfl)
theorem aMi{h:PH}{v:Value}{l:List Tx}(S:iR h 1 v (l.map kD)):aT PG (Builtin.len_ #[eS] dR #[v])=some (.int .i64 l.length):=by
 have:=S.len (t':=dR) eS.und
 rw[kQ] at this
 exact this
theorem aVg{h0 h:PH}{a:Nat}{base:Tx}{F:List Nat}(W:WN h0 h a (0,base) F)(hb:base.length≤100000){fv:Value}{path:List Tx}(P:iR h0 1 fv (path.map kD))(hd:∀d∈path,d.length=32)(hm:path.length≤16){x:Value}{n i:Nat}(hi:i≤100){R:eJ}{nxt:jE}
  (hn:∀h' F',WN h0 h' a (0,base++path.flatten) F'->nxt [pT a 0,x,.int .i64 (n:Int),.int .i64 ((i+1:Nat):Int)] h'):
  kA [4,28,29,30,55,56,57] (λn73 ρ h=>aGT R nxt n73 (ρ 4) (ρ 28) (ρ 29) (ρ 30) (ρ 55) (ρ 56) (ρ 57) h) [pT a 0,x,.int .i64 (n:Int),.int .i64 (i:Int),fv,.int .i64 (path.length:Int),.int .i64 0] h:=by
 refine⟨λvs h'=>∃(j:Nat) (F':List Nat),j≤path.length∧vs=[pT a 0,x,.int .i64 (n:Int),.int .i64 (i:Int),fv,.int .i64 (path.length:Int),.int .i64 (j:Int)]∧WN h0 h' a (0,base++(path.take j).flatten) F',jP path.length 6,⟨0,F,by omega,rfl,by simpa using W⟩,?_⟩
 rintro ρ h' ⟨j,F',hj,hvs,W'⟩
 simp only[jT,kF,mQ,and_true] at hvs
 obtain⟨v0,v1,v2,v3,v4,v5,v6⟩:=hvs
 unfold aGT
 rw[v0,v1,v2,v3,v4,v5,v6]
 by_cases hlt:j<path.length
 ·have g:((j:Int)<(path.length:Int))=True:=eq_true (by omega)
  have gi:IntKind.i64.wrap ((j:Int)+1)=((j+1:Nat):Int):=by rw[gD (by omega) (by omega)];omega
  obtain⟨d,hdj⟩:∃d,path[j]? =some d:=⟨_,nM hlt⟩
  obtain⟨pa,p1,p2⟩:=(P.ext W'.upd).st hdj
  have hd32:=hd d (uJ hdj)
  have hfl:(path.take j).flatten.length≤32*16:=by
   rw[aL8 λd hd'=>hd d (aJ8 hd'),vZ];omega
  simp only[g,p1,p2,gi,eK,reduceIte,eX,Nat.reduceAdd]
  refine aUq W' (by rw[lH];omega) (by omega) λh2 F2 x2 e2 W2 _=>?_
  have ex:x2=(0,base++(path.take (j+1)).flatten):=by
   rw[e2,zLR,hdj]
   simp[qU]
  rw[ex] at W2
  exact⟨⟨j+1,F2,by omega,rfl,W2⟩,by simp[jP,v6];omega⟩
 ·have g:((j:Int)<(path.length:Int))=False:=eq_false (by omega)
  have gi:IntKind.i64.wrap ((i:Int)+1)=((i+1:Nat):Int):=by rw[gD (by omega) (by omega)];omega
  rw[qR (by omega)] at W'
  simp only[g,gi,eK,reduceIte,eX,Nat.reduceAdd]
  exact hn h' F' W'
theorem aMY{st:lT}{l:Tx}(h:l.length≤65535):aIq st l=(st.1,st.2++(be l.length 2++l)):=by unfold aIq;rw[if_pos h]
theorem aJo{st:lT}{n:Nat}(h:n≤255):aGa st (n:Int)=(st.1,st.2++be n 1):=by unfold aGa;rw[if_pos (by omega),sM]
theorem aSK{h0 h:PH}{a:Nat}{base:Tx}{F:List Nat}(W:WN h0 h a (0,base) F)(hb:base.length≤1000){v:Value}{l:List LV}(S:iR h0 5 v (l.map qS))(HS:LfS h0 l)(hok:∀y∈l,y.1.Ok)(hl:l.length≤2){R:eJ}
  (hR:∀h',fE h0 h'->R (.tuple #[.string (tx (base++mJ (l.map (·.1)))),.int .i64 0]) h'):
  kA [4,28,29,30] (λn36 ρ h=>aGO R n36 (ρ 4) (ρ 28) (ρ 29) (ρ 30) h) [pT a 0,v,.int .i64 (l.length:Int),.int .i64 0] h:=by
 refine⟨λvs h'=>∃(i:Nat) (F':List Nat),i≤l.length∧vs=[pT a 0,v,.int .i64 (l.length:Int),.int .i64 (i:Int)]∧WN h0 h' a (0,base++mJ ((l.take i).map (·.1))) F',jP l.length 3,⟨0,F,by omega,rfl,by simpa[mJ] using W⟩,?_⟩
 rintro ρ h' ⟨i,F',hi,hvs,W'⟩
 simp only[jT,kF,mQ,and_true] at hvs
 obtain⟨v0,v1,v2,v3⟩:=hvs
 unfold aGO
 rw[v0,v1,v2,v3]
 have hpre:(mJ ((l.take i).map (·.1))).length≤2000:=by
  have:=aKs (l:=(l.take i).map (·.1)) (by
   simp only[List.forall_mem_map]
   exact λy hy=>hok y (aJ8 hy))
  rw[kQ,vZ] at this
  omega
 by_cases hlt:i<l.length
 ·have g:((i:Int)<(l.length:Int))=True:=eq_true (by omega)
  obtain⟨y,hy⟩:∃y,l[i]? =some y:=⟨_,nM hlt⟩
  have hmem:=uJ hy
  have ok:=hok y hmem
  have Py:=HS y hmem
  obtain⟨pa,p1,p2⟩:=(S.ext W'.upd).lf hy
  simp only[g,p1,p2,eK,reduceIte,eX,Nat.reduceAdd]
  intro r41 hr41
  try rw[eY]
  refine eD.fill hr41 rfl (Lf.isC _ Py.isc) λh1 B1 u1=>?_
  have W1:=WS.ext W' u1
  have K1:BK h1 F' r41 (y.1.cells y.2):=⟨B1,W'.box hr41⟩
  obtain⟨i0,i1,n0,n1,k16,v64,m16,d32⟩:=ok
  obtain⟨fi,efi⟩:=zLm i0
  obtain⟨fn,efn⟩:=zLm n0
  have li:∀{h':PH} {F},BK h' F r41 (y.1.cells y.2)->bT PG h' (loadAt dR (pT r41 0))=some (.int .i64 (fi:Int)):=λB=>by rw[dR.load,B.bx.cell,←efi];rfl
  have ln:∀{h':PH} {F},BK h' F r41 (y.1.cells y.2)->bT PG h' (loadAt dR (pT r41 1))=some (.int .i64 (fn:Int)):=λB=>by rw[dR.load,B.bx.cell,←efn];rfl
  have lk:∀{h':PH} {F},BK h' F r41 (y.1.cells y.2)->bT PG h' (loadAt cT (pT r41 2))=some (.string (tx y.1.p.k)):=λB=>by rw[cT.load,B.bx.cell];rfl
  have lv:∀{h':PH} {F},BK h' F r41 (y.1.cells y.2)->bT PG h' (loadAt cT (pT r41 3))=some (.string (tx y.1.p.v)):=λB=>by rw[cT.load,B.bx.cell];rfl
  have lp:∀{h':PH} {F},BK h' F r41 (y.1.cells y.2)->bT PG h' (loadAt eS (pT r41 4))=some y.2:=λB=>by rw[eS.load,B.bx.cell];rfl
  have lenp:=aMi Py
  have c1:IntKind.u64.wrap (fi:Int)=(fi:Int):=iZ (by omega) (by omega)
  have c2:IntKind.u64.wrap (fn:Int)=(fn:Int):=iZ (by omega) (by omega)
  simp only[eD.f0,li K1,aH3,c1,eK,reduceIte,eX,Nat.reduceAdd]
  refine aIS W1 (by rw[lH];omega) (by omega) λh2 F2 x2 e2 W2 k2=>?_
  have K2:=K1.keep k2
  simp only[eD.f1,iG,ln K2,aH3,c2,eK,reduceIte,eX,Nat.reduceAdd]
  refine aIS W2 (by rw[e2];simp only[aHc,lH,jQ];omega) (by omega) λh3 F3 x3 e3 W3 k3=>?_
  have K3:=K2.keep k3
  simp only[eD.f2,eQ.f0,iG,lk K3,eK,reduceIte,eX,Nat.reduceAdd]
  refine aOy W3 (by rw[e3,e2];simp only[aHc,lH,jQ];omega) _ λh4 F4 x4 e4 W4 k4=>?_
  have K4:=K3.keep k4
  rw[aMY (by omega)] at e4
  simp only[eD.f2,eQ.f1,iG,Nat.reduceAdd,lv K4,eK,reduceIte,eX,Nat.reduceAdd]
  refine aOy W4 (by rw[e4,e3,e2];simp only[aHc,lH,jQ];omega) _ λh5 F5 x5 e5 W5 k5=>?_
  have K5:=K4.keep k5
  rw[aMY (by omega)] at e5
  simp only[eD.f3,iG,lp K5,lenp,eK,reduceIte,eX,Nat.reduceAdd]
  refine aKl W5 (by rw[e5,e4,e3,e2];simp only[aHc,lH,jQ];omega) _ λh6 F6 x6 e6 W6 k6=>?_
  have K6:=K5.keep k6
  rw[aJo (by omega)] at e6
  simp only[eD.f3,iG,lp K6,lenp,eK,reduceIte,eX,Nat.reduceAdd]
  have ex:x6=(0,(base++mJ ((l.take i).map (·.1)))++(be fi 8++(be fn 8++((be y.1.p.k.length 2++y.1.p.k)++((be y.1.p.v.length 2++y.1.p.v)++be y.1.path.length 1))))):=by
   rw[e6,e5,e4,e3,e2]
   simp[aHc,qU]
  rw[ex] at W6
  refine aVg W6 (by simp only[lH,jQ];omega) Py d32 m16 (by omega) λh7 F7 W7=>?_
  have ef:((base++mJ ((l.take i).map (·.1)))++(be fi 8++(be fn 8++((be y.1.p.k.length 2++y.1.p.k)++((be y.1.p.v.length 2++y.1.p.v)++be y.1.path.length 1)))))++y.1.path.flatten=base++mJ ((l.take (i+1)).map (·.1)):=by
   rw[zLR,hy]
   simp only[Option.toList,rL,jT,kF,aMy,aFY,efi,efn,sM,qU]
  rw[ef] at W7
  exact⟨⟨i+1,F7,by omega,rfl,W7⟩,by simp[jP,v3];omega⟩
 ·have g:((i:Int)<(l.length:Int))=False:=eq_false (by omega)
  rw[qR (by omega)] at W'
  simp only[g,eK,reduceIte,eX,Nat.reduceAdd]
  refine aL6 W'.at_ λh2 u2=>?_
  have eb:aIN (0,base++mJ (l.map (·.1)))=(base++mJ (l.map (·.1)),0):=rfl
  simp only[eb,eK,reduceIte,eX,Nat.reduceAdd]
  exact hR _ (W'.upd.fresh u2 W'.fresh)
theorem aRt{h:PH}{ab:Bool}{v:Value}{l:List LV}(S:iR h 5 v (l.map qS))(HS:LfS h l)(hl:l.length≤1000000)(hp:∀y∈l,y.1.path.length≤1000000){k:eJ}
  (hk:∀h',fE h h'->k (.tuple #[.string (tx (mG ⟨ab,l.map (·.1)⟩).1),.int .i64 (mG ⟨ab,l.map (·.1)⟩).2]) h'):cR PG aGr #[Pf.val ab v] h k:=by
 apply aDX.call
 unfold aDX
 intro r1 hr1
 try rw[eY]
 have u1:fE h (h.set r1 (.cells (Value.cells (Pf.val ab v)) eH)):=eW.new hr1
 have B1:Bx (h.set r1 (.cells (Value.cells (Pf.val ab v)) eH)) r1 [.bool ab,v]:=Bx.new
 generalize h.set r1 (.cells (Value.cells (Pf.val ab v)) eH)=h1 at *
 have la:∀{h':PH},Bx h' r1 [.bool ab,v]->bT PG h' (loadAt iV (pT r1 0))=some (.bool ab):=λB=>by rw[iV.load,B.cell];rfl
 have lv:∀{h':PH},Bx h' r1 [.bool ab,v]->bT PG h' (loadAt eR (pT r1 1))=some v:=λB=>by rw[eR.load,B.cell];rfl
 have ll:=aIZ S
 have q0:({data:=#[]}:ByteArray)=tx []:=rfl
 have el:(l.map (·.1)).length=l.length:=by simp
 by_cases h2:2<l.length
 ·have g:((2:Int)<(l.length:Int))=True:=eq_true (by omega)
  have eb:mG ⟨ab,l.map (·.1)⟩=([],1):=by unfold mG;rw[if_neg (λc=>by have:=c.1;simp only[el] at this;omega)]
  simp only[eH.f1,iG,lv B1,ll,g,q0,eK,reduceIte,eX,Nat.reduceAdd]
  rw[eb] at hk
  exact hk _ u1
 have g:((2:Int)<(l.length:Int))=False:=eq_false (by omega)
 simp only[eH.f1,iG,lv B1,ll,g,eK,reduceIte,eX,Nat.reduceAdd]
 refine aQE (f:=λy=>!y.1.okb) (S.ext u1) hl (λy hy h' u k' hk'=>?_) λh3 u3=>?_
 ·show cR PG aFS #[y.1.val y.2] h' k'
  apply aFM.call
  unfold aFM
  intro r hr
  try rw[eY]
  have v1:fE h' (h'.set r (.cells (Value.cells (y.1.val y.2)) eD)):=eW.new hr
  have C1:Bx (h'.set r (.cells (Value.cells (y.1.val y.2)) eD)) r (y.1.cells y.2):=Bx.new
  generalize h'.set r (.cells (Value.cells (y.1.val y.2)) eD)=h'' at *
  have lf:bT PG h'' (loadAt eD (pT r 0))=some (y.1.val y.2):=eD.agg C1 (by show 0+5≤5;decide)
  simp only[lf,eK,reduceIte,eX,Nat.reduceAdd]
  refine aNr ((HS y hy).ext ((u1.trans u).trans v1)) (hp y hy) λh4 u4=>?_
  simp only[eK,reduceIte,eX,Nat.reduceAdd]
  exact hk' _ (v1.trans u4)
 ·have e3:=u1.trans u3
  have B3:=B1.ext u3
  cases hb:l.any λy=>!y.1.okb with
  | true=>
   have eb:mG ⟨ab,l.map (·.1)⟩=([],1):=by
    unfold mG
    rw[if_neg (λc=>?_)]
    obtain⟨y,hy,hyb⟩:=List.any_eq_true.1 hb
    have:=aCB.1 c.2 y.1 (zL4 hy)
    rw[this] at hyb
    cases hyb
   simp only[q0,eK,reduceIte,eX,Nat.reduceAdd]
   rw[eb] at hk
   exact hk _ e3
  | false=>
   have hok:∀y∈l,y.1.Ok:=λy hy=>by
    have:=List.any_eq_false.1 hb y hy
    exact Lf.ok_iff.1 (by simpa using this)
   have eb:mG ⟨ab,l.map (·.1)⟩=(aA0 ⟨ab,l.map (·.1)⟩,0):=by
    have hall:(l.map (·.1)).all Lf.okb=true:=aCB.2 λf hf=>by
     obtain⟨y,hy,rfl⟩:=mT.1 hf
     exact Lf.ok_iff.2 (hok y hy)
    unfold mG
    exact if_pos ⟨by simp only[el];omega,hall⟩
   rw[eb] at hk
   simp only[eK,reduceIte,eX,Nat.reduceAdd]
   intro r21 hr21
   try rw[eY]
   have W0:=WN.start hr21
   have u4:fE h3 (h3.set r21 (.cells (fY PG iD) iD)):=eW.new hr21
   generalize h3.set r21 (.cells (fY PG iD) iD)=h4 at *
   have out:∀kd:Nat,kd=(if ab then 2 else 1)->aDy k (pT r1 0) (pT r21 0) (.int .i64 (kd:Int)) h4:=λkd hkd=>by
    have k2:kd≤2:=by rw[hkd];split<;>decide
    unfold aDy
    refine aKl W0 (by simp) _ λh5 F5 x5 e5 W5 _=>?_
    rw[aJo (by omega)] at e5
    simp only[eH.f1,iG,lv (B3.ext W5.upd),ll,eK,reduceIte,eX,Nat.reduceAdd]
    refine aKl W5 (by rw[e5];simp[jQ]) _ λh6 F6 x6 e6 W6 _=>?_
    rw[aJo (by omega)] at e6
    have ex:x6=(0,be kd 1++be l.length 1):=by rw[e6,e5];simp
    rw[ex] at W6
    simp only[eH.f1,iG,lv (B3.ext W6.upd),ll,eK,reduceIte,eX,Nat.reduceAdd]
    refine aSK W6 (by simp[jQ]) (S.ext e3) (HS.ext e3) hok (by omega) λh7 u7=>?_
    have ep:(be kd 1++be l.length 1)++mJ (l.map (·.1))=aA0 ⟨ab,l.map (·.1)⟩:=by
     unfold aA0
     simp only[el,hkd,qU]
    rw[ep]
    exact hk _ (e3.trans u7)
   simp only[eH.f0,la (B3.ext u4),eK,reduceIte,eX,Nat.reduceAdd]
   cases ab with
   | true=>simp only[eK,reduceIte,eX,Nat.reduceAdd];exact out 2 rfl
   | false=>simp only[eK,reduceIte,eX,Nat.reduceAdd];exact out 1 rfl
theorem aQT{h:PH}{a:Nat}{st:lT}(R:rK h a st.1 st.2){k:eJ}(hk:∀h',rK h' a (lU st).2.1 (lU st).2.2->eW [a] h h'->k (.int .i64 ((lU st).1:Int)) h'):cR PG aER #[pT a 0,.int .u64 4096] h k:=by
 apply aG1.call
 unfold aG1
 unfold lU at hk
 refine aQ0 R λh1 R1 u1=>?_
 show aR (aT PG (binOp BinOp.gtr dT (.int .u64 ((jA st 8).1:Int)) (.int .u64 4096))) _
 by_cases c:4096<(jA st 8).1
 ·have g:((4096:Int)<((jA st 8).1:Int))=True:=eq_true (by omega)
  rw[if_pos c] at hk
  simp only[g,iY.f0,eK,reduceIte,eX,Nat.reduceAdd]
  refine aOo (st:=(jA st 8).2) R1 5 λh2 R2 u2=>?_
  exact hk h2 R2 (u1.trans u2)
 ·have g:((4096:Int)<((jA st 8).1:Int))=False:=eq_false (by omega)
  rw[if_neg c] at hk
  have e1:IntKind.i64.wrap ((jA st 8).1:Int)=((jA st 8).1:Int):=gD (by omega) (by omega)
  simp only[g,aH2,e1,eK,reduceIte,eX,Nat.reduceAdd]
  exact hk h1 R1 u1
theorem aQv{n:Nat}{st:lT}{acc:List Tx}(h:n=0∨st.1≠0):yT n st acc=(acc,st):=by
 cases n with
 | zero=>rfl
 | succ n=>rw[yT,if_neg (by rcases h with h|h;cases h;exact h)]
theorem aXR(x y:Int):aT PG (build eD #[(0,.int .i64 x),(1,.int .i64 y)])=some (Lf.val ⟨x,y,⟨[],[]⟩,[]⟩ (.slice none 0 0)):=by kernel_rfl
theorem aWV{h:PH}{a:Nat}{st:lT}(R:rK h a st.1 st.2){k:eJ}
  (hk:∀h' v F,rK h' a (qW st).2.1 (qW st).2.2->gU h' cT 1 v ((qW st).1.path.map kD) F->gQ h F->eW [a] h h'->k ((qW st).1.val v) h'):cR PG aHf #[pT a 0] h k:=by
 apply aEc.call
 unfold aEc
 have ka:h a≠none:=by rw[R.here];simp
 intro r1 hr1
 try rw[eY]
 have u1:fE h (h.set r1 (.cells (fY PG eD) eD)):=eW.new hr1
 have Z1:=eD.zbox (h:=h) (r:=r1)
 have R1:=R.ext u1
 have na1:r1≠a:=λe=>ka (e▸hr1)
 generalize h.set r1 (.cells (fY PG eD) eD)=h1 at *
 refine aQT R1 λh2 R2 u2=>?_
 refine aQT R2 λh3 R3 u3=>?_
 simp only[aXR,eK,reduceIte,eX,Nat.reduceAdd]
 have Z3:=(Z1.upd u2 (by simpa using na1)).upd u3 (by simpa using na1)
 have e3:eW [a] h h3:=(u1.upd.trans u2).trans u3
 intro r8 hr8
 try rw[eY]
 have n18:r1≠r8:=Z3.apart hr8
 have na8:r8≠a:=λe=>by
  have:=(rK.here R3)
  rw[←e,hr8] at this;cases this
 have k8:h r8=none:=by
  cases hx:h r8 with
  | none=>rfl
  | some o=>have:=e3 r8 o hx (by simpa using na8);rw[hr8] at this;cases this
 refine eD.fill (vs:=Lf.cells ⟨((lU st).1:Int),((lU (lU st).2).1:Int),⟨[],[]⟩,[]⟩ (.slice none 0 0)) hr8 rfl (Lf.isC _ rfl) λh4 B4 u4=>?_
 have R4:=R3.ext u4
 have e4:eW [a] h h4:=e3.trans u4.upd
 have Z4:=Z3.ext u4
 refine aOc R4 λh5 R5 u5=>?_
 have B5:=B4.upd u5 (by simpa using na8)
 have Z5:=Z4.upd u5 (by simpa using na1)
 simp only[eD.f2,eQ.f0,iG,eK,reduceIte,eX,Nat.reduceAdd]
 refine cT.put B5 (o:=2) (by show 2<5;decide) rfl λh6 B6 u6=>?_
 have R6:=R5.upd u6 (by simpa using na8.symm)
 have Z6:=Z5.upd u6 (by simpa using n18)
 refine aOc R6 λh7 R7 u7=>?_
 have B7:=B6.upd u7 (by simpa using na8)
 have Z7:=Z6.upd u7 (by simpa using na1)
 simp only[eD.f2,eQ.f1,iG,Nat.reduceAdd,eK,reduceIte,eX,Nat.reduceAdd]
 refine cT.put B7 (o:=3) (by show 3<5;decide) rfl λh8 B8 u8=>?_
 have R8:=R7.upd u8 (by simpa using na8.symm)
 have Z8:=Z7.upd u8 (by simpa using n18)
 refine aL9 R8 λh9 R9 u9=>?_
 have B9:=B8.upd u9 (by simpa using na8)
 have Z9:=Z8.upd u9 (by simpa using na1)
 have e9:eW [a] h h9:=by
  have f8:∀b∈[r8],b∈[a]∨h b=none:=λb hb=>.inr (by simp at hb;rw[hb];exact k8)
  exact(((((e4.trans u5).then u6 f8).trans u7).then u8 f8).trans u9)
 -- names
 obtain⟨st2,hst2⟩:∃x,x=(lU (lU st).2).2:=⟨_,rfl⟩
 obtain⟨kk,hkk⟩:∃x,x=nJ (lU (lU st).2).2:=⟨_,rfl⟩
 obtain⟨vv,hvv⟩:∃x,x=nJ kk.2:=⟨_,rfl⟩
 obtain⟨cc,hcc⟩:∃x,x=jA vv.2 1:=⟨_,rfl⟩
 have hc255:cc.1<256:=by rw[hcc];exact aGl _ 1
 have e1:(aDj st)=(⟨((lU st).1:Int),((lU (lU st).2).1:Int),⟨kk.1,vv.1⟩,(yT cc.1 cc.2 []).1⟩,(yT cc.1 cc.2 []).2):=by rw[hcc,hvv,hkk];rfl
 have R9':rK h9 a cc.2.1 cc.2.2:=by rw[hcc,hvv,hkk];exact R9
 have B9':Bx h9 r8 (Lf.cells ⟨((lU st).1:Int),((lU (lU st).2).1:Int),⟨kk.1,vv.1⟩,[]⟩ (.slice none 0 0)):=by rw[hvv,hkk];exact B9
 have ev:(Value.int .i64 ((jA (nJ (nJ (lU (lU st).2).2).2).2 1).1:Int))= .int .i64 (cc.1:Int):=by rw[hcc,hvv,hkk]
 show kA _ _ [_,_,_,(Value.int .i64 ((jA (nJ (nJ (lU (lU st).2).2).2).2 1).1:Int))] h9
 rw[ev]
 clear R9 B9 ev
 generalize (lU st).1=f1 at *
 generalize (lU (lU st).2).1=f2 at *
 refine⟨λvs h'=>∃(m:Nat) (acc:List Tx) (s':lT) (pv:Value) (F:List Nat),vs=[pT a 0,pT r1 0,pT r8 0,.int .i64 (m:Int)]∧rK h' a s'.1 s'.2∧Bx h' r8 (Lf.cells ⟨(f1:Int),(f2:Int),⟨kk.1,vv.1⟩,acc⟩ pv)∧gU h' cT 1 pv (acc.map kD) F∧gQ h F∧r8∉F∧r1∉F∧Bx h' r1 (Lf.cells ⟨0,0,⟨[],[]⟩,[]⟩ (.slice none 0 0))∧eW [a] h h'∧yT cc.1 cc.2 []=yT m s' acc∧acc.length+m≤255,aUn 3,⟨cc.1,[],cc.2,_,[],rfl,R9',B9',gU.nil,(λb hb=>by cases hb),by simp,by simp,Z9,e9,rfl,by simp;omega⟩,?_⟩
 rintro ρ h' ⟨m,acc,s',pv,F,hvs,R',B',O',f',n8,n1,Z',u',hp,hacc⟩
 simp only[jT,kF,mQ,and_true] at hvs
 obtain⟨v0,v1,v2,v3⟩:=hvs
 unfold aJL
 rw[v0,v1,v2,v3]
 have na':a∉F:=λhm=>ka (f' a hm)
 by_cases hgo:0<m∧s'.1=0
 ·obtain⟨hm,hs0⟩:=hgo
  obtain⟨m,rfl⟩:∃n,m=n+1:=⟨m-1,by omega⟩
  have g:((0:Int)<((m+1:Nat):Int))=True:=eq_true (by omega)
  have gi:IntKind.i64.wrap (((m+1:Nat):Int)-1)=(m:Int):=by rw[gD (by omega) (by omega)];omega
  have lp:∀{h'':PH},Bx h'' r8 (Lf.cells ⟨(f1:Int),(f2:Int),⟨kk.1,vv.1⟩,acc⟩ pv)->bT PG h'' (loadAt eS (pT r8 4))=some pv:=λB=>by rw[eS.load,B.cell];rfl
  simp only[g,iY.f0,eK,reduceIte,eX,Nat.reduceAdd]
  refine aNH R' ?_
  simp only[hs0,jO,eD.f3,iG,lp B',eK,reduceIte,eX,Nat.reduceAdd]
  refine aPZ R' 32 λh2 R2 u2=>?_
  have B2:=B'.upd u2 (by simpa using na8)
  refine⟨lp B2,?_⟩
  have O2:=O'.upd u2 (λb hb=>by simp only[iQ];rintro rfl;exact na' hb)
  have Z2:=Z'.upd u2 (by simpa using na1)
  simp only[aLT,eK,reduceIte,eX,Nat.reduceAdd]
  intro r54 hr54
  refine iK ?_
  try rw[eY]
  have u3:fE h2 (h2.set r54 (.cells #[.string (tx (kP (s'.1,s'.2) 32).1)] cT)):=eW.new hr54
  have s1:iR (h2.set r54 (.cells #[.string (tx (kP (s'.1,s'.2) 32).1)] cT)) 1 (.slice (some ⟨r54,0,none⟩) 1 1) ([(kP (s'.1,s'.2) 32).1].map kD):=(gU.lit (kD.rows [(kP (s'.1,s'.2) 32).1]) fP (by simp) (by decide) (by simp[kD])).slR
  generalize h2.set r54 (.cells #[.string (tx (kP (s'.1,s'.2) 32).1)] cT)=h3 at *
  refine kU eS.und eS.und cT.info cT.size cT.bytes cT.zero rfl (by decide) (O2.ext u3) s1 (λr hr u hu=>by
   obtain⟨s,-,rfl⟩:=mT.1 hr
   exact kD.isC s u hu) (by simp;omega) ?_
  intro v4 h4 F4 O4 u4 g4 _
  rw[←rL] at O4
  have n84:r8∉F4:=λhb=>by
   rcases g4 _ hb with hx|hx
   ·exact n8 hx
   ·exact(B2.ext u3).known hx
  have n14:r1∉F4:=λhb=>by
   rcases g4 _ hb with hx|hx
   ·exact n1 hx
   ·exact(Z2.ext u3).known hx
  have e23:eW [a] h h3:=(u'.trans u2).trans u3.upd
  have f4:gQ h F4:=λb hb=>by
   rcases g4 b hb with hx|hx
   ·exact f' b hx
   ·cases hy:h b with
    | none=>rfl
    | some o=>
     by_cases hba:b=a
     ·rw[hba] at hx;have:=(R2.ext u3).here;rw[hx] at this;cases this
     ·have:=e23 b o hy (by simpa using hba);rw[hx] at this;cases this
  have B4:=(B2.ext u3).upd u4 n8
  simp only[eD.f3,iG,gi,eK,reduceIte,eX,Nat.reduceAdd]
  refine eS.put B4 (o:=4) (by show 4<5;decide) O4.slR.isc λh5 B5 u5=>?_
  refine⟨⟨m,acc++[(kP s' 32).1],(kP s' 32).2,v4,F4,rfl,((R2.ext u3).upd u4 na').upd u5 (by simpa using na8.symm),B5,O4.upd u5 (λb hb=>by simp only[iQ];rintro rfl;exact n84 hb),f4,n84,n14,((Z2.ext u3).upd u4 n1).upd u5 (by simpa using n18),(e23.then u4 (λb hb=>.inr (f' b hb))).then u5 (λb hb=>.inr (by simp at hb;rw[hb];exact k8)),?_,by simp;omega⟩,?_⟩
  ·rw[hp,yT,if_pos hs0]
  ·simp only[aUn,sK,qA,jT,kF,v3]
   omega
 ·have hstop:m=0∨s'.1≠0:=by omega
  rw[aQv hstop] at hp
  rw[hp] at e1
  simp only at e1
  have ll:bT PG h' (loadAt eD (pT r8 0))=some ((aDj st).1.val pv):=by rw[e1];exact eD.agg B' (by show 0+5≤5;decide)
  have S':iR h' 1 pv ((aDj st).1.path.map kD):=by rw[e1];exact O'.slR
  have fin:aR (bT PG h' (loadAt eD (pT r8 0))) λv64=>
    cR PG aBd #[v64] h' λv65 h66=>
    aR (aT PG (Op.unary UnOp.not v65)) λv67=>
    fL v67
    (aR (aT PG (gI (pT a 0))) λv68=>
    aR (aT PG (fieldAt iY v68 0)) λv69=>
    cR PG mI #[v69,(Value.int IntKind.i64 5)] h66 λv70 h71=>
    aAJ k (pT r1 0) (pT r8 0) h71)
    (aAJ k (pT r1 0) (pT r8 0) h66):=by
   simp only[ll,eK,reduceIte,eX,Nat.reduceAdd]
   have hpl:(aDj st).1.path.length≤1000000:=by rw[e1];simp only;omega
   refine aNr S' hpl λh2 u2=>?_
   have last:∀{h5:PH},rK h5 a (qW st).2.1 (qW st).2.2->eW [a] h2 h5->aAJ k (pT r1 0) (pT r8 0) h5:=by
    intro h5 R5 u5
    unfold aAJ
    have B5:=(B'.ext u2).upd u5 (by simpa using na8)
    have Z5:=(Z'.ext u2).upd u5 (by simpa using na1)
    have l5:bT PG h5 (loadAt eD (pT r8 0))=some ((aDj st).1.val pv):=by rw[e1];exact eD.agg B5 (by show 0+5≤5;decide)
    simp only[l5,eK,reduceIte,eX,Nat.reduceAdd]
    refine eD.put (vs:=(aDj st).1.cells pv) Z5 (o:=0) rfl (by show 0+5≤5;decide) (Lf.isC _ S'.isc) λh6 B6 u6=>?_
    have l6:bT PG h6 (loadAt eD (pT r1 0))=some ((aDj st).1.val pv):=eD.agg B6 (by show 0+5≤5;decide)
    simp only[l6,eK,reduceIte,eX,Nat.reduceAdd]
    refine hk h6 pv F (R5.upd u6 (by simpa using na1.symm)) ?_ f' (((u'.trans u2.upd).trans u5).then u6 (λb hb=>.inr (by simp at hb;rw[hb];exact hr1)))
    have:(qW st).1.path=acc:=by unfold qW;rw[e1]
    rw[this]
    exact((O'.ext u2).upd u5 (λb hb=>by simp only[iQ];rintro rfl;exact na' hb)).upd u6 (λb hb=>by simp only[iQ];rintro rfl;exact n1 hb)
   have R2:rK h2 a (aDj st).2.1 (aDj st).2.2:=by rw[e1];exact R'.ext u2
   cases hb:(aDj st).1.okb with
   | true=>
    simp only[eK,reduceIte,eX,Nat.reduceAdd]
    refine last ?_ eW.refl
    unfold qW
    rw[if_pos hb];exact R2
   | false=>
    simp only[iY.f0,eK,reduceIte,eX,Nat.reduceAdd]
    refine aOo (st:=(aDj st).2) R2 5 λh3 R3 u3=>?_
    refine last ?_ u3
    unfold qW
    rw[if_neg (by rw[hb];decide)];exact R3
  by_cases hm:0<m
  ·have hs:s'.1≠0:=by omega
   have g:((0:Int)<(m:Int))=True:=eq_true (by omega)
   have q:(s'.1==0)=false:=by simpa using hs
   simp only[g,iY.f0,eK,reduceIte,eX,Nat.reduceAdd]
   refine aNH R' ?_
   simp only[jO,q,eK,reduceIte,eX,Nat.reduceAdd]
   simp only[eK,reduceIte,eX,Nat.reduceAdd] at fin
   exact fin
  ·have g:((0:Int)<(m:Int))=False:=eq_false (by omega)
   simp only[g,eK,reduceIte,eX,Nat.reduceAdd]
   simp only[eK,reduceIte,eX,Nat.reduceAdd] at fin
   exact fin
def LfO(h:PH)(l:List LV)(B:List Nat):Prop:=∀y∈l,∃G,gU h cT 1 y.2 (y.1.path.map kD) G∧∀b∈G,b∉B
theorem LfO.upd{h h':PH}{l:List LV}{B K:List Nat}(H:LfO h l B)(u:eW K h h')(hK:∀b∈K,b∈B):LfO h' l B:=λy hy=>by
 obtain⟨G,O,hG⟩:=H y hy
 exact⟨G,O.upd u (λb hb hk=>hG b hb (hK b hk)),hG⟩
theorem LfO.grow{h:PH}{l:List LV}{B B':List Nat}(H:LfO h l B)(hB:∀b∈B',b∈B∨h b=none):LfO h l B':=λy hy=>by
 obtain⟨G,O,hG⟩:=H y hy
 exact⟨G,O,λb hb hb'=>by
  rcases hB b hb' with hx|hx
  ·exact hG b hb hx
  ·exact O.known b hb hx⟩
theorem LfO.lfs{h:PH}{l:List LV}{B:List Nat}(H:LfO h l B):LfS h l:=λy hy=>by
 obtain⟨G,O,-⟩:=H y hy
 exact O.slR
theorem aFw:aT PG (build eH #[])=some (Pf.val false (.slice none 0 0)):=by kernel_rfl
theorem aJt(b:Bool):aT PG (build eH #[(0,.bool b)])=some (Pf.val b (.slice none 0 0)):=by kernel_rfl
theorem aLQ(f:Lf)(v:Value):iP PG (buildSlice eR 1 #[(0,f.val v)])=some (.cells (f.cells v).toArray eD,λr=>pure (.slice (some ⟨r,0,none⟩) 1 1)):=by kernel_rfl
theorem qS.rows(l:List LV):lC 5 (l.map qS):=λr hr=>by obtain⟨m,_,rfl⟩:=mT.1 hr;rfl
theorem aOt{h:PH}{s:Tx}{k:eJ}
  (hk:∀h' v (l:List LV),l.map (·.1)=(jM s).1.lv->iR h' 5 v (l.map qS)->LfS h' l->fE h h'->k (.tuple #[Pf.val (jM s).1.ab v,.int .i64 (jM s).2]) h'):cR PG aEZ #[.string (tx s)] h k:=by
 apply aDS.call
 unfold aDS
 intro r1 hr1
 try rw[eY]
 have u1:fE h (h.set r1 (.cells (fY PG eH) eH)):=eW.new hr1
 have Z1:=eH.zbox (h:=h) (r:=r1)
 generalize h.set r1 (.cells (fY PG eH) eH)=h1 at *
 refine aPI s λa h2 R2 u2 ha=>?_
 have Z2:=Z1.ext u2
 have na1:r1≠a:=λe=>by rw[←e] at ha;exact Z1.known ha
 have ka:h a=none:=u1.none ha
 refine aL9 R2 λh3 R3 u3=>?_
 refine aL9 R3 λh4 R4 u4=>?_
 have Z4:=(Z2.upd u3 (by simpa using na1)).upd u4 (by simpa using na1)
 have fa:gQ h [a]:=gQ.one ka
 have f1:gQ h [r1]:=gQ.one hr1
 have e4:fE h h4:=((u1.trans u2).fresh u3 fa).fresh u4 fa
 obtain⟨kd,hkd⟩:∃x,x=jA (0,s) 1:=⟨_,rfl⟩
 obtain⟨nn,hnn⟩:∃x,x=jA kd.2 1:=⟨_,rfl⟩
 have hp:jM s=if kd.1<1∨2<kd.1∨2<nn.1 then(Pf.zero,5) else if aLH (pW nn.1 nn.2 []).2≠0 then(Pf.zero,5) else(⟨decide (kd.1=2),(pW nn.1 nn.2 []).1⟩,0):=by
  unfold jM
  rw[hnn,hkd]
 have R4':rK h4 a nn.2.1 nn.2.2:=by rw[hnn,hkd];exact R4
 have ev1:(Value.int .i64 ((jA (0,s) 1).1:Int))= .int .i64 (kd.1:Int):=by rw[hkd]
 have ev2:(Value.int .i64 ((jA ((jA (0,s) 1).2.1,(jA (0,s) 1).2.2) 1).1:Int))= .int .i64 (nn.1:Int):=by rw[hnn,hkd]
 rw[ev1,ev2]
 clear ev1 ev2 R4
 have bad:∀{h5:PH},fE h h5->Bx h5 r1 (Value.cells (Pf.val false (.slice none 0 0))).toList->jM s=(Pf.zero,5)->eZ PG (fQ eH (pT r1 0) (Pf.val false (.slice none 0 0))) h5 λv27 h28=>aR (bT PG h28 (loadAt eH (pT r1 0))) λv29=>k (.tuple #[v29,(Value.int IntKind.i64 5)]) h28:=by
  intro h5 e5 B5 hz
  refine eH.put (vs:=[.bool false,.slice none 0 0]) B5 (o:=0) rfl (by show 0+2≤2;decide) (by simp[iF]) λh6 B6 u6=>?_
  have l6:bT PG h6 (loadAt eH (pT r1 0))=some (Pf.val false (.slice none 0 0)):=eH.agg B6 (by show 0+2≤2;decide)
  simp only[l6,eK,reduceIte,eX,Nat.reduceAdd]
  rw[hz] at hk
  exact hk h6 _ [] rfl (gU.nil (h:=h6) (e:=eD) (size:=5)).slR (λy hy=>by cases hy) (e5.fresh u6 f1)
 by_cases c1:kd.1<1
 ·have g1:((kd.1:Int)<1)=True:=eq_true (by omega)
  rw[if_pos (.inl c1)] at hp
  simp only[g1,aFw,eK,reduceIte,eX,Nat.reduceAdd]
  exact bad e4 Z4 hp
 have g1:((kd.1:Int)<1)=False:=eq_false (by omega)
 by_cases c2:2<kd.1
 ·have g2:((2:Int)<(kd.1:Int))=True:=eq_true (by omega)
  rw[if_pos (.inr (.inl c2))] at hp
  simp only[g1,g2,aFw,eK,reduceIte,eX,Nat.reduceAdd]
  exact bad e4 Z4 hp
 have g2:((2:Int)<(kd.1:Int))=False:=eq_false (by omega)
 by_cases c3:2<nn.1
 ·have g3:((2:Int)<(nn.1:Int))=True:=eq_true (by omega)
  rw[if_pos (.inr (.inr c3))] at hp
  simp only[g1,g2,g3,aFw,eK,reduceIte,eX,Nat.reduceAdd]
  exact bad e4 Z4 hp
 have g3:((2:Int)<(nn.1:Int))=False:=eq_false (by omega)
 rw[if_neg (by omega)] at hp
 have eab:((kd.1:Int)==2)=decide (kd.1=2):=by rw[zLl];simp;omega
 simp only[g1,g2,g3,jO,eab,aJt,eK,reduceIte,eX,Nat.reduceAdd]
 intro r32 hr32
 try rw[eY]
 have n132:r1≠r32:=Z4.apart hr32
 have na32:r32≠a:=λe=>by have:=R4'.here;rw[←e,hr32] at this;cases this
 have k32:h r32=none:=e4.none hr32
 refine eH.fill (vs:=[.bool (decide (kd.1=2)),.slice none 0 0]) hr32 rfl (by simp[iF]) λh5 B5 u5=>?_
 have f32:gQ h [r32]:=gQ.one k32
 refine⟨λvs h'=>∃(i:Nat) (l:List LV) (s':lT) (lv:Value) (F:List Nat),i≤nn.1∧vs=[pT r1 0,pT a 0,pT r32 0,.int .i64 (nn.1:Int),.int .i64 (i:Int)]∧rK h' a s'.1 s'.2∧Bx h' r32 [.bool (decide (kd.1=2)),lv]∧gU h' eD 5 lv (l.map qS) F∧LfO h' l (a::r1::r32::F)∧gQ h F∧a∉F∧r1∉F∧r32∉F∧Bx h' r1 (Value.cells (Pf.val false (.slice none 0 0))).toList∧fE h h'∧pW nn.1 nn.2 []=pW (nn.1-i) s' (l.map (·.1))∧l.length≤i,jP nn.1 4,⟨0,[],nn.2,_,[],by omega,rfl,R4'.ext u5,B5,gU.nil,(λy hy=>by cases hy),(λb hb=>by cases hb),by simp,by simp,by simp,Z4.ext u5,e4.trans u5,rfl,by simp⟩,?_⟩
 rintro ρ h' ⟨i,l,s',lv,F,hi,hvs,R',B',O',L',f',na,n1,n32,Z',e',hr,hll⟩
 simp only[jT,kF,mQ,and_true] at hvs
 obtain⟨v0,v1,v2,v3,v4⟩:=hvs
 unfold aId
 rw[v0,v1,v2,v3,v4]
 by_cases hlt:i<nn.1
 ·have g:((i:Int)<(nn.1:Int))=True:=eq_true (by omega)
  have gi:IntKind.i64.wrap ((i:Int)+1)=((i+1:Nat):Int):=by rw[gD (by omega) (by omega)];omega
  have ll:∀{h'':PH},Bx h'' r32 [.bool (decide (kd.1=2)),lv]->bT PG h'' (loadAt eR (pT r32 1))=some lv:=λB=>by rw[eR.load,B.cell];rfl
  simp only[g,eH.f1,iG,ll B',eK,reduceIte,eX,Nat.reduceAdd]
  refine aWV R' λh2 pv G R2 O2 fG u2=>?_
  have B2:=B'.upd u2 (by simpa using na32)
  refine⟨ll B2,?_⟩
  have OL2:=O'.upd u2 (λb hb=>by simp only[iQ];rintro rfl;exact na hb)
  have L2:=L'.upd u2 (λb hb=>by simp at hb;simp[hb])
  have Z2':=Z'.upd u2 (by simpa using na1)
  have e2:=e'.fresh u2 fa
  simp only[aLQ,eK,reduceIte,eX,Nat.reduceAdd]
  intro r43 hr43
  refine iK ?_
  try rw[eY]
  have u3:fE h2 (h2.set r43 (.cells ((qW s').1.cells pv).toArray eD)):=eW.new hr43
  have s1:iR (h2.set r43 (.cells ((qW s').1.cells pv).toArray eD)) 5 (.slice (some ⟨r43,0,none⟩) 1 1) ([((qW s').1,pv)].map qS):=(gU.lit (qS.rows [((qW s').1,pv)]) fP (by simp) (by decide) (by simp[qS])).slR
  generalize h2.set r43 (.cells ((qW s').1.cells pv).toArray eD)=h3 at *
  refine kU eR.und eR.und eD.info eD.size eD.bytes eD.zero rfl (by decide) (OL2.ext u3) s1 (λr hr u hu=>by
   obtain⟨y,hy,rfl⟩:=mT.1 hr
   simp only[iQ] at hy
   subst hy
   exact Lf.isC _ O2.slR.isc u hu) (by simp;omega) ?_
  intro v4' h4' F4 O4 u4' g4 _
  rw[←rL] at O4
  have R3:=R2.ext u3
  have na4:a∉F4:=λhb=>by
   rcases g4 _ hb with hx|hx
   ·exact na hx
   ·have:=R3.here;rw[hx] at this;cases this
  have n14:r1∉F4:=λhb=>by
   rcases g4 _ hb with hx|hx
   ·exact n1 hx
   ·exact(Z2'.ext u3).known hx
  have n324:r32∉F4:=λhb=>by
   rcases g4 _ hb with hx|hx
   ·exact n32 hx
   ·exact(B2.ext u3).known hx
  have e3:=e2.trans u3
  have f4:gQ h F4:=f'.grow e3 g4
  -- the paths, the new one too
  have L3:LfO h3 (l++[((qW s').1,pv)]) (a::r1::r32::F):=λy hy=>by
   rcases kR.1 hy with hy|hy
   ·exact(L2.upd (K:=[]) u3 (λb hb=>by cases hb)) y hy
   ·simp only[iQ] at hy
    subst hy
    refine⟨G,O2.ext u3,λb hb hb'=>?_⟩
    have hb0:=fG b hb
    simp only[jG] at hb'
    rcases hb' with rfl|rfl|rfl|hb'
    ·have:=R'.here;rw[hb0] at this;cases this
    ·exact Z'.known hb0
    ·exact B'.known hb0
    ·exact O'.known _ hb' hb0
  have L4:LfO h4' (l++[((qW s').1,pv)]) (a::r1::r32::F4):=by
   have:=L3.grow (B':=a::r1::r32::(F++F4)) (λb hb=>by
    simp only[jG,kR] at hb ⊢
    rcases hb with hb|hb|hb|hb|hb
    ·exact .inl (.inl hb)
    ·exact .inl (.inr (.inl hb))
    ·exact .inl (.inr (.inr (.inl hb)))
    ·exact .inl (.inr (.inr (.inr hb)))
    ·rcases g4 b hb with hx|hx
     ·exact .inl (.inr (.inr (.inr hx)))
     ·exact .inr hx)
   exact(this.upd u4' (λb hb=>by simp[hb])).grow (λb hb=>.inl (by
    simp only[jG,kR] at hb ⊢
    rcases hb with hb|hb|hb|hb
    ·exact .inl hb
    ·exact .inr (.inl hb)
    ·exact .inr (.inr (.inl hb))
    ·exact .inr (.inr (.inr (.inr hb)))))
  have B4':=(B2.ext u3).upd u4' n32
  simp only[eH.f1,iG,gi,eK,reduceIte,eX,Nat.reduceAdd]
  refine eR.put B4' (o:=1) (by show 1<2;decide) O4.slR.isc λh5' B5' u5'=>?_
  refine⟨⟨i+1,l++[((qW s').1,pv)],(qW s').2,v4',F4,by omega,rfl,(R3.upd u4' na).upd u5' (by simpa using na32.symm),B5',O4.upd u5' (λb hb=>by simp only[iQ];rintro rfl;exact n324 hb),L4.upd u5' (λb hb=>by simp at hb;simp[hb]),f4,na4,n14,n324,((Z2'.ext u3).upd u4' n1).upd u5' (by simpa using n132),(e3.fresh u4' f').fresh u5' f32,?_,by simp;omega⟩,by simp[jP,v4];omega⟩
  rw[hr,show nn.1-i=(nn.1-(i+1))+1 by omega,pW]
  simp
 ·have g:((i:Int)<(nn.1:Int))=False:=eq_false (by omega)
  rw[show nn.1-i=0 by omega,pW] at hr
  rw[hr] at hp
  simp only at hp
  simp only[g,eK,reduceIte,eX,Nat.reduceAdd]
  refine aVn R' ?_
  by_cases hz:aLH s'=0
  ·rw[if_neg (by simpa using hz)] at hp
   have lf:bT PG h' (loadAt eH (pT r32 0))=some (Pf.val (decide (kd.1=2)) lv):=eH.agg B' (by show 0+2≤2;decide)
   simp only[hz,lR,lf,eK,reduceIte,eX,Nat.reduceAdd]
   refine eH.put (vs:=[.bool (decide (kd.1=2)),lv]) Z' (o:=0) rfl (by show 0+2≤2;decide) (by
    have:=O'.slR.isc
    simp[iF];exact this) λh6 B6 u6=>?_
   have l6:bT PG h6 (loadAt eH (pT r1 0))=some (Pf.val (decide (kd.1=2)) lv):=eH.agg B6 (by show 0+2≤2;decide)
   simp only[l6,eK,reduceIte,eX,Nat.reduceAdd]
   rw[hp] at hk
   exact hk h6 lv l rfl (O'.upd u6 (λb hb=>by simp only[iQ];rintro rfl;exact n1 hb)).slR (L'.upd u6 (λb hb=>by simp at hb;simp[hb])).lfs (e'.fresh u6 f1)
  ·rw[if_pos hz] at hp
   have q:(aLH s' !=0)=true:=by simp[hz]
   simp only[lR,q,aFw,eK,reduceIte,eX,Nat.reduceAdd]
   exact bad e' Z' hp
structure Lf.Bd(f:Lf):Prop where
 m:f.path.length≤255
 k:f.p.k.length≤65535
 v:f.p.v.length≤65535
theorem aN1:∀(n:Nat) (st:lT) (acc:List Tx),(yT n st acc).1.length≤acc.length+n
 | 0,st,acc=>by simp[yT]
 | n+1,st,acc=>by
  rw[yT]
  split
  ·have:=aN1 n (kP st 32).2 (acc++[(kP st 32).1])
   rw[lH] at this
   simp at this ⊢;omega
  ·simp only;omega
theorem aPX(st:lT):(nJ st).1.length≤65535:=by
 have h1:=aH8 (jA st 2).2 (jA st 2).1
 have h2:=aGl st 2
 unfold nJ
 omega
theorem aUK(st:lT):(qW st).1.Bd:=by
 have h1:=aN1 (jA (nJ (nJ (lU (lU st).2).2).2).2 1).1 (jA (nJ (nJ (lU (lU st).2).2).2).2 1).2 []
 have h2:=aGl (nJ (nJ (lU (lU st).2).2).2).2 1
 exact⟨by
  show(yT _ _ []).1.length≤255
  simp only[zLK] at h1
  omega,aPX _,aPX _⟩
theorem aMw:∀(n:Nat) (st:lT) (acc:List Lf),(∀f∈acc,f.Bd)->∀f∈(pW n st acc).1,f.Bd
 | 0,st,acc,h=>h
 | n+1,st,acc,h=>by
  rw[pW]
  refine aMw n _ _ λf hf=>?_
  rcases kR.1 hf with hf|hf
  ·exact h f hf
  ·simp only[iQ] at hf
   subst hf;exact aUK st
theorem aJ0(s:Tx):∀f∈(jM s).1.lv,f.Bd:=by
 unfold jM
 split
 ·intro f hf;cases hf
 ·split
  ·intro f hf;cases hf
  ·exact aMw _ _ _ (λf hf=>by cases hf)
theorem aLg:∀(n:Nat) (st:lT) (acc:List Lf),(pW n st acc).1.length=acc.length+n
 | 0,st,acc=>rfl
 | n+1,st,acc=>by rw[pW,aLg n];simp;omega
theorem aIi(s:Tx):(jM s).1.lv.length≤2:=by
 unfold jM
 split
 ·decide
 ·split
  ·decide
  ·simp only[aLg];simp;omega
theorem Pr.eql{h:PH}{x y:Operand}(p q:Pr):bT PG h (hQ .eql eQ x y p.val q.val)=some (.bool (p==q)):=by
 have e:bT PG h (Op.equalIn (9999+1) eQ (.agg #[.string (tx p.k),.string (tx p.v)]) (.agg #[.string (tx q.k),.string (tx q.v)]))=some ((tx p.k==tx q.k)&&((tx p.v==tx q.v)&&true)):=by
  refine(aI4 eQ.und (by kernel_rfl) (λf=>match f.offset with|0=>tx p.k==tx q.k|_=>tx p.v==tx q.v) ?_)
  intro f hf
  simp only[jG,mD,or_false] at hf
  rcases hf with rfl|rfl
  ·exact⟨by decide,_,_,nK cT.und rfl rfl,nK cT.und rfl rfl,aE6 cT.und⟩
  ·exact⟨by decide,_,_,nK cT.und rfl rfl,nK cT.und rfl rfl,aE6 cT.und⟩
 have:=aN9 (x:=x) (y:=y) (t:=eQ) (P:=PG) (h:=h) (by kernel_rfl) e
 rw[show p.val= .agg #[.string (tx p.k),.string (tx p.v)] from rfl,show q.val= .agg #[.string (tx q.k),.string (tx q.v)] from rfl,this]
 congr 2
 rw[aCh,aCh,zLl]
 obtain⟨a,b⟩:=p
 obtain⟨c,d⟩:=q
 simp only[Bool.and_true,zF,decide_eq_true_eq,beq_iff_eq,Pr.mk.injEq]
 exact⟨λ⟨x,y⟩=>⟨aLG x,aLG y⟩,λ⟨x,y⟩=>⟨by rw[x],by rw[y]⟩⟩
theorem iR.lff{h:PH}{v:Value}{l:List LV}(S:iR h 5 v (l.map qS)){j:Nat}{y:LV}(hy:l[j]? =some y):
  ∃b o,aT PG (indexAt eR v (.int .i64 (j:Int)))=some (pT b o)∧(∀{h':PH},fE h h'->bT PG h' (loadAt dR (pT b o))=some (.int .i64 y.1.i)∧bT PG h' (loadAt dR (pT b (o+1)))=some (.int .i64 y.1.n)∧bT PG h' (loadAt cT (pT b (o+2)))=some (.string (tx y.1.p.k))∧bT PG h' (loadAt eQ (pT b (o+2)))=some y.1.p.val):=by
 obtain⟨b,o,cs,e',fr,h1,hb,hle,hex⟩:=S.at eR.und eD.info eD.size (k:=.i64) (j:=(j:Int)) (r:=qS y) (by omega) (by rw[zLW,sM,hy];rfl)
 have hd:∀i n,i+n≤5->(cs.extract (o+i) (o+i+n)).toList=((qS y).drop i).take n:=λi n hi=>by
  rw[←hex]
  simp only[zLA,zLu,aMG,zLv,aIP,List.take_take]
  congr 1;omega
 have hc:∀i,i<5->cs[o+i]? =(qS y)[i]?:=λi hi=>by
  have:=congrArg (λl:List Value=>l[0]?) (hd i 1 (by omega))
  simp only[zLA,zLu,aMG,aGj,aJ7,Nat.add_zero] at this
  simpa using this
 refine⟨b,o,h1,fun {h'} u=>?_⟩
 have hb':=u.get hb
 refine⟨?_,?_,?_,?_⟩
 ·rw[dR.load];unfold fH;simp only[hb'];exact hc 0 (by decide)
 ·rw[dR.load];unfold fH;simp only[hb'];exact hc 1 (by decide)
 ·rw[cT.load];unfold fH;simp only[hb'];exact hc 2 (by decide)
 ·rw[eQ.loadAgg hb' (by omega)]
  congr 2
  exact zLt (hd 2 2 (by decide))
theorem aMh{h:PH}{root:Tx}{v:Value}{l:List LV}(hK:oA h)(S:iR h 5 v (l.map qS))(HS:LfS h l)(hl:l.length≤1000000)(hb:∀y∈l,y.1.Bd){k:eJ}(hk:∀h',fE h h'->k (.bool (nN root (l.map (·.1)))) h'):
  cR PG aES #[.string (tx root),v] h k:=by
 apply aG6.call
 unfold aG6
 intro r1 hr1
 try rw[eY]
 have u1:fE h (h.set r1 (.cells (Value.cells (.string (tx root))) cT)):=eW.new hr1
 have B1:Bx (h.set r1 (.cells (Value.cells (.string (tx root))) cT)) r1 [.string (tx root)]:=Bx.new
 generalize h.set r1 (.cells (Value.cells (.string (tx root))) cT)=h1 at *
 try simp only[oU,eK,reduceIte,eX,Nat.reduceAdd]
 refine aQE (f:=λy=>!(oM y.1==some root)) (S.ext u1) hl (λy hy h' u k' hk'=>?_) λh3 u3=>?_
 ·show cR PG aFT #[y.1.val y.2,pT r1 0] h' k'
  apply aFD.call
  unfold aFD
  intro r hr
  try rw[eY]
  have v1:fE h' (h'.set r (.cells (Value.cells (y.1.val y.2)) eD)):=eW.new hr
  have C1:Bx (h'.set r (.cells (Value.cells (y.1.val y.2)) eD)) r (y.1.cells y.2):=Bx.new
  generalize h'.set r (.cells (Value.cells (y.1.val y.2)) eD)=h'' at *
  have lf:bT PG h'' (loadAt eD (pT r 0))=some (y.1.val y.2):=eD.agg C1 (by show 0+5≤5;decide)
  have lr:∀{h4:PH},fE h'' h4->bT PG h4 (loadAt cT (pT r1 0))=some (.string (tx root)):=λw=>by rw[cT.load,(((B1.ext u).ext v1).ext w).cell];rfl
  have bd:=hb y hy
  have b1:=bd.m;have b2:=bd.k;have b3:=bd.v
  simp only[lf,eK,reduceIte,eX,Nat.reduceAdd]
  refine aUC ((HS y hy).ext ((u1.trans u).trans v1)) (by omega) (by omega) (hK.ext ((u1.trans u).trans v1)) (λt h4 e4 _ u4=>?_) (λe4 h4 u4=>?_)
  ·have:=hk' h4 (v1.trans u4)
   have ed:(!(oM y.1==some root))=!decide (t=root):=by rw[e4,zLl];simp
   rw[ed] at this
   simp only[lr u4,aEw,eK,reduceIte,eX,Nat.reduceAdd]
   exact this
  ·have:=hk' h4 (v1.trans u4)
   have ed:(!(oM y.1==some root))=true:=by rw[e4];rfl
   rw[ed] at this
   simp only[eK,reduceIte,eX,Nat.reduceAdd]
   exact this
 ·have:=hk h3 (u1.trans u3)
  have e:nN root (l.map (·.1))=!(l.any λy=>!(oM y.1==some root)):=by
   unfold nN
   rw[List.all_map,zLl]
   simp[aCB,List.any_eq_true]
  rw[e] at this
  generalize (l.any λy=>!(oM y.1==some root))=b at this ⊢
  cases b<;>(simp only[eK,reduceIte,eX,Nat.reduceAdd];exact this)
theorem aRj{h:PH}{root s key v:Tx}(hK:oA h){k:eJ}(hk:∀h',fE h h'->k (.bool (aAM root s key v)) h'):cR PG aF4 #[.string (tx root),.string (tx s),.string (tx key),.string (tx v)] h k:=by
 apply aIr.call
 unfold aIr
 have hbd:=aJ0 s
 unfold aAM at hk
 refine aOt λh1 lv l el S HS u1=>?_
 have hl2:l.length≤2:=by have:=aIi s;rw[←el] at this;simpa using this
 rw[←el] at hk hbd
 generalize jM s=P at *
 obtain⟨⟨ab,_⟩,e⟩:=P
 simp only at hk hbd
 simp only[eK,reduceIte,eX,Nat.reduceAdd]
 intro r5 hr5
 try rw[eY]
 refine eH.fill (vs:=[.bool ab,lv]) hr5 rfl (by have:=S.isc;simp[iF];exact this) λh2 B2 u2=>?_
 have e2:=u1.trans u2
 have la:bT PG h2 (loadAt iV (pT r5 0))=some (.bool ab):=by rw[iV.load,B2.cell];rfl
 have ll:bT PG h2 (loadAt eR (pT r5 1))=some lv:=by rw[eR.load,B2.cell];rfl
 have ln:=aIZ S
 by_cases c0:e=0
 case neg=>
  have q:(e==0)=false:=by simpa using c0
  simp only[q,wU] at hk
  simp only[jO,q,eK,reduceIte,eX,Nat.reduceAdd]
  exact hk _ e2
 subst c0
 cases ab with
 | true=>
  simp only[beq_self_eq_true,Bool.not_true,aFZ,wU,zLo] at hk
  simp only[jO,eH.f0,la,eK,reduceIte,eX,Nat.reduceAdd]
  exact hk _ e2
 | false=>
  match l,hl2 with
  | [],_=>
   have q:(((([]:List LV).length:Nat):Int)==1)=false:=rfl
   simp only[kF,aFZ,wU] at hk
   simp only[jO,eH.f0,eH.f1,iG,la,ll,ln,q,eK,reduceIte,eX,Nat.reduceAdd]
   exact hk _ e2
  | [a,b],_=>
   have q:((([a,b].length:Nat):Int)==1)=false:=rfl
   simp only[jT,kF,aFZ,wU] at hk
   simp only[jO,eH.f0,eH.f1,iG,la,ll,ln,q,eK,reduceIte,eX,Nat.reduceAdd]
   exact hk _ e2
  | [a],_=>
   have q:((([a].length:Nat):Int)==1)=true:=rfl
   obtain⟨b,o,i1,i2⟩:=S.lff (j:=0) (y:=a) rfl
   rw[show((0:Nat):Int)=0 from rfl] at i1
   obtain⟨-,-,-,i3⟩:=i2 u2
   have pb:aT PG (build eQ #[(0,.string (tx key)),(1,.string (tx v))])=some (Pr.val ⟨key,v⟩):=by kernel_rfl
   simp only[jT,kF,beq_self_eq_true,Bool.not_false,zLo] at hk
   simp only[jO,eH.f0,eH.f1,eD.f2,iG,la,ll,ln,q,i1,i3,pb,Pr.eql,eK,reduceIte,eX,Nat.reduceAdd]
   cases hq:(a.1.p==(⟨key,v⟩:Pr)) with
   | false=>
    rw[hq] at hk
    simp only[wU] at hk
    simp only[eK,reduceIte,eX,Nat.reduceAdd]
    exact hk _ e2
   | true=>
    rw[hq] at hk
    simp only[zLo] at hk
    simp only[eH.f1,iG,ll,eK,reduceIte,eX,Nat.reduceAdd]
    refine aMh (l:=[a]) (hK.ext e2) (S.ext u2) (HS.ext u2) (by simp) (λy hy=>hbd y.1 (zL4 hy)) λh3 u3=>?_
    try simp only[eK,reduceIte,eX,Nat.reduceAdd]
    exact hk h3 (e2.trans u3)
theorem aTU{h:PH}{root s key:Tx}(hK:oA h){k:eJ}(hk:∀h',fE h h'->k (.bool (aAU root s key)) h'):cR PG aGo #[.string (tx root),.string (tx s),.string (tx key)] h k:=by
 apply aDV.call
 unfold aDV
 have hbd:=aJ0 s
 unfold aAU at hk
 refine aOt λh1 lv l el S HS u1=>?_
 have hl2:l.length≤2:=by have:=aIi s;rw[←el] at this;simpa using this
 rw[←el] at hk hbd
 generalize jM s=P at *
 obtain⟨⟨ab,_⟩,e⟩:=P
 simp only at hk hbd
 simp only[eK,reduceIte,eX,Nat.reduceAdd]
 intro r5 hr5
 try rw[eY]
 refine eH.fill (vs:=[.bool ab,lv]) hr5 rfl (by have:=S.isc;simp[iF];exact this) λh2 B2 u2=>?_
 have e2:=u1.trans u2
 have la:bT PG h2 (loadAt iV (pT r5 0))=some (.bool ab):=by rw[iV.load,B2.cell];rfl
 have ll:∀{h':PH},fE h2 h'->bT PG h' (loadAt eR (pT r5 1))=some lv:=λu=>by rw[eR.load,(B2.ext u).cell];rfl
 have ln:=aIZ S
 have lk:aT PG (Builtin.len_ #[cT] dR #[.string (tx key)])=some (.int .i64 (key.length:Int)):=by rw[mW cT.und,jL]
 by_cases c0:e=0
 case neg=>
  have q:(e==0)=false:=by simpa using c0
  have q':(e !=0)=true:=by simpa using c0
  simp only[q,wU] at hk
  simp only[lR,q',eK,reduceIte,eX,Nat.reduceAdd]
  exact hk _ e2
 subst c0
 cases ab with
 | false=>
  simp only[aFZ,wU] at hk
  simp only[lR,eH.f0,la,eK,reduceIte,eX,Nat.reduceAdd]
  exact hk _ e2
 | true=>
  by_cases c1:key.length<1
  ·have g1:((key.length:Int)<1)=True:=eq_true (by omega)
   have d1:decide (1≤key.length)=false:=decide_eq_false (by omega)
   simp only[d1,aFZ,wU] at hk
   simp only[lR,eH.f0,la,lk,g1,eK,reduceIte,eX,Nat.reduceAdd]
   exact hk _ e2
  have g1:((key.length:Int)<1)=False:=eq_false (by omega)
  have d1:decide (1≤key.length)=true:=decide_eq_true (by omega)
  by_cases c2:16<key.length
  ·have g2:((16:Int)<(key.length:Int))=True:=eq_true (by omega)
   have d2:decide (key.length≤16)=false:=decide_eq_false (by omega)
   simp only[d2,aFZ,wU] at hk
   simp only[lR,eH.f0,la,lk,g1,g2,eK,reduceIte,eX,Nat.reduceAdd]
   exact hk _ e2
  have g2:((16:Int)<(key.length:Int))=False:=eq_false (by omega)
  have d2:decide (key.length≤16)=true:=decide_eq_true (by omega)
  simp only[d1,d2,beq_self_eq_true,zLo,Bool.and_self] at hk
  simp only[lR,eH.f0,eH.f1,iG,la,lk,ll eW.refl,g1,g2,eK,reduceIte,eX,Nat.reduceAdd]
  refine aMh (l:=l) (hK.ext e2) (S.ext u2) (HS.ext u2) (by omega) (λy hy=>hbd y.1 (zL4 hy)) λh3 u3=>?_
  have e3:=e2.trans u3
  cases hc:nN root (l.map (·.1)) with
  | false=>
   rw[hc] at hk
   simp only[wU] at hk
   simp only[eK,reduceIte,eX,Nat.reduceAdd]
   exact hk _ e3
  | true=>
   rw[hc] at hk
   simp only[zLo] at hk
   match l,hl2 with
   | [],_=>
    have q:(((([]:List LV).length:Nat):Int)==0)=true:=rfl
    simp only[kF] at hk
    simp only[jO,eH.f1,iG,ll u3,ln,q,eK,reduceIte,eX,Nat.reduceAdd]
    refine aLw (l:=[]) (by simp) (hK.ext e3) (gU.nil (e:=eQ) (size:=2)).slR (λp hp=>by cases hp) λh4 u4=>?_
    have:=hk h4 (e3.trans u4)
    rw[show(root==lO [])=decide (root=lO []) by rw[zLl];simp] at this
    simp only[aEv,eK,reduceIte,eX,Nat.reduceAdd]
    exact this
   | [a],_=>
    have q0:((([a].length:Nat):Int)==0)=false:=rfl
    have q1:((([a].length:Nat):Int)==1)=true:=rfl
    obtain⟨b,o,i1,i2⟩:=S.lff (j:=0) (y:=a) rfl
    rw[show((0:Nat):Int)=0 from rfl] at i1
    obtain⟨x1,x2,x3,-⟩:=i2 (u2.trans u3)
    have hk:=hk h3 e3
    simp only[jT,kF] at hk
    simp only[jO,eH.f1,eD.f0,eD.f1,eD.f2,eQ.f0,iG,ll u3,ln,q0,q1,i1,x1,eK,reduceIte,eX,Nat.reduceAdd]
    cases hi:a.1.i==0 with
    | true=>
     rw[hi] at hk
     by_cases c3:key<a.1.p.k
     ·have d3:=decide_eq_true c3
      rw[d3] at hk
      simp only[Bool.true_or,Bool.and_self] at hk
      simp only[i1,eD.f2,eQ.f0,x3,xQ,d3,eK,reduceIte,eX,Nat.reduceAdd]
      exact hk
     ·have d3:=decide_eq_false c3
      rw[d3] at hk
      simp only[aFZ,aJv] at hk
      simp only[i1,eD.f0,eD.f1,eD.f2,eQ.f0,x1,x2,x3,xQ,d3,jO,eK,reduceIte,eX,Nat.reduceAdd]
      cases hj:a.1.i==IntKind.i64.wrap (a.1.n-1) with
      | true=>
       rw[hj] at hk
       simp only[zLo] at hk
       simp only[i1,eD.f2,eQ.f0,x3,xQ,eK,reduceIte,eX,Nat.reduceAdd]
       exact hk
      | false=>
       rw[hj] at hk
       simp only[wU] at hk
       simp only[eK,reduceIte,eX,Nat.reduceAdd]
       exact hk
    | false=>
     rw[hi] at hk
     simp only[wU,aJv] at hk
     simp only[i1,eD.f0,eD.f1,x1,x2,jO,eK,reduceIte,eX,Nat.reduceAdd]
     cases hj:a.1.i==IntKind.i64.wrap (a.1.n-1) with
     | true=>
      rw[hj] at hk
      simp only[zLo] at hk
      simp only[i1,eD.f2,eQ.f0,x3,xQ,eK,reduceIte,eX,Nat.reduceAdd]
      exact hk
     | false=>
      rw[hj] at hk
      simp only[wU] at hk
      simp only[eK,reduceIte,eX,Nat.reduceAdd]
      exact hk
   | [a,c],_=>
    have q0:((([a,c].length:Nat):Int)==0)=false:=rfl
    have q1:((([a,c].length:Nat):Int)==1)=false:=rfl
    obtain⟨b,o,i1,i2⟩:=S.lff (j:=0) (y:=a) rfl
    rw[show((0:Nat):Int)=0 from rfl] at i1
    obtain⟨x1,x2,x3,-⟩:=i2 (u2.trans u3)
    obtain⟨b',o',j1,j2⟩:=S.lff (j:=1) (y:=c) rfl
    rw[show((1:Nat):Int)=1 from rfl] at j1
    obtain⟨y1,y2,y3,-⟩:=j2 (u2.trans u3)
    have hk:=hk h3 e3
    simp only[jT,kF] at hk
    simp only[jO,eH.f1,eD.f0,eD.f1,eD.f2,eQ.f0,iG,ll u3,ln,q0,q1,i1,x2,j1,y2,eK,reduceIte,eX,Nat.reduceAdd]
    cases h1:a.1.n==c.1.n with
    | false=>
     rw[h1] at hk
     simp only[wU] at hk
     simp only[eK,reduceIte,eX,Nat.reduceAdd]
     exact hk
    | true=>
     rw[h1] at hk
     simp only[zLo] at hk
     simp only[i1,j1,eD.f0,x1,y1,jO,eK,reduceIte,eX,Nat.reduceAdd]
     cases h2':IntKind.i64.wrap (a.1.i+1)==c.1.i with
     | false=>
      rw[h2'] at hk
      simp only[wU] at hk
      simp only[eK,reduceIte,eX,Nat.reduceAdd]
      exact hk
     | true=>
      rw[h2'] at hk
      simp only[zLo] at hk
      simp only[i1,j1,eD.f2,eQ.f0,x3,y3,xQ,eK,reduceIte,eX,Nat.reduceAdd]
      cases h3':decide (a.1.p.k<key) with
      | false=>
       rw[h3'] at hk
       simp only[wU] at hk
       simp only[eK,reduceIte,eX,Nat.reduceAdd]
       exact hk
      | true=>
       rw[h3'] at hk
       simp only[zLo] at hk
       simp only[i1,j1,eD.f2,eQ.f0,x3,y3,xQ,eK,reduceIte,eX,Nat.reduceAdd]
       exact hk
theorem aV9(x:Int):aT PG (convert dR oL (.int .i64 x))=some (.int .u64 (IntKind.u64.wrap x)):=by kernel_rfl
theorem aWb(x:Int):aT PG (convert oL dR (.int .u64 x))=some (.int .i64 (IntKind.i64.wrap x)):=by kernel_rfl
theorem aXx{t:TypeId}{n:Nat}:aT PG (binOp .shr t (.int .u64 (n:Int)) (.int .u64 1))=some (.int .u64 ((n/2:Nat):Int)):=by
 rw[aIL (by decide)]
 congr 2
 show(n:Int).fdiv (2^1)=_
 rw[Int.fdiv_eq_ediv_of_nonneg _ (by decide)]
 have:(2:Int)^1=2:=by rfl
 omega
def fnF:Value:=.func (.func yQ) #[] #[]
theorem aQj{h:PH}{p:Pr}{key:Tx}{k:eJ}(hk:∀h',fE h h'->k (.int .i64 (if p.k<key then -1 else if key<p.k then 1 else 0)) h'):cR PG yQ #[p.val,.string (tx key)] h k:=by
 apply aGR.call
 unfold aGR
 intro r1 hr1
 try rw[eY]
 have u1:fE h (h.set r1 (.cells (Value.cells p.val) eQ)):=eW.new hr1
 have B1:Bx (h.set r1 (.cells (Value.cells p.val) eQ)) r1 p.cells:=Bx.new
 generalize h.set r1 (.cells (Value.cells p.val) eQ)=h1 at *
 have lk:bT PG h1 (loadAt cT (pT r1 0))=some (.string (tx p.k)):=by rw[cT.load,B1.cell];rfl
 simp only[eQ.f0,lk,eK,reduceIte,eX,Nat.reduceAdd]
 refine aMf ?_
 exact hk _ u1
theorem aPg{h:PH}{v:Value}{l:List Pr}(S:iR h 2 v (l.map Pr.cells))(hs:rG l)(hl:l.length≤1000000)(key:Tx){k:eJ}(hk:∀h',fE h h'->k (.tuple #[.int .i64 ((jC l key:Nat):Int),.bool (jI l key).isSome]) h'):
  cR PG aFP #[v,.string (tx key)] h k:=by
 apply aHm.call
 unfold aHm
 apply lL.call
 unfold lL
 have lv:=S.len (t':=dR) eM.und
 rw[kQ] at lv
 have hple:=aIR l key
 simp only[lv,eK,reduceIte,eX,Nat.reduceAdd]
 refine⟨λvs h'=>∃i j:Nat,i≤jC l key∧jC l key≤j∧j≤l.length∧vs=[v,.string (tx key),fnF,.int .i64 (l.length:Int),.int .i64 (i:Int),.int .i64 (j:Int)]∧fE h h',λvs _=>match vs with|[_,_,_,_,.int _ i,.int _ j]=>(j-i).toNat|_=>0,⟨0,l.length,by omega,hple,by omega,rfl,eW.refl⟩,?_⟩
 rintro ρ h' ⟨i,j,h1,h2,h3,hvs,u⟩
 simp only[jT,kF,mQ,and_true] at hvs
 obtain⟨v0,v1,v2,v3,v4,v5⟩:=hvs
 unfold oZ
 rw[v0,v1,v2,v3,v4,v5]
 by_cases hlt:i<j
 ·have g:((i:Int)<(j:Int))=True:=eq_true (by omega)
  have w1:IntKind.i64.wrap ((i:Int)+(j:Int))=((i+j:Nat):Int):=by rw[gD (by omega) (by omega)];omega
  have w2:IntKind.u64.wrap ((i+j:Nat):Int)=((i+j:Nat):Int):=iZ (by omega) (by omega)
  have w3:IntKind.i64.wrap (((i+j)/2:Nat):Int)=(((i+j)/2:Nat):Int):=gD (by omega) (by omega)
  obtain⟨m,hm⟩:∃m,m=(i+j)/2:=⟨_,rfl⟩
  have hmj:m<j:=by omega
  have him:i≤m:=by omega
  have w4:IntKind.i64.wrap ((m:Int)+1)=((m+1:Nat):Int):=by rw[gD (by omega) (by omega)];omega
  rw[←hm] at w3
  obtain⟨p,hp⟩:∃p,l[m]? =some p:=⟨_,nM (by omega)⟩
  obtain⟨b,o,a1,-,-,a2⟩:=(S.ext u).pair hp
  have hpl:=aFW (k:=key) hs hp
  simp only[g,w1,aV9,w2,aXx,←hm,aWb,w3,a1,a2,eK,reduceIte,eX,Nat.reduceAdd]
  show cR PG yQ #[p.val,.string (tx key)] h' _
  refine aQj λh4 u4=>?_
  unfold mL
  by_cases c:p.k<key
  ·have gc:((-1:Int)<0)=True:=eq_true (by decide)
   have:=hpl.2 c
   rw[if_pos c]
   simp only[gc,w4,eK,reduceIte,eX,Nat.reduceAdd]
   exact⟨⟨m+1,j,by omega,h2,h3,rfl,u.trans u4⟩,by simp[v4,v5];omega⟩
  ·have hpn:¬m<jC l key:=λx=>c (hpl.1 x)
   rw[if_neg c]
   have gc:((if key<p.k then(1:Int) else 0)<0)=False:=eq_false (by split<;>decide)
   simp only[gc,eK,reduceIte,eX,Nat.reduceAdd]
   exact⟨⟨i,m,h1,by omega,by omega,rfl,u.trans u4⟩,by simp[v4,v5];omega⟩
 ·have g:((i:Int)<(j:Int))=False:=eq_false (by omega)
  have ei:i=jC l key:=by omega
  by_cases hil:i<l.length
  ·have g2:((i:Int)<(l.length:Int))=True:=eq_true (by omega)
   obtain⟨p,hp⟩:∃p,l[i]? =some p:=⟨_,nM hil⟩
   obtain⟨b,o,a1,-,-,a2⟩:=(S.ext u).pair hp
   have hpl:=aFW (k:=key) hs hp
   have hnl:¬p.k<key:=λc=>by have:=hpl.2 c;omega
   simp only[g,g2,a1,a2,eK,reduceIte,eX,Nat.reduceAdd]
   show cR PG yQ #[p.val,.string (tx key)] h' _
   refine aQj λh4 u4=>?_
   rw[if_neg hnl]
   have hk:=hk h4 (u.trans u4)
   rw[←ei] at hk
   by_cases c:key<p.k
   ·have hno:(jI l key).isSome=false:=by
     rw[Option.isSome_eq_false_iff,Option.isNone_iff_eq_none,aEb]
     intro q hq e
     obtain⟨x,hx⟩:=List.mem_iff_getElem?.1 hq
     have hqk:¬q.k<key:=by rw[e];exact zLY _
     have:¬x<jC l key:=λy=>hqk ((aFW hs hx).1 y)
     rcases Nat.lt_or_ge i x with hix|hix
     ·have:=hs.lt hp hx hix
      rw[e] at this
      exact zLY _ (List.lt_trans c this)
     ·have:x=i:=by omega
      rw[this,hp] at hx
      cases hx
      rw[e] at c
      exact zLY _ c
    have q1:((1:Int)==0)=false:=by decide
    rw[hno] at hk
    rw[if_pos c]
    simp only[jO,q1,eK,reduceIte,eX,Nat.reduceAdd]
    exact hk
   ·have e:p.k=key:=by
     rcases aGw p.k key with h|h|h
     ·exact absurd h hnl
     ·exact h
     ·exact absurd h c
    have hyes:(jI l key).isSome=true:=by rw[(uQ hs).2 ⟨uJ hp,e⟩];rfl
    have q1:((0:Int)==0)=true:=by decide
    rw[hyes] at hk
    rw[if_neg c]
    simp only[jO,q1,eK,reduceIte,eX,Nat.reduceAdd]
    exact hk
  ·have g2:((i:Int)<(l.length:Int))=False:=eq_false (by omega)
   have hno:(jI l key).isSome=false:=by
    rw[Option.isSome_eq_false_iff,Option.isNone_iff_eq_none,aEb]
    intro q hq e
    obtain⟨x,hx⟩:=List.mem_iff_getElem?.1 hq
    have hxl:=(zLx.1 hx).1
    have:=(aFW (k:=key) hs hx).1 (by omega)
    rw[e] at this
    exact zLY _ this
   have hk:=hk h' u
   rw[←ei,hno] at hk
   simp only[g,g2,eK,reduceIte,eX,Nat.reduceAdd]
   exact hk
def wA(j:Nat):List Value:=[.int .i64 (j:Int)]
theorem wA.rows(l:List Nat):lC 1 (l.map wA):=λr hr=>by obtain⟨m,_,rfl⟩:=mT.1 hr;rfl
theorem iR.ic{h:PH}{v:Value}{l:List Nat}(S:iR h 1 v (l.map wA)){j:Nat}{x:Nat}(hx:l[j]? =some x):
  ∃a,aT PG (indexAt uO v (.int .i64 (j:Int)))=some (.pointer (some a))∧bT PG h (loadAt dR (.pointer (some a)))=some (.int .i64 (x:Int)):=
 S.loadCell uO.und dR.info dR.size dR.und rfl (k:=.i64) (j:=(j:Int)) (x:=.int .i64 (x:Int)) (by omega) (by rw[sM,zLW,hx];rfl)
theorem aWn{h:PH}{v:Value}{l:List Nat}(S:iR h 1 v (l.map wA)):aT PG (Builtin.len_ #[uO] dR #[v])=some (.int .i64 l.length):=by
 have:=S.len (t':=dR) uO.und
 rw[kQ] at this
 exact this
def LfN(h0 h:PH)(l:List LV)(B:List Nat):Prop:=∀y∈l,∃G,gU h cT 1 y.2 (y.1.path.map kD) G∧gQ h0 G∧∀b∈G,b∉B
theorem LfN.upd{h0 h h':PH}{l:List LV}{B K:List Nat}(H:LfN h0 h l B)(u:eW K h h')(hK:∀b∈K,b∈B∨h0 b≠none):LfN h0 h' l B:=λy hy=>by
 obtain⟨G,O,f,hG⟩:=H y hy
 refine⟨G,O.upd u (λb hb hk=>?_),f,hG⟩
 rcases hK b hk with hx|hx
 ·exact hG b hb hx
 ·exact hx (f b hb)
theorem LfN.grow{h0 h:PH}{l:List LV}{B B':List Nat}(H:LfN h0 h l B)(hB:∀b∈B',b∈B∨h b=none):LfN h0 h l B':=λy hy=>by
 obtain⟨G,O,f,hG⟩:=H y hy
 exact⟨G,O,f,λb hb hb'=>by
  rcases hB b hb' with hx|hx
  ·exact hG b hb hx
  ·exact O.known b hb hx⟩
theorem LfN.lfs{h0 h:PH}{l:List LV}{B:List Nat}(H:LfN h0 h l B):LfS h l:=λy hy=>by
 obtain⟨G,O,-⟩:=H y hy
 exact O.slR
theorem aUk(x y:Int)(p:Pr)(b:Option Addr)(n c:Nat):aT PG (build eD #[(0,.int .i64 x),(1,.int .i64 y),(2,p.val),(3,.slice b n c)])=some (Lf.val ⟨x,y,p,[]⟩ (.slice b n c)):=by kernel_rfl
structure oN(h0 h:PH)(v:Value)(fs:List Lf):Prop where
 here:∃(l:List LV) (F:List Nat),l.map (·.1)=fs∧gU h eD 5 v (l.map qS) F∧gQ h0 F∧LfN h0 h l F
theorem oN.upd{h0 h h':PH}{v:Value}{fs:List Lf}{K:List Nat}(H:oN h0 h v fs)(u:eW K h h')(hK:∀b∈K,h0 b≠none):oN h0 h' v fs:=by
 obtain⟨l,F,e,O,f,L⟩:=H.here
 exact⟨l,F,e,O.upd u (λb hb hk=>hK b hk (f b hb)),f,L.upd u (λb hb=>.inr (hK b hb))⟩
theorem oN.isc{h0 h:PH}{v:Value}{fs:List Lf}(H:oN h0 h v fs):iF v=true:=by
 obtain⟨l,F,e,O,f,L⟩:=H.here
 exact O.slR.isc
theorem oN.nil{h0 h:PH}:oN h0 h (.slice none 0 0) []:=⟨[],[],rfl,gU.nil,(λb hb=>by cases hb),(λy hy=>by cases hy)⟩
theorem aNy{h0 h:PH}{v av:Value}{l:List Pr}{js:List Nat}(u0:fE h0 h)(hK:oA h)(S:iR h 2 v (l.map Pr.cells))(hs:aAK l)(hl:l.length≤4096)(A:iR h 1 av (js.map wA))(hj:∀j∈js,j<l.length)(h2:js.length≤2){k:eJ}
  (hk:∀h' v',oN h0 h' v' (js.map (lB l))->fE h h'->k v' h'):cR PG uW #[v,av] h k:=by
 apply aCT.call
 unfold aCT
 have la:=aWn A
 have lv:=S.len (t':=dR) eM.und
 rw[kQ] at lv
 simp only[la,eK,reduceIte,eX,Nat.reduceAdd]
 refine⟨λvs h'=>∃(i:Nat) (o:Value) (r:List LV) (F:List Nat),i≤js.length∧vs=[v,o,av,.int .i64 (js.length:Int),.int .i64 (i:Int)]∧fE h h'∧r.map (·.1)=(js.take i).map (lB l)∧gU h' eD 5 o (r.map qS) F∧gQ h F∧LfN h h' r F∧r.length≤i,jP js.length 4,⟨0,_,[],[],by omega,rfl,eW.refl,rfl,gU.nil,(λb hb=>by cases hb),(λy hy=>by cases hy),by simp⟩,?_⟩
 rintro ρ h' ⟨i,o,r,F,hi,hvs,u,hr,O,f,L,hrl⟩
 simp only[jT,kF,mQ,and_true] at hvs
 obtain⟨v0,v1,v2,v3,v4⟩:=hvs
 unfold aIo
 rw[v0,v1,v2,v3,v4]
 by_cases hlt:i<js.length
 ·have g:((i:Int)<(js.length:Int))=True:=eq_true (by omega)
  have gi:IntKind.i64.wrap ((i:Int)+1)=((i+1:Nat):Int):=by rw[gD (by omega) (by omega)];omega
  obtain⟨j,hjj⟩:∃j,js[i]? =some j:=⟨_,nM hlt⟩
  have hjl:=hj j (uJ hjj)
  obtain⟨p,hp⟩:∃p,l[j]? =some p:=⟨_,nM hjl⟩
  obtain⟨aa,a1,a2⟩:=(A.ext u).ic hjj
  obtain⟨b,q,b1,-⟩:=S.pair hp
  have b2:∀{h'':PH},fE h h''->bT PG h'' (loadAt eQ (pT b q))=some p.val:=λw=>by
   obtain⟨b',q',c1,-,-,c2⟩:=(S.ext w).pair hp
   rw[b1] at c1;cases c1
   exact c2
  simp only[g,a1,a2,lv,b1,b2 u,eK,reduceIte,eX,Nat.reduceAdd]
  refine aV3 hjl hl (hK.ext u) (S.ext u) hs λpv h3 G O3 fG u3=>?_
  have e3:=u.trans u3
  obtain⟨pa,pc,epv,-⟩:=O3.slR.here
  refine⟨b2 e3,?_⟩
  have hb:aT PG (build eD #[(0,.int .i64 (j:Int)),(1,.int .i64 (l.length:Int)),(2,p.val),(3,pv)])=some ((lB l j).val pv):=by
   rw[epv,aUk,aHN hp];rfl
  have hpath:(lB l j).path=nQ l j:=rfl
  simp only[hb,aLQ,eK,reduceIte,eX,Nat.reduceAdd]
  intro r13 hr13
  refine iK ?_
  try rw[eY]
  have u4:fE h3 (h3.set r13 (.cells ((lB l j).cells pv).toArray eD)):=eW.new hr13
  have s1:iR (h3.set r13 (.cells ((lB l j).cells pv).toArray eD)) 5 (.slice (some ⟨r13,0,none⟩) 1 1) ([(lB l j,pv)].map qS):=(gU.lit (qS.rows [(lB l j,pv)]) fP (by simp) (by decide) (by simp[qS])).slR
  generalize h3.set r13 (.cells ((lB l j).cells pv).toArray eD)=h4 at *
  have e4:=e3.trans u4
  refine kU eR.und eR.und eD.info eD.size eD.bytes eD.zero rfl (by decide) ((O.ext u3).ext u4) s1 (λr hr u hu=>by
   obtain⟨y,hy,rfl⟩:=mT.1 hr
   simp only[iQ] at hy
   subst hy
   exact Lf.isC _ O3.slR.isc u hu) (by simp;omega) ?_
  intro v5 h5 F5 O5 u5 g5 _
  rw[←rL] at O5
  have L4:LfN h h4 (r++[(lB l j,pv)]) F:=λy hy=>by
   rcases kR.1 hy with hy|hy
   ·exact((L.upd u3 (λb hb=>by cases hb)).upd u4 (λb hb=>by cases hb)) y hy
   ·simp only[iQ] at hy
    subst hy
    exact⟨G,O3.ext u4,fG.of u,λb hb hb'=>O.known b hb' (fG b hb)⟩
  have L5:LfN h h5 (r++[(lB l j,pv)]) F5:=by
   have:=L4.grow (B':=F++F5) (λb hb=>by
    rcases kR.1 hb with hb|hb
    ·exact .inl hb
    ·exact g5 b hb)
   exact(this.upd u5 (λb hb=>.inl (by simp[hb]))).grow (λb hb=>.inl (by simp[hb]))
  simp only[gi,eK,reduceIte,eX,Nat.reduceAdd]
  refine⟨⟨i+1,v5,r++[(lB l j,pv)],F5,by omega,rfl,e4.fresh u5 f,?_,O5,f.grow e4 g5,L5,by simp;omega⟩,by simp[jP,v4];omega⟩
  rw[rL,hr,zLR,hjj]
  simp
 ·have g:((i:Int)<(js.length:Int))=False:=eq_false (by omega)
  rw[qR (by omega)] at hr
  simp only[g,eK,reduceIte,eX,Nat.reduceAdd]
  refine hk h' o ⟨r,F,hr,O,f.of u0,λy hy=>?_⟩ u
  obtain⟨G,OG,fG,hG⟩:=L y hy
  exact⟨G,OG,fG.of u0,hG⟩
theorem oN.of{h0 h1 h:PH}{v:Value}{fs:List Lf}(H:oN h1 h v fs)(u:fE h0 h1):oN h0 h v fs:=by
 obtain⟨l,F,e,O,f,L⟩:=H.here
 exact⟨l,F,e,O,f.of u,λy hy=>by
  obtain⟨G,OG,fG,hG⟩:=L y hy
  exact⟨G,OG,fG.of u,hG⟩⟩
theorem MOk.small{l:List Pr}(H:MOk l):aAK l:=λp hp=>by
 have:=H.k p hp;have:=H.v p hp;omega
theorem il1(a:Int):iP PG (buildSlice uO 1 #[(0,.int .i64 a)])=some (.cells #[.int .i64 a] dR,λr=>pure (.slice (some ⟨r,0,none⟩) 1 1)):=by kernel_rfl
theorem il2(a b:Int):iP PG (buildSlice uO 2 #[(0,.int .i64 a),(1,.int .i64 b)])=some (.cells #[.int .i64 a,.int .i64 b] dR,λr=>pure (.slice (some ⟨r,0,none⟩) 2 2)):=by kernel_rfl
theorem aUs(b:Option Addr)(n c:Nat):aT PG (build eH #[(1,.slice b n c)])=some (Pf.val false (.slice b n c)):=by kernel_rfl
theorem aRa{h:PH}{v:Value}{l:List Pr}{key:Tx}(H:MOk l)(hK:oA h)(S:iR h 2 v (l.map Pr.cells)){kk:eJ}(hno:jI l key=none->∀h',fE h h'->kk (.tuple #[Pf.val false (.slice none 0 0),.int .i64 3]) h')
  (hyes:(jI l key).isSome=true->∀h' v',oN h h' v' [lB l (jC l key)]->fE h h'->kk (.tuple #[Pf.val false v',.int .i64 0]) h'):cR PG aFa #[v,.string (tx key)] h kk:=by
 apply aFN.call
 unfold aFN
 have hl:=H.len
 intro r1 hr1
 try rw[eY]
 have u1:fE h (h.set r1 (.cells (fY PG eH) eH)):=eW.new hr1
 have Z1:=eH.zbox (h:=h) (r:=r1)
 generalize h.set r1 (.cells (fY PG eH) eH)=h1 at *
 have f1:gQ h [r1]:=gQ.one hr1
 refine aPg (S.ext u1) H.up (by omega) key λh2 u2=>?_
 have e2:=u1.trans u2
 have Z2:=Z1.ext u2
 cases hg:(jI l key).isSome with
 | false=>
  simp only[aFw,eK,reduceIte,eX,Nat.reduceAdd]
  refine eH.put (vs:=[.bool false,.slice none 0 0]) Z2 (o:=0) rfl (by show 0+2≤2;decide) (by simp[iF]) λh6 B6 u6=>?_
  have l6:bT PG h6 (loadAt eH (pT r1 0))=some (Pf.val false (.slice none 0 0)):=eH.agg B6 (by show 0+2≤2;decide)
  simp only[l6,eK,reduceIte,eX,Nat.reduceAdd]
  exact hno (by simpa using hg) h6 (e2.fresh u6 f1)
 | true=>
  obtain⟨p,hp⟩:=Option.isSome_iff_exists.1 hg
  have hj:=(zLx.1 (aIz H.up hp)).1
  simp only[il1,eK,reduceIte,eX,Nat.reduceAdd]
  intro r12 hr12
  refine iK ?_
  try rw[eY]
  have u3:fE h2 (h2.set r12 (.cells #[.int .i64 ((jC l key:Nat):Int)] dR)):=eW.new hr12
  have A:iR (h2.set r12 (.cells #[.int .i64 ((jC l key:Nat):Int)] dR)) 1 (.slice (some ⟨r12,0,none⟩) 1 1) ([jC l key].map wA):=(gU.lit (wA.rows [jC l key]) fP (by simp) (by decide) (by simp[wA])).slR
  generalize h2.set r12 (.cells #[.int .i64 ((jC l key:Nat):Int)] dR)=h3 at *
  have e3:=e2.trans u3
  refine aNy (h0:=h1) (u2.trans u3) (hK.ext e3) (S.ext e3) H.small hl A (by simpa using hj) (by simp) λh4 v4 L4 u4=>?_
  obtain⟨b,n,c,ev⟩:∃b n c,v4= .slice b n c:=by
   obtain⟨l',F,-,O,-⟩:=L4.here
   obtain⟨b,c,ev,-⟩:=O.slR.here
   exact⟨b,_,c,ev⟩
  have hb:aT PG (build eH #[(1,v4)])=some (Pf.val false v4):=by rw[ev];exact aUs _ _ _
  simp only[hb,eK,reduceIte,eX,Nat.reduceAdd]
  refine eH.put (vs:=[.bool false,v4]) ((Z2.ext u3).ext u4) (o:=0) rfl (by show 0+2≤2;decide) (by
   have:=L4.isc
   simp[iF];exact this) λh6 B6 u6=>?_
  have l6:bT PG h6 (loadAt eH (pT r1 0))=some (Pf.val false v4):=eH.agg B6 (by show 0+2≤2;decide)
  simp only[l6,eK,reduceIte,eX,Nat.reduceAdd]
  exact hyes hg h6 v4 ((L4.upd u6 (λb hb=>by simp at hb;rw[hb];exact Z1.known)).of u1) ((e3.trans u4).fresh u6 f1)
theorem aRe{h:PH}{v:Value}{l:List Pr}{key:Tx}(H:MOk l)(hK:oA h)(S:iR h 2 v (l.map Pr.cells)){kk:eJ}(hbad:¬(1≤key.length∧key.length≤16)->∀h',fE h h'->kk (.tuple #[Pf.val false (.slice none 0 0),.int .i64 1]) h')
  (hyes:(jI l key).isSome=true->∀h',fE h h'->kk (.tuple #[Pf.val false (.slice none 0 0),.int .i64 4]) h')
  (hno:1≤key.length->key.length≤16->jI l key=none->∀h' v',oN h h' v' (kK l key).lv->fE h h'->kk (.tuple #[Pf.val true v',.int .i64 0]) h'):cR PG aFt #[v,.string (tx key)] h kk:=by
 apply aF8.call
 unfold aF8
 have hl:=H.len
 have hple:=aIR l key
 intro r1 hr1
 try rw[eY]
 have u1:fE h (h.set r1 (.cells (fY PG eH) eH)):=eW.new hr1
 have Z1:=eH.zbox (h:=h) (r:=r1)
 generalize h.set r1 (.cells (fY PG eH) eH)=h1 at *
 have f1:gQ h [r1]:=gQ.one hr1
 have lk:aT PG (Builtin.len_ #[cT] dR #[.string (tx key)])=some (.int .i64 (key.length:Int)):=by rw[mW cT.und,jL]
 have lv:=S.len (t':=dR) eM.und
 rw[kQ] at lv
 have err:∀{h5:PH} {e:Int},fE h h5->Bx h5 r1 (Value.cells (Pf.val false (.slice none 0 0))).toList->(∀h',fE h h'->kk (.tuple #[Pf.val false (.slice none 0 0),.int .i64 e]) h')->eZ PG (fQ eH (pT r1 0) (Pf.val false (.slice none 0 0))) h5 λv27 h28=>aR (bT PG h28 (loadAt eH (pT r1 0))) λv29=>kk (.tuple #[v29,(Value.int IntKind.i64 e)]) h28:=by
  intro h5 e e5 B5 hk
  refine eH.put (vs:=[.bool false,.slice none 0 0]) B5 (o:=0) rfl (by show 0+2≤2;decide) (by simp[iF]) λh6 B6 u6=>?_
  have l6:bT PG h6 (loadAt eH (pT r1 0))=some (Pf.val false (.slice none 0 0)):=eH.agg B6 (by show 0+2≤2;decide)
  simp only[l6,eK,reduceIte,eX,Nat.reduceAdd]
  exact hk h6 (e5.fresh u6 f1)
 by_cases c1:key.length<1
 ·have g1:((key.length:Int)<1)=True:=eq_true (by omega)
  simp only[lk,g1,aFw,eK,reduceIte,eX,Nat.reduceAdd]
  exact err u1 Z1 (hbad (by omega))
 have g1:((key.length:Int)<1)=False:=eq_false (by omega)
 by_cases c2:16<key.length
 ·have g2:((16:Int)<(key.length:Int))=True:=eq_true (by omega)
  simp only[lk,g1,g2,aFw,eK,reduceIte,eX,Nat.reduceAdd]
  exact err u1 Z1 (hbad (by omega))
 have g2:((16:Int)<(key.length:Int))=False:=eq_false (by omega)
 simp only[lk,g1,g2,eK,reduceIte,eX,Nat.reduceAdd]
 refine aPg (S.ext u1) H.up (by omega) key λh2 u2=>?_
 have e2:=u1.trans u2
 have Z2:=Z1.ext u2
 simp only[aJt,eK,reduceIte,eX,Nat.reduceAdd]
 intro r26 hr26
 try rw[eY]
 have n126:r1≠r26:=Z2.apart hr26
 refine eH.fill (vs:=[.bool true,.slice none 0 0]) hr26 rfl (by simp[iF]) λh3 B3 u3=>?_
 have e3:=e2.trans u3
 have Z3:=Z2.ext u3
 have f26:gQ h [r26]:=gQ.one (e2.none hr26)
 cases hg:(jI l key).isSome with
 | true=>
  simp only[aFw,eK,reduceIte,eX,Nat.reduceAdd]
  exact err e3 Z3 (hyes hg)
 | false=>
  have hgn:jI l key=none:=by simpa using hg
  have hno:=hno (by omega) (by omega) hgn
  have epf:(kK l key).lv=if l=[] then [] else if jC l key=0 then [lB l 0] else if jC l key=l.length then [lB l (l.length-1)] else [lB l (jC l key-1),lB l (jC l key)]:=by
   unfold kK
   rw[if_neg (by rw[hg];decide)]
   split
   ·rfl
   ·split
    ·rfl
    ·split<;>rfl
  -- the end
  have fin:∀{h5:PH} {v5:Value},fE h h5->Bx h5 r1 (Value.cells (Pf.val false (.slice none 0 0))).toList->Bx h5 r26 [.bool true,v5]->oN h3 h5 v5 (kK l key).lv->sN kk (pT r1 0) (pT r26 0) h5:=by
   intro h5 v5 e5 Z5 B5 L5
   unfold sN aIQ
   have l5:bT PG h5 (loadAt eH (pT r26 0))=some (Pf.val true v5):=eH.agg B5 (by show 0+2≤2;decide)
   simp only[l5,eK,reduceIte,eX,Nat.reduceAdd]
   refine eH.put (vs:=[.bool true,v5]) Z5 (o:=0) rfl (by show 0+2≤2;decide) (by
    have:=L5.isc
    simp[iF];exact this) λh6 B6 u6=>?_
   have l6:bT PG h6 (loadAt eH (pT r1 0))=some (Pf.val true v5):=eH.agg B6 (by show 0+2≤2;decide)
   simp only[l6,eK,reduceIte,eX,Nat.reduceAdd]
   exact hno h6 v5 ((L5.upd u6 (λb hb=>by simp at hb;rw[hb];exact Z3.known)).of e3) (e5.fresh u6 f1)
  -- with leaves
  have mk:∀{h4:PH} {js:List Nat} {av:Value},fE h3 h4->iR h4 1 av (js.map wA)->(∀j∈js,j<l.length)->js.length≤2->js.map (lB l)=(kK l key).lv->
    cR PG uW #[v,av] h4 λv47 h48=>eZ PG (fQ eR (pT r26 1) v47) h48 λv50 h51=>sN kk (pT r1 0) (pT r26 0) h51:=by
   intro h4 js av u4 A hj h2' ej
   have e4:=e3.trans u4
   refine aNy (h0:=h3) u4 (hK.ext e4) (S.ext e4) H.small hl A hj h2' λh5 v5 L5 u5=>?_
   refine eR.put ((B3.ext u4).ext u5) (o:=1) (by show 1<2;decide) L5.isc λh6 B6 u6=>?_
   rw[ej] at L5
   exact fin ((e4.trans u5).fresh u6 f26) (((Z3.ext u4).ext u5).upd u6 (by simpa using n126)) B6 (L5.upd u6 (λb hb=>by simp at hb;rw[hb];exact B3.known))
  by_cases h0:l=[]
  ·have q:((l.length:Int)==0)=true:=by simp[h0]
   rw[if_pos h0] at epf
   simp only[lv,jO,q,eK,reduceIte,eX,Nat.reduceAdd]
   exact fin e3 Z3 B3 (by rw[epf];exact oN.nil)
  ·have hpos:=aGv.2 h0
   have q:((l.length:Int)==0)=false:=by simpa using h0
   rw[if_neg h0] at epf
   by_cases hp0:jC l key=0
   ·have q2:(((jC l key:Nat):Int)==0)=true:=by simp[hp0]
    rw[if_pos hp0] at epf
    simp only[lv,jO,q,q2,il1,eH.f1,iG,eK,reduceIte,eX,Nat.reduceAdd]
    intro r43 hr43
    refine iK ?_
    try rw[eY]
    have u4:fE h3 (h3.set r43 (.cells #[.int .i64 0] dR)):=eW.new hr43
    have A:iR (h3.set r43 (.cells #[.int .i64 0] dR)) 1 (.slice (some ⟨r43,0,none⟩) 1 1) ([0].map wA):=(gU.lit (wA.rows [0]) fP (by simp) (by decide) (by simp[wA])).slR
    exact mk u4 A (by simpa using hpos) (by simp) (by rw[epf];rfl)
   ·have q2:(((jC l key:Nat):Int)==0)=false:=by rw[beq_eq_false_iff_ne];omega
    have w1:IntKind.i64.wrap (((jC l key:Nat):Int)-1)=((jC l key-1:Nat):Int):=by rw[gD (by omega) (by omega)];omega
    rw[if_neg hp0] at epf
    by_cases hpl:jC l key=l.length
    ·have q3:(((jC l key:Nat):Int)==(l.length:Int))=true:=by rw[hpl];simp
     rw[if_pos hpl] at epf
     simp only[lv,jO,q,q2,q3,w1,il1,eH.f1,iG,eK,reduceIte,eX,Nat.reduceAdd]
     intro r43 hr43
     refine iK ?_
     try rw[eY]
     have u4:fE h3 (h3.set r43 (.cells #[.int .i64 ((jC l key-1:Nat):Int)] dR)):=eW.new hr43
     have A:iR (h3.set r43 (.cells #[.int .i64 ((jC l key-1:Nat):Int)] dR)) 1 (.slice (some ⟨r43,0,none⟩) 1 1) ([jC l key-1].map wA):=(gU.lit (wA.rows [jC l key-1]) fP (by simp) (by decide) (by simp[wA])).slR
     exact mk u4 A (by simp;omega) (by simp) (by rw[epf,hpl];rfl)
    ·have q3:(((jC l key:Nat):Int)==(l.length:Int))=false:=by rw[beq_eq_false_iff_ne];omega
     rw[if_neg hpl] at epf
     simp only[lv,jO,q,q2,q3,w1,il2,eH.f1,iG,eK,reduceIte,eX,Nat.reduceAdd]
     intro r43 hr43
     refine iK ?_
     try rw[eY]
     have u4:fE h3 (h3.set r43 (.cells #[.int .i64 ((jC l key-1:Nat):Int),.int .i64 ((jC l key:Nat):Int)] dR)):=eW.new hr43
     have A:iR (h3.set r43 (.cells #[.int .i64 ((jC l key-1:Nat):Int),.int .i64 ((jC l key:Nat):Int)] dR)) 1 (.slice (some ⟨r43,0,none⟩) 2 2) ([jC l key-1,jC l key].map wA):=(gU.lit (wA.rows [jC l key-1,jC l key]) fP (by simp) (by decide) (by simp[wA])).slR
     exact mk u4 A (by simp;omega) (by simp) (by rw[epf];rfl)
end Go.Proofs.YtcoajnpchhmgjaaGreatDoor
namespace Go.Proofs.YtcoajnpchhmgjaaGreatDoor
open Go Bld
def aEK(x:Value×List Pr):List Value:=[x.1,.string (tx (lO x.2))]
theorem aEK.rows(l:List (Value×List Pr)):lC 2 (l.map aEK):=λr hr=>by
 obtain⟨p,-,rfl⟩:=mT.1 hr;rfl
structure tX(h:PH)(a:Nat)(s:St)(F:List Nat):Prop where
 here:∃(m:Nat) (l:List Pr) (v:Value) (bl:List (Value×List Pr)) (Fb G:List Nat),h a=some (.cells #[.map (some m),v,.int .u64 s.height] gL (0,0))∧aNF h m l∧l.Perm s.now∧gU h fW 2 v (bl.map aEK) Fb∧(∀x∈bl,iR h 2 x.1 (x.2.map Pr.cells)∧aCy x.1 G)∧
  bl.map (·.2)=s.blocks∧F=a::m::(Fb++G)∧a≠m∧a∉Fb∧m∉Fb∧∀g∈G,g≠a∧g≠m∧g∉Fb∧h g≠none
 ok:s.Ok
theorem tX.upd{h h':PH}{a:Nat}{s:St}{F K:List Nat}(H:tX h a s F)(u:eW K h h')(hd:∀b∈F,b∉K):tX h' a s F:=by
 obtain⟨m,l,v,bl,Fb,G,h1,h2,h3,h4,h5,h6,rfl,h8,h9,h10,h11⟩:=H.here
 refine⟨⟨m,l,v,bl,Fb,G,u.get h1 (hd _ (by simp)),kE.upd h2 u (hd _ (by simp)),h3,h4.upd u (λb hb=>hd b (by simp[hb])),λx hx=>⟨(h5 x hx).1.upd u λy n c e=>hd _ ?_,(h5 x hx).2⟩,h6,rfl,h8,h9,h10,λg hg=>⟨(h11 g hg).1,(h11 g hg).2.1,(h11 g hg).2.2.1,?_⟩⟩,H.ok⟩
 ·have:=(h5 x hx).2 y n c e
  simp[this]
 ·have:=(h11 g hg).2.2.2
  obtain⟨o,ho⟩:=aGt.1 this
  rw[u.get ho (hd g (by simp[hg]))];simp
theorem tX.ext{h h':PH}{a:Nat}{s:St}{F:List Nat}(H:tX h a s F)(u:fE h h'):tX h' a s F:=H.upd u (by simp)
theorem tX.known{h:PH}{a:Nat}{s:St}{F:List Nat}(H:tX h a s F):∀b∈F,h b≠none:=by
 obtain⟨m,l,v,bl,Fb,G,h1,h2,h3,h4,h5,h6,rfl,h8,h9,h10,h11⟩:=H.here
 intro b hb
 simp only[jG,kR] at hb
 rcases hb with rfl|rfl|hb|hb
 ·rw[h1];simp
 ·exact kE.known h2
 ·exact h4.known b hb
 ·exact(h11 b hb).2.2.2
theorem St.Ok.new(n:Nat)(hn:n<18446744073709551616):St.Ok ⟨[],[[]],n⟩:=⟨List.Pairwise.nil,by simp,by simp,by simp[rG],by simp,by simp,by simp,hn⟩
theorem aTD{h:PH}(n:Nat)(hn:n<18446744073709551616)(hK:oA h){k:eJ}(hk:∀a h' F,tX h' a ⟨[],[[]],n⟩ F->gQ h F->fE h h'->k (pT a 0) h'):cR PG aIO #[.int .u64 (n:Int)] h k:=by
 apply aI1.call
 unfold aI1
 simp only[aEV,eK,reduceIte]
 intro m hm
 refine iK ?_
 try rw[eY]
 have u1:fE h (h.set m (.map #[] 0)):=eW.new hm
 have m1:aNF (h.set m (.map #[] 0)) m []:=kE.new
 generalize h.set m (.map #[] 0)=h1 at *
 refine aLw (l:=[]) (by decide) (hK.ext u1) (gU.nil (e:=eQ)).slR (λp hp=>by cases hp) λh2 u2=>?_
 have b1:∀d:ByteArray,aT PG (build fW #[(1,.string d)])=some (.agg #[.slice none 0 0,.string d]):=λd=>by kernel_rfl
 have b2:∀d:ByteArray,iP PG (buildSlice iH 1 #[(0,.agg #[.slice none 0 0,.string d])])=some (.cells #[.slice none 0 0,.string d] fW,λr=>pure (.slice (some ⟨r,0,none⟩) 1 1)):=λd=>by kernel_rfl
 simp only[b1,b2,eK,reduceIte]
 intro r hr
 refine iK ?_
 try rw[eY]
 have u3:fE h2 (h2.set r (.cells #[.slice none 0 0,.string (tx (lO []))] fW)):=eW.new hr
 have O3:gU (h2.set r (.cells #[.slice none 0 0,.string (tx (lO []))] fW)) fW 2 (.slice (some ⟨r,0,none⟩) 1 1) ([((.slice none 0 0:Value),([]:List Pr))].map aEK) [r]:=gU.lit (n:=1) (aEK.rows [((.slice none 0 0:Value),([]:List Pr))]) fP (by simp) (by decide) rfl
 generalize h2.set r (.cells #[.slice none 0 0,.string (tx (lO []))] fW)=h3 at *
 have b3:aT PG (build gL #[(0,.map (some m)),(1,.slice (some ⟨r,0,none⟩) 1 1),(2,.int .u64 (n:Int))])=some (.agg #[.map (some m),.slice (some ⟨r,0,none⟩) 1 1,.int .u64 (n:Int)]):=by kernel_rfl
 simp only[b3,eK,reduceIte]
 intro a ha
 try rw[eY]
 have u4:fE h3 (h3.set a (.cells (Value.cells (.agg #[.map (some m),.slice (some ⟨r,0,none⟩) 1 1,.int .u64 (n:Int)])) gL)):=eW.new ha
 have m3:=kE.ext m1 (u2.trans u3)
 have hma:a≠m:=by rintro rfl;exact kE.known m3 ha
 have har:a≠r:=by rintro rfl;exact O3.known _ (by simp) ha
 have hmr:m≠r:=by rintro rfl;exact kE.known (kE.ext m1 u2) hr
 refine hk a _ [a,m,r] ⟨⟨m,[],_,[(.slice none 0 0,[])],[r],[],fP,kE.ext m3 u4,List.Perm.refl _,O3.ext u4,?_,rfl,rfl,hma,by simpa using har,by simpa using hmr,by simp⟩,St.Ok.new n hn⟩ (λb hb=>?_) (((u1.trans u2).trans u3).trans u4)
 ·intro x hx
  simp only[iQ] at hx
  subst hx
  exact⟨(gU.nil (e:=eQ)).slR,λx n c e=>by cases e⟩
 ·simp only[jG,mD,or_false] at hb
  rcases hb with rfl|rfl|rfl
  ·exact((u1.trans u2).trans u3).none ha
  ·exact hm
  ·exact(u1.trans u2).none hr
theorem aRw{h:PH}{m:Nat}{l L:List Pr}(hm:aNF h m l)(hp:l.Perm L):bT PG h (Builtin.len_ #[gB] dR #[.map (some m)])=some (.int .i64 L.length):=by
 have lm:=kE.len hm (t':=dR) gB.und
 rw[kQ,hp.length_eq] at lm
 exact lm
theorem St.Ok.setOk{s:St}(H:s.Ok){k v:Tx}(hk:¬(k.length<1∨16<k.length∨64<v.length))(hf:¬(jI s.now k=none∧4096≤s.now.length)):St.Ok {s with now:=oV s.now ⟨k,v⟩}:=by
 refine⟨H.up.set _,λp hp=>?_,?_,H.blk,H.h1,H.h2,H.h3,H.h4⟩
 ·rcases yA.1 hp with rfl|⟨h1,_⟩
  ·refine⟨?_,?_,?_⟩<;>simp only<;>omega
  ·exact H.fit p h1
 ·have hle:(oV s.now ⟨k,v⟩).length≤s.now.length+(if jI s.now k=none then 1 else 0):=by
   have hn:=(H.up.set ⟨k,v⟩).irr
   split
   ·have:=aIw (oV s.now ⟨k,v⟩) (⟨k,v⟩::s.now) hn λp hp=>by
     rcases yA.1 hp with rfl|⟨h1,_⟩
     ·simp
     ·simp[h1]
    simpa using this
   ·rename_i hne
    obtain⟨q,hq⟩:=aGt.1 hne
    obtain⟨q1,q2⟩:=(uQ H.up).1 hq
    have:=aIw (oV s.now ⟨k,v⟩) (⟨k,v⟩::s.now.erase q) hn λp hp=>by
     rcases yA.1 hp with rfl|⟨h1,h2⟩
     ·simp
     ·refine aJw _ ?_
      rw[List.mem_erase_of_ne]
      ·exact h1
      ·rintro rfl;exact h2 q2
    rw[wT,List.length_erase_of_mem q1] at this
    have hpos:0<s.now.length:=List.length_pos_of_mem q1
    omega
  have:=H.few
  show(oV s.now ⟨k,v⟩).length≤4096
  split at hle
  ·rename_i e
   have:¬4096≤s.now.length:=λh=>hf ⟨e,h⟩
   omega
  ·omega
theorem aVK{h:PH}{a:Nat}{s:St}{F:List Nat}(H:tX h a s F)(k v:Tx){kk:eJ}(hk:∀h',tX h' a (aCU s k v).1 F->eW F h h'->kk (.int .i64 (aCU s k v).2) h'):
  cR PG aEN #[pT a 0,.string (tx k),.string (tx v)] h kk:=by
 apply aD0.call
 unfold aD0
 have fin1:(k.length<1∨16<k.length∨64<v.length)->kk (.int .i64 1) h:=λhb=>by
  have:=hk h (by unfold aCU;rw[if_pos hb];exact H) eW.refl
  unfold aCU at this
  rw[if_pos hb] at this
  exact this
 by_cases d1:k.length<1
 ·have g1:((k.length:Int)<1)=True:=eq_true (by omega)
  simp only[cT.len,jL,g1,eK,reduceIte]
  exact fin1 (.inl d1)
 have g1:((k.length:Int)<1)=False:=eq_false (by omega)
 by_cases d2:16<k.length
 ·have g2:((16:Int)<(k.length:Int))=True:=eq_true (by omega)
  simp only[cT.len,jL,g1,g2,eK,reduceIte]
  exact fin1 (.inr (.inl d2))
 have g2:((16:Int)<(k.length:Int))=False:=eq_false (by omega)
 by_cases d3:64<v.length
 ·have g3:((64:Int)<(v.length:Int))=True:=eq_true (by omega)
  simp only[cT.len,jL,g1,g2,g3,eK,reduceIte]
  exact fin1 (.inr (.inr d3))
 have g3:((64:Int)<(v.length:Int))=False:=eq_false (by omega)
 have hok:=H.ok
 have hr:¬(k.length<1∨16<k.length∨64<v.length):=by omega
 have hH:=H
 obtain⟨m,l,vv,bl,Fb,G,ha,hm,hp,hO,hS,hbl,rfl,hn1,hn2,hn3,hG⟩:=H.here
 have c0:fH h ⟨a,0,none⟩=some (.map (some m)):=by simp[fH,ha]
 have hg:=aJn hp hok.up k
 have hl:=aRw hm hp
 have fin:¬(jI s.now k=none∧4096≤s.now.length)->eZ PG (aCO gB (.map (some m)) (.string (tx k)) (.string (tx v))) h λv61 h62=>kk (.int .i64 0) h62:=λhc=>by
  refine aJG aIX gB.und hm k (.string (tx v)) λh6 hm6 u6=>?_
  obtain⟨l',e1,e2⟩:=aNv hp hok.up ⟨k,v⟩
  have e1':aC7 (l.map Pr.pr) k (.string (tx v))=l'.map Pr.pr:=e1
  rw[e1'] at hm6
  have hs:aCU s k v=({s with now:=oV s.now ⟨k,v⟩},0):=by unfold aCU;rw[if_neg hr,if_neg hc]
  rw[hs] at hk
  refine hk h6 ⟨⟨m,l',vv,bl,Fb,G,u6.get ha (by simpa using hn1),hm6,e2,hO.upd u6 (λb hb=>by simp;rintro rfl;exact hn3 hb),λx hx=>⟨(hS x hx).1.upd u6 λy n c e=>?_,(hS x hx).2⟩,hbl,rfl,hn1,hn2,hn3,λg hg=>⟨(hG g hg).1,(hG g hg).2.1,(hG g hg).2.2.1,?_⟩⟩,hok.setOk hr hc⟩ (u6.mono λb hb=>.inl (by simp at hb;simp[hb]))
  ·have:=(hG _ ((hS x hx).2 y n c e)).2.1
   simpa using this
  ·obtain⟨o,ho⟩:=aGt.1 (hG g hg).2.2.2
   rw[u6.get ho (by simpa using(hG g hg).2.1)];simp
 cases eg:jI s.now k with
 | some q=>
  simp only[cT.len,jL,g1,g2,g3,gL.f0,gB.load,c0,aGs hm,hg,eg,Option.isSome_some,eK,reduceIte]
  exact fin (by simp[eg])
 | none=>
  by_cases d4:4096≤s.now.length
  ·have g4:((4096:Int)≤(s.now.length:Int))=True:=eq_true (by omega)
   simp only[cT.len,jL,g1,g2,g3,gL.f0,gB.load,c0,aGs hm,hg,eg,hl,g4,zLs,eK,reduceIte]
   have hs:aCU s k v=(s,2):=by unfold aCU;rw[if_neg hr,if_pos ⟨eg,d4⟩]
   have:=hk h (by rw[hs];exact hH) eW.refl
   rw[hs] at this
   exact this
  ·have g4:((4096:Int)≤(s.now.length:Int))=False:=eq_false (by omega)
   simp only[cT.len,jL,g1,g2,g3,gL.f0,gB.load,c0,aGs hm,hg,eg,hl,g4,zLs,eK,reduceIte]
   exact fin (λh=>d4 h.2)
theorem aQ2{h:PH}{a:Nat}{s:St}{F:List Nat}(H:tX h a s F)(k:Tx){kk:eJ}(hk:∀h',tX h' a (aEp s k).1 F->eW F h h'->kk (.int .i64 (aEp s k).2) h'):
  cR PG aCQ #[pT a 0,.string (tx k)] h kk:=by
 apply aBY.call
 unfold aBY
 have hok:=H.ok
 have hH:=H
 obtain⟨m,l,vv,bl,Fb,G,ha,hm,hp,hO,hS,hbl,rfl,hn1,hn2,hn3,hG⟩:=H.here
 have c0:fH h ⟨a,0,none⟩=some (.map (some m)):=by simp[fH,ha]
 have hg:=aJn hp hok.up k
 cases eg:jI s.now k with
 | none=>
  simp only[gL.f0,gB.load,c0,aGs hm,hg,eg,zLs,eK,reduceIte]
  have hs:aEp s k=(s,3):=by unfold aEp;rw[if_pos eg]
  have:=hk h (by rw[hs];exact hH) eW.refl
  rw[hs] at this
  exact this
 | some q=>
  simp only[gL.f0,gB.load,c0,aGs hm,hg,eg,Option.isSome_some,eK,reduceIte]
  refine aQX aIX gB.und hm k rfl λh6 hm6 u6=>?_
  have hs:aEp s k=({s with now:=zR s.now k},0):=by unfold aEp;rw[if_neg (by rw[eg];simp)]
  rw[hs] at hk
  rw[aQI] at hm6
  refine hk h6 ⟨⟨m,zR l k,vv,bl,Fb,G,u6.get ha (by simpa using hn1),hm6,hp.filter _,hO.upd u6 (λb hb=>by simp;rintro rfl;exact hn3 hb),λx hx=>⟨(hS x hx).1.upd u6 λy n c e=>?_,(hS x hx).2⟩,hbl,rfl,hn1,hn2,hn3,λg hg=>⟨(hG g hg).1,(hG g hg).2.1,(hG g hg).2.2.1,?_⟩⟩,⟨hok.up.del _,λp hp=>hok.fit p (aN5.1 hp).1,zLB (List.length_filter_le _ _) hok.few,hok.blk,hok.h1,hok.h2,hok.h3,hok.h4⟩⟩ (u6.mono λb hb=>.inl (by simp at hb;simp[hb]))
  ·have:=(hG _ ((hS x hx).2 y n c e)).2.1
   simpa using this
  ·obtain⟨o,ho⟩:=aGt.1 (hG g hg).2.2.2
   rw[u6.get ho (by simpa using(hG g hg).2.1)];simp
theorem aQF{h:PH}{a:Nat}{s:St}{F:List Nat}(H:tX h a s F)(k:Tx){kk:eJ}(hk:kk (.tuple #[.string (tx (((jI s.now k).map Pr.v).getD [])),.bool (jI s.now k).isSome]) h):
  cR PG aBF #[pT a 0,.string (tx k)] h kk:=by
 apply aDu.call
 unfold aDu
 obtain⟨m,l,vv,bl,Fb,G,ha,hm,hp,hO,hS,hbl,rfl,hn1,hn2,hn3,hG⟩:=H.here
 have c0:fH h ⟨a,0,none⟩=some (.map (some m)):=by simp[fH,ha]
 have hg:=aJn hp H.ok.up k
 simp only[gL.f0,gB.load,c0,aGs hm,hg,eK,reduceIte]
 exact hk
theorem aV4{h:PH}{a:Nat}{s:St}{F:List Nat}(H:tX h a s F){kk:eJ}(hk:kk (.int .i64 s.now.length) h):cR PG aED #[pT a 0] h kk:=by
 apply aDw.call
 unfold aDw
 obtain⟨m,l,vv,bl,Fb,G,ha,hm,hp,hO,hS,hbl,rfl,hn1,hn2,hn3,hG⟩:=H.here
 have c0:fH h ⟨a,0,none⟩=some (.map (some m)):=by simp[fH,ha]
 simp only[gL.f0,gB.load,c0,aRw hm hp,eK,reduceIte]
 exact hk
theorem aKZ{h:PH}{a:Nat}{s:St}{F:List Nat}(H:tX h a s F){kk:eJ}(hk:kk (.int .u64 s.height) h):cR PG tK #[pT a 0] h kk:=by
 apply aBD.call
 unfold aBD
 obtain⟨m,l,vv,bl,Fb,G,ha,-⟩:=H.here
 have c2:fH h ⟨a,0+2,none⟩=some (.int .u64 s.height):=by simp[fH,ha]
 simp only[gL.f2,dT.load,c2,eK,reduceIte]
 exact hk
def aRS(v:Value)(d:Tx):Value:=.agg #[v,.string (tx d)]
theorem aJR{s:St}{x:Nat}{b:List Pr}(h:tY s x=some b):¬(s.height<x∨s.blocks.length≤s.height-x)∧s.blocks[s.blocks.length-1-(s.height-x)]? =some b:=by
 unfold tY at h
 split at h
 ·cases h
 ·rename_i hn;exact⟨hn,h⟩
theorem aMI{s:St}(hs:1≤s.blocks.length){x:Nat}:tY s x=none↔(s.height<x∨s.blocks.length≤s.height-x):=by
 unfold tY
 split
 ·simp[*]
 ·rename_i hn
  simp only[hn,iff_false,ne_eq]
  intro h
  rw[List.getElem?_eq_none_iff] at h
  omega
theorem zbl:fY PG fW= #[.slice none 0 0,.string (tx [])]:=by rw[fW.zc];rfl
theorem aU0{h:PH}{a:Nat}{s:St}{F:List Nat}(H:tX h a s F)(x:Nat)(hx:x<18446744073709551616){k:eJ}(hn:tY s x=none->∀h',fE h h'->k (.tuple #[aRS (.slice none 0 0) [],.int .i64 3]) h')
  (hk:∀b v h',tY s x=some b->iR h' 2 v (b.map Pr.cells)->iF v=true->fE h h'->k (.tuple #[aRS v (lO b),.int .i64 0]) h'):cR PG aB4 #[pT a 0,.int .u64 (x:Int)] h k:=by
 apply aAI.call
 unfold aAI
 rw[zbl]
 intro r1 hr1
 try rw[eY]
 have u1:fE h (h.set r1 (.cells #[.slice none 0 0,.string (tx [])] fW)):=eW.new hr1
 have a1:(h.set r1 (.cells #[.slice none 0 0,.string (tx [])] fW)) r1=some (.cells #[.slice none 0 0,.string (tx [])] fW (0,0)):=fP
 generalize h.set r1 (.cells #[.slice none 0 0,.string (tx [])] fW)=h1 at *
 have H1:=H.ext u1
 have hok:=H.ok
 obtain⟨m,l,vv,bl,Fb,G,ha,hm,hp,hO,hS,hbl,rfl,hn1,hn2,hn3,hG⟩:=H1.here
 have c1:fH h1 ⟨a,0+1,none⟩=some vv:=by simp[fH,ha]
 have c2:fH h1 ⟨a,0+2,none⟩=some (.int .u64 s.height):=by simp[fH,ha]
 have hbn:bl.length=s.blocks.length:=by rw[←hbl,kQ]
 have lv:=hO.slR.len (t':=dR) iH.und
 rw[kQ,hbn] at lv
 have h3:=hok.h3
 have h4:=hok.h4
 have h2:=hok.h2
 have h1':=hok.h1
 have ew:IntKind.u64.wrap ((s.blocks.length:Nat):Int)=((s.blocks.length:Nat):Int):=iZ (by omega) (by omega)
 have bz:aT PG (build fW #[])=some (.agg #[.slice none 0 0,.string (tx [])]):=by kernel_rfl
 have bad:tY s x=none->eZ PG (fQ fW (pT r1 0) (.agg #[.slice none 0 0,.string (tx [])])) h1 λ_ h44=>aR (bT PG h44 (loadAt fW (pT r1 0))) λv45=>k (Value.tuple #[v45,(Value.int IntKind.i64 3)]) h44:=λhs=>by
  refine aAE a1 fW.info rfl (by simp) rfl (by simp[iF]) ?_
  have l1:=fW.loadAgg (h:=h1.set r1 (.cells #[.slice none 0 0,.string (tx [])] fW (0,0))) (b:=r1) (o:=0) fP (by simp)
  simp only[l1,eK,reduceIte]
  exact hn hs _ (u1.fresh (eW.set (F:=[r1]) (by simp)) (gQ.one hr1))
 by_cases d1:s.height<x
 ·have g1:((s.height:Int)<(x:Int))=True:=eq_true (by omega)
  simp only[gL.f2,dT.load,c2,g1,bz,eK,reduceIte]
  exact bad ((aMI h1').2 (.inl d1))
 have g1:((s.height:Int)<(x:Int))=False:=eq_false (by omega)
 have e1:IntKind.u64.wrap ((s.height:Int)-(x:Int))=((s.height-x:Nat):Int):=by rw[iZ (by omega) (by omega)];omega
 by_cases d2:s.blocks.length≤s.height-x
 ·have g2:(((s.blocks.length:Nat):Int)≤((s.height-x:Nat):Int))=True:=eq_true (by omega)
  simp only[gL.f2,gL.f1,dT.load,iH.load,c1,c2,g1,e1,lv,aBX,ew,g2,bz,eK,reduceIte]
  exact bad ((aMI h1').2 (.inr d2))
 have g2:(((s.blocks.length:Nat):Int)≤((s.height-x:Nat):Int))=False:=eq_false (by omega)
 have e2:IntKind.u64.wrap (((s.blocks.length:Nat):Int)-1)=((s.blocks.length-1:Nat):Int):=by rw[iZ (by omega) (by omega)];omega
 have e3:IntKind.u64.wrap (((s.blocks.length-1:Nat):Int)-((s.height-x:Nat):Int))=((s.blocks.length-1-(s.height-x):Nat):Int):=by rw[iZ (by omega) (by omega)];omega
 obtain⟨j,hj⟩:∃j,j=s.blocks.length-1-(s.height-x):=⟨_,rfl⟩
 rw[←hj] at e3
 have hjl:j<bl.length:=by omega
 have hrow:(bl.map aEK)[((j:Nat):Int).toNat]? =some (aEK bl[j]):=by rw[sM,zLW,nM hjl];rfl
 obtain⟨pa,hpa,hload⟩:=hO.slR.loadAgg (t:=iH) (k:=.u64) (j:=((j:Nat):Int)) iH.und fW.info fW.size fW.und rfl (by omega) hrow
 have hmem:bl[j]∈bl:=aKc hjl
 have hsat:tY s x=some (bl[j]).2:=by
  unfold tY
  rw[if_neg (by omega),←hj,←hbl,zLW,nM hjl];rfl
 obtain⟨hs1,hs2⟩:=hS _ hmem
 generalize bl[j]=y at *
 have hyc:iF y.1=true:=by obtain⟨_,_,e,_⟩:=hs1.here;rw[e];rfl
 simp only[gL.f2,gL.f1,dT.load,iH.load,c1,c2,g1,e1,lv,aBX,ew,g2,e2,e3,hpa,hload,eK,reduceIte]
 refine aAE a1 fW.info rfl (by simp[aEK]) rfl ?_ ?_
 ·intro v hv
  simp only[aEK,jG,mD,or_false] at hv
  rcases hv with rfl|rfl
  ·exact hyc
  ·rfl
 ·have ub:fE h1 h1:=eW.refl
  have u2:fE h (h1.set r1 (.cells (aEK y).toArray fW (0,0))):=u1.fresh (eW.set (F:=[r1]) (by simp)) (gQ.one hr1)
  have l1:=fW.loadAgg (h:=h1.set r1 (.cells (aEK y).toArray fW (0,0))) (b:=r1) (o:=0) fP (by simp[aEK])
  have le:((aEK y).toArray).extract 0 (0+2)=(aEK y).toArray:=rfl
  rw[le] at l1
  simp only[l1,eK,reduceIte]
  refine hk y.2 y.1 _ hsat ?_ hyc u2
  refine hs1.upd (eW.set (F:=[r1]) (by simp)) λz n c e=>?_
  have:=hs2 z n c e
  intro hm
  simp only[iQ] at hm
  have hkn:=H.known z.block (by simp[this])
  rw[hm] at hkn
  exact hkn hr1
theorem aR7{h:PH}{a:Nat}{s:St}{F:List Nat}(H:tX h a s F)(x:Nat)(hx:x<18446744073709551616){k:eJ}(hn:tY s x=none->∀h',fE h h'->k (.tuple #[.string (tx []),.int .i64 3]) h')
  (hk:∀b h',tY s x=some b->fE h h'->k (.tuple #[.string (tx (lO b)),.int .i64 0]) h'):cR PG aDa #[pT a 0,.int .u64 (x:Int)] h k:=by
 apply aCm.call
 unfold aCm
 have key:∀(v:Value) (d:Tx) (e:Int) (h1:PH),iF v=true->(∀h',fE h1 h'->k (.tuple #[.string (tx d),.int .i64 e]) h')->∀r5,h1 r5=none->fZ (PH.set h1 r5 (.cells (fY PG fW) fW)) λh6=>
   eZ PG (fQ fW (pT r5 0) (aRS v d)) h6 λv7 h8=>aR (aT PG (fieldAt fW (pT r5 0) 1)) λv9=>aR (bT PG h8 (loadAt cT v9)) λv10=>k (Value.tuple #[v10,.int .i64 e]) h8:=by
  intro v d e h1 hv hkk r hr
  try rw[eY]
  rw[zbl]
  refine aAE fP fW.info rfl (by simp) rfl ?_ ?_
  ·intro y hy
   simp only[jG,mD,or_false] at hy
   rcases hy with rfl|rfl
   ·exact hv
   ·rfl
  ·rw[aAO]
   have c1:fH (h1.set r (.cells #[v,.string (tx d)] fW (0,0))) ⟨r,0+1,none⟩=some (.string (tx d)):=by simp[fH,fP]
   simp only[fW.f1,cT.load,c1,eK,reduceIte]
   exact hkk _ (eW.new hr)
 refine aU0 H x hx (λhs h1 u1=>?_) (λb v h1 hs S hv u1=>?_)
 ·simp only[eK,reduceIte]
  exact key _ _ _ h1 rfl (λh' u=>hn hs _ (u1.trans u))
 ·simp only[eK,reduceIte]
  exact key _ _ _ h1 hv (λh' u=>hk b _ hs (u1.trans u))
theorem aSk{h:PH}{v:Value}{l:List Pr}(S:iR h 2 v (l.map Pr.cells))(hl:l.length≤1000000){k:eJ}(hk:∀v' h' F,gU h' eQ 2 v' (l.map Pr.cells) F->gQ h F->fE h h'->k v' h'):cR PG qN #[v] h k:=by
 apply oW.call
 unfold oW
 have hS:=S
 obtain⟨va,c,hv,hc1,hc2,hc3,-⟩:=S.here
 rw[kQ] at hv
 subst hv
 cases va with
 | none=>
  have hnil:l.map Pr.cells=[]:=by
   by_cases h0:l.map Pr.cells=[]
   ·exact h0
   ·obtain⟨b,o,cs,e,fr,e1,_⟩:=hc3 h0
    cases e1
  have hl0:l=[]:=List.map_eq_nil_iff.1 hnil
  subst hl0
  simp only[aSC eM.und,Option.isNone_none,eK,reduceIte]
  exact hk _ _ [] gU.nil (λb hb=>by cases hb) eW.refl
 | some va=>
  have b0:iP PG (buildSlice eM 0 #[])=some (.cells #[] eQ,λr=>pure (.slice (some ⟨r,0,none⟩) 0 0)):=by kernel_rfl
  simp only[aSC eM.und,Option.isNone_some,b0,eK,reduceIte]
  intro r hr
  refine iK ?_
  try rw[eY]
  have u1:fE h (h.set r (.cells #[] eQ)):=eW.new hr
  have O1:gU (h.set r (.cells #[] eQ)) eQ 2 (.slice (some ⟨r,0,none⟩) 0 0) (([]:List Pr).map Pr.cells) [r]:=gU.lit (n:=0) (Pr.rows []) fP (by simp) (by decide) rfl
  generalize h.set r (.cells #[] eQ)=h1 at *
  refine kU eM.und eM.und eQ.info eQ.size eQ.bytes eQ.zero rfl (by decide) O1 (hS.ext u1) (Pr.isCell l) (by simp;omega) ?_
  intro v2 h2 F2 O2 u2 k2 _
  rw[kF,yB] at O2
  exact hk _ _ F2 O2 (λb hb=>by
   rcases k2 b hb with h1|h1
   ·simp only[iQ] at h1
    subst h1;exact hr
   ·exact u1.none h1) (u1.fresh u2 (gQ.one hr))
theorem aXG{h:PH}{a:Nat}{s:St}{F:List Nat}(H:tX h a s F)(x:Nat)(hx:x<18446744073709551616){k:eJ}(hn:tY s x=none->∀v h' F',gU h' eQ 2 v (([]:List Pr).map Pr.cells) F'->gQ h F'->fE h h'->k (.tuple #[v,.int .i64 3]) h')
  (hk:∀b v h' F',tY s x=some b->gU h' eQ 2 v (b.map Pr.cells) F'->gQ h F'->fE h h'->k (.tuple #[v,.int .i64 0]) h'):cR PG aEq #[pT a 0,.int .u64 (x:Int)] h k:=by
 apply aEh.call
 unfold aEh
 have hok:=H.ok
 have key:∀(v:Value) (b:List Pr) (d:Tx) (e:Int) (h1:PH),iF v=true->iR h1 2 v (b.map Pr.cells)->b.length≤4096->(∀v' h' F',gU h' eQ 2 v' (b.map Pr.cells) F'->gQ h1 F'->fE h1 h'->k (.tuple #[v',.int .i64 e]) h')->∀r5,h1 r5=none->fZ (PH.set h1 r5 (.cells (fY PG fW) fW)) λh6=>
   eZ PG (fQ fW (pT r5 0) (aRS v d)) h6 λv7 h8=>aR (aT PG (fieldAt fW (pT r5 0) 0)) λv9=>aR (bT PG h8 (loadAt jW v9)) λv10=>cR PG aCa #[v10] h8 λv11 h12=>k (Value.tuple #[v11,.int .i64 e]) h12:=by
  intro v b d e h1 hv S hbl hkk r hr
  try rw[eY]
  rw[zbl]
  refine aAE fP fW.info rfl (by simp) rfl ?_ ?_
  ·intro y hy
   simp only[jG,mD,or_false] at hy
   rcases hy with rfl|rfl
   ·exact hv
   ·rfl
  ·rw[aAO]
   have u2:fE h1 (h1.set r (.cells #[v,.string (tx d)] fW (0,0))):=eW.new hr
   have a2:(h1.set r (.cells #[v,.string (tx d)] fW (0,0))) r=some (.cells #[v,.string (tx d)] fW (0,0)):=fP
   generalize h1.set r (.cells #[v,.string (tx d)] fW (0,0))=h2 at *
   have l1:=jW.loadAgg (o:=0) a2 (by simp)
   have le:(#[v,.string (tx d)]:Array Value).extract 0 (0+1)= #[v]:=rfl
   rw[le] at l1
   simp only[fW.f0,l1,eK,reduceIte]
   apply aBM.call
   unfold aBM
   intro r2 hr2
   try rw[eY]
   have ec:Value.cells (.agg #[v])= #[v]:=rfl
   rw[ec]
   have u3:fE h2 (h2.set r2 (.cells #[v] jW)):=eW.new hr2
   have a3:(h2.set r2 (.cells #[v] jW)) r2=some (.cells #[v] jW (0,0)):=fP
   generalize h2.set r2 (.cells #[v] jW)=h3 at *
   have c0:fH h3 ⟨r2,0,none⟩=some v:=by simp[fH,a3]
   simp only[jW.f0,eM.load,c0,eK,reduceIte]
   have u:=u2.trans u3
   refine aSk (S.ext u) (by omega) λv' h4 F4 O4 f4 u4=>?_
   exact hkk v' h4 F4 O4 (f4.of u) (u.trans u4)
 refine aU0 H x hx (λhs h1 u1=>?_) (λb v h1 hs S hv u1=>?_)
 ·simp only[eK,reduceIte]
  exact key _ [] _ _ h1 rfl (gU.nil (e:=eQ)).slR (by decide) (λv' h' F' O' f' u'=>hn hs v' h' F' O' (f'.of u1) (u1.trans u'))
 ·simp only[eK,reduceIte]
  have hb:b∈s.blocks:=uJ (aJR hs).2
  exact key _ b _ _ h1 hv S (hok.blk b hb).2.2 (λv' h' F' O' f' u'=>hk b v' h' F' hs O' (f'.of u1) (u1.trans u'))
def unP(q:Tx×Value):Pr:=match q.2 with
 | Value.string t=>⟨q.1,t.data.toList⟩
 | _=>⟨[],[]⟩
theorem aWX(p:Pr):unP p.pr=p:=by
 obtain⟨k,v⟩:=p
 simp[unP,Pr.pr,sO,tx]
theorem aSf(l:List Pr):(l.map Pr.pr).map unP=l:=by
 rw[zL0]
 have:unP ∘ Pr.pr=id:=by funext p;exact aWX p
 rw[this,List.map_id]
theorem aVF{a b:List Pr}(h:(a.map Pr.pr).Perm (b.map Pr.pr)):a.Perm b:=by
 have:=h.map unP
 rw[aSf,aSf] at this
 exact this
theorem rG.of{l L:List Pr}(hp:l.Perm L)(hs:rG L)(ho:l.Pairwise λa b=>¬b.k<a.k):l=L:=by
 have hk:(l.map Pr.k).Nodup:=(hp.map Pr.k).nodup_iff.2 hs.keys
 have hu:rG l:=by
  unfold List.Nodup at hk
  rw[List.pairwise_map] at hk
  have:=ho.and hk
  refine List.Pairwise.imp (fun {a b} hab=>?_) this
  obtain⟨h1,h2⟩:=hab
  rcases aGw a.k b.k with h|h|h
  ·exact h
  ·exact absurd h h2
  ·exact absurd h h1
 exact hu.ext hs λp=>hp.mem_iff
theorem aPb(p:Pr):aT PG (build eQ #[(0,.string (tx p.k)),(1,.string (tx p.v))])=some p.val:=by kernel_rfl
theorem aR6(p:Pr):iP PG (buildSlice eM 1 #[(0,p.val)])=some (.cells #[.string (tx p.k),.string (tx p.v)] eQ,λr=>pure (.slice (some ⟨r,0,none⟩) 1 1)):=by kernel_rfl
theorem aT0(a:Option Addr)(n c:Nat):aT PG (build jW #[(0,.slice a n c)])=some (.agg #[.slice a n c]):=by kernel_rfl
theorem aTa(a:Option Addr)(n c:Nat)(d:ByteArray):aT PG (build fW #[(0,.agg #[.slice a n c]),(1,.string d)])=some (.agg #[.slice a n c,.string d]):=by kernel_rfl
theorem aWG(a:Option Addr)(n c:Nat)(d:ByteArray):iP PG (buildSlice iH 1 #[(0,.agg #[.slice a n c,.string d])])=some (.cells #[.slice a n c,.string d] fW,λr=>pure (.slice (some ⟨r,0,none⟩) 1 1)):=by kernel_rfl
theorem aRs{h:PH}{a:Nat}{s:St}{F:List Nat}(hK:oA h)(H:tX h a s F){k:eJ}(hk:∀h' F',tX h' a (lF s).1 F'->eW F h h'->(∀b∈F',b∈F∨h b=none)->k (.tuple #[.int .u64 ((lF s).2.1:Int),.int .i64 (lF s).2.2]) h'):
  cR PG aCL #[pT a 0] h k:=by
 apply tQ.call
 unfold tQ
 have hok:=H.ok
 have hH:=H
 have hkn:=H.known
 obtain⟨m,l,vv,bl,Fb,G,ha,hm,hp,hO,hS,hbl,rfl,hn1,hn2,hn3,hG⟩:=H.here
 have c0:fH h ⟨a,0,none⟩=some (.map (some m)):=by simp[fH,ha]
 have c1:fH h ⟨a,0+1,none⟩=some vv:=by simp[fH,ha]
 have c2:fH h ⟨a,0+2,none⟩=some (.int .u64 s.height):=by simp[fH,ha]
 have h4:=hok.h4
 by_cases d1:s.height=18446744073709551615
 ·have g1:((s.height:Int)==18446744073709551615)=true:=by simp;omega
  simp only[gL.f2,dT.load,c2,g1,eK,reduceIte]
  have hs:lF s=(s,(0,12)):=by unfold lF;rw[if_pos d1]
  rw[hs] at hk
  exact hk h _ hH eW.refl (λb hb=>.inl hb)
 have g1:((s.height:Int)==18446744073709551615)=false:=by simp;omega
 have lv:=hO.slR.len (t':=dR) iH.und
 have hbn:bl.length=s.blocks.length:=by rw[←hbl,kQ]
 rw[kQ,hbn] at lv
 by_cases d2:4096≤s.blocks.length
 ·have g2:((4096:Int)≤((s.blocks.length:Nat):Int))=True:=eq_true (by omega)
  simp only[gL.f2,gL.f1,dT.load,iH.load,c1,c2,lv,g1,g2,eK,reduceIte]
  have hs:lF s=(s,(0,2)):=by unfold lF;rw[if_neg d1,if_pos d2]
  rw[hs] at hk
  exact hk h _ hH eW.refl (λb hb=>.inl hb)
 have g2:((4096:Int)≤((s.blocks.length:Nat):Int))=False:=eq_false (by omega)
 simp only[gL.f2,gL.f1,gL.f0,dT.load,iH.load,gB.load,c0,c1,c2,lv,g1,g2,eK,reduceIte]
 refine aTY gB.und hm λit h1 hit HI u1=>?_
 have hll:l.length≤4096:=by rw[hp.length_eq];exact hok.few
 refine⟨λvs h'=>∃(pre:List Pr) (v:Value) (Fl:List Nat),vs=[pT a 0,v,pT it 0]∧aBx sO h' m it (l.map Pr.pr) (pre.map Pr.pr)∧gU h' eQ 2 v (pre.map Pr.cells) Fl∧gQ h Fl∧it∉Fl∧fE h h',λ_ h'=>aOj l.length it h',⟨[],_,[],rfl,HI,gU.nil,(λb hb=>by cases hb),by simp,u1⟩,?_⟩
 rintro ρ h' ⟨pre,v,Fl,hvs,HI,O,fl,hil,u⟩
 simp only[jT,kF,mQ,and_true] at hvs
 obtain⟨v0,v4,v24⟩:=hvs
 simp only[v0,v4,v24,jT,kF]
 unfold aEy
 have hlen:=HI.le
 rw[kQ,kQ] at hlen
 refine aVN HI (λhperm=>?_) (λky vl h2 hmem hnot HI2 u2=>?_)
 ·-- all are gathered
  have hpp:pre.Perm s.now:=(aVF hperm).trans hp
  simp only[eK,reduceIte]
  refine aTc O (by omega) λl' h2 hp2 hs2 O2 u2=>?_
  have hl':l'=s.now:=rG.of (hp2.trans hpp) hok.up hs2
  subst hl'
  have e2:fE h h2:=u.fresh u2 fl
  have ha2:=e2.get ha
  have c1:fH h2 ⟨a,0+1,none⟩=some vv:=by simp[fH,ha2]
  obtain⟨va,cap,hv,-⟩:=O2.slR.here
  rw[kQ] at hv
  have hsl:=O2.slR
  rw[hv] at hsl
  simp only[gL.f1,iH.load,c1,hv,aT0,eK,reduceIte]
  refine aLw (by have:=hok.few;omega) (hK.ext e2) hsl (λp hp=>by have:=hok.fit p hp;unfold aNB at this;omega) λh3 u3=>?_
  have e3:=e2.trans u3
  have ha3:=e3.get ha
  refine⟨by simp[fH,ha3],?_⟩
  simp only[aTa,aWG,eK,reduceIte]
  intro r hr
  refine iK ?_
  try rw[eY]
  have u4:fE h3 (h3.set r (.cells #[.slice va s.now.length cap,.string (tx (lO s.now))] fW)):=eW.new hr
  have s4:iR (h3.set r (.cells #[.slice va s.now.length cap,.string (tx (lO s.now))] fW)) 2 (.slice (some ⟨r,0,none⟩) 1 1) ([((.slice va s.now.length cap:Value),s.now)].map aEK):=(gU.lit (n:=1) (aEK.rows [((.slice va s.now.length cap:Value),s.now)]) fP (by simp) (by decide) rfl).slR
  generalize h3.set r (.cells #[.slice va s.now.length cap,.string (tx (lO s.now))] fW)=h4' at *
  have e4:=e3.trans u4
  have hO4:=hO.ext e4
  refine kU iH.und iH.und fW.info fW.size fW.bytes fW.zero rfl (by decide) hO4 s4 ?_ (by simp only[kQ,zLQ];omega) ?_
  ·intro r hr u hu
   obtain⟨y,hy,rfl⟩:=mT.1 hr
   simp only[iQ] at hy
   subst hy
   simp only[aEK,jG,mD,or_false] at hu
   rcases hu with rfl|rfl<;>rfl
  intro v5 h5 F5 O5 u5 k5 _
  have ha4:=e4.get ha
  have ha5:=u5.get ha4 hn2
  obtain⟨x5,y5,hv5,-⟩:=O5.slR.here
  have hvc:iF v5=true:=by rw[hv5];rfl
  try simp only[gL.f1,eK,reduceIte]
  refine jY iH.und rfl ha5 (by simp) hvc iH.info iH.size ?_
  have ew1:(#[(Value.map (some m)),vv,.int .u64 (s.height:Int)]:Array Value).setIfInBounds (0+1) v5= #[.map (some m),v5,.int .u64 (s.height:Int)]:=rfl
  rw[ew1]
  have u6:eW [a] h5 (h5.set a (.cells #[.map (some m),v5,.int .u64 (s.height:Int)] gL (0,0))):=eW.set (by simp)
  have a6:(h5.set a (.cells #[.map (some m),v5,.int .u64 (s.height:Int)] gL (0,0))) a=some (.cells #[.map (some m),v5,.int .u64 (s.height:Int)] gL (0,0)):=fP
  generalize h5.set a (.cells #[.map (some m),v5,.int .u64 (s.height:Int)] gL (0,0))=h6 at *
  have c2:fH h6 ⟨a,0+2,none⟩=some (.int .u64 s.height):=by simp[fH,a6]
  have ei:IntKind.u64.wrap ((s.height:Int)+1)=((s.height+1:Nat):Int):=by rw[iZ (by omega) (by omega)];omega
  simp only[gL.f2,dT.load,c2,ei,eK,reduceIte]
  refine jY dT.und rfl a6 (by simp) rfl dT.info dT.size ?_
  have ew2:(#[(Value.map (some m)),v5,.int .u64 (s.height:Int)]:Array Value).setIfInBounds (0+2) (.int .u64 ((s.height+1:Nat):Int))= #[.map (some m),v5,.int .u64 ((s.height+1:Nat):Int)]:=rfl
  rw[ew2]
  have u7:eW [a] h6 (h6.set a (.cells #[.map (some m),v5,.int .u64 ((s.height+1:Nat):Int)] gL (0,0))):=eW.set (by simp)
  have a7:(h6.set a (.cells #[.map (some m),v5,.int .u64 ((s.height+1:Nat):Int)] gL (0,0))) a=some (.cells #[.map (some m),v5,.int .u64 ((s.height+1:Nat):Int)] gL (0,0)):=fP
  generalize h6.set a (.cells #[.map (some m),v5,.int .u64 ((s.height+1:Nat):Int)] gL (0,0))=h7 at *
  have c2:fH h7 ⟨a,0+2,none⟩=some (.int .u64 ((s.height+1:Nat):Int)):=by simp[fH,a7]
  simp only[gL.f2,dT.load,c2,eK,reduceIte]
  have hs:lF s=({s with blocks:=s.blocks++[s.now],height:=s.height+1},(s.height+1,0)):=by unfold lF;rw[if_neg d1,if_neg d2]
  rw[hs] at hk
  -- what was changed
  have w5:eW (a::Fb) h4' h5:=u5.mono λb hb=>.inl (by simp[hb])
  have w7:eW (a::Fb) h5 h7:=(u6.trans u7).mono λb hb=>.inl (by simp at hb;simp[hb])
  have w:eW (a::Fb) h4' h7:=w5.trans w7
  have wh:eW (a::Fb) h h7:=e4.upd.trans w
  have hflh:∀b∈Fl,b≠a∧b≠m∧b∉Fb:=λb hb=>by
   have:=fl b hb
   refine⟨λe=>?_,λe=>?_,λe=>?_⟩
   ·subst e;rw[ha] at this;cases this
   ·subst e;exact kE.known hm this
   ·exact hO.known b e this
  have hO4l:=(O2.ext u3).ext u4
  have hFlk:∀b∈Fl,h4' b≠none:=hO4l.known
  have hnoF5:∀b,h4' b≠none->b∉Fb->b∉F5:=λb h1 h2 h3=>by
   rcases k5 b h3 with h|h
   ·exact h2 h
   ·exact h1 h
  have ha4n:h4' a≠none:=by rw[ha4];simp
  have hm4n:h4' m≠none:=kE.known (kE.ext hm e4)
  have hG4:∀g∈G,h4' g≠none:=λg hg=>by
   obtain⟨o,ho⟩:=aGt.1 (hG g hg).2.2.2
   rw[e4.get ho];simp
  have hOl7:=hO4l.upd w (λb hb=>by simp only[jG,not_or];exact⟨(hflh b hb).1,(hflh b hb).2.2⟩)
  refine hk h7 (a::m::(F5++(G++Fl))) ⟨⟨m,l,v5,bl++[(.slice va s.now.length cap,s.now)],F5,G++Fl,a7,kE.upd hm wh (by simp only[jG,not_or];exact⟨hn1.symm,hn3⟩),hp,?_,?_,?_,rfl,hn1,hnoF5 a ha4n hn2,hnoF5 m hm4n hn3,?_⟩,?_⟩ (wh.mono λb hb=>.inl ?_) ?_
  ·rw[rL]
   exact O5.upd (u6.trans u7) (λb hb=>by simp only[iQ];rintro rfl;exact hnoF5 _ ha4n hn2 hb)
  ·intro x hx
   rw[kR] at hx
   rcases hx with hx|hx
   ·refine⟨(hS x hx).1.upd wh λy n c e=>?_,λy n c e=>zLj _ ((hS x hx).2 y n c e)⟩
    have hg:=hG _ ((hS x hx).2 y n c e)
    simp only[jG,not_or]
    exact⟨hg.1,hg.2.2.1⟩
   ·simp only[iQ] at hx
    subst hx
    have hs7:=hOl7.slR
    rw[hv] at hs7
    refine⟨hs7,λy n c e=>zLk _ ?_⟩
    rcases hOl7.here with⟨e1,_,_⟩|⟨b,cap',cs,e1,e2,_⟩
    ·rw[hv] at e1
     simp only[Value.slice.injEq] at e1 e
     rw[e1.1] at e
     cases e.1
    ·rw[hv] at e1
     simp only[Value.slice.injEq] at e1 e
     rw[e1.1] at e
     simp only[zL5] at e
     rw[←e.1,e2];simp
  ·rw[rL,hbl];rfl
  ·intro g hg
   rw[kR] at hg
   have wk:h4' g≠none->g≠a->g∉Fb->h7 g≠none:=λh1 h2 h3=>by
    obtain⟨o,ho⟩:=aGt.1 h1
    rw[w.get ho (by simp only[jG,not_or];exact⟨h2,h3⟩)];simp
   rcases hg with hg|hg
   ·have:=hG g hg
    exact⟨this.1,this.2.1,hnoF5 g (hG4 g hg) this.2.2.1,wk (hG4 g hg) this.1 this.2.2.1⟩
   ·have:=hflh g hg
    exact⟨this.1,this.2.1,hnoF5 g (hFlk g hg) this.2.2,wk (hFlk g hg) this.1 this.2.2⟩
  ·refine⟨hok.up,hok.fit,hok.few,λb hb=>?_,?_,?_,?_,?_⟩
   ·simp only[kR,iQ] at hb
    rcases hb with hb|rfl
    ·exact hok.blk b hb
    ·exact⟨hok.up,hok.fit,hok.few⟩
   ·simp
   ·simp only[lH,zLQ];omega
   ·have:=hok.h3
    have:=hok.h1
    simp only[lH,zLQ];omega
   ·show s.height+1<18446744073709551616
    omega
  ·simp only[jG] at hb
   simp only[jG,kR]
   rcases hb with hb|hb
   ·exact .inl hb
   ·exact .inr (.inr (.inl hb))
  ·intro b hb
   simp only[jG,kR] at hb ⊢
   rcases hb with hb|hb|hb|hb|hb
   ·exact .inl (.inl hb)
   ·exact .inl (.inr (.inl hb))
   ·rcases k5 b hb with h1|h1
    ·exact .inl (.inr (.inr (.inl h1)))
    ·exact .inr (e4.none h1)
   ·exact .inl (.inr (.inr (.inr hb)))
   ·exact .inr (fl b hb)
 ·-- one more
  obtain⟨p,hpl,hpe⟩:=mT.1 hmem
  have hky:ky=p.k:=by have:=congrArg Prod.fst hpe;exact this.symm
  have hvl:vl= .string (tx p.v):=by have:=congrArg Prod.snd hpe;exact this.symm
  subst hky hvl
  have O2:=O.upd u2 (λb hb=>by simp only[iQ];rintro rfl;exact hil hb)
  have e2:fE h h2:=u.fresh u2 (gQ.one hit)
  simp only[eK,reduceIte]
  refine aUS HI2 ?_
  have ek:sO p.k= .string (tx p.k):=rfl
  simp only[ek,aPb,aR6,eK,reduceIte]
  intro r hr
  refine iK ?_
  try rw[eY]
  have u3:fE h2 (h2.set r (.cells #[.string (tx p.k),.string (tx p.v)] eQ)):=eW.new hr
  have s3:iR (h2.set r (.cells #[.string (tx p.k),.string (tx p.v)] eQ)) 2 (.slice (some ⟨r,0,none⟩) 1 1) ([p].map Pr.cells):=(gU.lit (n:=1) (Pr.rows [p]) fP (by simp) (by decide) rfl).slR
  generalize h2.set r (.cells #[.string (tx p.k),.string (tx p.v)] eQ)=h3 at *
  have HI3:=HI2.upd u3 (by simp) (by simp)
  have O3:=O2.ext u3
  refine kU eM.und eM.und eQ.info eQ.size eQ.bytes eQ.zero rfl (by decide) O3 s3 (Pr.isCell [p]) (by simp;omega) ?_
  intro v4' h4' F4 O4 u4 k4 _
  have e3:=e2.trans u3
  have hit3:it∉F4:=λhm=>by
   rcases k4 it hm with h1|h1
   ·exact hil h1
   ·exact HI3.known h1
  have HI4:=HI3.upd u4 (λhm'=>by have:=fl m hm';exact kE.known hm this) hil
  refine⟨⟨pre++[p],v4',F4,(by trivial),?_,?_,fl.grow e3 k4,hit3,e3.fresh u4 fl⟩,?_⟩
  ·rw[rL];exact HI4
  ·rw[rL];exact O4
  ·rw[HI4.left,HI.left]
   have:=HI4.le
   simp only[lH,kQ,wT,zLK] at this ⊢
   omega
end Go.Proofs.YtcoajnpchhmgjaaGreatDoor
namespace Go.Proofs.YtcoajnpchhmgjaaGreatDoor
open Go
structure Ch where
 id:Int
 st:St
 first:Nat
 blk:List (List Nt)
 nts:List Nt
 cl:List jN
 seq:Nat
def stA(a:Nat)(s:St):mO:=λh F=>tX h a s F
theorem stA.good(a:Nat)(s:St):mU (stA a s):=⟨λH=>tX.known H,λH u hK=>tX.upd H u hK⟩
def aDE(m:Nat)(l:List Pr):mO:=λh F=>F=[m]∧aNF h m l
theorem aDE.good(m:Nat)(l:List Pr):mU (aDE m l) where
 known:=by
  rintro h F ⟨rfl,H⟩ b hb
  simp only[iQ] at hb
  subst hb;exact kE.known H
 upd:=by
  rintro h h' F K ⟨rfl,H⟩ u hK
  exact⟨rfl,kE.upd H u (hK m (by simp))⟩
def aCn(a:Nat)(l:List jN):mO:=λh F=>∃hs,rJ h a l hs F
theorem aCn.good(a:Nat)(l:List jN):mU (aCn a l):=⟨λ⟨_,H⟩=>rJ.known H,λ⟨hs,H⟩ u hK=>⟨hs,rJ.upd H u hK⟩⟩
def aJ1(x:Value×List Nt):List Value:=[x.1]
theorem aJ1.rows(l:List (Value×List Nt)):lC 1 (l.map aJ1):=λr hr=>by obtain⟨m,_,rfl⟩:=mT.1 hr;rfl
def aAx(v:Value)(blk:List (List Nt)):mO:=λh F=>∃(bl:List (Value×List Nt)) (Fb G:List Nat),gU h fS 1 v (bl.map aJ1) Fb∧(∀x∈bl,iR h 5 x.1 (x.2.map Nt.cells)∧aCy x.1 G)∧bl.map (·.2)=blk∧F=Fb++G∧∀g∈G,g∉Fb∧h g≠none
theorem aAx.good(v:Value)(blk:List (List Nt)):mU (aAx v blk) where
 known:=by
  rintro h F ⟨bl,Fb,G,O,S,e,rfl,hG⟩ b hb
  rcases kR.1 hb with hb|hb
  ·exact O.known b hb
  ·exact(hG b hb).2
 upd:=by
  rintro h h' F K ⟨bl,Fb,G,O,S,e,rfl,hG⟩ u hK
  refine⟨bl,Fb,G,O.upd u (λb hb=>hK b (by simp[hb])),λx hx=>⟨(S x hx).1.upd u λa n c ev=>hK _ (by have:=(S x hx).2 a n c ev;simp[this]),(S x hx).2⟩,e,rfl,λg hg=>⟨(hG g hg).1,?_⟩⟩
  obtain⟨o,ho⟩:=aGt.1 (hG g hg).2
  rw[u.get ho (hK g (by simp[hg]))];simp
def Ch.cells(s:Ch)(sp:Nat)(bv nv:Value)(m cp:Nat):List Value:=[pT sp 0,.int .u64 s.first,bv,nv,.map (some m),.int .i64 s.id,pT cp 0,.int .u64 s.seq]
def kI(c:Nat)(cs:List Value)(sp:Nat)(st:St)(m:Nat)(lk:List Pr)(cp:Nat)(cl:List jN)(nv:Value)(nts:List Nt)(bv:Value)(blk:List (List Nt)):mO:=
gF (rH c cs) (gF (stA sp st) (gF (aDE m lk) (gF (aCn cp cl) (gF (wY iO 5 nv (nts.map Nt.cells)) (aAx bv blk)))))
structure Ch.Ok(s:Ch):Prop where
 id:s.id=0∨s.id=1
 len:s.blk.length=s.st.blocks.length
 first:s.first+(s.blk.length-1)=s.st.height
 seq:s.seq<18446744073709551616
 seq1:1≤s.seq
 nts:s.nts.length≤1000000
 wf:∀n∈s.nts,n.p.wf
 bwf:∀b∈s.blk,b.length≤1000000∧∀n∈b,n.p.wf
def jX(c:Nat)(s:Ch):mO:=λh F=>∃sp m cp nv bv lk,kI c (s.cells sp bv nv m cp) sp s.st m lk cp s.cl nv s.nts bv s.blk h F∧lk.Perm s.st.now∧s.Ok
section
variable{c:Nat}{cs:List Value}{sp:Nat}{st:St}{m:Nat}{lk:List Pr}{cp:Nat}{cl:List jN}{nv:Value}{nts:List Nt}{bv:Value}{blk:List (List Nt)}
theorem gN:mU (wY iO 5 nv (nts.map Nt.cells)):=wY.good _ _ _ _
theorem g5:mU (gF (wY iO 5 nv (nts.map Nt.cells)) (aAx bv blk)):=gN.star (aAx.good _ _)
theorem g4:mU (gF (aCn cp cl) (gF (wY iO 5 nv (nts.map Nt.cells)) (aAx bv blk))):=(aCn.good _ _).star g5
theorem g3:mU (gF (aDE m lk) (gF (aCn cp cl) (gF (wY iO 5 nv (nts.map Nt.cells)) (aAx bv blk)))):=(aDE.good _ _).star g4
theorem g2:mU (gF (stA sp st) (gF (aDE m lk) (gF (aCn cp cl) (gF (wY iO 5 nv (nts.map Nt.cells)) (aAx bv blk))))):=(stA.good _ _).star g3
theorem kI.good:mU (kI c cs sp st m lk cp cl nv nts bv blk):=(rH.good _ _).star g2
variable{h:PH}{F:List Nat}(H:kI c cs sp st m lk cp cl nv nts bv blk h F)
include H
theorem kI.fBox:vX h F (rH c cs) (λX=>gF X (gF (stA sp st) (gF (aDE m lk) (gF (aCn cp cl) (gF (wY iO 5 nv (nts.map Nt.cells)) (aAx bv blk)))))):=gF.left g2 H
theorem kI.fSt:vX h F (stA sp st) (λX=>gF (rH c cs) (gF X (gF (aDE m lk) (gF (aCn cp cl) (gF (wY iO 5 nv (nts.map Nt.cells)) (aAx bv blk)))))):=(gF.right (rH.good _ _) H).comp λ_ H=>gF.left g3 H
theorem kI.fMap:vX h F (aDE m lk) (λX=>gF (rH c cs) (gF (stA sp st) (gF X (gF (aCn cp cl) (gF (wY iO 5 nv (nts.map Nt.cells)) (aAx bv blk)))))):=(gF.right (rH.good _ _) H).comp λ_ H=>(gF.right (stA.good _ _) H).comp λ_ H=>gF.left g4 H
theorem kI.fCli:vX h F (aCn cp cl) (λX=>gF (rH c cs) (gF (stA sp st) (gF (aDE m lk) (gF X (gF (wY iO 5 nv (nts.map Nt.cells)) (aAx bv blk)))))):=(gF.right (rH.good _ _) H).comp λ_ H=>(gF.right (stA.good _ _) H).comp λ_ H=>(gF.right (aDE.good _ _) H).comp λ_ H=>gF.left g5 H
theorem kI.fNts:vX h F (wY iO 5 nv (nts.map Nt.cells)) (λX=>gF (rH c cs) (gF (stA sp st) (gF (aDE m lk) (gF (aCn cp cl) (gF X (aAx bv blk)))))):=(gF.right (rH.good _ _) H).comp λ_ H=>(gF.right (stA.good _ _) H).comp λ_ H=>(gF.right (aDE.good _ _) H).comp λ_ H=>(gF.right (aCn.good _ _) H).comp λ_ H=>gF.left (aAx.good _ _) H
theorem kI.fTwo:vX h F (gF (wY iO 5 nv (nts.map Nt.cells)) (aAx bv blk)) (λX=>gF (rH c cs) (gF (stA sp st) (gF (aDE m lk) (gF (aCn cp cl) X)))):=(gF.right (rH.good _ _) H).comp λ_ H=>(gF.right (stA.good _ _) H).comp λ_ H=>(gF.right (aDE.good _ _) H).comp λ_ H=>gF.right (aCn.good _ _) H
end
theorem jX.good(c:Nat)(s:Ch):mU (jX c s) where
 known:=λ⟨_,_,_,_,_,_,H,_⟩=>kI.good.known H
 upd:=λ⟨sp,m,cp,nv,bv,lk,H,e⟩ u hK=>⟨sp,m,cp,nv,bv,lk,kI.good.upd H u hK,e⟩
theorem kI.cell{c:Nat}{cs:List Value}{sp:Nat}{st:St}{m:Nat}{lk:List Pr}{cp:Nat}{cl:List jN}{nv:Value}{nts:List Nt}{bv:Value}{blk:List (List Nt)}{h:PH}{F:List Nat}(H:kI c cs sp st m lk cp cl nv nts bv blk h F):Bx h c cs:=by
 obtain⟨Fa,⟨-,B⟩,-,-⟩:=H.fBox
 exact B
theorem Ch.load0{h:PH}{c:Nat}{s:Ch}{sp:Nat}{bv nv:Value}{m cp:Nat}(B:Bx h c (s.cells sp bv nv m cp)):bT PG h (loadAt kH (pT c 0))=some (pT sp 0):=by rw[kH.load,B.cell];rfl
theorem Ch.load2{h:PH}{c:Nat}{s:Ch}{sp:Nat}{bv nv:Value}{m cp:Nat}(B:Bx h c (s.cells sp bv nv m cp)):bT PG h (loadAt gV (pT c 2))=some bv:=by rw[gV.load,B.cell];rfl
theorem Ch.load3{h:PH}{c:Nat}{s:Ch}{sp:Nat}{bv nv:Value}{m cp:Nat}(B:Bx h c (s.cells sp bv nv m cp)):bT PG h (loadAt fS (pT c 3))=some nv:=by rw[fS.load,B.cell];rfl
theorem Ch.load4{h:PH}{c:Nat}{s:Ch}{sp:Nat}{bv nv:Value}{m cp:Nat}(B:Bx h c (s.cells sp bv nv m cp)):bT PG h (loadAt gB (pT c 4))=some (.map (some m)):=by rw[gB.load,B.cell];rfl
theorem Ch.load5{h:PH}{c:Nat}{s:Ch}{sp:Nat}{bv nv:Value}{m cp:Nat}(B:Bx h c (s.cells sp bv nv m cp)):bT PG h (loadAt dR (pT c 5))=some (.int .i64 s.id):=by rw[dR.load,B.cell];rfl
theorem Ch.load6{h:PH}{c:Nat}{s:Ch}{sp:Nat}{bv nv:Value}{m cp:Nat}(B:Bx h c (s.cells sp bv nv m cp)):bT PG h (loadAt kB (pT c 6))=some (pT cp 0):=by rw[kB.load,B.cell];rfl
theorem Ch.load7{h:PH}{c:Nat}{s:Ch}{sp:Nat}{bv nv:Value}{m cp:Nat}(B:Bx h c (s.cells sp bv nv m cp)):bT PG h (loadAt dT (pT c 7))=some (.int .u64 s.seq):=by rw[dT.load,B.cell];rfl
def Ch.put(s:Ch)(k v:Tx):Ch:={s with st:={s.st with now:=oV s.st.now ⟨k,v⟩}}
def Ch.del(s:Ch)(k:Tx):Ch:={s with st:={s.st with now:=zR s.st.now k}}
def Ch.add(s:Ch)(n:Nt):Ch:={s with nts:=s.nts++[n]}
theorem kI.okst{c:Nat}{cs:List Value}{sp:Nat}{st:St}{m:Nat}{lk:List Pr}{cp:Nat}{cl:List jN}{nv:Value}{nts:List Nt}{bv:Value}{blk:List (List Nt)}{h:PH}{F:List Nat}(H:kI c cs sp st m lk cp cl nv nts bv blk h F):st.Ok:=by
 obtain⟨Fs,S,-,-⟩:=H.fSt
 exact tX.ok S
theorem aNT{h:PH}{c:Nat}{s:Ch}{F:List Nat}(H:jX c s h F){k v:Tx}(h1:1≤k.length)(h2:k.length≤16)(h3:v.length≤64)(hr:¬(jI s.st.now k=none∧4096≤s.st.now.length)){kk:eJ}
  (hk:∀h' F',jX c (s.put k v) h' F'->jZ h F h' F'->kk (.tuple #[]) h'):cR PG wD #[pT c 0,.string (tx k),.string (tx v)] h kk:=by
 apply aCo.call
 unfold aCo
 obtain⟨sp,m,cp,nv,bv,lk,P,perm,ok⟩:=H
 have hst:=P.okst
 simp only[iC.f4,iG,Ch.load4 P.cell,eK,reduceIte,eX,Nat.reduceAdd]
 obtain⟨Fm,⟨rfl,M⟩,hFm,back⟩:=P.fMap
 refine aJG aIX gB.und M k (.string (tx v)) λh4 M4 u4=>?_
 obtain⟨l',e1,e2⟩:=aNv perm hst.up ⟨k,v⟩
 have e1':aC7 (lk.map Pr.pr) k (.string (tx v))=l'.map Pr.pr:=e1
 rw[e1'] at M4
 obtain⟨F4,P4,s4⟩:=back (aDE m l') h4 [m] ⟨rfl,M4⟩ ⟨u4,λb hb=>.inl hb⟩
 have P4:kI c (s.cells sp bv nv m cp) sp s.st m l' cp s.cl nv s.nts bv s.blk h4 F4:=P4
 simp only[iC.f0,Ch.load0 P4.cell,eK,reduceIte,eX,Nat.reduceAdd]
 obtain⟨Fs,S,hFs,back2⟩:=P4.fSt
 have es:aCU s.st k v=({s.st with now:=oV s.st.now ⟨k,v⟩},0):=by
  unfold aCU
  rw[if_neg (by omega),if_neg hr]
 refine aVK S k v λh5 S5 u5=>?_
 rw[es] at S5
 obtain⟨F5,P5,s5⟩:=back2 (stA sp {s.st with now:=oV s.st.now ⟨k,v⟩}) h5 Fs S5 ⟨u5,λb hb=>.inl hb⟩
 exact hk h5 F5 ⟨sp,m,cp,nv,bv,l',P5,e2,⟨ok.id,ok.len,ok.first,ok.seq,ok.seq1,ok.nts,ok.wf,ok.bwf⟩⟩ (s4.trans s5)
theorem aUL{h:PH}{c:Nat}{s:Ch}{F:List Nat}(H:jX c s h F){k:Tx}(hg:jI s.st.now k≠none){kk:eJ}
  (hk:∀h' F',jX c (s.del k) h' F'->jZ h F h' F'->kk (.tuple #[]) h'):cR PG aC4 #[pT c 0,.string (tx k)] h kk:=by
 apply aB7.call
 unfold aB7
 obtain⟨sp,m,cp,nv,bv,lk,P,perm,ok⟩:=H
 have hst:=P.okst
 simp only[iC.f4,iG,Ch.load4 P.cell,eK,reduceIte,eX,Nat.reduceAdd]
 obtain⟨Fm,⟨rfl,M⟩,hFm,back⟩:=P.fMap
 refine aQX aIX gB.und M k rfl λh4 M4 u4=>?_
 rw[aQI] at M4
 obtain⟨F4,P4,s4⟩:=back (aDE m (zR lk k)) h4 [m] ⟨rfl,M4⟩ ⟨u4,λb hb=>.inl hb⟩
 have P4:kI c (s.cells sp bv nv m cp) sp s.st m (zR lk k) cp s.cl nv s.nts bv s.blk h4 F4:=P4
 simp only[iC.f0,Ch.load0 P4.cell,eK,reduceIte,eX,Nat.reduceAdd]
 obtain⟨Fs,S,hFs,back2⟩:=P4.fSt
 have es:aEp s.st k=({s.st with now:=zR s.st.now k},0):=by
  unfold aEp
  rw[if_neg hg]
 refine aQ2 S k λh5 S5 u5=>?_
 rw[es] at S5
 obtain⟨F5,P5,s5⟩:=back2 (stA sp {s.st with now:=zR s.st.now k}) h5 Fs S5 ⟨u5,λb hb=>.inl hb⟩
 exact hk h5 F5 ⟨sp,m,cp,nv,bv,_,P5,perm.filter _,⟨ok.id,ok.len,ok.first,ok.seq,ok.seq1,ok.nts,ok.wf,ok.bwf⟩⟩ (s4.trans s5)
theorem aPT{h:PH}{c:Nat}{s:Ch}{F:List Nat}(H:jX c s h F){n:Nat}(hn:n≤100){kk:eJ}(hk:kk (.bool (decide (s.st.now.length+n≤4096))) h):cR PG zU #[pT c 0,.int .i64 (n:Int)] h kk:=by
 apply aB0.call
 unfold aB0
 obtain⟨sp,m,cp,nv,bv,lk,P,perm,ok⟩:=H
 have hf:=P.okst.few
 simp only[iC.f0,Ch.load0 P.cell,eK,reduceIte,eX,Nat.reduceAdd]
 obtain⟨Fs,S,-,-⟩:=P.fSt
 refine aV4 S ?_
 have e1:IntKind.i64.wrap ((s.st.now.length:Int)+(n:Int))=((s.st.now.length+n:Nat):Int):=by rw[gD (by omega) (by omega)];omega
 have e2:(((s.st.now.length+n:Nat):Int)≤4096)=(s.st.now.length+n≤4096):=by apply propext;omega
 simp only[e1,e2,eK,reduceIte,eX,Nat.reduceAdd]
 exact hk
theorem aXZ(k:Int)(p:Pk):aT PG (build iO #[(0,.int .i64 k),(1,p.v)])=some (.agg (Nt.cells ⟨k,p⟩).toArray):=by kernel_rfl
theorem aVw(x:Nt):iP PG (buildSlice fS 1 #[(0,.agg x.cells.toArray)])=some (.cells x.cells.toArray iO (0,0),λr=>pure (.slice (some ⟨r,0,none⟩) 1 1)):=by kernel_rfl
theorem aXS(l:List Nt):lC 5 (l.map Nt.cells):=λr hr=>by obtain⟨m,_,rfl⟩:=mT.1 hr;rfl
theorem aXH(l:List Nt):∀r∈l.map Nt.cells,∀u∈r,iF u=true:=λr hr u hu=>by
 obtain⟨m,_,rfl⟩:=mT.1 hr
 simp only[Nt.cells,Pk.cells,jG,zLT,yB,mD,or_false] at hu
 rcases hu with rfl|rfl|rfl|rfl|rfl<;>rfl
theorem aMA{h:PH}{c:Nat}{s:Ch}{F:List Nat}(H:jX c s h F)(k:Int){p:Pk}(w:p.wf)(hl:s.nts.length<1000000){kk:eJ}
  (hk:∀h' F',jX c (s.add ⟨k,p⟩) h' F'->jZ h F h' F'->kk (.tuple #[]) h'):cR PG vY #[pT c 0,.int .i64 k,p.v] h kk:=by
 apply wK.call
 unfold wK
 intro r1 hr1
 try rw[eY]
 have u1:fE h (h.set r1 (.cells (Value.cells p.v) bR)):=eW.new hr1
 have B1:Bx (h.set r1 (.cells (Value.cells p.v) bR)) r1 p.cells:=Bx.new
 generalize h.set r1 (.cells (Value.cells p.v) bR)=h1 at *
 have H1:=(jX.good c s).ext H u1
 obtain⟨sp,m,cp,nv,bv,lk,P,perm,ok⟩:=H1
 have lp:bT PG h1 (loadAt bR (pT r1 0))=some p.v:=B1.pk rfl
 simp only[gH.f0,iC.f3,iG,Ch.load3 P.cell,lp,aXZ,aVw,eK,reduceIte,eX,Nat.reduceAdd]
 intro r9 hr9
 refine iK ?_
 try rw[eY]
 have u2:fE h1 (h1.set r9 (.cells (Nt.cells ⟨k,p⟩).toArray iO (0,0))):=eW.new hr9
 have s1:iR (h1.set r9 (.cells (Nt.cells ⟨k,p⟩).toArray iO (0,0))) 5 (.slice (some ⟨r9,0,none⟩) 1 1) ([⟨k,p⟩].map Nt.cells):=(gU.lit (aXS [⟨k,p⟩]) fP (by simp) (by decide) (by simp)).slR
 generalize h1.set r9 (.cells (Nt.cells ⟨k,p⟩).toArray iO (0,0))=h2 at *
 have P2:=kI.good.ext P u2
 obtain⟨Fn,O,hFn,back⟩:=P2.fNts
 refine kU fS.und fS.und iO.info iO.size iO.bytes iO.zero rfl (by decide) O s1 (aXH _) (by simp;omega) ?_
 intro v3 h3 F3 O3 u3 g3 _
 rw[←rL] at O3
 obtain⟨F4,P4,s4⟩:=back (wY iO 5 v3 ((s.nts++[(⟨k,p⟩:Nt)]).map Nt.cells)) h3 F3 O3 ⟨u3,g3⟩
 have P4:kI c (s.cells sp bv nv m cp) sp s.st m lk cp s.cl v3 (s.nts++[⟨k,p⟩]) bv s.blk h3 F4:=P4
 obtain⟨Fb,⟨rfl,B⟩,hFb,back2⟩:=P4.fBox
 refine fS.put B (o:=3) (by show 3<8;decide) O3.slR.isc λh5 B5 u5=>?_
 obtain⟨F5,P5,s5⟩:=back2 (rH c (s.cells sp bv v3 m cp)) h5 [c] ⟨rfl,B5⟩ ⟨u5,λb hb=>.inl hb⟩
 refine hk h5 F5 ⟨sp,m,cp,v3,bv,lk,P5,perm,⟨ok.id,ok.len,ok.first,ok.seq,ok.seq1,?_,?_,ok.bwf⟩⟩ (((jZ.ext (u1.trans u2)).trans s4).trans s5)
 ·show(s.nts++[(⟨k,p⟩:Nt)]).length≤1000000
  rw[lH];simp;omega
 ·intro n hn
  rcases kR.1 hn with hn|hn
  ·exact ok.wf n hn
  ·simp only[iQ] at hn
   subst hn;exact w
def aHP(h:PH)(fv:Value)(b:Bool):Prop:=∀h',fE h h'->∀k':Value->PH->Prop,(∀h'',fE h' h''->k' (.bool b) h'')->aAg PG fv #[] h' k'
theorem aHP.ext{h h':PH}{fv:Value}{b:Bool}(R:aHP h fv b)(u:fE h h'):aHP h' fv b:=λh2 u2 k hk=>R h2 (u.trans u2) k hk
abbrev RuV:=Value×Int×Bool
def nH(x:RuV):List Value:=[x.1,.int .i64 x.2.1]
theorem nH.rows(l:List RuV):lC 2 (l.map nH):=λr hr=>by obtain⟨m,_,rfl⟩:=mT.1 hr;rfl
def aG9(h:PH)(rs:List RuV):Prop:=∀x∈rs,iF x.1=true∧aHP h x.1 x.2.2
theorem aG9.ext{h h':PH}{rs:List RuV}(R:aG9 h rs)(u:fE h h'):aG9 h' rs:=λx hx=>⟨(R x hx).1,(R x hx).2.ext u⟩
def aEI:List RuV->Int
 | []=>0
 | x::l=>if x.2.2 then aEI l else x.2.1
def aL0(s:Ch)(rs:List RuV):Int:=if s.st.height=18446744073709551615 then 12 else aEI rs
theorem aNC{h:PH}{c:Nat}{s:Ch}{F:List Nat}(H:jX c s h F){v:Value}{rs:List RuV}(S:iR h 2 v (rs.map nH))(hf:aG9 h rs)(hl:rs.length≤100){kk:eJ}(hk:∀h',fE h h'->kk (.int .i64 (aL0 s rs)) h'):
  cR PG xN #[pT c 0,v] h kk:=by
 apply aD1.call
 unfold aD1
 obtain⟨sp,m,cp,nv,bv,lk,P,perm,ok⟩:=H
 simp only[gH.f0,iC.f0,Ch.load0 P.cell,eK,reduceIte,eX,Nat.reduceAdd]
 obtain⟨Fs,St,-,-⟩:=P.fSt
 refine aKZ St ?_
 unfold aL0 at hk
 by_cases hm:s.st.height=18446744073709551615
 ·have q:((s.st.height:Int)==18446744073709551615)=true:=by rw[hm];rfl
  rw[if_pos hm] at hk
  simp only[jO,q,eK,reduceIte,eX,Nat.reduceAdd]
  exact hk h eW.refl
 have q:((s.st.height:Int)==18446744073709551615)=false:=by rw[beq_eq_false_iff_ne];omega
 rw[if_neg hm] at hk
 have lv:=S.len (t':=dR) kG.und
 rw[kQ] at lv
 simp only[jO,q,lv,eK,reduceIte,eX,Nat.reduceAdd]
 refine⟨λvs h'=>∃i:Nat,i≤rs.length∧vs=[v,.int .i64 (rs.length:Int),.int .i64 (i:Int)]∧fE h h'∧aEI rs=aEI (rs.drop i),jP rs.length 2,⟨0,by omega,rfl,eW.refl,rfl⟩,?_⟩
 rintro ρ h' ⟨i,hi,hvs,u,hfb⟩
 simp only[jT,kF,mQ,and_true] at hvs
 obtain⟨v0,v1,v2⟩:=hvs
 unfold aGi
 rw[v0,v1,v2]
 by_cases hlt:i<rs.length
 ·have g:((i:Int)<(rs.length:Int))=True:=eq_true (by omega)
  have gi:IntKind.i64.wrap ((i:Int)+1)=((i+1:Nat):Int):=by rw[gD (by omega) (by omega)];omega
  obtain⟨x,hx⟩:∃x,rs[i]? =some x:=⟨_,nM hlt⟩
  have hmem:=uJ hx
  have hd:rs.drop i=x::rs.drop (i+1):=by
   obtain⟨h1,e1⟩:=zLx.1 hx
   rw[←e1];exact aL1 h1
  rw[hd,aEI] at hfb
  obtain⟨a,a1,a2⟩:=(S.ext u).loadAgg kG.und eO.info eO.size eO.und rfl (k:=.i64) (j:=(i:Int)) (r:=nH x) (by omega) (by rw[sM,zLW,hx];rfl)
  obtain⟨hc,hr⟩:=hf x hmem
  simp only[g,a1,a2,eK,reduceIte,eX,Nat.reduceAdd]
  intro r14 hr14
  try rw[eY]
  refine eO.fill (vs:=nH x) hr14 rfl (by
   simp only[nH,jG,mD,or_false]
   rintro w (rfl|rfl)
   ·exact hc
   ·rfl) λh2 B2 u2=>?_
  have lf:bT PG h2 (loadAt aAD (pT r14 0))=some x.1:=by rw[aAD.load,B2.cell];rfl
  simp only[eO.f0,lf,eK,reduceIte,eX,Nat.reduceAdd]
  refine hr h2 (u.trans u2) _ λh3 u3=>?_
  have e3:=(u.trans u2).trans u3
  cases hb:x.2.2 with
  | true=>
   rw[hb,if_pos rfl] at hfb
   simp only[gi,eK,reduceIte,eX,Nat.reduceAdd]
   exact⟨⟨i+1,by omega,rfl,e3,hfb⟩,by simp[jP,v2];omega⟩
  | false=>
   rw[hb,if_neg (by decide)] at hfb
   have le:bT PG h3 (loadAt iN (pT r14 1))=some (.int .i64 x.2.1):=by rw[iN.load,(B2.ext u3).cell];rfl
   simp only[eO.f1,iG,le,eK,reduceIte,eX,Nat.reduceAdd]
   have:=hk h3 e3
   rw[hfb] at this
   exact this
 ·have g:((i:Int)<(rs.length:Int))=False:=eq_false (by omega)
  rw[aKV (by omega),aEI] at hfb
  simp only[g,eK,reduceIte,eX,Nat.reduceAdd]
  have:=hk h' u
  rw[hfb] at this
  exact this
theorem aJN(f:FuncId)(cap:Array Value)(e:Int):aT PG (build eO #[(0,.func (.func f) #[] cap),(1,.int .i64 e)])=some (.agg #[.func (.func f) #[] cap,.int .i64 e]):=by kernel_rfl
theorem aPn{h:PH}{p:Pk}{id:Int}{kk:eJ}(hk:∀h' fv,iF fv=true->aHP h' fv (p.right&&(p.f==id))->fE h h'->kk (.agg #[fv,.int .i64 1]) h'):cR PG aFL #[p.v,.int .i64 id] h kk:=by
 apply aHl.call
 unfold aHl
 intro r1 hr1
 try rw[eY]
 have u1:fE h (h.set r1 (.cells (Value.cells p.v) bR)):=eW.new hr1
 have B1:Bx (h.set r1 (.cells (Value.cells p.v) bR)) r1 p.cells:=Bx.new
 generalize h.set r1 (.cells (Value.cells p.v) bR)=h1 at *
 intro r3 hr3
 try rw[eY]
 have u3:fE h1 (h1.set r3 (.cells (Value.cells (.int .i64 id)) dR)):=eW.new hr3
 have B3:Bx (h1.set r3 (.cells (Value.cells (.int .i64 id)) dR)) r3 [.int .i64 id]:=Bx.new
 generalize h1.set r3 (.cells (Value.cells (.int .i64 id)) dR)=h3 at *
 intro r5 hr5
 try rw[eY]
 simp only[oU,aJN,eK,reduceIte,eX,Nat.reduceAdd]
 refine eO.fill (vs:=[.func (.func aBa) #[] #[pT r1 0,pT r3 0],.int .i64 1]) hr5 rfl (by simp[iF]) λh5 B5 u5=>?_
 have l5:bT PG h5 (loadAt eO (pT r5 0))=some (.agg #[.func (.func aBa) #[] #[pT r1 0,pT r3 0],.int .i64 1]):=eO.agg B5 (by show 0+2≤2;decide)
 simp only[l5,eK,reduceIte,eX,Nat.reduceAdd]
 refine hk h5 _ rfl (λh' u k' hk'=>?_) ((u1.trans u3).trans u5)
 show cR PG aBa #[pT r1 0,pT r3 0] h' k'
 apply aGC.call
 unfold aGC
 have C1:=((B1.ext u3).ext u5).ext u
 have C3:=(B3.ext u5).ext u
 have lp:bT PG h' (loadAt bR (pT r1 0))=some (.agg p.cells.toArray):=C1.pk rfl
 simp only[lp,eK,reduceIte,eX,Nat.reduceAdd]
 refine aL7 p λh6 u6=>?_
 have lf:bT PG h6 (loadAt dR (pT r1 0))=some (.int .i64 p.f):=by rw[dR.load,(C1.ext u6).cell];rfl
 have li:bT PG h6 (loadAt dR (pT r3 0))=some (.int .i64 id):=by rw[dR.load,(C3.ext u6).cell];rfl
 have hk':=hk' h6 u6
 cases hr:p.right with
 | false=>
  rw[hr] at hk'
  have q:((1:Int)==0)=false:=by decide
  simp only[wU] at hk'
  simp only[jO,q,zLr,if_false,eK,reduceIte,eX,Nat.reduceAdd]
  exact hk'
 | true=>
  rw[hr] at hk'
  have q:((0:Int)==0)=true:=by decide
  simp only[zLo] at hk'
  simp only[jO,q,if_true,bR.f0,lf,li,eK,reduceIte,eX,Nat.reduceAdd]
  exact hk'
def aRD(h:PH)(fv:Value)(f:Tx->Bool):Prop:=∀h',fE h h'->∀(root:Tx) (k':eJ),(∀h'',fE h' h''->k' (.bool (f root)) h'')->aAg PG fv #[.string (tx root)] h' k'
theorem aRD.ext{h h':PH}{fv:Value}{f:Tx->Bool}(R:aRD h fv f)(u:fE h h'):aRD h' fv f:=λh2 u2 r k hk=>R h2 (u.trans u2) r k hk
def qB(l:List jN)(x:Int):Tx:=((lZ l x).getD ⟨#[]⟩).data.toList
theorem aKa{h:PH}{c:Nat}{s:Ch}{F:List Nat}(H:jX c s h F){x:Int}{fis:Value}{f:Tx->Bool}(hfc:iF fis=true)(hf:aRD h fis f){kk:eJ}
  (hk:∀h' f1 f2,iF f1=true->iF f2=true->aHP h' f1 (lZ s.cl x).isSome->aHP h' f2 (f (qB s.cl x))->fE h h'->kk (.tuple #[.agg #[f1,.int .i64 11],.agg #[f2,.int .i64 9]]) h'):cR PG sU #[pT c 0,.int .u64 x,fis] h kk:=by
 apply aBR.call
 unfold aBR
 have eone:Value.cells fis= #[fis]:=by cases fis<;>first|rfl|cases hfc
 intro r1 hr1
 try rw[eY]
 have u1:fE h (h.set r1 (.cells (Value.cells fis) mE)):=eW.new hr1
 have B1:Bx (h.set r1 (.cells (Value.cells fis) mE)) r1 [fis]:=by rw[eone];exact Bx.new
 generalize h.set r1 (.cells (Value.cells fis) mE)=h1 at *
 intro r3 hr3
 try rw[eY]
 have u3:fE h1 (h1.set r3 (.cells (fY PG eO) eO)):=eW.new hr3
 have Z3:=eO.zbox (h:=h1) (r:=r3)
 generalize h1.set r3 (.cells (fY PG eO) eO)=h3 at *
 intro r5 hr5
 try rw[eY]
 have u5:fE h3 (h3.set r5 (.cells (fY PG eO) eO)):=eW.new hr5
 have Z5:=eO.zbox (h:=h3) (r:=r5)
 have Y3:=Z3.ext u5
 have n35:r3≠r5:=Z3.apart hr5
 have n13:r1≠r3:=B1.apart hr3
 have n15:r1≠r5:=(B1.ext u3).apart hr5
 generalize h3.set r5 (.cells (fY PG eO) eO)=h5 at *
 have e5:=(u1.trans u3).trans u5
 have H5:=(jX.good c s).ext H e5
 obtain⟨sp,m,cp,nv,bv,lk,P,perm,ok⟩:=H5
 simp only[gH.f2,iG,Ch.load6 P.cell,eK,reduceIte,eX,Nat.reduceAdd]
 obtain⟨Fc,⟨hs,C⟩,-,-⟩:=P.fCli
 refine aVu C x ?_
 simp only[eK,reduceIte,eX,Nat.reduceAdd]
 intro r14 hr14
 try rw[eY]
 have u14:fE h5 (h5.set r14 (.cells (fY PG cT) cT)):=eW.new hr14
 have Z14:=cT.zbox (h:=h5) (r:=r14)
 have Y5:=Z5.ext u14
 have Y3':=Y3.ext u14
 have n314:r3≠r14:=Y3.apart hr14
 have n514:r5≠r14:=Z5.apart hr14
 generalize h5.set r14 (.cells (fY PG cT) cT)=h14 at *
 intro r16 hr16
 try rw[eY]
 have u16:fE h14 (h14.set r16 (.cells (fY PG iV) iV)):=eW.new hr16
 have Z16:=iV.zbox (h:=h14) (r:=r16)
 have X14:=Z14.ext u16
 have X5:=Y5.ext u16
 have X3:=Y3'.ext u16
 have n1416:r14≠r16:=Z14.apart hr16
 have n316:r3≠r16:=Y3'.apart hr16
 have n516:r5≠r16:=Y5.apart hr16
 generalize h14.set r16 (.cells (fY PG iV) iV)=h16 at *
 have e16:=(e5.trans u14).trans u16
 have k3:h r3=none:=u1.none hr3
 have k5:h r5=none:=(u1.trans u3).none hr5
 have k14:h r14=none:=e5.none hr14
 have k16:h r16=none:=(e5.trans u14).none hr16
 refine cT.put X14 (o:=0) (by decide) rfl λh17 B17 u17=>?_
 refine iV.put (Z16.upd u17 (by simpa using n1416.symm)) (o:=0) (by decide) rfl λh18 B18 u18=>?_
 have C14:=B17.upd u18 (by simpa using n1416)
 have C3:=(X3.upd u17 (by simpa using n314)).upd u18 (by simpa using n316)
 have C5:=(X5.upd u17 (by simpa using n514)).upd u18 (by simpa using n516)
 have e18:fE h h18:=(e16.fresh u17 (gQ.one k14)).fresh u18 (gQ.one k16)
 try simp only[oU,aJN,eK,reduceIte,eX,Nat.reduceAdd]
 refine eO.put (vs:=[.func (.func rI) #[] #[pT r16 0],.int .i64 11]) C3 (o:=0) rfl (by show 0+2≤2;decide) (by simp[iF]) λh19 B19 u19=>?_
 refine eO.put (vs:=[.func (.func rF) #[] #[pT r1 0,pT r14 0],.int .i64 9]) (C5.upd u19 (by simpa using n35.symm)) (o:=0) rfl (by show 0+2≤2;decide) (by simp[iF]) λh20 B20 u20=>?_
 have D3:=B19.upd u20 (by simpa using n35)
 have l3:bT PG h20 (loadAt eO (pT r3 0))=some (.agg #[.func (.func rI) #[] #[pT r16 0],.int .i64 11]):=eO.agg D3 (by show 0+2≤2;decide)
 have l5:bT PG h20 (loadAt eO (pT r5 0))=some (.agg #[.func (.func rF) #[] #[pT r1 0,pT r14 0],.int .i64 9]):=eO.agg B20 (by show 0+2≤2;decide)
 have e20:fE h h20:=(e18.fresh u19 (gQ.one k3)).fresh u20 (gQ.one k5)
 have D16:Bx h20 r16 [.bool (lZ s.cl x).isSome]:=(B18.upd u19 (by simpa using n316.symm)).upd u20 (by simpa using n516.symm)
 have D14:Bx h20 r14 [.string ((lZ s.cl x).getD ⟨#[]⟩)]:=(C14.upd u19 (by simpa using n314.symm)).upd u20 (by simpa using n514.symm)
 have n114:r1≠r14:=((B1.ext u3).ext u5).apart hr14
 have n116:r1≠r16:=(((B1.ext u3).ext u5).ext u14).apart hr16
 have D1:Bx h20 r1 [fis]:=((((((((B1.ext u3).ext u5).ext u14).ext u16).upd u17 (by simpa using n114)).upd u18 (by simpa using n116)).upd u19 (by simpa using n13)).upd u20 (by simpa using n15))
 simp only[l3,l5,eK,reduceIte,eX,Nat.reduceAdd]
 refine hk h20 _ _ rfl rfl (λh' u k' hk'=>?_) (λh' u k' hk'=>?_) e20
 ·show cR PG rI #[pT r16 0] h' k'
  apply zX.call
  unfold zX
  have lb:bT PG h' (loadAt iV (pT r16 0))=some (.bool (lZ s.cl x).isSome):=by rw[iV.load,(D16.ext u).cell];rfl
  simp only[lb,eK,reduceIte,eX,Nat.reduceAdd]
  exact hk' h' eW.refl
 ·show cR PG rF #[pT r1 0,pT r14 0] h' k'
  apply zN.call
  unfold zN
  have lf:bT PG h' (loadAt mE (pT r1 0))=some fis:=by rw[mE.load,(D1.ext u).cell];rfl
  have ls:bT PG h' (loadAt cT (pT r14 0))=some (.string (tx (qB s.cl x))):=by
   rw[cT.load,(D14.ext u).cell]
   unfold qB
   rw[aH1];rfl
  simp only[lf,ls,eK,reduceIte,eX,Nat.reduceAdd]
  exact hf h' (e20.trans u) (qB s.cl x) _ hk'
def wX(s:Ch)(p:Pk):Bool:=match jI s.st.now (jF 99 p.s.toNat) with
 | some q=>decide (q.v=rB p)
 | none=>false
theorem aUQ{h:PH}{c:Nat}{s:Ch}{F:List Nat}(hK:oA h)(H:jX c s h F){p:Pk}(w:p.wf){kk:eJ}(hk:∀h' fv,iF fv=true->aHP h' fv (wX s p)->fE h h'->kk (.agg #[fv,.int .i64 3]) h'):cR PG aDc #[pT c 0,p.v] h kk:=by
 apply aC5.call
 unfold aC5
 intro r1 hr1
 try rw[eY]
 have u1:fE h (h.set r1 (.cells (Value.cells (pT c 0)) fO)):=eW.new hr1
 have B1:Bx (h.set r1 (.cells (Value.cells (pT c 0)) fO)) r1 [pT c 0]:=Bx.new
 generalize h.set r1 (.cells (Value.cells (pT c 0)) fO)=h1 at *
 intro r3 hr3
 try rw[eY]
 have u3:fE h1 (h1.set r3 (.cells (Value.cells p.v) bR)):=eW.new hr3
 have B3:Bx (h1.set r3 (.cells (Value.cells p.v) bR)) r3 p.cells:=Bx.new
 generalize h1.set r3 (.cells (Value.cells p.v) bR)=h3 at *
 intro r5 hr5
 try rw[eY]
 simp only[oU,aJN,eK,reduceIte,eX,Nat.reduceAdd]
 refine eO.fill (vs:=[.func (.func sX) #[] #[pT r1 0,pT r3 0],.int .i64 3]) hr5 rfl (by simp[iF]) λh5 B5 u5=>?_
 have l5:bT PG h5 (loadAt eO (pT r5 0))=some (.agg #[.func (.func sX) #[] #[pT r1 0,pT r3 0],.int .i64 3]):=eO.agg B5 (by show 0+2≤2;decide)
 have e5:=(u1.trans u3).trans u5
 simp only[l5,eK,reduceIte,eX,Nat.reduceAdd]
 refine hk h5 _ rfl (λh' u k' hk'=>?_) e5
 show cR PG sX #[pT r1 0,pT r3 0] h' k'
 apply tL.call
 unfold tL
 have C1:=((B1.ext u3).ext u5).ext u
 have C3:=(B3.ext u5).ext u
 have H':=(jX.good c s).ext H (e5.trans u)
 obtain⟨sp,m,cp,nv,bv,lk,P,perm,ok⟩:=H'
 obtain⟨n,hn⟩:=zLm w.1
 have hn2:n<18446744073709551616:=by have:=w.2.1;omega
 have lc:∀{h'':PH},fE h' h''->bT PG h'' (loadAt fO (pT r1 0))=some (pT c 0):=λv=>by rw[fO.load,(C1.ext v).cell];rfl
 have ls:bT PG h' (loadAt dT (pT r3 1))=some (.int .u64 (n:Int)):=by rw[dT.load,C3.cell,←hn];rfl
 simp only[lc eW.refl,gH.f0,iC.f0,bR.f1,iG,Ch.load0 P.cell,ls,eK,reduceIte,eX,Nat.reduceAdd]
 refine aLW hn2 λh6 u6=>?_
 have P6:=kI.good.ext P u6
 refine⟨Ch.load0 P6.cell,lc u6,?_⟩
 obtain⟨Fs,St,-,-⟩:=P6.fSt
 refine aQF St _ ?_
 have es:wX s p=match jI s.st.now (jF 99 n) with|some q=>decide (q.v=rB p)|none=>false:=by
  unfold wX;rw[hn];rfl
 cases hg:jI s.st.now (jF 99 n) with
 | none=>
  have hk':=hk' h6 u6
  rw[es,hg] at hk'
  simp only[zLs,eK,reduceIte,eX,Nat.reduceAdd]
  exact hk'
 | some q=>
  rw[hg] at es
  simp only at es
  rw[es] at hk'
  have lp:bT PG h6 (loadAt bR (pT r3 0))=some p.v:=(C3.ext u6).pk rfl
  simp only[Option.isSome_some,aJA,aI5,lp,eK,reduceIte,eX,Nat.reduceAdd]
  refine aHe w (hK.ext ((e5.trans u).trans u6)) λh7 u7=>?_
  simp only[aEv,eK,reduceIte,eX,Nat.reduceAdd]
  exact hk' h7 (u6.trans u7)
end Go.Proofs.YtcoajnpchhmgjaaGreatDoor
namespace Go.Proofs.YtcoajnpchhmgjaaGreatDoor
open Go
theorem wE.uniq{a b:List Int}{l:List jN}(x:wE a l)(y:wE b l):a=b:=
 List.Perm.eq_of_pairwise (le:=λp q:Int=>p<q) (λp q _ _ (h1:p<q) h2=>by omega) x.up y.up (x.perm.trans y.perm.symm)
open Classical in
noncomputable def aI8(l:List jN):Int:=if h:∃hs,wE hs l then aJx h.choose else 0
theorem aNZ{hs:List Int}{l:List jN}(R:wE hs l):aI8 l=aJx hs:=by
 have h:∃hs,wE hs l:=⟨hs,R⟩
 unfold aI8
 rw[dif_pos h,wE.uniq h.choose_spec R]
def zG:List (Int×Bool)->Int
 | []=>0
 | x::l=>if x.2 then zG l else x.1
theorem aLr:∀rs:List RuV,aEI rs=zG (rs.map (·.2))
 | []=>rfl
 | x::l=>by simp only[aEI,jT,zG,aLr l]
def pZ(s:Ch)(l:List (Int×Bool)):Int:=if s.st.height=18446744073709551615 then 12 else zG l
theorem aNY(s:Ch)(rs:List RuV):aL0 s rs=pZ s (rs.map (·.2)):=by unfold aL0 pZ;rw[aLr]
theorem aV2(f0 f1 f2 f3:Value)(e0 e1 e2 e3:Int):iP PG (buildSlice kG 4 #[(0,.agg #[f0,.int .i64 e0]),(1,.agg #[f1,.int .i64 e1]),(2,.agg #[f2,.int .i64 e2]),(3,.agg #[f3,.int .i64 e3])])=some (.cells #[f0,.int .i64 e0,f1,.int .i64 e1,f2,.int .i64 e2,f3,.int .i64 e3] eO,λr=>pure (.slice (some ⟨r,0,none⟩) 4 4)):=by kernel_rfl
theorem aUo(f s t:Int)(d:ByteArray):aT PG (build bR #[(0,.int .i64 f),(1,.int .u64 s),(2,.int .u64 t),(3,.string d)])=some (Pk.v ⟨f,s,t,d⟩):=by kernel_rfl
def lJ(s:Ch)(d:Tx)(t:Nat):Pk:=⟨s.id,(s.seq:Int),(t:Int),tx d⟩
noncomputable def sJ(s:Ch)(d:Tx)(t:Nat):Int:=pZ s [(12,decide (s.seq<18446744073709551615)),(1,(lJ s d t).right),(10,decide (aI8 s.cl<(t:Int))),(2,decide (s.st.now.length+1≤4096))]
def Ch.next(s:Ch):Ch:={s with seq:=s.seq+1}
def Ch.sent(s:Ch)(p:Pk):Ch:=(((s.put (jF 99 s.seq) (rB p)).next).add ⟨1,p⟩)
theorem Pk.isC(p:Pk):∀u∈p.cells,iF u=true:=λu hu=>by
 simp only[Pk.cells,jG,mD,or_false] at hu
 rcases hu with rfl|rfl|rfl|rfl<;>rfl
theorem aK6{s:Ch}{l:List (Int×Bool)}(h:pZ s l=0)(hne:∀x∈l,x.1≠0):s.st.height≠18446744073709551615∧∀x∈l,x.2=true:=by
 unfold pZ at h
 by_cases hm:s.st.height=18446744073709551615
 ·rw[if_pos hm] at h;cases h
 ·rw[if_neg hm] at h
  refine⟨hm,?_⟩
  induction l with
  | nil=>intro x hx;cases hx
  | cons a l ih=>
   rw[zG] at h
   cases ha:a.2 with
   | false=>rw[ha,if_neg (by decide)] at h;exact absurd h (hne a (by simp))
   | true=>
    rw[ha,if_pos rfl] at h
    intro x hx
    rcases jG.1 hx with rfl|hx
    ·exact ha
    ·exact ih h (λy hy=>hne y (by simp[hy])) x hx
theorem aMQ{l:List Pr}{k:Tx}{n:Nat}(hn:1≤n)(h:l.length+n≤4096):¬(jI l k=none∧4096≤l.length):=λc=>by omega
theorem aKw(p:Pk):(rB p).length≤64:=by
 unfold rB aHZ
 split
 ·exact zLB (Nat.le_of_eq rfl) (show 32≤64 by decide)
 ·simp
theorem aOk{h:PH}{c:Nat}{s:Ch}{F:List Nat}(hK:oA h)(H:jX c s h F)(d:Tx){t:Nat}(ht:t<18446744073709551616)(hl:s.nts.length<1000000){kk:eJ}
  (hbad:sJ s d t≠0->∀h' F',jX c s h' F'->jZ h F h' F'->fE h h'->kk (.tuple #[Pk.v default,.int .i64 (sJ s d t)]) h')
  (hk:sJ s d t=0->∀h' F',jX c (s.sent (lJ s d t)) h' F'->jZ h F h' F'->kk (.tuple #[Pk.v (lJ s d t),.int .i64 0]) h'):
  cR PG aAq #[pT c 0,.string (tx d),.int .u64 (t:Int)] h kk:=by
 apply wN.call
 unfold wN
 intro r1 hr1
 try rw[eY]
 have u1:fE h (h.set r1 (.cells (Value.cells (pT c 0)) fO)):=eW.new hr1
 have B1:Bx (h.set r1 (.cells (Value.cells (pT c 0)) fO)) r1 [pT c 0]:=Bx.new
 generalize h.set r1 (.cells (Value.cells (pT c 0)) fO)=h1 at *
 intro r3 hr3
 try rw[eY]
 have u3:fE h1 (h1.set r3 (.cells (Value.cells (.int .u64 (t:Int))) dT)):=eW.new hr3
 have B3:Bx (h1.set r3 (.cells (Value.cells (.int .u64 (t:Int))) dT)) r3 [.int .u64 (t:Int)]:=Bx.new
 generalize h1.set r3 (.cells (Value.cells (.int .u64 (t:Int))) dT)=h3 at *
 intro r5 hr5
 try rw[eY]
 have u5:fE h3 (h3.set r5 (.cells (fY PG bR) bR)):=eW.new hr5
 have Z5:=bR.zbox (h:=h3) (r:=r5)
 generalize h3.set r5 (.cells (fY PG bR) bR)=h5 at *
 have e5:=(u1.trans u3).trans u5
 have k5:h r5=none:=(u1.trans u3).none hr5
 have C1:=(B1.ext u3).ext u5
 have C3:=B3.ext u5
 have H5:=(jX.good c s).ext H e5
 obtain⟨sp,m,cp,nv,bv,lk,P,perm,ok⟩:=H5
 have H5':jX c s h5 F:=⟨sp,m,cp,nv,bv,lk,P,perm,ok⟩
 have hseq:=ok.seq
 have lc:∀{h'':PH},fE h5 h''->bT PG h'' (loadAt fO (pT r1 0))=some (pT c 0):=λv=>by rw[fO.load,(C1.ext v).cell];rfl
 have lt:∀{h'':PH},fE h5 h''->bT PG h'' (loadAt dT (pT r3 0))=some (.int .u64 (t:Int)):=λv=>by rw[dT.load,(C3.ext v).cell];rfl
 simp only[lc eW.refl,lt eW.refl,gH.f1,gH.f3,iG,Ch.load5 P.cell,Ch.load7 P.cell,aUo,eK,reduceIte,eX,Nat.reduceAdd]
 intro r17 hr17
 try rw[eY]
 have n517:r5≠r17:=Z5.apart hr17
 refine bR.fill (vs:=(lJ s d t).cells) hr17 rfl (Pk.isC _) λh7 B7 u7=>?_
 have w:(lJ s d t).wf:=⟨by simp[lJ],by simp only[lJ];omega,by simp[lJ],by simp only[lJ];omega⟩
 have e7:=e5.trans u7
 have H7:=(jX.good c s).ext H5' u7
 have Z7:=Z5.ext u7
 have lpk:∀{h'':PH},fE h7 h''->bT PG h'' (loadAt bR (pT r17 0))=some (lJ s d t).v:=λv=>(B7.ext v).pk rfl
 simp only[lc u7,oU,aJN,aV2,eK,reduceIte,eX,Nat.reduceAdd]
 intro r30 hr30
 refine iK ?_
 try rw[eY]
 -- the rules
 obtain⟨rs,hrs⟩:∃rs:List RuV,rs=[(.func (.func tG) #[] #[pT r1 0],12,decide (s.seq<18446744073709551615)),(.func (.func tI) #[] #[pT r17 0],1,(lJ s d t).right),(.func (.func tT) #[] #[pT r3 0,pT r1 0],10,decide (aI8 s.cl<(t:Int))),(.func (.func sR) #[] #[pT r1 0],2,decide (s.st.now.length+1≤4096))]:=⟨_,rfl⟩
 have eall:aL0 s rs=sJ s d t:=by rw[aNY,hrs];rfl
 have u8:fE h7 (h7.set r30 (.cells (rs.map nH).flatten.toArray eO)):=eW.new hr30
 have s8:iR (h7.set r30 (.cells (rs.map nH).flatten.toArray eO)) 2 (.slice (some ⟨r30,0,none⟩) 4 4) (rs.map nH):=(gU.lit (nH.rows rs) fP (by rw[hrs];simp) (by decide) (by simp)).slR
 have ecells:(#[.func (.func tG) #[] #[pT r1 0],.int .i64 12,.func (.func tI) #[] #[pT r17 0],.int .i64 1,.func (.func tT) #[] #[pT r3 0,pT r1 0],.int .i64 10,.func (.func sR) #[] #[pT r1 0],.int .i64 2]:Array Value)=(rs.map nH).flatten.toArray:=by rw[hrs];rfl
 rw[ecells]
 generalize h7.set r30 (.cells (rs.map nH).flatten.toArray eO)=h8 at *
 have H8:=(jX.good c s).ext H7 u8
 have e8:=e7.trans u8
 have v58:=u7.trans u8
 have hrules:aG9 h8 rs:=by
  rw[hrs]
  intro x hx
  simp only[jG,mD,or_false] at hx
  rcases hx with rfl|rfl|rfl|rfl
  ·refine⟨rfl,λh' u k' hk'=>?_⟩
   show cR PG tG #[pT r1 0] h' k'
   apply aBS.call
   unfold aBS
   obtain⟨sp,m,cp,nv,bv,lk,P,perm,ok⟩:=(jX.good c s).ext H8 u
   have eq1:((s.seq:Int)<18446744073709551615)=(s.seq<18446744073709551615):=by apply propext;omega
   simp only[lc (v58.trans u),gH.f3,iG,Ch.load7 P.cell,eq1,eK,reduceIte,eX,Nat.reduceAdd]
   exact hk' h' eW.refl
  ·refine⟨rfl,λh' u k' hk'=>?_⟩
   show cR PG tI #[pT r17 0] h' k'
   apply aBc.call
   unfold aBc
   simp only[lpk (u8.trans u),eK,reduceIte,eX,Nat.reduceAdd]
   refine aL7 (lJ s d t) λh9 u9=>?_
   have hk':=hk' h9 u9
   cases hr:(lJ s d t).right with
   | false=>
    rw[hr] at hk'
    have q:((1:Int)==0)=false:=by decide
    simp only[jO,q,zLr,if_false,eK,reduceIte,eX,Nat.reduceAdd]
    exact hk'
   | true=>
    rw[hr] at hk'
    have q:((0:Int)==0)=true:=by decide
    simp only[jO,q,if_true,eK,reduceIte,eX,Nat.reduceAdd]
    exact hk'
  ·refine⟨rfl,λh' u k' hk'=>?_⟩
   show cR PG tT #[pT r3 0,pT r1 0] h' k'
   apply tD.call
   unfold tD
   obtain⟨sp,m,cp,nv,bv,lk,P,perm,ok⟩:=(jX.good c s).ext H8 u
   obtain⟨Fc,⟨hs,C⟩,-,-⟩:=P.fCli
   simp only[lt (v58.trans u),lc (v58.trans u),gH.f2,iG,Ch.load6 P.cell,eK,reduceIte,eX,Nat.reduceAdd]
   refine aRl C ?_
   refine⟨lt (v58.trans u),?_⟩
   rw[←aNZ C.rank]
   simp only[eK,reduceIte,eX,Nat.reduceAdd]
   exact hk' h' eW.refl
  ·refine⟨rfl,λh' u k' hk'=>?_⟩
   show cR PG sR #[pT r1 0] h' k'
   apply aBN.call
   unfold aBN
   simp only[lc (v58.trans u),gH.f0,eK,reduceIte,eX,Nat.reduceAdd]
   exact aPT (n:=1) ((jX.good c s).ext H8 u) (by decide) (hk' h' eW.refl)
 refine aNC H8 s8 hrules (by rw[hrs];simp) λh9 u9=>?_
 rw[eall]
 have H9:=(jX.good c s).ext H8 u9
 have e9:=e8.trans u9
 have v59:=v58.trans u9
 have v79:=u8.trans u9
 by_cases he:sJ s d t=0
 case neg=>
  have q:(sJ s d t !=0)=true:=by simpa using he
  simp only[lR,q,Pk.zb,eK,reduceIte,eX,Nat.reduceAdd]
  refine bR.put (vs:=Pk.cells default) ((Z7.ext u8).ext u9) (o:=0) rfl (by show 0+4≤4;decide) (Pk.isC _) λh10 B10 u10=>?_
  have l10:bT PG h10 (loadAt bR (pT r5 0))=some (Pk.v default):=B10.pk rfl
  simp only[l10,eK,reduceIte,eX,Nat.reduceAdd]
  have n5F:∀b∈F,b∉[r5]:=λb hb hb'=>by
   simp only[iQ] at hb'
   exact(jX.good c s).known H b hb (hb'▸k5)
  have e10:=e9.fresh u10 (gQ.one k5)
  exact hbad he h10 F ((jX.good c s).upd H9 u10 n5F) (jZ.ext e10) e10
 obtain⟨hmax,hall⟩:=aK6 he (by intro x hx;simp only[jG,mD,or_false] at hx;rcases hx with rfl|rfl|rfl|rfl<;>simp)
 have b1:s.seq<18446744073709551615:=by simpa using hall _ (by simp:((12:Int),decide (s.seq<18446744073709551615))∈_)
 have b4:s.st.now.length+1≤4096:=by
  have:=hall (2,decide (s.st.now.length+1≤4096)) (by simp)
  simpa using this
 have ls:∀{h'':PH},fE h7 h''->bT PG h'' (loadAt dT (pT r17 1))=some (.int .u64 (s.seq:Int)):=λv=>by rw[dT.load,(B7.ext v).cell];rfl
 simp only[he,lR,lc v59,gH.f0,bR.f1,iG,ls v79,lpk v79,eK,reduceIte,eX,Nat.reduceAdd]
 refine aLW hseq λh10 u10=>?_
 refine⟨lpk (v79.trans u10),lc (v59.trans u10),?_⟩
 refine aHe w (hK.ext (e9.trans u10)) λh11 u11=>?_
 have v11:=u10.trans u11
 refine⟨lc (v59.trans v11),?_⟩
 have H11:=(jX.good c s).ext H9 v11
 refine aNT H11 (by rw[wM];decide) (by rw[wM];decide) (aKw _) (aMQ (n:=1) (by decide) b4) λh12 F12 H12 s12=>?_
 -- boxes beside the chain
 have nF:∀{r:Nat},h r=none->r∉F:=λhr hm=>(jX.good c s).known H _ hm hr
 have k1:h r1=none:=hr1
 have k17:h r17=none:=e5.none hr17
 have e11:=e9.trans v11
 have nF12:∀{r:Nat} {o:Obj},h r=none->h11 r=some o->r∉F12:=λhr ho hm=>by
  rcases s12.grow _ hm with hx|hx
  ·exact nF hr hx
  ·rw[ho] at hx;cases hx
 have D1:=(C1.ext (v59.trans v11)).upd s12.upd (nF k1)
 have D17:=(B7.ext (v79.trans v11)).upd s12.upd (nF k17)
 have D5:=(((Z7.ext u8).ext u9).ext v11).upd s12.upd (nF k5)
 have m1:r1∉F12:=by obtain⟨_,ho⟩:=(C1.ext (v59.trans v11)).here;exact nF12 k1 ho
 have m17:r17∉F12:=by obtain⟨_,ho⟩:=(B7.ext (v79.trans v11)).here;exact nF12 k17 ho
 have m5:r5∉F12:=by obtain⟨_,ho⟩:=(((Z7.ext u8).ext u9).ext v11).here;exact nF12 k5 ho
 obtain⟨sp',m',cp',nv',bv',lk',P',perm',ok'⟩:=H12
 have lc12:bT PG h12 (loadAt fO (pT r1 0))=some (pT c 0):=by rw[fO.load,D1.cell];rfl
 have wq:IntKind.u64.wrap ((s.seq:Int)+1)=((s.seq+1:Nat):Int):=by rw[iZ (by omega) (by omega)];omega
 have l7:bT PG h12 (loadAt dT (pT c 7))=some (.int .u64 (s.seq:Int)):=Ch.load7 P'.cell
 simp only[lc12,gH.f3,iG,l7,wq,eK,reduceIte,eX,Nat.reduceAdd]
 obtain⟨Fb,⟨rfl,Bc⟩,hFb,back⟩:=P'.fBox
 refine dT.put Bc (o:=7) (by show 7<8;decide) rfl λh13 B13 u13=>?_
 obtain⟨F13,P13,s13⟩:=back (rH c ((s.put (jF 99 s.seq) (rB (lJ s d t))).next.cells sp' bv' nv' m' cp')) h13 [c] ⟨rfl,B13⟩ ⟨u13,λb hb=>.inl hb⟩
 have H13:jX c ((s.put (jF 99 s.seq) (rB (lJ s d t))).next) h13 F13:=⟨sp',m',cp',nv',bv',lk',P13,perm',⟨ok'.id,ok'.len,ok'.first,by show s.seq+1<_;omega,by show 1≤s.seq+1;omega,ok'.nts,ok'.wf,ok'.bwf⟩⟩
 have cF:c∈F12:=hFb c (by simp)
 have nc:∀{r:Nat},r∉F12->r∉[c]:=λhr hm=>by simp only[iQ] at hm;exact hr (hm▸cF)
 have E1:=D1.upd u13 (nc m1)
 have E17:=D17.upd u13 (nc m17)
 have E5:=D5.upd u13 (nc m5)
 have lc13:bT PG h13 (loadAt fO (pT r1 0))=some (pT c 0):=by rw[fO.load,E1.cell];rfl
 have lp13:bT PG h13 (loadAt bR (pT r17 0))=some (lJ s d t).v:=E17.pk rfl
 simp only[lc13,lp13,eK,reduceIte,eX,Nat.reduceAdd]
 refine aMA H13 1 w hl λh14 F14 H14 s14=>?_
 have grow13:∀{r:Nat},r∉F12->h12 r≠none->r∉F13:=λhr hn hm=>by
  rcases s13.grow _ hm with hx|hx
  ·exact hr hx
  ·exact hn hx
 have G17:=E17.upd s14.upd (grow13 m17 D17.known)
 have G5:=E5.upd s14.upd (grow13 m5 D5.known)
 have lp14:bT PG h14 (loadAt bR (pT r17 0))=some (lJ s d t).v:=G17.pk rfl
 simp only[lp14,eK,reduceIte,eX,Nat.reduceAdd]
 refine bR.put (vs:=(lJ s d t).cells) G5 (o:=0) rfl (by show 0+4≤4;decide) (Pk.isC _) λh15 B15 u15=>?_
 have l15:bT PG h15 (loadAt bR (pT r5 0))=some (lJ s d t).v:=B15.pk rfl
 simp only[l15,eK,reduceIte,eX,Nat.reduceAdd]
 have m514:r5∉F14:=λhm=>by
  rcases s14.grow _ hm with hx|hx
  ·exact grow13 m5 D5.known hx
  ·exact E5.known hx
 have st14:=(((jZ.ext (F:=F) e11).trans s12).trans s13).trans s14
 refine hk he h15 F14 ((jX.good c _).upd H14 u15 (λb hb hb'=>by simp only[iQ] at hb';exact m514 (hb'▸hb))) ⟨st14.upd.then u15 (λb hb=>.inr (by simp only[iQ] at hb;rw[hb];exact k5)),st14.grow⟩
end Go.Proofs.YtcoajnpchhmgjaaGreatDoor
namespace Go.Proofs.YtcoajnpchhmgjaaGreatDoor
open Go
theorem aQl(f0 f1:Value)(e0 e1:Int):iP PG (buildSlice kG 2 #[(0,.agg #[f0,.int .i64 e0]),(1,.agg #[f1,.int .i64 e1])])=some (.cells #[f0,.int .i64 e0,f1,.int .i64 e1] eO,λr=>pure (.slice (some ⟨r,0,none⟩) 2 2)):=by kernel_rfl
theorem aV5(f0 f1 f2:Value)(e0 e1 e2:Int):iP PG (buildSlice kG 3 #[(0,.agg #[f0,.int .i64 e0]),(1,.agg #[f1,.int .i64 e1]),(2,.agg #[f2,.int .i64 e2])])=some (.cells #[f0,.int .i64 e0,f1,.int .i64 e1,f2,.int .i64 e2] eO,λr=>pure (.slice (some ⟨r,0,none⟩) 3 3)):=by kernel_rfl
def kJ(s:Ch)(p:Pk)(l:List (Int×Bool)):Int:=pZ s ([(1,p.right&&(p.f==s.id)),(3,wX s p)]++l)
def Ch.settled(s:Ch)(k:Int)(p:Pk):Ch:=(s.del (jF 99 p.s.toNat)).add ⟨k,p⟩
theorem aMN{h:PH}{c:Nat}{s:Ch}{F:List Nat}(hK:oA h)(H:jX c s h F)(kind:Int){p:Pk}(w:p.wf){v:Value}{rs:List RuV}(S:iR h 2 v (rs.map nH))(hrs:aG9 h rs)(hlr:rs.length≤10)(hne:∀x∈rs,x.2.1≠0)(hl:s.nts.length<1000000){kk:eJ}
  (hbad:kJ s p (rs.map (·.2))≠0->∀h',jX c s h' F->fE h h'->kk (.int .i64 (kJ s p (rs.map (·.2)))) h')
  (hk:kJ s p (rs.map (·.2))=0->∀h' F',jX c (s.settled kind p) h' F'->jZ h F h' F'->kk (.int .i64 0) h'):
  cR PG yE #[pT c 0,.int .i64 kind,p.v,v] h kk:=by
 apply tA.call
 unfold tA
 intro r1 hr1
 try rw[eY]
 have u1:fE h (h.set r1 (.cells (Value.cells p.v) bR)):=eW.new hr1
 have B1:Bx (h.set r1 (.cells (Value.cells p.v) bR)) r1 p.cells:=Bx.new
 generalize h.set r1 (.cells (Value.cells p.v) bR)=h1 at *
 have lp:∀{h'':PH},fE h1 h''->bT PG h'' (loadAt bR (pT r1 0))=some p.v:=λv=>(B1.ext v).pk rfl
 have H1:=(jX.good c s).ext H u1
 obtain⟨sp,m,cp,nv,bv,lk,P,perm,ok⟩:=H1
 have H1:jX c s h1 F:=⟨sp,m,cp,nv,bv,lk,P,perm,ok⟩
 simp only[lp eW.refl,gH.f1,iG,Ch.load5 P.cell,eK,reduceIte,eX,Nat.reduceAdd]
 refine aPn λh2 f0 c0 R0 u2=>?_
 refine⟨lp u2,?_⟩
 have H2:=(jX.good c s).ext H1 u2
 refine aUQ (hK.ext (u1.trans u2)) H2 w λh3 f1 c1 R1 u3=>?_
 have H3:=(jX.good c s).ext H2 u3
 have e3:=(u1.trans u2).trans u3
 simp only[aQl,eK,reduceIte,eX,Nat.reduceAdd]
 intro r12 hr12
 refine iK ?_
 try rw[eY]
 obtain⟨hd,hhd⟩:∃hd:List RuV,hd=[(f0,1,p.right&&(p.f==s.id)),(f1,3,wX s p)]:=⟨_,rfl⟩
 have ecells:(#[f0,.int .i64 1,f1,.int .i64 3]:Array Value)=(hd.map nH).flatten.toArray:=by rw[hhd];rfl
 rw[ecells]
 have u4:fE h3 (h3.set r12 (.cells (hd.map nH).flatten.toArray eO)):=eW.new hr12
 have O4:gU (h3.set r12 (.cells (hd.map nH).flatten.toArray eO)) eO 2 (.slice (some ⟨r12,0,none⟩) 2 2) (hd.map nH) [r12]:=gU.lit (nH.rows hd) fP (by rw[hhd];simp) (by decide) (by simp)
 generalize h3.set r12 (.cells (hd.map nH).flatten.toArray eO)=h4 at *
 have e4:=e3.trans u4
 refine kU kG.und kG.und eO.info eO.size eO.bytes eO.zero rfl (by decide) O4 (S.ext e4) (λr hr u hu=>by
  obtain⟨x,hx,rfl⟩:=mT.1 hr
  simp only[nH,jG,mD,or_false] at hu
  rcases hu with rfl|rfl
  ·exact(hrs x hx).1
  ·rfl) (by rw[hhd];simp;omega) ?_
 intro v5 h5 F5 O5 u5 g5 _
 rw[←rL] at O5
 have f12:gQ h [r12]:=gQ.one (e3.none hr12)
 have k12:h3 r12=none:=hr12
 have e5:fE h h5:=e4.fresh u5 f12
 have e35:fE h3 h5:=u4.fresh u5 (gQ.one k12)
 have H5:=(jX.good c s).ext H3 e35
 have hrules:aG9 h5 (hd++rs):=λx hx=>by
  rcases kR.1 hx with hx|hx
  ·rw[hhd] at hx
   simp only[jG,mD,or_false] at hx
   rcases hx with rfl|rfl
   ·exact⟨c0,(R0.ext u3).ext e35⟩
   ·exact⟨c1,R1.ext e35⟩
  ·exact(hrs.ext e5) x hx
 refine aNC H5 O5.slR hrules (by rw[hhd];simp;omega) λh6 u6=>?_
 have eall:aL0 s (hd++rs)=kJ s p (rs.map (·.2)):=by rw[aNY,hhd];rfl
 rw[eall]
 have H6:=(jX.good c s).ext H5 u6
 have e6:=e5.trans u6
 have v16:fE h1 h6:=((u2.trans u3).trans e35).trans u6
 unfold aBl
 by_cases he:kJ s p (rs.map (·.2))=0
 case neg=>
  have q:(kJ s p (rs.map (·.2))==0)=false:=by simpa using he
  simp only[jO,q,eK,reduceIte,eX,Nat.reduceAdd]
  exact hbad he h6 H6 e6
 obtain⟨n,hn⟩:=zLm w.1
 have hn2:n<18446744073709551616:=by have:=w.2.1;omega
 obtain⟨-,hall⟩:=aK6 he (by
  intro x hx
  rcases kR.1 hx with hx|hx
  ·simp only[jG,mD,or_false] at hx
   rcases hx with rfl|rfl<;>simp
  ·obtain⟨y,hy,rfl⟩:=mT.1 hx
   exact hne y hy)
 have hsent:wX s p=true:=hall (3,wX s p) (by simp)
 have hg:jI s.st.now (jF 99 n)≠none:=λhg=>by
  unfold wX at hsent
  rw[hn,sM,hg] at hsent
  cases hsent
 have ls:bT PG h6 (loadAt dT (pT r1 1))=some (.int .u64 (n:Int)):=by rw[dT.load,(B1.ext v16).cell,←hn];rfl
 simp only[he,jO,gH.f0,bR.f1,iG,ls,eK,reduceIte,eX,Nat.reduceAdd]
 refine aLW hn2 λh7 u7=>?_
 have H7:=(jX.good c s).ext H6 u7
 refine aUL H7 hg λh8 F8 H8 s8=>?_
 have nF:r1∉F:=λhm=>(jX.good c s).known H _ hm hr1
 have D1:=(B1.ext (v16.trans u7)).upd s8.upd nF
 have lp8:bT PG h8 (loadAt bR (pT r1 0))=some p.v:=D1.pk rfl
 simp only[lp8,eK,reduceIte,eX,Nat.reduceAdd]
 refine aMA H8 kind w hl λh9 F9 H9 s9=>?_
 have es:(s.del (jF 99 n)).add ⟨kind,p⟩=s.settled kind p:=by unfold Ch.settled;rw[hn];rfl
 rw[es] at H9
 exact hk he h9 F9 H9 (((jZ.ext (e6.trans u7)).trans s8).trans s9)
noncomputable def xU(s:Ch)(p:Pk)(pf:Tx)(x:Int):List (Int×Bool):=[(11,(lZ s.cl x).isSome),(9,aAM (qB s.cl x) pf (jF 97 p.s.toNat) (aAv p))]
theorem aVo{h:PH}{c:Nat}{s:Ch}{F:List Nat}(hK:oA h)(H:jX c s h F){p:Pk}(w:p.wf){pf:Tx}{x:Int}(hl:s.nts.length<1000000){kk:eJ}
  (hbad:kJ s p (xU s p pf x)≠0->∀h',jX c s h' F->fE h h'->kk (.int .i64 (kJ s p (xU s p pf x))) h')
  (hk:kJ s p (xU s p pf x)=0->∀h' F',jX c (s.settled 3 p) h' F'->jZ h F h' F'->kk (.int .i64 0) h'):
  cR PG aD7 #[pT c 0,p.v,.string (tx pf),.int .u64 x] h kk:=by
 apply aDs.call
 unfold aDs
 obtain⟨n,hn⟩:=zLm w.1
 have hn2:n<18446744073709551616:=by have:=w.2.1;omega
 intro r1 hr1
 try rw[eY]
 have u1:fE h (h.set r1 (.cells (Value.cells p.v) bR)):=eW.new hr1
 have B1:Bx (h.set r1 (.cells (Value.cells p.v) bR)) r1 p.cells:=Bx.new
 generalize h.set r1 (.cells (Value.cells p.v) bR)=h1 at *
 intro r3 hr3
 try rw[eY]
 have u3:fE h1 (h1.set r3 (.cells (Value.cells (.string (tx pf))) cT)):=eW.new hr3
 have B3:Bx (h1.set r3 (.cells (Value.cells (.string (tx pf))) cT)) r3 [.string (tx pf)]:=Bx.new
 generalize h1.set r3 (.cells (Value.cells (.string (tx pf))) cT)=h3 at *
 have e3:=u1.trans u3
 have C1:=B1.ext u3
 have H3:=(jX.good c s).ext H e3
 try simp only[oU,eK,reduceIte,eX,Nat.reduceAdd]
 refine aKa (f:=λroot=>aAM root pf (jF 97 p.s.toNat) (aAv p)) H3 rfl (λh' u root k' hk'=>?_) λh4 f1 f2 c1 c2 R1 R2 u4=>?_
 ·show cR PG aCw #[.string (tx root),pT r3 0,pT r1 0] h' k'
  apply vA.call
  unfold vA
  have lpf:∀{h'':PH},fE h' h''->bT PG h'' (loadAt cT (pT r3 0))=some (.string (tx pf)):=λv=>by rw[cT.load,((B3.ext u).ext v).cell];rfl
  have lp:∀{h'':PH},fE h' h''->bT PG h'' (loadAt bR (pT r1 0))=some p.v:=λv=>((C1.ext u).ext v).pk rfl
  have ls:bT PG h' (loadAt dT (pT r1 1))=some (.int .u64 (n:Int)):=by rw[dT.load,(C1.ext u).cell,←hn];rfl
  simp only[lpf eW.refl,lp eW.refl,bR.f1,iG,ls,eK,reduceIte,eX,Nat.reduceAdd]
  refine aLh hn2 λh5 u5=>?_
  refine⟨lp u5,lpf u5,?_⟩
  refine aNg w (hK.ext ((e3.trans u).trans u5)) λh6 u6=>?_
  refine⟨lpf (u5.trans u6),?_⟩
  refine aRj (hK.ext (((e3.trans u).trans u5).trans u6)) λh7 u7=>?_
  have:=hk' h7 ((u5.trans u6).trans u7)
  rw[hn] at this
  exact this
 have e4:=e3.trans u4
 simp only[eK,reduceIte,eX,Nat.reduceAdd]
 intro r10 hr10
 try rw[eY]
 have u5:fE h4 (h4.set r10 (.cells (fY PG eO) eO)):=eW.new hr10
 have Z10:=eO.zbox (h:=h4) (r:=r10)
 generalize h4.set r10 (.cells (fY PG eO) eO)=h5 at *
 intro r12 hr12
 try rw[eY]
 have u6:fE h5 (h5.set r12 (.cells (fY PG eO) eO)):=eW.new hr12
 have Z12:=eO.zbox (h:=h5) (r:=r12)
 have n1012:r10≠r12:=Z10.apart hr12
 have Y10:=Z10.ext u6
 generalize h5.set r12 (.cells (fY PG eO) eO)=h6 at *
 have k10:h4 r10=none:=hr10
 have k12:h4 r12=none:=u5.none hr12
 refine eO.put (vs:=[f1,.int .i64 11]) Y10 (o:=0) rfl (by show 0+2≤2;decide) (by simp only[jG,mD,or_false];rintro z (rfl|rfl);exact c1;rfl) λh7 B7 u7=>?_
 refine eO.put (vs:=[f2,.int .i64 9]) (Z12.upd u7 (by simpa using n1012.symm)) (o:=0) rfl (by show 0+2≤2;decide) (by simp only[jG,mD,or_false];rintro z (rfl|rfl);exact c2;rfl) λh8 B8 u8=>?_
 have e48:fE h4 h8:=((u5.trans u6).fresh u7 (gQ.one k10)).fresh u8 (gQ.one k12)
 have l10:bT PG h8 (loadAt eO (pT r10 0))=some (.agg #[f1,.int .i64 11]):=eO.agg (B7.upd u8 (by simpa using n1012)) (by show 0+2≤2;decide)
 have l12:bT PG h8 (loadAt eO (pT r12 0))=some (.agg #[f2,.int .i64 9]):=eO.agg B8 (by show 0+2≤2;decide)
 have lp8:bT PG h8 (loadAt bR (pT r1 0))=some p.v:=(C1.ext (u4.trans e48)).pk rfl
 simp only[lp8,l10,l12,aQl,eK,reduceIte,eX,Nat.reduceAdd]
 intro r21 hr21
 refine iK ?_
 try rw[eY]
 obtain⟨rs,hrs⟩:∃rs:List RuV,rs=[(f1,11,(lZ s.cl x).isSome),(f2,9,aAM (qB s.cl x) pf (jF 97 p.s.toNat) (aAv p))]:=⟨_,rfl⟩
 have ecells:(#[f1,.int .i64 11,f2,.int .i64 9]:Array Value)=(rs.map nH).flatten.toArray:=by rw[hrs];rfl
 have ers:rs.map (·.2)=xU s p pf x:=by rw[hrs];rfl
 rw[ecells]
 have u9:fE h8 (h8.set r21 (.cells (rs.map nH).flatten.toArray eO)):=eW.new hr21
 have S9:iR (h8.set r21 (.cells (rs.map nH).flatten.toArray eO)) 2 (.slice (some ⟨r21,0,none⟩) 2 2) (rs.map nH):=(gU.lit (nH.rows rs) fP (by rw[hrs];simp) (by decide) (by simp)).slR
 generalize h8.set r21 (.cells (rs.map nH).flatten.toArray eO)=h9 at *
 have e49:=e48.trans u9
 have e9:=e4.trans e49
 have hrules:aG9 h9 rs:=λy hy=>by
  rw[hrs] at hy
  simp only[jG,mD,or_false] at hy
  rcases hy with rfl|rfl
  ·exact⟨c1,R1.ext e49⟩
  ·exact⟨c2,R2.ext e49⟩
 refine aMN (hK.ext e9) ((jX.good c s).ext H e9) 3 w S9 hrules (by rw[hrs];simp) (by rw[hrs];simp) hl (λhe h' H' u'=>?_) (λhe h' F' H' s'=>?_)
 ·rw[ers] at he ⊢
  exact hbad he h' H' (e9.trans u')
 ·rw[ers] at he
  exact hk he h' F' H' ((jZ.ext e9).trans s')
noncomputable def qZ(s:Ch)(p:Pk)(pf:Tx)(x:Int):List (Int×Bool):=[(11,decide (IntKind.u64.wrap (p.t-1)≤x)),(11,(lZ s.cl x).isSome),(9,aAU (qB s.cl x) pf (jF 114 p.s.toNat))]
theorem aP5{h:PH}{c:Nat}{s:Ch}{F:List Nat}(hK:oA h)(H:jX c s h F){p:Pk}(w:p.wf){pf:Tx}{x:Int}(hl:s.nts.length<1000000){kk:eJ}
  (hbad:kJ s p (qZ s p pf x)≠0->∀h',jX c s h' F->fE h h'->kk (.int .i64 (kJ s p (qZ s p pf x))) h')
  (hk:kJ s p (qZ s p pf x)=0->∀h' F',jX c (s.settled 4 p) h' F'->jZ h F h' F'->kk (.int .i64 0) h'):
  cR PG aBm #[pT c 0,p.v,.string (tx pf),.int .u64 x] h kk:=by
 apply aAp.call
 unfold aAp
 obtain⟨n,hn⟩:=zLm w.1
 have hn2:n<18446744073709551616:=by have:=w.2.1;omega
 intro r1 hr1
 try rw[eY]
 have u1:fE h (h.set r1 (.cells (Value.cells p.v) bR)):=eW.new hr1
 have B1:Bx (h.set r1 (.cells (Value.cells p.v) bR)) r1 p.cells:=Bx.new
 generalize h.set r1 (.cells (Value.cells p.v) bR)=h1 at *
 intro r3 hr3
 try rw[eY]
 have u3:fE h1 (h1.set r3 (.cells (Value.cells (.string (tx pf))) cT)):=eW.new hr3
 have B3:Bx (h1.set r3 (.cells (Value.cells (.string (tx pf))) cT)) r3 [.string (tx pf)]:=Bx.new
 generalize h1.set r3 (.cells (Value.cells (.string (tx pf))) cT)=h3 at *
 intro r5 hr5
 try rw[eY]
 have u5:fE h3 (h3.set r5 (.cells (Value.cells (.int .u64 x)) dT)):=eW.new hr5
 have B5:Bx (h3.set r5 (.cells (Value.cells (.int .u64 x)) dT)) r5 [.int .u64 x]:=Bx.new
 generalize h3.set r5 (.cells (Value.cells (.int .u64 x)) dT)=h5 at *
 have e5:=(u1.trans u3).trans u5
 have C1:=(B1.ext u3).ext u5
 have C3:=B3.ext u5
 have H5:=(jX.good c s).ext H e5
 have lx:∀{h'':PH},fE h5 h''->bT PG h'' (loadAt dT (pT r5 0))=some (.int .u64 x):=λv=>by rw[dT.load,(B5.ext v).cell];rfl
 simp only[lx eW.refl,oU,eK,reduceIte,eX,Nat.reduceAdd]
 refine aKa (f:=λroot=>aAU root pf (jF 114 p.s.toNat)) H5 rfl (λh' u root k' hk'=>?_) λh4 f1 f2 c1 c2 R1 R2 u4=>?_
 ·show cR PG aAY #[.string (tx root),pT r3 0,pT r1 0] h' k'
  apply qE.call
  unfold qE
  have lpf:∀{h'':PH},fE h' h''->bT PG h'' (loadAt cT (pT r3 0))=some (.string (tx pf)):=λv=>by rw[cT.load,((C3.ext u).ext v).cell];rfl
  have ls:bT PG h' (loadAt dT (pT r1 1))=some (.int .u64 (n:Int)):=by rw[dT.load,(C1.ext u).cell,←hn];rfl
  simp only[lpf eW.refl,bR.f1,iG,ls,eK,reduceIte,eX,Nat.reduceAdd]
  refine aI6 hn2 λh6 u6=>?_
  refine⟨lpf u6,?_⟩
  refine aTU (hK.ext ((e5.trans u).trans u6)) λh7 u7=>?_
  have:=hk' h7 (u6.trans u7)
  rw[hn] at this
  exact this
 have e4:=e5.trans u4
 simp only[eK,reduceIte,eX,Nat.reduceAdd]
 intro r13 hr13
 try rw[eY]
 have u6:fE h4 (h4.set r13 (.cells (fY PG eO) eO)):=eW.new hr13
 have Z13:=eO.zbox (h:=h4) (r:=r13)
 generalize h4.set r13 (.cells (fY PG eO) eO)=h6 at *
 intro r15 hr15
 try rw[eY]
 have u7:fE h6 (h6.set r15 (.cells (fY PG eO) eO)):=eW.new hr15
 have Z15:=eO.zbox (h:=h6) (r:=r15)
 have n1315:r13≠r15:=Z13.apart hr15
 have Y13:=Z13.ext u7
 generalize h6.set r15 (.cells (fY PG eO) eO)=h7 at *
 have k13:h4 r13=none:=hr13
 have k15:h4 r15=none:=u6.none hr15
 refine eO.put (vs:=[f1,.int .i64 11]) Y13 (o:=0) rfl (by show 0+2≤2;decide) (by simp only[jG,mD,or_false];rintro z (rfl|rfl);exact c1;rfl) λh8 B8 u8=>?_
 refine eO.put (vs:=[f2,.int .i64 9]) (Z15.upd u8 (by simpa using n1315.symm)) (o:=0) rfl (by show 0+2≤2;decide) (by simp only[jG,mD,or_false];rintro z (rfl|rfl);exact c2;rfl) λh9 B9 u9=>?_
 have e49:fE h4 h9:=((u6.trans u7).fresh u8 (gQ.one k13)).fresh u9 (gQ.one k15)
 have D13:=B8.upd u9 (by simpa using n1315)
 try simp only[oU,aJN,eK,reduceIte,eX,Nat.reduceAdd]
 intro r23 hr23
 try rw[eY]
 refine eO.fill (vs:=[.func (.func nI) #[] #[pT r5 0,pT r1 0],.int .i64 11]) hr23 rfl (by simp[iF]) λh10 B10 u10=>?_
 have e410:=e49.trans u10
 have l13:bT PG h10 (loadAt eO (pT r13 0))=some (.agg #[f1,.int .i64 11]):=eO.agg (D13.ext u10) (by show 0+2≤2;decide)
 have l15:bT PG h10 (loadAt eO (pT r15 0))=some (.agg #[f2,.int .i64 9]):=eO.agg (B9.ext u10) (by show 0+2≤2;decide)
 have l23:bT PG h10 (loadAt eO (pT r23 0))=some (.agg #[.func (.func nI) #[] #[pT r5 0,pT r1 0],.int .i64 11]):=eO.agg B10 (by show 0+2≤2;decide)
 have v510:fE h5 h10:=u4.trans e410
 have lp8:bT PG h10 (loadAt bR (pT r1 0))=some p.v:=(C1.ext v510).pk rfl
 simp only[lp8,l13,l15,l23,aV5,eK,reduceIte,eX,Nat.reduceAdd]
 intro r31 hr31
 refine iK ?_
 try rw[eY]
 obtain⟨rs,hrs⟩:∃rs:List RuV,rs=[(.func (.func nI) #[] #[pT r5 0,pT r1 0],11,decide (IntKind.u64.wrap (p.t-1)≤x)),(f1,11,(lZ s.cl x).isSome),(f2,9,aAU (qB s.cl x) pf (jF 114 p.s.toNat))]:=⟨_,rfl⟩
 have ecells:(#[.func (.func nI) #[] #[pT r5 0,pT r1 0],.int .i64 11,f1,.int .i64 11,f2,.int .i64 9]:Array Value)=(rs.map nH).flatten.toArray:=by rw[hrs];rfl
 have ers:rs.map (·.2)=qZ s p pf x:=by rw[hrs];rfl
 rw[ecells]
 have u11:fE h10 (h10.set r31 (.cells (rs.map nH).flatten.toArray eO)):=eW.new hr31
 have S11:iR (h10.set r31 (.cells (rs.map nH).flatten.toArray eO)) 2 (.slice (some ⟨r31,0,none⟩) 3 3) (rs.map nH):=(gU.lit (nH.rows rs) fP (by rw[hrs];simp) (by decide) (by simp)).slR
 generalize h10.set r31 (.cells (rs.map nH).flatten.toArray eO)=h11 at *
 have e411:=e410.trans u11
 have e11:=e4.trans e411
 have v511:=v510.trans u11
 have hrules:aG9 h11 rs:=λy hy=>by
  rw[hrs] at hy
  simp only[jG,mD,or_false] at hy
  rcases hy with rfl|rfl|rfl
  ·refine⟨rfl,λh' u k' hk'=>?_⟩
   show cR PG nI #[pT r5 0,pT r1 0] h' k'
   apply yD.call
   unfold yD
   have lt:bT PG h' (loadAt dT (pT r1 2))=some (.int .u64 p.t):=by rw[dT.load,(C1.ext (v511.trans u)).cell];rfl
   simp only[lx (v511.trans u),bR.f2,iG,lt,eK,reduceIte,eX,Nat.reduceAdd]
   exact hk' h' eW.refl
  ·exact⟨c1,R1.ext e411⟩
  ·exact⟨c2,R2.ext e411⟩
 refine aMN (hK.ext e11) ((jX.good c s).ext H e11) 4 w S11 hrules (by rw[hrs];simp) (by rw[hrs];simp) hl (λhe h' H' u'=>?_) (λhe h' F' H' s'=>?_)
 ·rw[ers] at he ⊢
  exact hbad he h' H' (e11.trans u')
 ·rw[ers] at he
  exact hk he h' F' H' ((jZ.ext e11).trans s')
end Go.Proofs.YtcoajnpchhmgjaaGreatDoor
