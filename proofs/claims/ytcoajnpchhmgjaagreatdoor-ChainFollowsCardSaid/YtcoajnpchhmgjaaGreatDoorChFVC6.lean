/- The texts of this claim, put together. -/
import Derived.Test.YtcoajnpchhmgjaaGreatDoorChFVC5
import Derived.Shelf.SlSortCmp.NoneTotal
set_option linter.unusedSimpArgs false
set_option linter.unusedVariables false
set_option linter.unusedSectionVars false
namespace Go.Proofs.YtcoajnpchhmgjaaGreatDoor
open Go Go.Sort Go.Shelf
theorem flat_rows {α : Type} [Inhabited α] (enc : α → List Value) (k : Nat) (hk0 : 0 < k) (hlen : ∀ x, (enc x).length = k) (l : List α) : (l.map enc).flatten = (flatK enc k l.toArray).toList := by
  have hr : Rows k (l.map enc) := fun r hr => by obtain ⟨x, _, rfl⟩ := List.mem_map.1 hr; exact hlen x
  apply List.ext_getElem?
  intro j
  have hfl : (l.map enc).flatten.length = l.length * k := by rw [hr.flat, List.length_map]
  by_cases hj : j < l.length * k
  · have hi : j / k < l.length := (Nat.div_lt_iff_lt_mul hk0).2 hj
    have hat := hr.at (i := j / k) (r := enc l[j / k]) (by simp [hi])
    have hc : j % k < k := Nat.mod_lt _ hk0
    have e1 : (l.map enc).flatten[j]? = (enc l[j / k])[j % k]? := by
      rw [← hat, List.getElem?_take, if_pos hc, List.getElem?_drop]
      congr 1
      rw [Nat.mul_comm]; exact (Nat.div_add_mod j k).symm
    have hs : j < (flatK enc k l.toArray).size := by rw [size_flatK]; exact hj
    have hg := get_flatK enc k l.toArray j (by simpa using hj)
    rw [getElem!_pos _ j hs] at hg
    have hle : j % k < (enc l[j / k]).length := by rw [hlen]; exact hc
    have hx : l.toArray[j / k]! = l[j / k] := by rw [getElem!_pos l.toArray (j / k) (by simpa using hi)]; rfl
    have e2 : (flatK enc k l.toArray).toList[j]? = (flatK enc k l.toArray)[j]? := by simp
    rw [e1, e2, Array.getElem?_eq_getElem hs, hg, hx, List.getElem?_eq_getElem hle, getElem!_pos (enc l[j / k]) (j % k) hle]
  · rw [List.getElem?_eq_none (by omega), Array.getElem?_toList, Array.getElem?_eq_none (by simp; omega)]
theorem take_putCells (F c : Array Value) (hle : F.size ≤ c.size) : (putCells id 0 F c).toList.take F.size = F.toList := by
  apply List.ext_getElem?
  intro j
  rw [List.getElem?_take, Array.getElem?_toList, Array.getElem?_toList]
  by_cases hj : j < F.size
  · rw [if_pos hj]
    simp only [putCells, Array.getElem?_mapIdx, Nat.zero_add, Nat.zero_le, true_and, Nat.sub_zero, hj, if_true, id]
    rw [Array.getElem?_eq_getElem (by omega), Array.getElem?_eq_getElem hj, getElem!_pos F j hj]; rfl
  · rw [if_neg hj, Array.getElem?_eq_none (by omega)]
theorem world_eq {w w' : World} (os : w'.os = w.os) (tape : w'.tape = w.tape) (output : w'.output = w.output) (drawn : w.drawn ≤ w'.drawn) (size : w.heap.size ≤ w'.heap.size) (far : ∀ b, b < w.heap.size → w'.heap[b]? = w.heap[b]?) :
    ∃ q os', w' = grow (w.drewN q) os' := by
  refine ⟨w'.drawn - w.drawn, w'.heap.extract w.heap.size w'.heap.size, ?_⟩
  cases w with | mk heap tp dr o ou => cases w' with | mk heap' tp' dr' o' ou' =>
  simp only at *
  subst os tape output
  unfold grow World.drewN
  simp only [World.mk.injEq, and_true, true_and]
  refine ⟨?_, by omega⟩
  apply Array.ext_getElem?
  intro i
  rw [Array.getElem?_append]
  split
  · rename_i hi; exact far i hi
  · rename_i hi
    rw [Array.getElem?_extract]
    split
    · congr 1; omega
    · rw [Array.getElem?_eq_none (by omega)]
theorem sortFunc_ok {P : Program} {ρ : Ren} {α : Type} [Inhabited α] (L : SlLaysF0.n6 P ρ) {f : FuncId} (hf : ρ.f 6 = f) {k : Nat} (hk0 : 0 < k) (aE : ∀ w, (isAgg (ρ.t 24)).run P w = .ok true w) (zE : ∀ w, (Go.sizeOf (ρ.t 24)).run P w = .ok k w)
    (enc : α → List Value) (hlen : ∀ x, (enc x).length = k) (h1 : ∀ x, ∀ v ∈ enc x, v.oneCell' = true) (cf : α → α → Int) (hO : SWO (ltOf cf)) {g : FuncId} (eg : enters P g = true)
    (hcmp : ∀ x y, CallsH P g #[.agg (enc x).toArray, .agg (enc y).toArray] (fun _ => none) fun v _ => v = .int .i64 (cf x y)) (hen : enters P f = true)
    {e : TypeId} {v : Value} {F : List Nat} {l : List α} {h : PH} (H : OwnR h e k v (l.map enc) F) (hsz : l.length < 4611686018427387904) {R : Value → PH → Prop}
    (hk : ∀ (l' : List α) h', l'.Perm l → l'.Pairwise (fun a b => ltOf cf b a = false) → OwnR h' e k v (l'.map enc) F → Upd F h h' → R (.tuple #[]) h') : CallsH P f #[v, .func (.func g) #[] #[]] h R := by
  subst hf
  refine .inl ⟨hen, fun w hs => ?_⟩
  have heg : ∀ (args : Array Value) (w : World), (callFunc g args).run P w = .ok (.enter g args) w := fun args w =>
    SemE.run (h := fun _ => none) (semE_enter eg) (fun _ _ hb => by cases hb)
  rcases H.here with ⟨hv, hr, hF⟩ | ⟨b, cap, cs, hv, hF, hb, hle, hcm, hcs, htk⟩
  · have hl : l = [] := List.map_eq_nil_iff.1 hr
    subst hl hv hF
    refine (AnyF.slices_SortFunc_none L none 0 _ w).mono fun e1 w' ⟨he, hw⟩ => ?_
    subst hw
    exact ⟨_, h, he, hk [] h (List.Perm.refl _) List.Pairwise.nil H Upd.refl, hs, Fr.refl _ _⟩
  · subst hF
    have hfl := flat_rows enc k hk0 hlen l
    have hrl : (l.map enc).length = l.length := List.length_map _
    rw [hrl] at hv hle htk
    have hwb := hs b _ hb
    have hblk : b < w.heap.size := hs.lt hb
    have hH : HoldsK enc k w b 0 l.toArray := by
      intro j hj
      have hj' : j < l.length * k := by simpa using hj
      have hc : cs[j]? = some ((flatK enc k l.toArray)[j]!) := by
        have e1 : cs.toList[j]? = (l.map enc).flatten[j]? := by rw [← htk, List.getElem?_take, if_pos hj']
        rw [Array.getElem?_toList] at e1
        rw [e1, hfl, Array.getElem?_toList, Array.getElem?_eq_getElem hj, getElem!_pos _ j hj]
      constructor
      · unfold World.cell?; simp only [Nat.zero_add, hwb, Option.isSome_none]; simpa using hc
      · unfold World.frozen?; simp only [hwb]; simp
    have hcm' : CmpLays P g #[] enc k cf b 0 l.toArray.size w := by
      intro m os dk _ x y
      have hc := (hcmp x y).calls eg (sortWorldK enc k w b 0 m dk os) (fun _ _ hb => by cases hb)
      refine hc.mono fun e1 w' ⟨v1, h1, he, hv1, _, fr⟩ => ⟨by rw [he, hv1], world_eq fr.os fr.tape fr.output fr.drawn fr.size fun i hi => fr.far i hi rfl⟩
    have hS := AnyQ.slices_SortFunc L k aE zE enc hlen h1 cf hO g #[] b 0 cap l.toArray w heg hcm' hH hblk (by simpa using hsz)
    subst hv
    have hz : l.toArray.size = l.length := by simp
    rw [hz] at hS
    refine hS.mono fun e1 w' ⟨he, d', n, os, hp, hso, hw⟩ => ?_
    obtain ⟨hps, _, hpp⟩ := hp
    have hds : d'.toList.length = l.length := by simpa using hps
    let c' := putCells id 0 (flatK enc k d') cs
    have hmod : ∀ i, w'.heap[i]? = if i < w.heap.size then (if i = b then some (.cells c' e (0, 0)) else w.heap[i]?) else os[i - w.heap.size]? := by
      intro i
      subst hw
      show ((w.heap.modify b (onCells (putCells id 0 (flatK enc k d')))) ++ os)[i]? = _
      rw [Array.getElem?_append, Array.size_modify, Array.getElem?_modify]
      by_cases hi : i < w.heap.size
      · rw [if_pos hi, if_pos hi]
        by_cases hib : i = b
        · subst hib; rw [if_pos rfl, if_pos rfl, hwb]; rfl
        · rw [if_neg (Ne.symm hib), if_neg hib]
      · rw [if_neg hi, if_neg hi]
    have hsub : Sub (h.set b (.cells c' e (0, 0))) w' := by
      intro i o hi
      rw [hmod]
      unfold PH.set at hi
      split at hi
      · rename_i e1; subst e1; rw [if_pos hblk, if_pos rfl]; exact hi
      · rename_i e1; rw [if_pos (hs.lt hi), if_neg e1]; exact hs _ _ hi
    have hfr : Fr h w (h.set b (.cells c' e (0, 0))) w' := by
      subst hw
      refine ⟨rfl, rfl, rfl, ?_, ?_, fun i hi hn => ?_, fun i hi hn => ?_⟩
      · show w.drawn ≤ w.drawn + n; omega
      · show w.heap.size ≤ ((w.heap.modify b _) ++ os).size; simp
      · rw [hmod, if_pos hi, if_neg (fun e1 => by subst e1; rw [hb] at hn; cases hn)]
      · rw [set_other (fun e1 => by subst e1; rw [hb] at hn; cases hn)]; exact hn
    refine ⟨_, _, he, hk d'.toList _ ?_ ?_ ⟨fun r hr => ?_, .inr ⟨b, cap, c', ?_, rfl, set_same, ?_, hcm, ?_, ?_⟩⟩ (Upd.set (by simp)), hsub, hfr⟩
    · have e1 : d'.extract 0 l.length = d' := by rw [← hz, ← hps]; simp
      have e2 : l.toArray.extract 0 l.length = l.toArray := by rw [← hz]; simp
      rw [e1, e2] at hpp
      simpa using hpp
    · rw [List.pairwise_iff_getElem]
      intro i j hi hj hij
      have := hso i j (Nat.zero_le _) hij (by rw [← hz, ← hps]; simpa using hj)
      rw [getElem!_pos d' i (by simpa using hi), getElem!_pos d' j (by simpa using hj)] at this
      simpa using this
    · obtain ⟨x, _, rfl⟩ := List.mem_map.1 hr; exact hlen x
    · rw [List.length_map, hds]
    · rw [List.length_map, hds]; exact hle
    · show (putCells id 0 (flatK enc k d') cs).size = _
      unfold putCells
      rw [Array.size_mapIdx]; exact hcs
    · rw [List.length_map, hds]
      have hfd := flat_rows enc k hk0 hlen d'.toList
      rw [hfd]
      have hsz2 : (flatK enc k d').size = l.length * k := by rw [size_flatK, hps, hz]
      have := take_putCells (flatK enc k d') cs (by rw [hsz2, hcs]; exact Nat.mul_le_mul_right _ hle)
      rw [hsz2] at this
      simpa using this
end Go.Proofs.YtcoajnpchhmgjaaGreatDoor
namespace Go.Proofs.YtcoajnpchhmgjaaGreatDoor
open Go Go.Shelf
def sortLay_ren : Go.Shelf.Ren := ⟨fun | 6 => 58 | 15 => 131 | 14 => 130 | 28 => 190 | 29 => 191 | 20 => 182 | 21 => 183 | 22 => 184 | 23 => 185 | 24 => 186 | 25 => 187 | 26 => 188 | 27 => 189 | 46 => 215 | 47 => 216 | 48 => 217 | 49 => 218 | 50 => 219 | 57 => 235 | n => n, fun | 22 => 90 | 24 => 133 | 25 => 144 | 3 => 3 | 39 => 209 | 0 => 0 | 53 => 216 | 55 => 22 | 4 => 4 | 46 => 256 | 45 => 255 | 50 => 180 | 5 => 5 | 9 => 9 | 66 => 285 | 70 => 288 | 76 => 307 | 77 => 308 | n => n, fun | n => n⟩
theorem sortLay : Go.Proofs.SlLaysF0.n6 Tryz.prog sortLay_ren := {
  mixed := by kernel_rfl
  f6 := ⟨Tryz.f58.name, by decide, Tryz.func58.trans (congrArg some (by kernel_rfl))⟩
  f14 := ⟨Tryz.f130.name, by decide, Tryz.func130.trans (congrArg some (by kernel_rfl))⟩
  f15 := Tryz.func131.trans (congrArg some (by kernel_rfl))
  f20 := ⟨Tryz.f182.name, by decide, Tryz.func182.trans (congrArg some (by kernel_rfl))⟩
  f21 := ⟨Tryz.f183.name, by decide, Tryz.func183.trans (congrArg some (by kernel_rfl))⟩
  f22 := ⟨Tryz.f184.name, by decide, Tryz.func184.trans (congrArg some (by kernel_rfl))⟩
  f23 := ⟨Tryz.f185.name, by decide, Tryz.func185.trans (congrArg some (by kernel_rfl))⟩
  f24 := ⟨Tryz.f186.name, by decide, Tryz.func186.trans (congrArg some (by kernel_rfl))⟩
  f25 := ⟨Tryz.f187.name, by decide, Tryz.func187.trans (congrArg some (by kernel_rfl))⟩
  f26 := ⟨Tryz.f188.name, by decide, Tryz.func188.trans (congrArg some (by kernel_rfl))⟩
  f27 := ⟨Tryz.f189.name, by decide, Tryz.func189.trans (congrArg some (by kernel_rfl))⟩
  f28 := Tryz.func190.trans (congrArg some (by kernel_rfl))
  f29 := Tryz.func191.trans (congrArg some (by kernel_rfl))
  f46 := ⟨Tryz.f215.name, by decide, Tryz.func215.trans (congrArg some (by kernel_rfl))⟩
  f47 := Tryz.func216.trans (congrArg some (by kernel_rfl))
  f48 := Tryz.func217.trans (congrArg some (by kernel_rfl))
  f49 := ⟨Tryz.f218.name, by decide, Tryz.func218.trans (congrArg some (by kernel_rfl))⟩
  f50 := ⟨Tryz.f219.name, by decide, Tryz.func219.trans (congrArg some (by kernel_rfl))⟩
  f57 := ⟨Tryz.f235.name, by decide, Tryz.func235.trans (congrArg some (by kernel_rfl))⟩
  t0 := Tryz.underlying0
  a0 := Tryz.isAgg0
  z0 := Tryz.sizeOf0
  v0 := Tryz.zeroValue0
  t3 := Tryz.underlying3
  a3 := Tryz.isAgg3
  z3 := Tryz.sizeOf3
  v3 := Tryz.zeroValue3
  t4 := Tryz.underlying4
  a4 := Tryz.isAgg4
  z4 := Tryz.sizeOf4
  v4 := Tryz.zeroValue4
  t5 := Tryz.underlying5
  a5 := Tryz.isAgg5
  z5 := Tryz.sizeOf5
  v5 := Tryz.zeroValue5
  t9 := Tryz.underlying9
  a9 := Tryz.isAgg9
  z9 := Tryz.sizeOf9
  v9 := Tryz.zeroValue9
  t22 := Tryz.underlying90
  a22 := Tryz.isAgg90
  z22 := Tryz.sizeOf90
  v22 := Tryz.zeroValue90
  t25 := Tryz.underlying144
  a25 := Tryz.isAgg144
  z25 := Tryz.sizeOf144
  v25 := Tryz.zeroValue144
  t39 := Tryz.underlying209
  a39 := Tryz.isAgg209
  z39 := Tryz.sizeOf209
  v39 := Tryz.zeroValue209
  t45 := Tryz.underlying255
  a45 := Tryz.isAgg255
  z45 := Tryz.sizeOf255
  v45 := Tryz.zeroValue255
  t46 := Tryz.underlying256
  a46 := Tryz.isAgg256
  z46 := Tryz.sizeOf256
  v46 := Tryz.zeroValue256
  t50 := Tryz.underlying180
  a50 := Tryz.isAgg180
  z50 := Tryz.sizeOf180
  v50 := Tryz.zeroValue180
  t53 := Tryz.underlying216
  a53 := Tryz.isAgg216
  z53 := Tryz.sizeOf216
  v53 := Tryz.zeroValue216
  t55 := Tryz.underlying22
  a55 := Tryz.isAgg22
  z55 := Tryz.sizeOf22
  v55 := Tryz.zeroValue22
  t66 := Tryz.underlying285
  a66 := Tryz.isAgg285
  z66 := Tryz.sizeOf285
  v66 := Tryz.zeroValue285
  t70 := Tryz.underlying288
  a70 := Tryz.isAgg288
  z70 := Tryz.sizeOf288
  v70 := Tryz.zeroValue288
  t76 := Tryz.underlying307
  a76 := Tryz.isAgg307
  z76 := Tryz.sizeOf307
  v76 := Tryz.zeroValue307
  t77 := Tryz.underlying308
  a77 := Tryz.isAgg308
  z77 := Tryz.sizeOf308
  v77 := Tryz.zeroValue308 }
theorem pairAgg (w : World) : (isAgg (sortLay_ren.t 24)).run PG w = .ok true w := Tryz.isAgg133 w
theorem pairSize (w : World) : (Go.sizeOf (sortLay_ren.t 24)).run PG w = .ok 2 w := Tryz.sizeOf133 w
end Go.Proofs.YtcoajnpchhmgjaaGreatDoor
namespace Go.Proofs.YtcoajnpchhmgjaaGreatDoor
open Go Bld Go.Sort Go.Shelf
set_option maxRecDepth 20000
def cfP (p q : Pr) : Int := if p.k < q.k then -1 else if q.k < p.k then 1 else 0
theorem Compare_ok {h : PH} {a b : Tx} {k : Value → PH → Prop} (hk : k (.int .i64 (if a < b then -1 else if b < a then 1 else 0)) h) : CallsH PG id_cmp_Compare_string #[.string (tx a), .string (tx b)] h k := by
  apply cmp_Compare_string.call
  unfold cmp_Compare_string
  apply cmp_isNaN_string.call
  unfold cmp_isNaN_string
  simp only [neqStr, decide_true, zSS, reduceIte]
  apply cmp_isNaN_string.call
  unfold cmp_isNaN_string
  simp only [neqStr, decide_true, zSS, reduceIte]
  by_cases h1 : a < b
  · rw [if_pos h1] at hk
    simp only [lss_tx, h1, zSS, reduceIte]
    exact hk
  · rw [if_neg h1] at hk
    by_cases h2 : b < a
    · rw [if_pos h2] at hk
      simp only [lss_tx, gtr_tx, h1, h2, zSS, reduceIte]
      exact hk
    · rw [if_neg h2] at hk
      simp only [lss_tx, gtr_tx, h1, h2, zSS, reduceIte]
      exact hk
theorem pless_ok (p q : Pr) {h : PH} {k : Value → PH → Prop} (hk : ∀ h', Ext h h' → k (.int .i64 (cfP p q)) h') : CallsH PG id_store_Store_Commit_1 #[p.val, q.val] h k := by
  apply store_Store_Commit_1.call
  unfold store_Store_Commit_1
  rw [pairBox, pairBox]
  intro r1 hr1
  try rw [bindH_eq]
  have u1 : Ext h (h.set r1 (.cells #[.string (tx p.k), .string (tx p.v)] T_api_Pair)) := Upd.new hr1
  have a1 : (h.set r1 (.cells #[.string (tx p.k), .string (tx p.v)] T_api_Pair)) r1 = some (.cells #[.string (tx p.k), .string (tx p.v)] T_api_Pair (0, 0)) := set_same
  generalize h.set r1 (.cells #[.string (tx p.k), .string (tx p.v)] T_api_Pair) = h1 at *
  intro r2 hr2
  try rw [bindH_eq]
  have u2 : Ext h1 (h1.set r2 (.cells #[.string (tx q.k), .string (tx q.v)] T_api_Pair)) := Upd.new hr2
  have a2 : (h1.set r2 (.cells #[.string (tx q.k), .string (tx q.v)] T_api_Pair)) r2 = some (.cells #[.string (tx q.k), .string (tx q.v)] T_api_Pair (0, 0)) := set_same
  generalize h1.set r2 (.cells #[.string (tx q.k), .string (tx q.v)] T_api_Pair) = h2 at *
  have b1 := u2.get a1
  have c0 : cellH h2 ⟨r1, 0, none⟩ = some (.string (tx p.k)) := by simp [cellH, b1]
  have c1 : cellH h2 ⟨r2, 0, none⟩ = some (.string (tx q.k)) := by simp [cellH, a2]
  simp only [T_api_Pair.f0, T_string.load, c0, c1, zSS, reduceIte]
  exact Compare_ok (hk _ (u1.trans u2))
theorem pltOf_eq (a b : Pr) : ltOf cfP a b = decide (a.k < b.k) := by
  unfold ltOf cfP
  by_cases h1 : a.k < b.k
  · simp [h1]
  · by_cases h2 : b.k < a.k
    · simp [h1, h2]
    · simp [h1, h2]
theorem tx_ntrans {x y z : Tx} (h1 : ¬ x < y) (h2 : ¬ y < z) : ¬ x < z := by
  intro h
  rcases tx_total x y with h3 | rfl | h3
  · exact h1 h3
  · exact h2 h
  · exact h2 (List.lt_trans h3 h)
theorem swoP : SWO (ltOf cfP) where
  irrefl x := by rw [pltOf_eq]; simp [List.lt_irrefl]
  trans x y z h1 h2 := by
    rw [pltOf_eq] at *
    simp only [decide_eq_true_eq] at *
    exact List.lt_trans h1 h2
  ntrans x y z h1 h2 := by
    rw [pltOf_eq] at *
    simp only [decide_eq_false_iff_not] at *
    exact tx_ntrans h1 h2
instance : Inhabited Pr := ⟨⟨[], []⟩⟩
theorem PSort_ok {h : PH} {v : Value} {F : List Nat} {l : List Pr} (H : OwnR h T_api_Pair 2 v (l.map Pr.cells) F) (hl : l.length ≤ 1000000) {k : Value → PH → Prop}
    (hk : ∀ (l' : List Pr) h', l'.Perm l → l'.Pairwise (fun a b => ¬ b.k < a.k) → OwnR h' T_api_Pair 2 v (l'.map Pr.cells) F → Upd F h h' → k (.tuple #[]) h') :
    CallsH PG id_slices_SortFunc_sl_api_Pair_api_Pair #[v, .func (.func id_store_Store_Commit_1) #[] #[]] h k := by
  refine sortFunc_ok (P := PG) sortLay (f := id_slices_SortFunc_sl_api_Pair_api_Pair) rfl (k := 2) (by decide) pairAgg pairSize Pr.cells (fun _ => rfl) (fun x v hv => ?_) cfP swoP (g := id_store_Store_Commit_1) (by kernel_rfl)
    (fun x y => pless_ok x y fun h' _ => rfl) (by kernel_rfl) H (by omega) (fun l' h' hp hs hO u => hk l' h' hp ?_ hO u)
  · simp only [Pr.cells, List.mem_cons, List.not_mem_nil, or_false] at hv
    rcases hv with rfl | rfl <;> rfl
  · refine hs.imp fun {a b} hab => ?_
    rw [pltOf_eq] at hab
    simpa using hab
end Go.Proofs.YtcoajnpchhmgjaaGreatDoor
namespace Go.Proofs.YtcoajnpchhmgjaaGreatDoor
open Go Bld
set_option maxRecDepth 20000
def SUp (l : List Pr) : Prop := l.Pairwise fun a b => a.k < b.k
def ssetL (L : List Pr) (p : Pr) : List Pr := L.filter (fun q => decide (q.k < p.k)) ++ p :: L.filter (fun q => decide (p.k < q.k))
def sdelL (L : List Pr) (k : Tx) : List Pr := L.filter fun q => decide (q.k ≠ k)
def sgetL (L : List Pr) (k : Tx) : Option Pr := L.find? fun q => decide (k = q.k)
theorem SUp.irr {L : List Pr} (h : SUp L) : L.Nodup := by
  refine List.Pairwise.imp (fun {a b} hab => ?_) h
  rintro rfl
  exact List.lt_irrefl _ hab
theorem SUp.keys {L : List Pr} (h : SUp L) : (L.map Pr.k).Nodup := by
  unfold List.Nodup
  rw [List.pairwise_map]
  refine List.Pairwise.imp (fun {a b} hab e => ?_) h
  rw [e] at hab
  exact List.lt_irrefl _ hab
theorem SUp.ext {A B : List Pr} (ha : SUp A) (hb : SUp B) (h : ∀ p, p ∈ A ↔ p ∈ B) : A = B := by
  have hp : A.Perm B := (List.perm_ext_iff_of_nodup ha.irr hb.irr).2 h
  unfold SUp at ha hb
  exact List.Perm.eq_of_pairwise (le := fun a b : Pr => a.k < b.k) (fun a b _ _ (h1 : a.k < b.k) h2 => absurd h2 (List.lt_asymm h1)) ha hb hp
theorem SUp.one {L : List Pr} (h : SUp L) {p q : Pr} (hp : p ∈ L) (hq : q ∈ L) (e : p.k = q.k) : p = q := nodup_inj h.keys hp hq e
theorem smem_setL {L : List Pr} {p q : Pr} : q ∈ ssetL L p ↔ q = p ∨ (q ∈ L ∧ q.k ≠ p.k) := by
  unfold ssetL
  simp only [List.mem_append, List.mem_cons, List.mem_filter, decide_eq_true_eq]
  constructor
  · rintro (⟨h1, h2⟩ | rfl | ⟨h1, h2⟩)
    · exact .inr ⟨h1, fun e => by rw [e] at h2; exact List.lt_irrefl _ h2⟩
    · exact .inl rfl
    · exact .inr ⟨h1, fun e => by rw [e] at h2; exact List.lt_irrefl _ h2⟩
  · rintro (rfl | ⟨h1, h2⟩)
    · exact .inr (.inl rfl)
    · rcases tx_total q.k p.k with h | h | h
      · exact .inl ⟨h1, h⟩
      · exact absurd h h2
      · exact .inr (.inr ⟨h1, h⟩)
theorem smem_delL {L : List Pr} {k : Tx} {q : Pr} : q ∈ sdelL L k ↔ q ∈ L ∧ q.k ≠ k := by
  unfold sdelL
  simp [List.mem_filter]
theorem SUp.del {L : List Pr} (h : SUp L) (k : Tx) : SUp (sdelL L k) := List.Pairwise.filter _ h
theorem SUp.set {L : List Pr} (h : SUp L) (p : Pr) : SUp (ssetL L p) := by
  unfold ssetL SUp
  rw [List.pairwise_append, List.pairwise_cons]
  refine ⟨List.Pairwise.filter _ h, ⟨fun q hq => ?_, List.Pairwise.filter _ h⟩, fun a ha b hb => ?_⟩
  · simpa using (List.mem_filter.1 hq).2
  · have h1 : a.k < p.k := by simpa using (List.mem_filter.1 ha).2
    rcases List.mem_cons.1 hb with rfl | hb
    · exact h1
    · have h2 : p.k < b.k := by simpa using (List.mem_filter.1 hb).2
      exact List.lt_trans h1 h2
theorem sgetL_none {L : List Pr} {k : Tx} : sgetL L k = none ↔ ∀ p ∈ L, p.k ≠ k := by
  unfold sgetL
  rw [List.find?_eq_none]
  simp only [decide_eq_true_eq]
  exact ⟨fun h p hp e => h p hp e.symm, fun h p hp e => h p hp e.symm⟩
theorem sgetL_some {L : List Pr} (h : SUp L) {k : Tx} {p : Pr} : sgetL L k = some p ↔ p ∈ L ∧ p.k = k := by
  constructor
  · intro e
    have h1 := List.mem_of_find?_eq_some e
    have h2 := List.find?_some e
    exact ⟨h1, by simpa using Eq.symm (by simpa using h2)⟩
  · rintro ⟨h1, h2⟩
    cases e : sgetL L k with
    | none => exact absurd h2 (sgetL_none.1 e p h1)
    | some q =>
      have h3 := List.mem_of_find?_eq_some e
      have h4 : k = q.k := by simpa using List.find?_some e
      rw [h.one h3 h1 (by rw [h2]; exact h4.symm)]
theorem sgetL_perm {l L : List Pr} (hp : l.Perm L) (hn : SUp L) (k : Tx) : sgetL l k = sgetL L k := by
  have hnl : (l.map Pr.k).Nodup := (hp.map Pr.k).nodup_iff.2 hn.keys
  cases e : sgetL L k with
  | none =>
    rw [sgetL_none] at e ⊢
    exact fun p h => e p (hp.mem_iff.1 h)
  | some q =>
    obtain ⟨h1, h2⟩ := (sgetL_some hn).1 e
    cases e2 : sgetL l k with
    | none => exact absurd h2 (sgetL_none.1 e2 q (hp.mem_iff.2 h1))
    | some r =>
      have h3 := List.mem_of_find?_eq_some e2
      have h4 : k = r.k := by simpa using List.find?_some e2
      rw [nodup_inj hnl h3 (hp.mem_iff.2 h1) (by rw [h2]; exact h4.symm)]
def Pr.pr (p : Pr) : Tx × Value := (p.k, skey p.v)
abbrev SMAt (h : PH) (m : Nat) (l : List Pr) : Prop := MapAt skey h m (l.map Pr.pr)
theorem sgetM_pr (l : List Pr) (k : Tx) : getM (l.map Pr.pr) k = (sgetL l k).map fun p => skey p.v := by
  unfold getM sgetL
  rw [List.find?_map, Option.map_map]
  rfl
theorem sdel_pr (l : List Pr) (k : Tx) : delM (l.map Pr.pr) k = (sdelL l k).map Pr.pr := by
  unfold delM sdelL
  rw [List.filter_map]; rfl
theorem keys_pr (l : List Pr) : keysM (l.map Pr.pr) = l.map Pr.k := by unfold keysM; rw [List.map_map]; rfl
theorem sput_perm {l L : List Pr} (hp : l.Perm L) (hs : SUp L) (p : Pr) : ∃ l' : List Pr, putM (l.map Pr.pr) p.k (skey p.v) = l'.map Pr.pr ∧ l'.Perm (ssetL L p) := by
  have hnl : (l.map Pr.k).Nodup := (hp.map Pr.k).nodup_iff.2 hs.keys
  have hnd : l.Nodup := nodup_of_map Pr.k hnl
  unfold putM
  rw [keys_pr]
  split
  · rename_i hm
    refine ⟨l.map fun q => if q.k = p.k then p else q, ?_, ?_⟩
    · rw [List.map_map, List.map_map]
      apply List.map_congr_left
      intro x _
      show (if x.k = p.k then (p.k, skey p.v) else (x.k, skey x.v)) = Pr.pr (if x.k = p.k then p else x)
      by_cases hc : x.k = p.k
      · rw [if_pos hc, if_pos hc]; rfl
      · rw [if_neg hc, if_neg hc]; rfl
    · have hk : (l.map fun q => if q.k = p.k then p else q).map Pr.k = l.map Pr.k := by
        rw [List.map_map]
        apply List.map_congr_left
        intro x _
        show (if x.k = p.k then p else x).k = x.k
        split
        · rename_i e; exact e.symm
        · rfl
      have hn2 : (l.map fun q => if q.k = p.k then p else q).Nodup := nodup_of_map Pr.k (by rw [hk]; exact hnl)
      refine (List.perm_ext_iff_of_nodup hn2 (hs.set p).irr).2 fun q => ?_
      rw [smem_setL, List.mem_map]
      constructor
      · rintro ⟨x, hx, e⟩
        by_cases hc : x.k = p.k
        · rw [if_pos hc] at e; exact .inl e.symm
        · rw [if_neg hc] at e; subst e; exact .inr ⟨hp.mem_iff.1 hx, hc⟩
      · rintro (rfl | ⟨h1, h2⟩)
        · obtain ⟨x, hx, e⟩ := List.mem_map.1 hm
          exact ⟨x, hx, by rw [if_pos e]⟩
        · exact ⟨q, hp.mem_iff.2 h1, by rw [if_neg h2]⟩
  · rename_i hm
    refine ⟨l ++ [p], by rw [List.map_append]; rfl, ?_⟩
    have hno : ∀ x ∈ l, x.k ≠ p.k := fun x hx e => hm (by rw [← e]; exact List.mem_map_of_mem hx)
    have hn2 : (l ++ [p]).Nodup := by
      rw [List.nodup_append]
      refine ⟨hnd, by simp, fun a ha b hb e => ?_⟩
      simp only [List.mem_singleton] at hb
      subst hb; subst e
      exact hno _ ha rfl
    refine (List.perm_ext_iff_of_nodup hn2 (hs.set p).irr).2 fun q => ?_
    rw [smem_setL, List.mem_append, List.mem_singleton]
    constructor
    · rintro (h1 | rfl)
      · exact .inr ⟨hp.mem_iff.1 h1, hno q h1⟩
      · exact .inl rfl
    · rintro (rfl | ⟨h1, h2⟩)
      · exact .inr rfl
      · exact .inl (hp.mem_iff.2 h1)
theorem slook_eq {h : PH} {m : Nat} {l : List Pr} (hm : SMAt h m l) (k : Tx) : SemE PG h (Instr.lookup T_map_string_string (.map (some m)) (.string (tx k)) true) = some (.tuple #[.string (tx (((sgetL l k).map Pr.v).getD [])), .bool (sgetL l k).isSome]) := by
  have := look_found skeyed T_map_string_string.und T_string.info T_string.zero hm k true
  rw [sgetM_pr] at this
  rw [show (.string (tx k) : Value) = skey k from rfl, this]
  cases sgetL l k <;> rfl
structure St where
  now : List Pr
  blocks : List (List Pr)
  height : Nat
def sSet (s : St) (k v : Tx) : St × Int :=
  if k.length < 1 ∨ 16 < k.length ∨ 64 < v.length then (s, 1) else if sgetL s.now k = none ∧ 4096 ≤ s.now.length then (s, 2) else ({ s with now := ssetL s.now ⟨k, v⟩ }, 0)
def sDel (s : St) (k : Tx) : St × Int := if sgetL s.now k = none then (s, 3) else ({ s with now := sdelL s.now k }, 0)
def sCom (s : St) : St × (Nat × Int) :=
  if s.height = 18446744073709551615 then (s, (0, 12)) else if 4096 ≤ s.blocks.length then (s, (0, 2)) else ({ s with blocks := s.blocks ++ [s.now], height := s.height + 1 }, (s.height + 1, 0))
def sAt (s : St) (x : Nat) : Option (List Pr) := if s.height < x ∨ s.blocks.length ≤ s.height - x then none else s.blocks[s.blocks.length - 1 - (s.height - x)]?
structure St.Ok (s : St) : Prop where
  up : SUp s.now
  fit : ∀ p ∈ s.now, SFit p
  few : s.now.length ≤ 4096
  blk : ∀ b ∈ s.blocks, SUp b ∧ (∀ p ∈ b, SFit p) ∧ b.length ≤ 4096
  h1 : 1 ≤ s.blocks.length
  h2 : s.blocks.length ≤ 4096
  h3 : s.blocks.length - 1 ≤ s.height
  h4 : s.height < 18446744073709551616
end Go.Proofs.YtcoajnpchhmgjaaGreatDoor
namespace Go.Proofs.YtcoajnpchhmgjaaGreatDoor
open Go
set_option maxRecDepth 20000
structure Pf where
  ab : Bool
  lv : List Lf
  deriving DecidableEq
def Pf.zero : Pf := ⟨false, []⟩
def Lf.okb (f : Lf) : Bool := decide (0 ≤ f.i) && decide (f.i ≤ 4096) && decide (0 ≤ f.n) && decide (f.n ≤ 4096) && decide (f.p.k.length ≤ 16) && decide (f.p.v.length ≤ 64) && decide (f.path.length ≤ 16) && f.path.all fun d => decide (d.length = 32)
structure Lf.Ok (f : Lf) : Prop where
  i0 : 0 ≤ f.i
  i1 : f.i ≤ 4096
  n0 : 0 ≤ f.n
  n1 : f.n ≤ 4096
  k : f.p.k.length ≤ 16
  v : f.p.v.length ≤ 64
  m : f.path.length ≤ 16
  d : ∀ d ∈ f.path, d.length = 32
theorem Lf.ok_iff {f : Lf} : f.okb = true ↔ f.Ok := by
  unfold Lf.okb
  simp only [Bool.and_eq_true, decide_eq_true_eq, List.all_eq_true]
  constructor
  · rintro ⟨⟨⟨⟨⟨⟨⟨a, b⟩, c⟩, d⟩, e⟩, g⟩, h⟩, i⟩
    exact ⟨a, b, c, d, e, g, h, i⟩
  · rintro ⟨a, b, c, d, e, g, h, i⟩
    exact ⟨⟨⟨⟨⟨⟨⟨a, b⟩, c⟩, d⟩, e⟩, g⟩, h⟩, i⟩
def lfBs (f : Lf) : Tx := be f.i.toNat 8 ++ (be f.n.toNat 8 ++ ((be f.p.k.length 2 ++ f.p.k) ++ ((be f.p.v.length 2 ++ f.p.v) ++ (be f.path.length 1 ++ f.path.flatten))))
def lfsBs : List Lf → Tx
  | [] => []
  | f :: l => lfBs f ++ lfsBs l
def pfBs (p : Pf) : Tx := be (if p.ab then 2 else 1) 1 ++ (be p.lv.length 1 ++ lfsBs p.lv)
def pfBytes (p : Pf) : Tx × Int := if p.lv.length ≤ 2 ∧ p.lv.all Lf.okb = true then (pfBs p, 0) else ([], 1)
def rSmall (st : Stt) : Nat × Stt := if 4096 < (rGet st 8).1 then (0, rFail (rGet st 8).2 5) else rGet st 8
def rPath : Nat → Stt → List Tx → List Tx × Stt
  | 0, st, acc => (acc, st)
  | n + 1, st, acc => if st.1 = 0 then rPath n (rRaw st 32).2 (acc ++ [(rRaw st 32).1]) else (acc, st)
def rLf1 (st : Stt) : Lf × Stt :=
  let a := rSmall st
  let b := rSmall a.2
  let k := rText b.2
  let v := rText k.2
  let c := rGet v.2 1
  let m := rPath c.1 c.2 []
  (⟨(a.1 : Int), (b.1 : Int), ⟨k.1, v.1⟩, m.1⟩, m.2)
def rLeaf (st : Stt) : Lf × Stt := ((rLf1 st).1, if (rLf1 st).1.okb then (rLf1 st).2 else rFail (rLf1 st).2 5)
def rLeaves : Nat → Stt → List Lf → List Lf × Stt
  | 0, st, acc => (acc, st)
  | n + 1, st, acc => rLeaves n (rLeaf st).2 (acc ++ [(rLeaf st).1])
def parsePf (s : Tx) : Pf × Int :=
  if (rGet (0, s) 1).1 < 1 ∨ 2 < (rGet (0, s) 1).1 ∨ 2 < (rGet (rGet (0, s) 1).2 1).1 then (Pf.zero, 5)
  else if rEnd (rLeaves (rGet (rGet (0, s) 1).2 1).1 (rGet (rGet (0, s) 1).2 1).2 []).2 ≠ 0 then (Pf.zero, 5)
  else (⟨decide ((rGet (0, s) 1).1 = 2), (rLeaves (rGet (rGet (0, s) 1).2 1).1 (rGet (rGet (0, s) 1).2 1).2 []).1⟩, 0)
theorem Reads.fwd {α : Type} {R : Stt → α × Stt} {bs : Tx} {v : α} (h : Reads R bs v) (r : Tx) : R (0, bs ++ r) = (v, (0, r)) := h.all r
theorem rSmall_fwd {n : Nat} (hn : n ≤ 4096) (r : Tx) : rSmall (0, be n 8 ++ r) = (n, (0, r)) := by
  unfold rSmall
  rw [(rGet_reads (n := n) (c := 8) (by omega)).fwd r, if_neg (by simp only; omega)]
theorem rPath_fwd : ∀ (path acc : List Tx) (r : Tx), (∀ d ∈ path, d.length = 32) → rPath path.length (0, path.flatten ++ r) acc = (acc ++ path, (0, r))
  | [], acc, r, _ => by simp [rPath]
  | d :: path, acc, r, h => by
    have hd := h d (by simp)
    have e : rRaw (0, d ++ (path.flatten ++ r)) 32 = (d, (0, path.flatten ++ r)) := by
      have := (rRaw_reads d).fwd (path.flatten ++ r)
      rw [hd] at this
      exact this
    rw [List.length_cons, List.flatten_cons, List.append_assoc, rPath, if_pos rfl, e]
    simp only
    rw [rPath_fwd path (acc ++ [d]) r (fun x hx => h x (by simp [hx])), List.append_assoc]
    rfl
theorem rLeaf_fwd {f : Lf} (h : f.Ok) (r : Tx) : rLeaf (0, lfBs f ++ r) = (f, (0, r)) := by
  have e1 : rLf1 (0, lfBs f ++ r) = (f, (0, r)) := by
    obtain ⟨i, n, p, path⟩ := f
    obtain ⟨i0, i1, n0, n1, k, v, m, d⟩ := h
    simp only at i0 i1 n0 n1 k v m d
    obtain ⟨i, rfl⟩ := Int.eq_ofNat_of_zero_le i0
    obtain ⟨n, rfl⟩ := Int.eq_ofNat_of_zero_le n0
    unfold rLf1 lfBs
    simp only [Int.toNat_natCast, List.append_assoc]
    rw [rSmall_fwd (by omega)]
    simp only
    rw [rSmall_fwd (by omega)]
    simp only
    rw [show be p.k.length 2 ++ (p.k ++ (be p.v.length 2 ++ (p.v ++ (be path.length 1 ++ (path.flatten ++ r))))) = (be p.k.length 2 ++ p.k) ++ (be p.v.length 2 ++ (p.v ++ (be path.length 1 ++ (path.flatten ++ r)))) by rw [List.append_assoc],
      (rText_reads (l := p.k) (by omega)).fwd]
    simp only
    rw [show be p.v.length 2 ++ (p.v ++ (be path.length 1 ++ (path.flatten ++ r))) = (be p.v.length 2 ++ p.v) ++ (be path.length 1 ++ (path.flatten ++ r)) by rw [List.append_assoc],
      (rText_reads (l := p.v) (by omega)).fwd]
    simp only
    rw [(rGet_reads (n := path.length) (c := 1) (by omega)).fwd]
    simp only
    rw [rPath_fwd path [] r d]
    rfl
  unfold rLeaf
  rw [e1, if_pos (Lf.ok_iff.2 h)]
theorem rLeaves_fwd : ∀ (l acc : List Lf) (r : Tx), (∀ f ∈ l, f.Ok) → rLeaves l.length (0, lfsBs l ++ r) acc = (acc ++ l, (0, r))
  | [], acc, r, _ => by simp [rLeaves, lfsBs]
  | f :: l, acc, r, h => by
    rw [List.length_cons, lfsBs, List.append_assoc, rLeaves, rLeaf_fwd (h f (by simp))]
    simp only
    rw [rLeaves_fwd l (acc ++ [f]) r (fun x hx => h x (by simp [hx])), List.append_assoc]
    rfl
theorem parse_pf {p : Pf} (h2 : p.lv.length ≤ 2) (h : ∀ f ∈ p.lv, f.Ok) : parsePf (pfBs p) = (p, 0) := by
  have e1 : rGet (0, pfBs p) 1 = ((if p.ab then 2 else 1), (0, be p.lv.length 1 ++ lfsBs p.lv)) := by
    unfold pfBs
    exact (rGet_reads (n := if p.ab then 2 else 1) (c := 1) (by split <;> decide)).fwd _
  have e2 : rGet (0, be p.lv.length 1 ++ lfsBs p.lv) 1 = (p.lv.length, (0, lfsBs p.lv)) := (rGet_reads (n := p.lv.length) (c := 1) (by omega)).fwd _
  have e3 : rLeaves p.lv.length (0, lfsBs p.lv) [] = (p.lv, (0, [])) := by
    have := rLeaves_fwd p.lv [] [] h
    rw [List.append_nil, List.nil_append] at this
    exact this
  unfold parsePf
  rw [e1]
  simp only
  rw [e2]
  simp only
  rw [e3, if_neg (by cases p.ab <;> simp <;> omega), if_neg (by simp [rEnd])]
  obtain ⟨ab, lv⟩ := p
  cases ab <;> rfl
def placeP (l : List Pr) (k : Tx) : Nat := (l.filter fun q => decide (q.k < k)).length
def leafOf (l : List Pr) (j : Nat) : Lf := ⟨(j : Int), (l.length : Int), l.getD j ⟨[], []⟩, pathP l j⟩
def proofP (l : List Pr) (k : Tx) : Pf :=
  if (sgetL l k).isSome then ⟨false, [leafOf l (placeP l k)]⟩
  else if l = [] then ⟨true, []⟩ else if placeP l k = 0 then ⟨true, [leafOf l 0]⟩ else if placeP l k = l.length then ⟨true, [leafOf l (l.length - 1)]⟩ else ⟨true, [leafOf l (placeP l k - 1), leafOf l (placeP l k)]⟩
def climbsP (root : Tx) (l : List Lf) : Bool := l.all fun f => climbP f == some root
def hasP (root s k v : Tx) : Bool :=
  (parsePf s).2 == 0 && !(parsePf s).1.ab && (match (parsePf s).1.lv with | [f] => f.p == ⟨k, v⟩ | _ => false) && climbsP root (parsePf s).1.lv
def lacksP (root s k : Tx) : Bool :=
  (parsePf s).2 == 0 && (parsePf s).1.ab && decide (1 ≤ k.length) && decide (k.length ≤ 16) && climbsP root (parsePf s).1.lv && (match (parsePf s).1.lv with
    | [] => root == rootP []
    | [f] => (f.i == 0 && decide (k < f.p.k)) || (f.i == IntKind.i64.wrap (f.n - 1) && decide (f.p.k < k))
    | f :: g :: _ => f.n == g.n && (IntKind.i64.wrap (f.i + 1) == g.i) && decide (f.p.k < k) && decide (k < g.p.k))
end Go.Proofs.YtcoajnpchhmgjaaGreatDoor
namespace Go.Proofs.YtcoajnpchhmgjaaGreatDoor
open Go
set_option maxRecDepth 20000
theorem place_lt {k : Tx} : ∀ {l : List Pr}, SUp l → ∀ {j : Nat} {x : Pr}, l[j]? = some x → (j < placeP l k ↔ x.k < k)
  | [], _, j, x, h => by simp at h
  | a :: l, hs, j, x, h => by
    unfold SUp at hs
    rw [List.pairwise_cons] at hs
    by_cases ha : a.k < k
    · have e : placeP (a :: l) k = placeP l k + 1 := by unfold placeP; rw [List.filter_cons_of_pos (by simpa using ha)]; rfl
      rw [e]
      cases j with
      | zero =>
        simp only [List.getElem?_cons_zero, Option.some.injEq] at h
        subst h
        exact ⟨fun _ => ha, fun _ => by omega⟩
      | succ j =>
        rw [List.getElem?_cons_succ] at h
        rw [Nat.add_lt_add_iff_right]
        exact place_lt hs.2 h
    · have hn : ∀ y ∈ l, ¬ y.k < k := fun y hy h' => ha (List.lt_trans (hs.1 y hy) h')
      have e : placeP (a :: l) k = 0 := by
        unfold placeP
        rw [List.filter_cons_of_neg (by simpa using ha), List.filter_eq_nil_iff.2 (fun y hy => by simpa using hn y hy)]
        rfl
      rw [e]
      have hx : ¬ x.k < k := by
        cases j with
        | zero =>
          simp only [List.getElem?_cons_zero, Option.some.injEq] at h
          subst h; exact ha
        | succ j =>
          rw [List.getElem?_cons_succ] at h
          exact hn x (List.mem_of_getElem? h)
      exact ⟨fun c => by omega, fun c => absurd c hx⟩
theorem place_le (l : List Pr) (k : Tx) : placeP l k ≤ l.length := List.length_filter_le _ _
theorem SUp.lt {l : List Pr} (h : SUp l) {i j : Nat} {x y : Pr} (hx : l[i]? = some x) (hy : l[j]? = some y) (hij : i < j) : x.k < y.k := by
  obtain ⟨h1, e1⟩ := List.getElem?_eq_some_iff.1 hx
  obtain ⟨h2, e2⟩ := List.getElem?_eq_some_iff.1 hy
  have := List.pairwise_iff_getElem.1 h i j h1 h2 hij
  rw [e1, e2] at this
  exact this
theorem placeP_at {l : List Pr} (hs : SUp l) {k : Tx} {p : Pr} (hg : sgetL l k = some p) : l[placeP l k]? = some p := by
  obtain ⟨hm, hk⟩ := (sgetL_some hs).1 hg
  obtain ⟨j, hj⟩ := List.mem_iff_getElem?.1 hm
  have h1 : ¬ j < placeP l k := fun c => by
    have := (place_lt hs hj).1 c
    rw [hk] at this
    exact List.lt_irrefl _ this
  have hjl := (List.getElem?_eq_some_iff.1 hj).1
  have h2 : ¬ placeP l k < j := fun c => by
    obtain ⟨x, hx⟩ : ∃ x, l[placeP l k]? = some x := ⟨_, List.getElem?_eq_getElem (by omega)⟩
    have h3 := hs.lt hx hj c
    rw [hk] at h3
    have := (place_lt hs hx).2 h3
    omega
  have : placeP l k = j := by omega
  rw [this]; exact hj
structure MOk (l : List Pr) : Prop where
  up : SUp l
  len : l.length ≤ 4096
  k : ∀ p ∈ l, p.k.length ≤ 16
  v : ∀ p ∈ l, p.v.length ≤ 64
theorem leafOf_at {l : List Pr} {j : Nat} {p : Pr} (hj : l[j]? = some p) : leafOf l j = ⟨(j : Int), (l.length : Int), p, pathP l j⟩ := by
  unfold leafOf
  rw [List.getD_eq_getElem?_getD, hj]; rfl
theorem leafOf_ok {l : List Pr} (H : MOk l) {j : Nat} (hj : j < l.length) : (leafOf l j).Ok := by
  have e : l[j]? = some l[j] := List.getElem?_eq_getElem hj
  rw [leafOf_at e]
  have hm : l[j] ∈ l := List.getElem_mem hj
  have hl := H.len
  exact ⟨by simp, by simp only; omega, by simp, by simp only; omega, H.k _ hm, H.v _ hm, by
    have := pathP_deep 12 l j (by omega)
    simp only; omega, fun d hd => pathP_len _ l j rfl d hd⟩
theorem leafOf_climb {l : List Pr} (H : MOk l) {j : Nat} (hj : j < l.length) : climbP (leafOf l j) = some (rootP l) := by
  have e : l[j]? = some l[j] := List.getElem?_eq_getElem hj
  rw [leafOf_at e]
  exact climb_path e H.len
theorem proofP_ok {l : List Pr} (H : MOk l) (k : Tx) : (proofP l k).lv.length ≤ 2 ∧ ∀ f ∈ (proofP l k).lv, ∃ j, j < l.length ∧ f = leafOf l j := by
  have hp := place_le l k
  unfold proofP
  by_cases hg : (sgetL l k).isSome = true
  · obtain ⟨p, hgp⟩ := Option.isSome_iff_exists.1 hg
    have := (List.getElem?_eq_some_iff.1 (placeP_at H.up hgp)).1
    rw [if_pos hg]
    exact ⟨by simp, fun f hf => ⟨_, this, by simpa using hf⟩⟩
  · rw [if_neg hg]
    by_cases h0 : l = []
    · rw [if_pos h0]; exact ⟨by simp, by simp⟩
    · rw [if_neg h0]
      have hpos := List.length_pos_iff.2 h0
      by_cases h1 : placeP l k = 0
      · rw [if_pos h1]
        exact ⟨by simp, fun f hf => ⟨0, hpos, by simpa using hf⟩⟩
      · rw [if_neg h1]
        by_cases h2 : placeP l k = l.length
        · rw [if_pos h2]
          exact ⟨by simp, fun f hf => ⟨l.length - 1, by omega, by simpa using hf⟩⟩
        · rw [if_neg h2]
          refine ⟨by simp, fun f hf => ?_⟩
          simp only [List.mem_cons, List.not_mem_nil, or_false] at hf
          rcases hf with rfl | rfl
          · exact ⟨placeP l k - 1, by omega, rfl⟩
          · exact ⟨placeP l k, by omega, rfl⟩
theorem proofP_bytes {l : List Pr} (H : MOk l) (k : Tx) : pfBytes (proofP l k) = (pfBs (proofP l k), 0) ∧ parsePf (pfBs (proofP l k)) = (proofP l k, 0) := by
  obtain ⟨h1, h2⟩ := proofP_ok H k
  have hok : ∀ f ∈ (proofP l k).lv, f.Ok := fun f hf => by
    obtain ⟨j, hj, rfl⟩ := h2 f hf
    exact leafOf_ok H hj
  refine ⟨?_, parse_pf h1 hok⟩
  unfold pfBytes
  rw [if_pos ⟨h1, List.all_eq_true.2 fun f hf => Lf.ok_iff.2 (hok f hf)⟩]
theorem proofP_climbs {l : List Pr} (H : MOk l) (k : Tx) : climbsP (rootP l) (proofP l k).lv = true := by
  unfold climbsP
  rw [List.all_eq_true]
  intro f hf
  obtain ⟨j, hj, rfl⟩ := (proofP_ok H k).2 f hf
  rw [leafOf_climb H hj]
  simp
theorem proves_has {l : List Pr} (H : MOk l) {k : Tx} {p : Pr} (hg : sgetL l k = some p) : hasP (rootP l) (pfBs (proofP l k)) k p.v = true ∧ lacksP (rootP l) (pfBs (proofP l k)) k = false := by
  have hc := proofP_climbs H k
  have hs : (sgetL l k).isSome = true := by rw [hg]; rfl
  have e : proofP l k = ⟨false, [leafOf l (placeP l k)]⟩ := by unfold proofP; rw [if_pos hs]
  have hk := ((sgetL_some H.up).1 hg).2
  have ep : (leafOf l (placeP l k)).p = ⟨k, p.v⟩ := by
    rw [leafOf_at (placeP_at H.up hg)]
    simp only
    rw [← hk]
  unfold hasP lacksP
  rw [(proofP_bytes H k).2]
  simp only
  rw [hc, e]
  simp [ep]
end Go.Proofs.YtcoajnpchhmgjaaGreatDoor
namespace Go.Proofs.YtcoajnpchhmgjaaGreatDoor
open Go
set_option maxRecDepth 20000
abbrev LV := Lf × Value
def lrow (y : LV) : List Value := y.1.cells y.2
def LfS (h : PH) (l : List LV) : Prop := ∀ y ∈ l, SlR h 1 y.2 (y.1.path.map scell)
theorem LfS.ext {h h' : PH} {l : List LV} (H : LfS h l) (u : Ext h h') : LfS h' l := fun y hy => (H y hy).ext u
theorem AnyS_ok {h : PH} {x fv : Value} {xs : List Tx} {f : Tx → Bool} (hx : SlR h 1 x (xs.map scell)) (hl : xs.length ≤ 1000000)
    (hf : ∀ p ∈ xs, ∀ h', Ext h h' → ∀ k' : Value → PH → Prop, (∀ h'', Ext h' h'' → k' (.bool (f p)) h'') → callC PG fv #[.string (tx p)] h' k') {k : Value → PH → Prop}
    (hk : ∀ h', Ext h h' → k (.bool (xs.any f)) h') : CallsH PG id_slices_ContainsFunc_sl_string_string #[x, fv] h k := by
  have lx := hx.len (t' := T_int) T_sl_string.und
  rw [List.length_map] at lx
  apply slices_ContainsFunc_sl_string_string.call
  unfold slices_ContainsFunc_sl_string_string
  apply slices_IndexFunc_sl_string_string.call
  unfold slices_IndexFunc_sl_string_string
  simp only [lx, zSS, reduceIte]
  refine ⟨fun vs h' => ∃ i : Nat, i ≤ xs.length ∧ vs = [x, fv, .int .i64 xs.length, .int .i64 i] ∧ Ext h h' ∧ ∀ p ∈ xs.take i, f p = false, upTo xs.length 3, ⟨0, by omega, rfl, Upd.refl, by simp⟩, ?_⟩
  rintro ρ h' ⟨i, hi, hvs, w, hq⟩
  simp only [List.map_cons, List.map_nil, List.cons.injEq, and_true] at hvs
  obtain ⟨e0, e1, e2, e5⟩ := hvs
  rw [e0, e1, e2, e5]
  unfold slices_IndexFunc_sl_string_string_b3
  by_cases hlt : i < xs.length
  · have hd : ((i : Int) < (xs.length : Int)) = True := by apply eq_true; omega
    obtain ⟨m, hm⟩ : ∃ m, xs[i]? = some m := ⟨_, List.getElem?_eq_getElem hlt⟩
    obtain ⟨a, a1, a2⟩ := (hx.ext w).loadCell T_sl_string.und T_string.info T_string.size T_string.und rfl (k := .i64) (j := (i : Int)) (x := .string (tx m)) (by omega) (by rw [Int.toNat_natCast, List.getElem?_map, hm]; rfl)
    have ei : IntKind.i64.wrap ((i : Int) + 1) = ((i + 1 : Nat) : Int) := by rw [i64_wrap (by omega) (by omega)]; omega
    simp only [hd, a1, a2, zSS, reduceIte]
    refine hf m (List.mem_of_getElem? hm) _ w _ fun h2 u2 => ?_
    cases c : f m with
    | true =>
      have h0 : (0 ≤ (i : Int)) = True := by apply eq_true; omega
      have hin : xs.any f = true := List.any_eq_true.2 ⟨m, List.mem_of_getElem? hm, c⟩
      have := hk _ (w.trans u2)
      rw [hin] at this
      simp only [h0, zSS, reduceIte]
      exact this
    | false =>
      simp only [ei, zSS, reduceIte]
      refine ⟨⟨i + 1, by omega, rfl, w.trans u2, ?_⟩, by simp [upTo, e5]; omega⟩
      intro p hp
      rw [List.take_add_one, hm] at hp
      rcases List.mem_append.1 hp with hp | hp
      · exact hq p hp
      · simp at hp; subst hp; exact c
  · have hd : ((i : Int) < (xs.length : Int)) = False := by apply eq_false; omega
    have h0 : (0 ≤ (-1 : Int)) = False := by apply eq_false; omega
    rw [List.take_of_length_le (by omega)] at hq
    have hin : xs.any f = false := by
      rw [List.any_eq_false]
      intro p hp
      simp [hq p hp]
    have := hk _ w
    rw [hin] at this
    simp only [hd, h0, zSS, reduceIte]
    exact this
theorem AnyL_ok {h : PH} {x fv : Value} {xs : List LV} {f : LV → Bool} (hx : SlR h 5 x (xs.map lrow)) (hl : xs.length ≤ 1000000)
    (hf : ∀ p ∈ xs, ∀ h', Ext h h' → ∀ k' : Value → PH → Prop, (∀ h'', Ext h' h'' → k' (.bool (f p)) h'') → callC PG fv #[p.1.val p.2] h' k') {k : Value → PH → Prop}
    (hk : ∀ h', Ext h h' → k (.bool (xs.any f)) h') : CallsH PG id_slices_ContainsFunc_sl_api_Leaf_api_Leaf #[x, fv] h k := by
  have lx := hx.len (t' := T_int) T_sl_api_Leaf.und
  rw [List.length_map] at lx
  apply slices_ContainsFunc_sl_api_Leaf_api_Leaf.call
  unfold slices_ContainsFunc_sl_api_Leaf_api_Leaf
  apply slices_IndexFunc_sl_api_Leaf_api_Leaf.call
  unfold slices_IndexFunc_sl_api_Leaf_api_Leaf
  simp only [lx, zSS, reduceIte]
  refine ⟨fun vs h' => ∃ i : Nat, i ≤ xs.length ∧ vs = [x, fv, .int .i64 xs.length, .int .i64 i] ∧ Ext h h' ∧ ∀ p ∈ xs.take i, f p = false, upTo xs.length 3, ⟨0, by omega, rfl, Upd.refl, by simp⟩, ?_⟩
  rintro ρ h' ⟨i, hi, hvs, w, hq⟩
  simp only [List.map_cons, List.map_nil, List.cons.injEq, and_true] at hvs
  obtain ⟨e0, e1, e2, e5⟩ := hvs
  rw [e0, e1, e2, e5]
  unfold slices_IndexFunc_sl_api_Leaf_api_Leaf_b3
  by_cases hlt : i < xs.length
  · have hd : ((i : Int) < (xs.length : Int)) = True := by apply eq_true; omega
    obtain ⟨m, hm⟩ : ∃ m, xs[i]? = some m := ⟨_, List.getElem?_eq_getElem hlt⟩
    obtain ⟨a, a1, a2⟩ := (hx.ext w).loadAgg T_sl_api_Leaf.und T_api_Leaf.info T_api_Leaf.size T_api_Leaf.und rfl (k := .i64) (j := (i : Int)) (r := lrow m) (by omega) (by rw [Int.toNat_natCast, List.getElem?_map, hm]; rfl)
    have ei : IntKind.i64.wrap ((i : Int) + 1) = ((i + 1 : Nat) : Int) := by rw [i64_wrap (by omega) (by omega)]; omega
    simp only [hd, a1, a2, zSS, reduceIte]
    refine hf m (List.mem_of_getElem? hm) _ w _ fun h2 u2 => ?_
    cases c : f m with
    | true =>
      have h0 : (0 ≤ (i : Int)) = True := by apply eq_true; omega
      have hin : xs.any f = true := List.any_eq_true.2 ⟨m, List.mem_of_getElem? hm, c⟩
      have := hk _ (w.trans u2)
      rw [hin] at this
      simp only [h0, zSS, reduceIte]
      exact this
    | false =>
      simp only [ei, zSS, reduceIte]
      refine ⟨⟨i + 1, by omega, rfl, w.trans u2, ?_⟩, by simp [upTo, e5]; omega⟩
      intro p hp
      rw [List.take_add_one, hm] at hp
      rcases List.mem_append.1 hp with hp | hp
      · exact hq p hp
      · simp at hp; subst hp; exact c
  · have hd : ((i : Int) < (xs.length : Int)) = False := by apply eq_false; omega
    have h0 : (0 ≤ (-1 : Int)) = False := by apply eq_false; omega
    rw [List.take_of_length_le (by omega)] at hq
    have hin : xs.any f = false := by
      rw [List.any_eq_false]
      intro p hp
      simp [hq p hp]
    have := hk _ w
    rw [hin] at this
    simp only [hd, h0, zSS, reduceIte]
    exact this
theorem within_ok {h : PH} {f : Lf} {fv : Value} (S : SlR h 1 fv (f.path.map scell)) (hl : f.path.length ≤ 1000000) {k : Value → PH → Prop} (hk : ∀ h', Ext h h' → k (.bool f.okb) h') : CallsH PG id_proof_within #[f.val fv] h k := by
  apply proof_within.call
  unfold proof_within
  intro r1 hr1
  try rw [bindH_eq]
  have u1 : Ext h (h.set r1 (.cells (Value.cells (f.val fv)) T_api_Leaf)) := Upd.new hr1
  have B1 : Bx (h.set r1 (.cells (Value.cells (f.val fv)) T_api_Leaf)) r1 (f.cells fv) := Bx.new
  generalize h.set r1 (.cells (Value.cells (f.val fv)) T_api_Leaf) = h1 at *
  have li : SemE PG h1 (Instr.loadAt T_int (.pointer (some ⟨r1, 0, none⟩))) = some (.int .i64 f.i) := by rw [T_int.load, B1.cell]; rfl
  have ln : SemE PG h1 (Instr.loadAt T_int (.pointer (some ⟨r1, 1, none⟩))) = some (.int .i64 f.n) := by rw [T_int.load, B1.cell]; rfl
  have lk : SemE PG h1 (Instr.loadAt T_string (.pointer (some ⟨r1, 2, none⟩))) = some (.string (tx f.p.k)) := by rw [T_string.load, B1.cell]; rfl
  have lv : SemE PG h1 (Instr.loadAt T_string (.pointer (some ⟨r1, 3, none⟩))) = some (.string (tx f.p.v)) := by rw [T_string.load, B1.cell]; rfl
  have lp : SemE PG h1 (Instr.loadAt T_sl_string (.pointer (some ⟨r1, 4, none⟩))) = some fv := by rw [T_sl_string.load, B1.cell]; rfl
  have len0 : ∀ x : Tx, SemP PG (Builtin.len_ #[T_string] T_int #[.string (tx x)]) = some (.int .i64 (x.length : Int)) := fun x => by rw [len_string T_string.und, tx_size]
  have lenp := (S.ext u1).len (t' := T_int) T_sl_string.und
  rw [List.length_map] at lenp
  have bad : ¬ f.Ok → k (.bool false) h1 := fun c => by
    have := hk h1 u1
    rw [show f.okb = false by rw [← Bool.not_eq_true]; exact fun e => c (Lf.ok_iff.1 e)] at this
    exact this
  by_cases a1 : f.i < 0
  · have g1 := eq_true a1
    simp only [T_api_Leaf.f0, li, g1, zSS, reduceIte, zZZ, Nat.reduceAdd]
    exact bad fun c => by have := c.i0; omega
  have g1 := eq_false a1
  by_cases a2 : 4096 < f.i
  · have g2 := eq_true a2
    simp only [T_api_Leaf.f0, li, g1, g2, zSS, reduceIte, zZZ, Nat.reduceAdd]
    exact bad fun c => by have := c.i1; omega
  have g2 := eq_false a2
  by_cases a3 : f.n < 0
  · have g3 := eq_true a3
    simp only [T_api_Leaf.f0, T_api_Leaf.f1, Nat.zero_add, li, ln, g1, g2, g3, zSS, reduceIte, zZZ, Nat.reduceAdd]
    exact bad fun c => by have := c.n0; omega
  have g3 := eq_false a3
  by_cases a4 : 4096 < f.n
  · have g4 := eq_true a4
    simp only [T_api_Leaf.f0, T_api_Leaf.f1, Nat.zero_add, li, ln, g1, g2, g3, g4, zSS, reduceIte, zZZ, Nat.reduceAdd]
    exact bad fun c => by have := c.n1; omega
  have g4 := eq_false a4
  by_cases a5 : 16 < f.p.k.length
  · have g5 : ((16 : Int) < (f.p.k.length : Int)) = True := eq_true (by omega)
    simp only [T_api_Leaf.f0, T_api_Leaf.f1, T_api_Leaf.f2, T_api_Pair.f0, Nat.zero_add, li, ln, lk, len0, g1, g2, g3, g4, g5, zSS, reduceIte, zZZ, Nat.reduceAdd]
    exact bad fun c => by have := c.k; omega
  have g5 : ((16 : Int) < (f.p.k.length : Int)) = False := eq_false (by omega)
  by_cases a6 : 64 < f.p.v.length
  · have g6 : ((64 : Int) < (f.p.v.length : Int)) = True := eq_true (by omega)
    simp only [T_api_Leaf.f0, T_api_Leaf.f1, T_api_Leaf.f2, T_api_Pair.f0, T_api_Pair.f1, Nat.zero_add, Nat.reduceAdd, li, ln, lk, lv, len0, g1, g2, g3, g4, g5, g6, zSS, reduceIte, zZZ, Nat.reduceAdd]
    exact bad fun c => by have := c.v; omega
  have g6 : ((64 : Int) < (f.p.v.length : Int)) = False := eq_false (by omega)
  by_cases a7 : 16 < f.path.length
  · have g7 : ((16 : Int) < (f.path.length : Int)) = True := eq_true (by omega)
    simp only [T_api_Leaf.f0, T_api_Leaf.f1, T_api_Leaf.f2, T_api_Leaf.f3, T_api_Pair.f0, T_api_Pair.f1, Nat.zero_add, Nat.reduceAdd, li, ln, lk, lv, lp, len0, lenp, g1, g2, g3, g4, g5, g6, g7, zSS, reduceIte, zZZ, Nat.reduceAdd]
    exact bad fun c => by have := c.m; omega
  have g7 : ((16 : Int) < (f.path.length : Int)) = False := eq_false (by omega)
  simp only [T_api_Leaf.f0, T_api_Leaf.f1, T_api_Leaf.f2, T_api_Leaf.f3, T_api_Pair.f0, T_api_Pair.f1, Nat.zero_add, Nat.reduceAdd, li, ln, lk, lv, lp, len0, lenp, g1, g2, g3, g4, g5, g6, g7, zSS, reduceIte, zZZ, Nat.reduceAdd]
  refine AnyS_ok (f := fun d => (d.length : Int) != 32) (S.ext u1) hl (fun p hp h' u k' hk' => ?_) fun h2 u2 => ?_
  · show CallsH PG id_proof_within_1 #[.string (tx p)] h' k'
    apply proof_within_1.call
    unfold proof_within_1
    simp only [len0, neqI, zSS, reduceIte, zZZ, Nat.reduceAdd]
    exact hk' _ Upd.refl
  · have := hk h2 (u1.trans u2)
    have e : f.okb = !(f.path.any fun d => (d.length : Int) != 32) := by
      rw [Bool.eq_iff_iff, Lf.ok_iff, Bool.not_eq_true', List.any_eq_false]
      constructor
      · intro c d hd
        have := c.d d hd
        simp [this]
      · intro c
        refine ⟨by omega, by omega, by omega, by omega, by omega, by omega, by omega, fun d hd => ?_⟩
        have := c d hd
        simp at this
        omega
    rw [e] at this
    generalize (f.path.any fun d => (d.length : Int) != 32) = b at this ⊢
    cases b <;> (simp only [zSS, reduceIte, zZZ, Nat.reduceAdd]; exact this)
end Go.Proofs.YtcoajnpchhmgjaaGreatDoor
namespace Go.Proofs.YtcoajnpchhmgjaaGreatDoor
open Go
set_option maxRecDepth 20000
def Pf.val (ab : Bool) (v : Value) : Value := .agg #[.bool ab, v]
theorem lfsBs_snoc (l : List Lf) (f : Lf) : lfsBs (l ++ [f]) = lfsBs l ++ lfBs f := by
  induction l with
  | nil => simp [lfsBs]
  | cons a l ih => simp [lfsBs, ih]
theorem flat_len {l : List Tx} (h : ∀ d ∈ l, d.length = 32) : l.flatten.length = 32 * l.length := by
  induction l with
  | nil => rfl
  | cons a l ih =>
    rw [List.flatten_cons, List.length_append, h a (by simp), ih fun d hd => h d (by simp [hd]), List.length_cons]
    omega
theorem lfBs_len {f : Lf} (h : f.Ok) : (lfBs f).length ≤ 1000 := by
  have h1 := h.k; have h2 := h.v; have h3 := h.m; have h4 := flat_len h.d
  simp only [lfBs, List.length_append, be_len]
  omega
theorem lfsBs_len : ∀ {l : List Lf}, (∀ f ∈ l, f.Ok) → (lfsBs l).length ≤ 1000 * l.length
  | [], _ => by simp [lfsBs]
  | f :: l, h => by
    have h1 := lfBs_len (h f (by simp))
    have h2 := lfsBs_len (l := l) fun x hx => h x (by simp [hx])
    simp only [lfsBs, List.length_append, List.length_cons]
    omega
theorem SlR.lf {h : PH} {v : Value} {l : List LV} (S : SlR h 5 v (l.map lrow)) {j : Nat} {y : LV} (hy : l[j]? = some y) :
    ∃ a, SemP PG (Instr.indexAt T_sl_api_Leaf v (.int .i64 (j : Int))) = some (.pointer (some a)) ∧ SemE PG h (Instr.loadAt T_api_Leaf (.pointer (some a))) = some (y.1.val y.2) :=
  S.loadAgg T_sl_api_Leaf.und T_api_Leaf.info T_api_Leaf.size T_api_Leaf.und rfl (k := .i64) (j := (j : Int)) (r := lrow y) (by omega) (by rw [Int.toNat_natCast, List.getElem?_map, hy]; rfl)
theorem lf_len {h : PH} {v : Value} {l : List LV} (S : SlR h 5 v (l.map lrow)) : SemP PG (Builtin.len_ #[T_sl_api_Leaf] T_int #[v]) = some (.int .i64 l.length) := by
  have := S.len (t' := T_int) T_sl_api_Leaf.und
  rw [List.length_map] at this
  exact this
theorem Lf.isC (f : Lf) {v : Value} (hv : Go.Proofs.YtcoajnpchhmgjaaGreatDoor.isCell v = true) : ∀ u ∈ f.cells v, Go.Proofs.YtcoajnpchhmgjaaGreatDoor.isCell u = true := fun u hu => by
  simp only [Lf.cells, List.mem_cons, List.not_mem_nil, or_false] at hu
  rcases hu with rfl | rfl | rfl | rfl | rfl <;> first | rfl | exact hv
theorem SlR.st {h : PH} {v : Value} {l : List Tx} (S : SlR h 1 v (l.map scell)) {j : Nat} {x : Tx} (hx : l[j]? = some x) :
    ∃ a, SemP PG (Instr.indexAt T_sl_string v (.int .i64 (j : Int))) = some (.pointer (some a)) ∧ SemE PG h (Instr.loadAt T_string (.pointer (some a))) = some (.string (tx x)) :=
  S.loadCell T_sl_string.und T_string.info T_string.size T_string.und rfl (k := .i64) (j := (j : Int)) (x := .string (tx x)) (by omega) (by rw [Int.toNat_natCast, List.getElem?_map, hx]; rfl)
theorem st_len {h : PH} {v : Value} {l : List Tx} (S : SlR h 1 v (l.map scell)) : SemP PG (Builtin.len_ #[T_sl_string] T_int #[v]) = some (.int .i64 l.length) := by
  have := S.len (t' := T_int) T_sl_string.und
  rw [List.length_map] at this
  exact this
theorem pb_path {h0 h : PH} {a : Nat} {base : Tx} {F : List Nat} (W : WN h0 h a (0, base) F) (hb : base.length ≤ 100000) {fv : Value} {path : List Tx} (P : SlR h0 1 fv (path.map scell)) (hd : ∀ d ∈ path, d.length = 32) (hm : path.length ≤ 16) {x : Value} {n i : Nat} (hi : i ≤ 100) {R : Value → PH → Prop} {nxt : List Value → PH → Prop}
    (hn : ∀ h' F', WN h0 h' a (0, base ++ path.flatten) F' → nxt [.pointer (some ⟨a, 0, none⟩), x, .int .i64 (n : Int), .int .i64 ((i + 1 : Nat) : Int)] h') :
    LoopL [4, 28, 29, 30, 55, 56, 57] (fun n73 ρ h => proof_Bytes_b74 R nxt n73 (ρ 4) (ρ 28) (ρ 29) (ρ 30) (ρ 55) (ρ 56) (ρ 57) h) [.pointer (some ⟨a, 0, none⟩), x, .int .i64 (n : Int), .int .i64 (i : Int), fv, .int .i64 (path.length : Int), .int .i64 0] h := by
  refine ⟨fun vs h' => ∃ (j : Nat) (F' : List Nat), j ≤ path.length ∧ vs = [.pointer (some ⟨a, 0, none⟩), x, .int .i64 (n : Int), .int .i64 (i : Int), fv, .int .i64 (path.length : Int), .int .i64 (j : Int)] ∧ WN h0 h' a (0, base ++ (path.take j).flatten) F', upTo path.length 6, ⟨0, F, by omega, rfl, by simpa using W⟩, ?_⟩
  rintro ρ h' ⟨j, F', hj, hvs, W'⟩
  simp only [List.map_cons, List.map_nil, List.cons.injEq, and_true] at hvs
  obtain ⟨v0, v1, v2, v3, v4, v5, v6⟩ := hvs
  unfold proof_Bytes_b74
  rw [v0, v1, v2, v3, v4, v5, v6]
  by_cases hlt : j < path.length
  · have g : ((j : Int) < (path.length : Int)) = True := eq_true (by omega)
    have gi : IntKind.i64.wrap ((j : Int) + 1) = ((j + 1 : Nat) : Int) := by rw [i64_wrap (by omega) (by omega)]; omega
    obtain ⟨d, hdj⟩ : ∃ d, path[j]? = some d := ⟨_, List.getElem?_eq_getElem hlt⟩
    obtain ⟨pa, p1, p2⟩ := (P.ext W'.upd).st hdj
    have hd32 := hd d (List.mem_of_getElem? hdj)
    have hfl : (path.take j).flatten.length ≤ 32 * 16 := by
      rw [flat_len fun d hd' => hd d (List.mem_of_mem_take hd'), List.length_take]; omega
    simp only [g, p1, p2, gi, zSS, reduceIte, zZZ, Nat.reduceAdd]
    refine Raw_w W' (by rw [List.length_append]; omega) (by omega) fun h2 F2 x2 e2 W2 _ => ?_
    have ex : x2 = (0, base ++ (path.take (j + 1)).flatten) := by
      rw [e2, List.take_add_one, hdj]
      simp [List.append_assoc]
    rw [ex] at W2
    exact ⟨⟨j + 1, F2, by omega, rfl, W2⟩, by simp [upTo, v6]; omega⟩
  · have g : ((j : Int) < (path.length : Int)) = False := eq_false (by omega)
    have gi : IntKind.i64.wrap ((i : Int) + 1) = ((i + 1 : Nat) : Int) := by rw [i64_wrap (by omega) (by omega)]; omega
    rw [List.take_of_length_le (by omega)] at W'
    simp only [g, gi, zSS, reduceIte, zZZ, Nat.reduceAdd]
    exact hn h' F' W'
theorem wText_fitW {st : Stt} {l : Tx} (h : l.length ≤ 65535) : wText st l = (st.1, st.2 ++ (be l.length 2 ++ l)) := by unfold wText; rw [if_pos h]
theorem wByte_fitW {st : Stt} {n : Nat} (h : n ≤ 255) : wByte st (n : Int) = (st.1, st.2 ++ be n 1) := by unfold wByte; rw [if_pos (by omega), Int.toNat_natCast]
theorem pb_leaves {h0 h : PH} {a : Nat} {base : Tx} {F : List Nat} (W : WN h0 h a (0, base) F) (hb : base.length ≤ 1000) {v : Value} {l : List LV} (S : SlR h0 5 v (l.map lrow)) (HS : LfS h0 l) (hok : ∀ y ∈ l, y.1.Ok) (hl : l.length ≤ 2) {R : Value → PH → Prop}
    (hR : ∀ h', Ext h0 h' → R (.tuple #[.string (tx (base ++ lfsBs (l.map (·.1)))), .int .i64 0]) h') :
    LoopL [4, 28, 29, 30] (fun n36 ρ h => proof_Bytes_b37 R n36 (ρ 4) (ρ 28) (ρ 29) (ρ 30) h) [.pointer (some ⟨a, 0, none⟩), v, .int .i64 (l.length : Int), .int .i64 0] h := by
  refine ⟨fun vs h' => ∃ (i : Nat) (F' : List Nat), i ≤ l.length ∧ vs = [.pointer (some ⟨a, 0, none⟩), v, .int .i64 (l.length : Int), .int .i64 (i : Int)] ∧ WN h0 h' a (0, base ++ lfsBs ((l.take i).map (·.1))) F', upTo l.length 3, ⟨0, F, by omega, rfl, by simpa [lfsBs] using W⟩, ?_⟩
  rintro ρ h' ⟨i, F', hi, hvs, W'⟩
  simp only [List.map_cons, List.map_nil, List.cons.injEq, and_true] at hvs
  obtain ⟨v0, v1, v2, v3⟩ := hvs
  unfold proof_Bytes_b37
  rw [v0, v1, v2, v3]
  have hpre : (lfsBs ((l.take i).map (·.1))).length ≤ 2000 := by
    have := lfsBs_len (l := (l.take i).map (·.1)) (by
      simp only [List.forall_mem_map]
      exact fun y hy => hok y (List.mem_of_mem_take hy))
    rw [List.length_map, List.length_take] at this
    omega
  by_cases hlt : i < l.length
  · have g : ((i : Int) < (l.length : Int)) = True := eq_true (by omega)
    obtain ⟨y, hy⟩ : ∃ y, l[i]? = some y := ⟨_, List.getElem?_eq_getElem hlt⟩
    have hmem := List.mem_of_getElem? hy
    have ok := hok y hmem
    have Py := HS y hmem
    obtain ⟨pa, p1, p2⟩ := (S.ext W'.upd).lf hy
    simp only [g, p1, p2, zSS, reduceIte, zZZ, Nat.reduceAdd]
    intro r41 hr41
    try rw [bindH_eq]
    refine T_api_Leaf.fill hr41 rfl (Lf.isC _ Py.isc) fun h1 B1 u1 => ?_
    have W1 := WS.ext W' u1
    have K1 : BK h1 F' r41 (y.1.cells y.2) := ⟨B1, W'.box hr41⟩
    obtain ⟨i0, i1, n0, n1, k16, v64, m16, d32⟩ := ok
    obtain ⟨fi, efi⟩ := Int.eq_ofNat_of_zero_le i0
    obtain ⟨fn, efn⟩ := Int.eq_ofNat_of_zero_le n0
    have li : ∀ {h' : PH} {F}, BK h' F r41 (y.1.cells y.2) → SemE PG h' (Instr.loadAt T_int (.pointer (some ⟨r41, 0, none⟩))) = some (.int .i64 (fi : Int)) := fun B => by rw [T_int.load, B.bx.cell, ← efi]; rfl
    have ln : ∀ {h' : PH} {F}, BK h' F r41 (y.1.cells y.2) → SemE PG h' (Instr.loadAt T_int (.pointer (some ⟨r41, 1, none⟩))) = some (.int .i64 (fn : Int)) := fun B => by rw [T_int.load, B.bx.cell, ← efn]; rfl
    have lk : ∀ {h' : PH} {F}, BK h' F r41 (y.1.cells y.2) → SemE PG h' (Instr.loadAt T_string (.pointer (some ⟨r41, 2, none⟩))) = some (.string (tx y.1.p.k)) := fun B => by rw [T_string.load, B.bx.cell]; rfl
    have lv : ∀ {h' : PH} {F}, BK h' F r41 (y.1.cells y.2) → SemE PG h' (Instr.loadAt T_string (.pointer (some ⟨r41, 3, none⟩))) = some (.string (tx y.1.p.v)) := fun B => by rw [T_string.load, B.bx.cell]; rfl
    have lp : ∀ {h' : PH} {F}, BK h' F r41 (y.1.cells y.2) → SemE PG h' (Instr.loadAt T_sl_string (.pointer (some ⟨r41, 4, none⟩))) = some y.2 := fun B => by rw [T_sl_string.load, B.bx.cell]; rfl
    have lenp := st_len Py
    have c1 : IntKind.u64.wrap (fi : Int) = (fi : Int) := u64_wrap (by omega) (by omega)
    have c2 : IntKind.u64.wrap (fn : Int) = (fn : Int) := u64_wrap (by omega) (by omega)
    simp only [T_api_Leaf.f0, li K1, cvi_u64, c1, zSS, reduceIte, zZZ, Nat.reduceAdd]
    refine Number_w W1 (by rw [List.length_append]; omega) (by omega) fun h2 F2 x2 e2 W2 k2 => ?_
    have K2 := K1.keep k2
    simp only [T_api_Leaf.f1, Nat.zero_add, ln K2, cvi_u64, c2, zSS, reduceIte, zZZ, Nat.reduceAdd]
    refine Number_w W2 (by rw [e2]; simp only [wNum, List.length_append, be_len]; omega) (by omega) fun h3 F3 x3 e3 W3 k3 => ?_
    have K3 := K2.keep k3
    simp only [T_api_Leaf.f2, T_api_Pair.f0, Nat.zero_add, lk K3, zSS, reduceIte, zZZ, Nat.reduceAdd]
    refine Text_w W3 (by rw [e3, e2]; simp only [wNum, List.length_append, be_len]; omega) _ fun h4 F4 x4 e4 W4 k4 => ?_
    have K4 := K3.keep k4
    rw [wText_fitW (by omega)] at e4
    simp only [T_api_Leaf.f2, T_api_Pair.f1, Nat.zero_add, Nat.reduceAdd, lv K4, zSS, reduceIte, zZZ, Nat.reduceAdd]
    refine Text_w W4 (by rw [e4, e3, e2]; simp only [wNum, List.length_append, be_len]; omega) _ fun h5 F5 x5 e5 W5 k5 => ?_
    have K5 := K4.keep k5
    rw [wText_fitW (by omega)] at e5
    simp only [T_api_Leaf.f3, Nat.zero_add, lp K5, lenp, zSS, reduceIte, zZZ, Nat.reduceAdd]
    refine Byte_w W5 (by rw [e5, e4, e3, e2]; simp only [wNum, List.length_append, be_len]; omega) _ fun h6 F6 x6 e6 W6 k6 => ?_
    have K6 := K5.keep k6
    rw [wByte_fitW (by omega)] at e6
    simp only [T_api_Leaf.f3, Nat.zero_add, lp K6, lenp, zSS, reduceIte, zZZ, Nat.reduceAdd]
    have ex : x6 = (0, (base ++ lfsBs ((l.take i).map (·.1))) ++ (be fi 8 ++ (be fn 8 ++ ((be y.1.p.k.length 2 ++ y.1.p.k) ++ ((be y.1.p.v.length 2 ++ y.1.p.v) ++ be y.1.path.length 1))))) := by
      rw [e6, e5, e4, e3, e2]
      simp [wNum, List.append_assoc]
    rw [ex] at W6
    refine pb_path W6 (by simp only [List.length_append, be_len]; omega) Py d32 m16 (by omega) fun h7 F7 W7 => ?_
    have ef : ((base ++ lfsBs ((l.take i).map (·.1))) ++ (be fi 8 ++ (be fn 8 ++ ((be y.1.p.k.length 2 ++ y.1.p.k) ++ ((be y.1.p.v.length 2 ++ y.1.p.v) ++ be y.1.path.length 1))))) ++ y.1.path.flatten = base ++ lfsBs ((l.take (i + 1)).map (·.1)) := by
      rw [List.take_add_one, hy]
      simp only [Option.toList, List.map_append, List.map_cons, List.map_nil, lfsBs_snoc, lfBs, efi, efn, Int.toNat_natCast, List.append_assoc]
    rw [ef] at W7
    exact ⟨⟨i + 1, F7, by omega, rfl, W7⟩, by simp [upTo, v3]; omega⟩
  · have g : ((i : Int) < (l.length : Int)) = False := eq_false (by omega)
    rw [List.take_of_length_le (by omega)] at W'
    simp only [g, zSS, reduceIte, zZZ, Nat.reduceAdd]
    refine Bytes_ok W'.at_ fun h2 u2 => ?_
    have eb : wBytes (0, base ++ lfsBs (l.map (·.1))) = (base ++ lfsBs (l.map (·.1)), 0) := rfl
    simp only [eb, zSS, reduceIte, zZZ, Nat.reduceAdd]
    exact hR _ (W'.upd.fresh u2 W'.fresh)
theorem PBytes_ok {h : PH} {ab : Bool} {v : Value} {l : List LV} (S : SlR h 5 v (l.map lrow)) (HS : LfS h l) (hl : l.length ≤ 1000000) (hp : ∀ y ∈ l, y.1.path.length ≤ 1000000) {k : Value → PH → Prop}
    (hk : ∀ h', Ext h h' → k (.tuple #[.string (tx (pfBytes ⟨ab, l.map (·.1)⟩).1), .int .i64 (pfBytes ⟨ab, l.map (·.1)⟩).2]) h') : CallsH PG id_proof_Bytes #[Pf.val ab v] h k := by
  apply proof_Bytes.call
  unfold proof_Bytes
  intro r1 hr1
  try rw [bindH_eq]
  have u1 : Ext h (h.set r1 (.cells (Value.cells (Pf.val ab v)) T_api_Proof)) := Upd.new hr1
  have B1 : Bx (h.set r1 (.cells (Value.cells (Pf.val ab v)) T_api_Proof)) r1 [.bool ab, v] := Bx.new
  generalize h.set r1 (.cells (Value.cells (Pf.val ab v)) T_api_Proof) = h1 at *
  have la : ∀ {h' : PH}, Bx h' r1 [.bool ab, v] → SemE PG h' (Instr.loadAt T_bool (.pointer (some ⟨r1, 0, none⟩))) = some (.bool ab) := fun B => by rw [T_bool.load, B.cell]; rfl
  have lv : ∀ {h' : PH}, Bx h' r1 [.bool ab, v] → SemE PG h' (Instr.loadAt T_sl_api_Leaf (.pointer (some ⟨r1, 1, none⟩))) = some v := fun B => by rw [T_sl_api_Leaf.load, B.cell]; rfl
  have ll := lf_len S
  have q0 : ({ data := #[] } : ByteArray) = tx [] := rfl
  have el : (l.map (·.1)).length = l.length := by simp
  by_cases h2 : 2 < l.length
  · have g : ((2 : Int) < (l.length : Int)) = True := eq_true (by omega)
    have eb : pfBytes ⟨ab, l.map (·.1)⟩ = ([], 1) := by unfold pfBytes; rw [if_neg (fun c => by have := c.1; simp only [el] at this; omega)]
    simp only [T_api_Proof.f1, Nat.zero_add, lv B1, ll, g, q0, zSS, reduceIte, zZZ, Nat.reduceAdd]
    rw [eb] at hk
    exact hk _ u1
  have g : ((2 : Int) < (l.length : Int)) = False := eq_false (by omega)
  simp only [T_api_Proof.f1, Nat.zero_add, lv B1, ll, g, zSS, reduceIte, zZZ, Nat.reduceAdd]
  refine AnyL_ok (f := fun y => !y.1.okb) (S.ext u1) hl (fun y hy h' u k' hk' => ?_) fun h3 u3 => ?_
  · show CallsH PG id_proof_Bytes_1 #[y.1.val y.2] h' k'
    apply proof_Bytes_1.call
    unfold proof_Bytes_1
    intro r hr
    try rw [bindH_eq]
    have v1 : Ext h' (h'.set r (.cells (Value.cells (y.1.val y.2)) T_api_Leaf)) := Upd.new hr
    have C1 : Bx (h'.set r (.cells (Value.cells (y.1.val y.2)) T_api_Leaf)) r (y.1.cells y.2) := Bx.new
    generalize h'.set r (.cells (Value.cells (y.1.val y.2)) T_api_Leaf) = h'' at *
    have lf : SemE PG h'' (Instr.loadAt T_api_Leaf (.pointer (some ⟨r, 0, none⟩))) = some (y.1.val y.2) := T_api_Leaf.agg C1 (by show 0 + 5 ≤ 5; decide)
    simp only [lf, zSS, reduceIte, zZZ, Nat.reduceAdd]
    refine within_ok ((HS y hy).ext ((u1.trans u).trans v1)) (hp y hy) fun h4 u4 => ?_
    simp only [zSS, reduceIte, zZZ, Nat.reduceAdd]
    exact hk' _ (v1.trans u4)
  · have e3 := u1.trans u3
    have B3 := B1.ext u3
    cases hb : l.any fun y => !y.1.okb with
    | true =>
      have eb : pfBytes ⟨ab, l.map (·.1)⟩ = ([], 1) := by
        unfold pfBytes
        rw [if_neg (fun c => ?_)]
        obtain ⟨y, hy, hyb⟩ := List.any_eq_true.1 hb
        have := List.all_eq_true.1 c.2 y.1 (List.mem_map_of_mem hy)
        rw [this] at hyb
        cases hyb
      simp only [q0, zSS, reduceIte, zZZ, Nat.reduceAdd]
      rw [eb] at hk
      exact hk _ e3
    | false =>
      have hok : ∀ y ∈ l, y.1.Ok := fun y hy => by
        have := List.any_eq_false.1 hb y hy
        exact Lf.ok_iff.1 (by simpa using this)
      have eb : pfBytes ⟨ab, l.map (·.1)⟩ = (pfBs ⟨ab, l.map (·.1)⟩, 0) := by
        have hall : (l.map (·.1)).all Lf.okb = true := List.all_eq_true.2 fun f hf => by
          obtain ⟨y, hy, rfl⟩ := List.mem_map.1 hf
          exact Lf.ok_iff.2 (hok y hy)
        unfold pfBytes
        exact if_pos ⟨by simp only [el]; omega, hall⟩
      rw [eb] at hk
      simp only [zSS, reduceIte, zZZ, Nat.reduceAdd]
      intro r21 hr21
      try rw [bindH_eq]
      have W0 := WN.start hr21
      have u4 : Ext h3 (h3.set r21 (.cells (zcells PG T_wire_Writer) T_wire_Writer)) := Upd.new hr21
      generalize h3.set r21 (.cells (zcells PG T_wire_Writer) T_wire_Writer) = h4 at *
      have out : ∀ kd : Nat, kd = (if ab then 2 else 1) → proof_Bytes_k25 k (.pointer (some ⟨r1, 0, none⟩)) (.pointer (some ⟨r21, 0, none⟩)) (.int .i64 (kd : Int)) h4 := fun kd hkd => by
        have k2 : kd ≤ 2 := by rw [hkd]; split <;> decide
        unfold proof_Bytes_k25
        refine Byte_w W0 (by simp) _ fun h5 F5 x5 e5 W5 _ => ?_
        rw [wByte_fitW (by omega)] at e5
        simp only [T_api_Proof.f1, Nat.zero_add, lv (B3.ext W5.upd), ll, zSS, reduceIte, zZZ, Nat.reduceAdd]
        refine Byte_w W5 (by rw [e5]; simp [be_len]) _ fun h6 F6 x6 e6 W6 _ => ?_
        rw [wByte_fitW (by omega)] at e6
        have ex : x6 = (0, be kd 1 ++ be l.length 1) := by rw [e6, e5]; simp
        rw [ex] at W6
        simp only [T_api_Proof.f1, Nat.zero_add, lv (B3.ext W6.upd), ll, zSS, reduceIte, zZZ, Nat.reduceAdd]
        refine pb_leaves W6 (by simp [be_len]) (S.ext e3) (HS.ext e3) hok (by omega) fun h7 u7 => ?_
        have ep : (be kd 1 ++ be l.length 1) ++ lfsBs (l.map (·.1)) = pfBs ⟨ab, l.map (·.1)⟩ := by
          unfold pfBs
          simp only [el, hkd, List.append_assoc]
        rw [ep]
        exact hk _ (e3.trans u7)
      simp only [T_api_Proof.f0, la (B3.ext u4), zSS, reduceIte, zZZ, Nat.reduceAdd]
      cases ab with
      | true => simp only [zSS, reduceIte, zZZ, Nat.reduceAdd]; exact out 2 rfl
      | false => simp only [zSS, reduceIte, zZZ, Nat.reduceAdd]; exact out 1 rfl
end Go.Proofs.YtcoajnpchhmgjaaGreatDoor
namespace Go.Proofs.YtcoajnpchhmgjaaGreatDoor
open Go
set_option maxRecDepth 20000
theorem small_r {h : PH} {a : Nat} {st : Stt} (R : RdAt h a st.1 st.2) {k : Value → PH → Prop} (hk : ∀ h', RdAt h' a (rSmall st).2.1 (rSmall st).2.2 → Upd [a] h h' → k (.int .i64 ((rSmall st).1 : Int)) h') : CallsH PG id_proof_small #[.pointer (some ⟨a, 0, none⟩), .int .u64 4096] h k := by
  apply proof_small.call
  unfold proof_small
  unfold rSmall at hk
  refine RNumber_ok R fun h1 R1 u1 => ?_
  show popO (SemP PG (binOp BinOp.gtr T_uint64 (.int .u64 ((rGet st 8).1 : Int)) (.int .u64 4096))) _
  by_cases c : 4096 < (rGet st 8).1
  · have g : ((4096 : Int) < ((rGet st 8).1 : Int)) = True := eq_true (by omega)
    rw [if_pos c] at hk
    simp only [g, T_wire_Reader.f0, zSS, reduceIte, zZZ, Nat.reduceAdd]
    refine RFail_ok (st := (rGet st 8).2) R1 5 fun h2 R2 u2 => ?_
    exact hk h2 R2 (u1.trans u2)
  · have g : ((4096 : Int) < ((rGet st 8).1 : Int)) = False := eq_false (by omega)
    rw [if_neg c] at hk
    have e1 : IntKind.i64.wrap ((rGet st 8).1 : Int) = ((rGet st 8).1 : Int) := i64_wrap (by omega) (by omega)
    simp only [g, conv_ui, e1, zSS, reduceIte, zZZ, Nat.reduceAdd]
    exact hk h1 R1 u1
theorem rPath_stop {n : Nat} {st : Stt} {acc : List Tx} (h : n = 0 ∨ st.1 ≠ 0) : rPath n st acc = (acc, st) := by
  cases n with
  | zero => rfl
  | succ n => rw [rPath, if_neg (by rcases h with h | h; cases h; exact h)]
theorem lf_b2 (x y : Int) : SemP PG (Instr.build T_api_Leaf #[(0, .int .i64 x), (1, .int .i64 y)]) = some (Lf.val ⟨x, y, ⟨[], []⟩, []⟩ (.slice none 0 0)) := by kernel_rfl
theorem leaf_r {h : PH} {a : Nat} {st : Stt} (R : RdAt h a st.1 st.2) {k : Value → PH → Prop}
    (hk : ∀ h' v F, RdAt h' a (rLeaf st).2.1 (rLeaf st).2.2 → OwnR h' T_string 1 v ((rLeaf st).1.path.map scell) F → Fresh h F → Upd [a] h h' → k ((rLeaf st).1.val v) h') : CallsH PG id_proof_leaf #[.pointer (some ⟨a, 0, none⟩)] h k := by
  apply proof_leaf.call
  unfold proof_leaf
  have ka : h a ≠ none := by rw [R.here]; simp
  intro r1 hr1
  try rw [bindH_eq]
  have u1 : Ext h (h.set r1 (.cells (zcells PG T_api_Leaf) T_api_Leaf)) := Upd.new hr1
  have Z1 := T_api_Leaf.zbox (h := h) (r := r1)
  have R1 := R.ext u1
  have na1 : r1 ≠ a := fun e => ka (e ▸ hr1)
  generalize h.set r1 (.cells (zcells PG T_api_Leaf) T_api_Leaf) = h1 at *
  refine small_r R1 fun h2 R2 u2 => ?_
  refine small_r R2 fun h3 R3 u3 => ?_
  simp only [lf_b2, zSS, reduceIte, zZZ, Nat.reduceAdd]
  have Z3 := (Z1.upd u2 (by simpa using na1)).upd u3 (by simpa using na1)
  have e3 : Upd [a] h h3 := (u1.upd.trans u2).trans u3
  intro r8 hr8
  try rw [bindH_eq]
  have n18 : r1 ≠ r8 := Z3.apart hr8
  have na8 : r8 ≠ a := fun e => by
    have := (RdAt.here R3)
    rw [← e, hr8] at this; cases this
  have k8 : h r8 = none := by
    cases hx : h r8 with
    | none => rfl
    | some o => have := e3 r8 o hx (by simpa using na8); rw [hr8] at this; cases this
  refine T_api_Leaf.fill (vs := Lf.cells ⟨((rSmall st).1 : Int), ((rSmall (rSmall st).2).1 : Int), ⟨[], []⟩, []⟩ (.slice none 0 0)) hr8 rfl (Lf.isC _ rfl) fun h4 B4 u4 => ?_
  have R4 := R3.ext u4
  have e4 : Upd [a] h h4 := e3.trans u4.upd
  have Z4 := Z3.ext u4
  refine RText_ok R4 fun h5 R5 u5 => ?_
  have B5 := B4.upd u5 (by simpa using na8)
  have Z5 := Z4.upd u5 (by simpa using na1)
  simp only [T_api_Leaf.f2, T_api_Pair.f0, Nat.zero_add, zSS, reduceIte, zZZ, Nat.reduceAdd]
  refine T_string.put B5 (o := 2) (by show 2 < 5; decide) rfl fun h6 B6 u6 => ?_
  have R6 := R5.upd u6 (by simpa using na8.symm)
  have Z6 := Z5.upd u6 (by simpa using n18)
  refine RText_ok R6 fun h7 R7 u7 => ?_
  have B7 := B6.upd u7 (by simpa using na8)
  have Z7 := Z6.upd u7 (by simpa using na1)
  simp only [T_api_Leaf.f2, T_api_Pair.f1, Nat.zero_add, Nat.reduceAdd, zSS, reduceIte, zZZ, Nat.reduceAdd]
  refine T_string.put B7 (o := 3) (by show 3 < 5; decide) rfl fun h8 B8 u8 => ?_
  have R8 := R7.upd u8 (by simpa using na8.symm)
  have Z8 := Z7.upd u8 (by simpa using n18)
  refine RByte_ok R8 fun h9 R9 u9 => ?_
  have B9 := B8.upd u9 (by simpa using na8)
  have Z9 := Z8.upd u9 (by simpa using na1)
  have e9 : Upd [a] h h9 := by
    have f8 : ∀ b ∈ [r8], b ∈ [a] ∨ h b = none := fun b hb => .inr (by simp at hb; rw [hb]; exact k8)
    exact (((((e4.trans u5).then u6 f8).trans u7).then u8 f8).trans u9)
  -- names
  obtain ⟨st2, hst2⟩ : ∃ x, x = (rSmall (rSmall st).2).2 := ⟨_, rfl⟩
  obtain ⟨kk, hkk⟩ : ∃ x, x = rText (rSmall (rSmall st).2).2 := ⟨_, rfl⟩
  obtain ⟨vv, hvv⟩ : ∃ x, x = rText kk.2 := ⟨_, rfl⟩
  obtain ⟨cc, hcc⟩ : ∃ x, x = rGet vv.2 1 := ⟨_, rfl⟩
  have hc255 : cc.1 < 256 := by rw [hcc]; exact rGet_lt _ 1
  have e1 : (rLf1 st) = (⟨((rSmall st).1 : Int), ((rSmall (rSmall st).2).1 : Int), ⟨kk.1, vv.1⟩, (rPath cc.1 cc.2 []).1⟩, (rPath cc.1 cc.2 []).2) := by rw [hcc, hvv, hkk]; rfl
  have R9' : RdAt h9 a cc.2.1 cc.2.2 := by rw [hcc, hvv, hkk]; exact R9
  have B9' : Bx h9 r8 (Lf.cells ⟨((rSmall st).1 : Int), ((rSmall (rSmall st).2).1 : Int), ⟨kk.1, vv.1⟩, []⟩ (.slice none 0 0)) := by rw [hvv, hkk]; exact B9
  have ev : (Value.int .i64 ((rGet (rText (rText (rSmall (rSmall st).2).2).2).2 1).1 : Int)) = .int .i64 (cc.1 : Int) := by rw [hcc, hvv, hkk]
  show LoopL _ _ [_, _, _, (Value.int .i64 ((rGet (rText (rText (rSmall (rSmall st).2).2).2).2 1).1 : Int))] h9
  rw [ev]
  clear R9 B9 ev
  generalize (rSmall st).1 = f1 at *
  generalize (rSmall (rSmall st).2).1 = f2 at *
  refine ⟨fun vs h' => ∃ (m : Nat) (acc : List Tx) (s' : Stt) (pv : Value) (F : List Nat), vs = [.pointer (some ⟨a, 0, none⟩), .pointer (some ⟨r1, 0, none⟩), .pointer (some ⟨r8, 0, none⟩), .int .i64 (m : Int)] ∧ RdAt h' a s'.1 s'.2 ∧ Bx h' r8 (Lf.cells ⟨(f1 : Int), (f2 : Int), ⟨kk.1, vv.1⟩, acc⟩ pv) ∧ OwnR h' T_string 1 pv (acc.map scell) F ∧ Fresh h F ∧ r8 ∉ F ∧ r1 ∉ F ∧ Bx h' r1 (Lf.cells ⟨0, 0, ⟨[], []⟩, []⟩ (.slice none 0 0)) ∧ Upd [a] h h' ∧ rPath cc.1 cc.2 [] = rPath m s' acc ∧ acc.length + m ≤ 255, slotN 3, ⟨cc.1, [], cc.2, _, [], rfl, R9', B9', OwnR.nil, (fun b hb => by cases hb), by simp, by simp, Z9, e9, rfl, by simp; omega⟩, ?_⟩
  rintro ρ h' ⟨m, acc, s', pv, F, hvs, R', B', O', f', n8, n1, Z', u', hp, hacc⟩
  simp only [List.map_cons, List.map_nil, List.cons.injEq, and_true] at hvs
  obtain ⟨v0, v1, v2, v3⟩ := hvs
  unfold proof_leaf_b27
  rw [v0, v1, v2, v3]
  have na' : a ∉ F := fun hm => ka (f' a hm)
  by_cases hgo : 0 < m ∧ s'.1 = 0
  · obtain ⟨hm, hs0⟩ := hgo
    obtain ⟨m, rfl⟩ : ∃ n, m = n + 1 := ⟨m - 1, by omega⟩
    have g : ((0 : Int) < ((m + 1 : Nat) : Int)) = True := eq_true (by omega)
    have gi : IntKind.i64.wrap (((m + 1 : Nat) : Int) - 1) = (m : Int) := by rw [i64_wrap (by omega) (by omega)]; omega
    have lp : ∀ {h'' : PH}, Bx h'' r8 (Lf.cells ⟨(f1 : Int), (f2 : Int), ⟨kk.1, vv.1⟩, acc⟩ pv) → SemE PG h'' (Instr.loadAt T_sl_string (.pointer (some ⟨r8, 4, none⟩))) = some pv := fun B => by rw [T_sl_string.load, B.cell]; rfl
    simp only [g, T_wire_Reader.f0, zSS, reduceIte, zZZ, Nat.reduceAdd]
    refine RErr_ok R' ?_
    simp only [hs0, eqlI, T_api_Leaf.f3, Nat.zero_add, lp B', zSS, reduceIte, zZZ, Nat.reduceAdd]
    refine Raw_ok R' 32 fun h2 R2 u2 => ?_
    have B2 := B'.upd u2 (by simpa using na8)
    refine ⟨lp B2, ?_⟩
    have O2 := O'.upd u2 (fun b hb => by simp only [List.mem_singleton]; rintro rfl; exact na' hb)
    have Z2 := Z'.upd u2 (by simpa using na1)
    simp only [lit1m, zSS, reduceIte, zZZ, Nat.reduceAdd]
    intro r54 hr54
    refine popO_pure ?_
    try rw [bindH_eq]
    have u3 : Ext h2 (h2.set r54 (.cells #[.string (tx (rRaw (s'.1, s'.2) 32).1)] T_string)) := Upd.new hr54
    have s1 : SlR (h2.set r54 (.cells #[.string (tx (rRaw (s'.1, s'.2) 32).1)] T_string)) 1 (.slice (some ⟨r54, 0, none⟩) 1 1) ([(rRaw (s'.1, s'.2) 32).1].map scell) := (OwnR.lit (scell.rows [(rRaw (s'.1, s'.2) 32).1]) set_same (by simp) (by decide) (by simp [scell])).slR
    generalize h2.set r54 (.cells #[.string (tx (rRaw (s'.1, s'.2) 32).1)] T_string) = h3 at *
    refine append_own T_sl_string.und T_sl_string.und T_string.info T_string.size T_string.bytes T_string.zero rfl (by decide) (O2.ext u3) s1 (fun r hr u hu => by
      obtain ⟨s, -, rfl⟩ := List.mem_map.1 hr
      exact scell.isC s u hu) (by simp; omega) ?_
    intro v4 h4 F4 O4 u4 g4 _
    rw [← List.map_append] at O4
    have n84 : r8 ∉ F4 := fun hb => by
      rcases g4 _ hb with hx | hx
      · exact n8 hx
      · exact (B2.ext u3).known hx
    have n14 : r1 ∉ F4 := fun hb => by
      rcases g4 _ hb with hx | hx
      · exact n1 hx
      · exact (Z2.ext u3).known hx
    have e23 : Upd [a] h h3 := (u'.trans u2).trans u3.upd
    have f4 : Fresh h F4 := fun b hb => by
      rcases g4 b hb with hx | hx
      · exact f' b hx
      · cases hy : h b with
        | none => rfl
        | some o =>
          by_cases hba : b = a
          · rw [hba] at hx; have := (R2.ext u3).here; rw [hx] at this; cases this
          · have := e23 b o hy (by simpa using hba); rw [hx] at this; cases this
    have B4 := (B2.ext u3).upd u4 n8
    simp only [T_api_Leaf.f3, Nat.zero_add, gi, zSS, reduceIte, zZZ, Nat.reduceAdd]
    refine T_sl_string.put B4 (o := 4) (by show 4 < 5; decide) O4.slR.isc fun h5 B5 u5 => ?_
    refine ⟨⟨m, acc ++ [(rRaw s' 32).1], (rRaw s' 32).2, v4, F4, rfl, ((R2.ext u3).upd u4 na').upd u5 (by simpa using na8.symm), B5, O4.upd u5 (fun b hb => by simp only [List.mem_singleton]; rintro rfl; exact n84 hb), f4, n84, n14, ((Z2.ext u3).upd u4 n1).upd u5 (by simpa using n18), (e23.then u4 (fun b hb => .inr (f' b hb))).then u5 (fun b hb => .inr (by simp at hb; rw [hb]; exact k8)), ?_, by simp; omega⟩, ?_⟩
    · rw [hp, rPath, if_pos hs0]
    · simp only [slotN, List.getElem?_cons_succ, List.getElem?_cons_zero, List.map_cons, List.map_nil, v3]
      omega
  · have hstop : m = 0 ∨ s'.1 ≠ 0 := by omega
    rw [rPath_stop hstop] at hp
    rw [hp] at e1
    simp only at e1
    have ll : SemE PG h' (Instr.loadAt T_api_Leaf (.pointer (some ⟨r8, 0, none⟩))) = some ((rLf1 st).1.val pv) := by rw [e1]; exact T_api_Leaf.agg B' (by show 0 + 5 ≤ 5; decide)
    have S' : SlR h' 1 pv ((rLf1 st).1.path.map scell) := by rw [e1]; exact O'.slR
    have fin : popO (SemE PG h' (Instr.loadAt T_api_Leaf (.pointer (some ⟨r8, 0, none⟩)))) fun v64 =>
        CallsH PG id_proof_within #[v64] h' fun v65 h66 =>
        popO (SemP PG (Op.unary UnOp.not v65)) fun v67 =>
        condV v67
        (popO (SemP PG (nilS (.pointer (some ⟨a, 0, none⟩)))) fun v68 =>
        popO (SemP PG (Instr.fieldAt T_wire_Reader v68 0)) fun v69 =>
        CallsH PG id_wire_memory_Fail #[v69, (Value.int IntKind.i64 5)] h66 fun v70 h71 =>
        proof_leaf_k72 k (.pointer (some ⟨r1, 0, none⟩)) (.pointer (some ⟨r8, 0, none⟩)) h71)
        (proof_leaf_k72 k (.pointer (some ⟨r1, 0, none⟩)) (.pointer (some ⟨r8, 0, none⟩)) h66) := by
      simp only [ll, zSS, reduceIte, zZZ, Nat.reduceAdd]
      have hpl : (rLf1 st).1.path.length ≤ 1000000 := by rw [e1]; simp only; omega
      refine within_ok S' hpl fun h2 u2 => ?_
      have last : ∀ {h5 : PH}, RdAt h5 a (rLeaf st).2.1 (rLeaf st).2.2 → Upd [a] h2 h5 → proof_leaf_k72 k (.pointer (some ⟨r1, 0, none⟩)) (.pointer (some ⟨r8, 0, none⟩)) h5 := by
        intro h5 R5 u5
        unfold proof_leaf_k72
        have B5 := (B'.ext u2).upd u5 (by simpa using na8)
        have Z5 := (Z'.ext u2).upd u5 (by simpa using na1)
        have l5 : SemE PG h5 (Instr.loadAt T_api_Leaf (.pointer (some ⟨r8, 0, none⟩))) = some ((rLf1 st).1.val pv) := by rw [e1]; exact T_api_Leaf.agg B5 (by show 0 + 5 ≤ 5; decide)
        simp only [l5, zSS, reduceIte, zZZ, Nat.reduceAdd]
        refine T_api_Leaf.put (vs := (rLf1 st).1.cells pv) Z5 (o := 0) rfl (by show 0 + 5 ≤ 5; decide) (Lf.isC _ S'.isc) fun h6 B6 u6 => ?_
        have l6 : SemE PG h6 (Instr.loadAt T_api_Leaf (.pointer (some ⟨r1, 0, none⟩))) = some ((rLf1 st).1.val pv) := T_api_Leaf.agg B6 (by show 0 + 5 ≤ 5; decide)
        simp only [l6, zSS, reduceIte, zZZ, Nat.reduceAdd]
        refine hk h6 pv F (R5.upd u6 (by simpa using na1.symm)) ?_ f' (((u'.trans u2.upd).trans u5).then u6 (fun b hb => .inr (by simp at hb; rw [hb]; exact hr1)))
        have : (rLeaf st).1.path = acc := by unfold rLeaf; rw [e1]
        rw [this]
        exact ((O'.ext u2).upd u5 (fun b hb => by simp only [List.mem_singleton]; rintro rfl; exact na' hb)).upd u6 (fun b hb => by simp only [List.mem_singleton]; rintro rfl; exact n1 hb)
      have R2 : RdAt h2 a (rLf1 st).2.1 (rLf1 st).2.2 := by rw [e1]; exact R'.ext u2
      cases hb : (rLf1 st).1.okb with
      | true =>
        simp only [zSS, reduceIte, zZZ, Nat.reduceAdd]
        refine last ?_ Upd.refl
        unfold rLeaf
        rw [if_pos hb]; exact R2
      | false =>
        simp only [T_wire_Reader.f0, zSS, reduceIte, zZZ, Nat.reduceAdd]
        refine RFail_ok (st := (rLf1 st).2) R2 5 fun h3 R3 u3 => ?_
        refine last ?_ u3
        unfold rLeaf
        rw [if_neg (by rw [hb]; decide)]; exact R3
    by_cases hm : 0 < m
    · have hs : s'.1 ≠ 0 := by omega
      have g : ((0 : Int) < (m : Int)) = True := eq_true (by omega)
      have q : (s'.1 == 0) = false := by simpa using hs
      simp only [g, T_wire_Reader.f0, zSS, reduceIte, zZZ, Nat.reduceAdd]
      refine RErr_ok R' ?_
      simp only [eqlI, q, zSS, reduceIte, zZZ, Nat.reduceAdd]
      simp only [zSS, reduceIte, zZZ, Nat.reduceAdd] at fin
      exact fin
    · have g : ((0 : Int) < (m : Int)) = False := eq_false (by omega)
      simp only [g, zSS, reduceIte, zZZ, Nat.reduceAdd]
      simp only [zSS, reduceIte, zZZ, Nat.reduceAdd] at fin
      exact fin
end Go.Proofs.YtcoajnpchhmgjaaGreatDoor
namespace Go.Proofs.YtcoajnpchhmgjaaGreatDoor
open Go
set_option maxRecDepth 20000
def LfO (h : PH) (l : List LV) (B : List Nat) : Prop := ∀ y ∈ l, ∃ G, OwnR h T_string 1 y.2 (y.1.path.map scell) G ∧ ∀ b ∈ G, b ∉ B
theorem LfO.upd {h h' : PH} {l : List LV} {B K : List Nat} (H : LfO h l B) (u : Upd K h h') (hK : ∀ b ∈ K, b ∈ B) : LfO h' l B := fun y hy => by
  obtain ⟨G, O, hG⟩ := H y hy
  exact ⟨G, O.upd u (fun b hb hk => hG b hb (hK b hk)), hG⟩
theorem LfO.grow {h : PH} {l : List LV} {B B' : List Nat} (H : LfO h l B) (hB : ∀ b ∈ B', b ∈ B ∨ h b = none) : LfO h l B' := fun y hy => by
  obtain ⟨G, O, hG⟩ := H y hy
  exact ⟨G, O, fun b hb hb' => by
    rcases hB b hb' with hx | hx
    · exact hG b hb hx
    · exact O.known b hb hx⟩
theorem LfO.lfs {h : PH} {l : List LV} {B : List Nat} (H : LfO h l B) : LfS h l := fun y hy => by
  obtain ⟨G, O, -⟩ := H y hy
  exact O.slR
theorem pf_zb : SemP PG (Instr.build T_api_Proof #[]) = some (Pf.val false (.slice none 0 0)) := by kernel_rfl
theorem pf_b1 (b : Bool) : SemP PG (Instr.build T_api_Proof #[(0, .bool b)]) = some (Pf.val b (.slice none 0 0)) := by kernel_rfl
theorem lf_lit1 (f : Lf) (v : Value) : SemA PG (Instr.buildSlice T_sl_api_Leaf 1 #[(0, f.val v)]) = some (.cells (f.cells v).toArray T_api_Leaf, fun r => pure (.slice (some ⟨r, 0, none⟩) 1 1)) := by kernel_rfl
theorem lrow.rows (l : List LV) : Rows 5 (l.map lrow) := fun r hr => by obtain ⟨m, _, rfl⟩ := List.mem_map.1 hr; rfl
theorem Parse_ok {h : PH} {s : Tx} {k : Value → PH → Prop}
    (hk : ∀ h' v (l : List LV), l.map (·.1) = (parsePf s).1.lv → SlR h' 5 v (l.map lrow) → LfS h' l → Ext h h' → k (.tuple #[Pf.val (parsePf s).1.ab v, .int .i64 (parsePf s).2]) h') : CallsH PG id_proof_Parse #[.string (tx s)] h k := by
  apply proof_Parse.call
  unfold proof_Parse
  intro r1 hr1
  try rw [bindH_eq]
  have u1 : Ext h (h.set r1 (.cells (zcells PG T_api_Proof) T_api_Proof)) := Upd.new hr1
  have Z1 := T_api_Proof.zbox (h := h) (r := r1)
  generalize h.set r1 (.cells (zcells PG T_api_Proof) T_api_Proof) = h1 at *
  refine NewReader_ok s fun a h2 R2 u2 ha => ?_
  have Z2 := Z1.ext u2
  have na1 : r1 ≠ a := fun e => by rw [← e] at ha; exact Z1.known ha
  have ka : h a = none := u1.none ha
  refine RByte_ok R2 fun h3 R3 u3 => ?_
  refine RByte_ok R3 fun h4 R4 u4 => ?_
  have Z4 := (Z2.upd u3 (by simpa using na1)).upd u4 (by simpa using na1)
  have fa : Fresh h [a] := Fresh.one ka
  have f1 : Fresh h [r1] := Fresh.one hr1
  have e4 : Ext h h4 := ((u1.trans u2).fresh u3 fa).fresh u4 fa
  obtain ⟨kd, hkd⟩ : ∃ x, x = rGet (0, s) 1 := ⟨_, rfl⟩
  obtain ⟨nn, hnn⟩ : ∃ x, x = rGet kd.2 1 := ⟨_, rfl⟩
  have hp : parsePf s = if kd.1 < 1 ∨ 2 < kd.1 ∨ 2 < nn.1 then (Pf.zero, 5) else if rEnd (rLeaves nn.1 nn.2 []).2 ≠ 0 then (Pf.zero, 5) else (⟨decide (kd.1 = 2), (rLeaves nn.1 nn.2 []).1⟩, 0) := by
    unfold parsePf
    rw [hnn, hkd]
  have R4' : RdAt h4 a nn.2.1 nn.2.2 := by rw [hnn, hkd]; exact R4
  have ev1 : (Value.int .i64 ((rGet (0, s) 1).1 : Int)) = .int .i64 (kd.1 : Int) := by rw [hkd]
  have ev2 : (Value.int .i64 ((rGet ((rGet (0, s) 1).2.1, (rGet (0, s) 1).2.2) 1).1 : Int)) = .int .i64 (nn.1 : Int) := by rw [hnn, hkd]
  rw [ev1, ev2]
  clear ev1 ev2 R4
  have bad : ∀ {h5 : PH}, Ext h h5 → Bx h5 r1 (Value.cells (Pf.val false (.slice none 0 0))).toList → parsePf s = (Pf.zero, 5) → SemH PG (storeS T_api_Proof (.pointer (some ⟨r1, 0, none⟩)) (Pf.val false (.slice none 0 0))) h5 fun v27 h28 => popO (SemE PG h28 (Instr.loadAt T_api_Proof (.pointer (some ⟨r1, 0, none⟩)))) fun v29 => k (.tuple #[v29, (Value.int IntKind.i64 5)]) h28 := by
    intro h5 e5 B5 hz
    refine T_api_Proof.put (vs := [.bool false, .slice none 0 0]) B5 (o := 0) rfl (by show 0 + 2 ≤ 2; decide) (by simp [isCell]) fun h6 B6 u6 => ?_
    have l6 : SemE PG h6 (Instr.loadAt T_api_Proof (.pointer (some ⟨r1, 0, none⟩))) = some (Pf.val false (.slice none 0 0)) := T_api_Proof.agg B6 (by show 0 + 2 ≤ 2; decide)
    simp only [l6, zSS, reduceIte, zZZ, Nat.reduceAdd]
    rw [hz] at hk
    exact hk h6 _ [] rfl (OwnR.nil (h := h6) (e := T_api_Leaf) (size := 5)).slR (fun y hy => by cases hy) (e5.fresh u6 f1)
  by_cases c1 : kd.1 < 1
  · have g1 : ((kd.1 : Int) < 1) = True := eq_true (by omega)
    rw [if_pos (.inl c1)] at hp
    simp only [g1, pf_zb, zSS, reduceIte, zZZ, Nat.reduceAdd]
    exact bad e4 Z4 hp
  have g1 : ((kd.1 : Int) < 1) = False := eq_false (by omega)
  by_cases c2 : 2 < kd.1
  · have g2 : ((2 : Int) < (kd.1 : Int)) = True := eq_true (by omega)
    rw [if_pos (.inr (.inl c2))] at hp
    simp only [g1, g2, pf_zb, zSS, reduceIte, zZZ, Nat.reduceAdd]
    exact bad e4 Z4 hp
  have g2 : ((2 : Int) < (kd.1 : Int)) = False := eq_false (by omega)
  by_cases c3 : 2 < nn.1
  · have g3 : ((2 : Int) < (nn.1 : Int)) = True := eq_true (by omega)
    rw [if_pos (.inr (.inr c3))] at hp
    simp only [g1, g2, g3, pf_zb, zSS, reduceIte, zZZ, Nat.reduceAdd]
    exact bad e4 Z4 hp
  have g3 : ((2 : Int) < (nn.1 : Int)) = False := eq_false (by omega)
  rw [if_neg (by omega)] at hp
  have eab : ((kd.1 : Int) == 2) = decide (kd.1 = 2) := by rw [Bool.eq_iff_iff]; simp; omega
  simp only [g1, g2, g3, eqlI, eab, pf_b1, zSS, reduceIte, zZZ, Nat.reduceAdd]
  intro r32 hr32
  try rw [bindH_eq]
  have n132 : r1 ≠ r32 := Z4.apart hr32
  have na32 : r32 ≠ a := fun e => by have := R4'.here; rw [← e, hr32] at this; cases this
  have k32 : h r32 = none := e4.none hr32
  refine T_api_Proof.fill (vs := [.bool (decide (kd.1 = 2)), .slice none 0 0]) hr32 rfl (by simp [isCell]) fun h5 B5 u5 => ?_
  have f32 : Fresh h [r32] := Fresh.one k32
  refine ⟨fun vs h' => ∃ (i : Nat) (l : List LV) (s' : Stt) (lv : Value) (F : List Nat), i ≤ nn.1 ∧ vs = [.pointer (some ⟨r1, 0, none⟩), .pointer (some ⟨a, 0, none⟩), .pointer (some ⟨r32, 0, none⟩), .int .i64 (nn.1 : Int), .int .i64 (i : Int)] ∧ RdAt h' a s'.1 s'.2 ∧ Bx h' r32 [.bool (decide (kd.1 = 2)), lv] ∧ OwnR h' T_api_Leaf 5 lv (l.map lrow) F ∧ LfO h' l (a :: r1 :: r32 :: F) ∧ Fresh h F ∧ a ∉ F ∧ r1 ∉ F ∧ r32 ∉ F ∧ Bx h' r1 (Value.cells (Pf.val false (.slice none 0 0))).toList ∧ Ext h h' ∧ rLeaves nn.1 nn.2 [] = rLeaves (nn.1 - i) s' (l.map (·.1)) ∧ l.length ≤ i, upTo nn.1 4, ⟨0, [], nn.2, _, [], by omega, rfl, R4'.ext u5, B5, OwnR.nil, (fun y hy => by cases hy), (fun b hb => by cases hb), by simp, by simp, by simp, Z4.ext u5, e4.trans u5, rfl, by simp⟩, ?_⟩
  rintro ρ h' ⟨i, l, s', lv, F, hi, hvs, R', B', O', L', f', na, n1, n32, Z', e', hr, hll⟩
  simp only [List.map_cons, List.map_nil, List.cons.injEq, and_true] at hvs
  obtain ⟨v0, v1, v2, v3, v4⟩ := hvs
  unfold proof_Parse_b37
  rw [v0, v1, v2, v3, v4]
  by_cases hlt : i < nn.1
  · have g : ((i : Int) < (nn.1 : Int)) = True := eq_true (by omega)
    have gi : IntKind.i64.wrap ((i : Int) + 1) = ((i + 1 : Nat) : Int) := by rw [i64_wrap (by omega) (by omega)]; omega
    have ll : ∀ {h'' : PH}, Bx h'' r32 [.bool (decide (kd.1 = 2)), lv] → SemE PG h'' (Instr.loadAt T_sl_api_Leaf (.pointer (some ⟨r32, 1, none⟩))) = some lv := fun B => by rw [T_sl_api_Leaf.load, B.cell]; rfl
    simp only [g, T_api_Proof.f1, Nat.zero_add, ll B', zSS, reduceIte, zZZ, Nat.reduceAdd]
    refine leaf_r R' fun h2 pv G R2 O2 fG u2 => ?_
    have B2 := B'.upd u2 (by simpa using na32)
    refine ⟨ll B2, ?_⟩
    have OL2 := O'.upd u2 (fun b hb => by simp only [List.mem_singleton]; rintro rfl; exact na hb)
    have L2 := L'.upd u2 (fun b hb => by simp at hb; simp [hb])
    have Z2' := Z'.upd u2 (by simpa using na1)
    have e2 := e'.fresh u2 fa
    simp only [lf_lit1, zSS, reduceIte, zZZ, Nat.reduceAdd]
    intro r43 hr43
    refine popO_pure ?_
    try rw [bindH_eq]
    have u3 : Ext h2 (h2.set r43 (.cells ((rLeaf s').1.cells pv).toArray T_api_Leaf)) := Upd.new hr43
    have s1 : SlR (h2.set r43 (.cells ((rLeaf s').1.cells pv).toArray T_api_Leaf)) 5 (.slice (some ⟨r43, 0, none⟩) 1 1) ([((rLeaf s').1, pv)].map lrow) := (OwnR.lit (lrow.rows [((rLeaf s').1, pv)]) set_same (by simp) (by decide) (by simp [lrow])).slR
    generalize h2.set r43 (.cells ((rLeaf s').1.cells pv).toArray T_api_Leaf) = h3 at *
    refine append_own T_sl_api_Leaf.und T_sl_api_Leaf.und T_api_Leaf.info T_api_Leaf.size T_api_Leaf.bytes T_api_Leaf.zero rfl (by decide) (OL2.ext u3) s1 (fun r hr u hu => by
      obtain ⟨y, hy, rfl⟩ := List.mem_map.1 hr
      simp only [List.mem_singleton] at hy
      subst hy
      exact Lf.isC _ O2.slR.isc u hu) (by simp; omega) ?_
    intro v4' h4' F4 O4 u4' g4 _
    rw [← List.map_append] at O4
    have R3 := R2.ext u3
    have na4 : a ∉ F4 := fun hb => by
      rcases g4 _ hb with hx | hx
      · exact na hx
      · have := R3.here; rw [hx] at this; cases this
    have n14 : r1 ∉ F4 := fun hb => by
      rcases g4 _ hb with hx | hx
      · exact n1 hx
      · exact (Z2'.ext u3).known hx
    have n324 : r32 ∉ F4 := fun hb => by
      rcases g4 _ hb with hx | hx
      · exact n32 hx
      · exact (B2.ext u3).known hx
    have e3 := e2.trans u3
    have f4 : Fresh h F4 := f'.grow e3 g4
    -- the paths, the new one too
    have L3 : LfO h3 (l ++ [((rLeaf s').1, pv)]) (a :: r1 :: r32 :: F) := fun y hy => by
      rcases List.mem_append.1 hy with hy | hy
      · exact (L2.upd (K := []) u3 (fun b hb => by cases hb)) y hy
      · simp only [List.mem_singleton] at hy
        subst hy
        refine ⟨G, O2.ext u3, fun b hb hb' => ?_⟩
        have hb0 := fG b hb
        simp only [List.mem_cons] at hb'
        rcases hb' with rfl | rfl | rfl | hb'
        · have := R'.here; rw [hb0] at this; cases this
        · exact Z'.known hb0
        · exact B'.known hb0
        · exact O'.known _ hb' hb0
    have L4 : LfO h4' (l ++ [((rLeaf s').1, pv)]) (a :: r1 :: r32 :: F4) := by
      have := L3.grow (B' := a :: r1 :: r32 :: (F ++ F4)) (fun b hb => by
        simp only [List.mem_cons, List.mem_append] at hb ⊢
        rcases hb with hb | hb | hb | hb | hb
        · exact .inl (.inl hb)
        · exact .inl (.inr (.inl hb))
        · exact .inl (.inr (.inr (.inl hb)))
        · exact .inl (.inr (.inr (.inr hb)))
        · rcases g4 b hb with hx | hx
          · exact .inl (.inr (.inr (.inr hx)))
          · exact .inr hx)
      exact (this.upd u4' (fun b hb => by simp [hb])).grow (fun b hb => .inl (by
        simp only [List.mem_cons, List.mem_append] at hb ⊢
        rcases hb with hb | hb | hb | hb
        · exact .inl hb
        · exact .inr (.inl hb)
        · exact .inr (.inr (.inl hb))
        · exact .inr (.inr (.inr (.inr hb)))))
    have B4' := (B2.ext u3).upd u4' n32
    simp only [T_api_Proof.f1, Nat.zero_add, gi, zSS, reduceIte, zZZ, Nat.reduceAdd]
    refine T_sl_api_Leaf.put B4' (o := 1) (by show 1 < 2; decide) O4.slR.isc fun h5' B5' u5' => ?_
    refine ⟨⟨i + 1, l ++ [((rLeaf s').1, pv)], (rLeaf s').2, v4', F4, by omega, rfl, (R3.upd u4' na).upd u5' (by simpa using na32.symm), B5', O4.upd u5' (fun b hb => by simp only [List.mem_singleton]; rintro rfl; exact n324 hb), L4.upd u5' (fun b hb => by simp at hb; simp [hb]), f4, na4, n14, n324, ((Z2'.ext u3).upd u4' n1).upd u5' (by simpa using n132), (e3.fresh u4' f').fresh u5' f32, ?_, by simp; omega⟩, by simp [upTo, v4]; omega⟩
    rw [hr, show nn.1 - i = (nn.1 - (i + 1)) + 1 by omega, rLeaves]
    simp
  · have g : ((i : Int) < (nn.1 : Int)) = False := eq_false (by omega)
    rw [show nn.1 - i = 0 by omega, rLeaves] at hr
    rw [hr] at hp
    simp only at hp
    simp only [g, zSS, reduceIte, zZZ, Nat.reduceAdd]
    refine REnd_ok R' ?_
    by_cases hz : rEnd s' = 0
    · rw [if_neg (by simpa using hz)] at hp
      have lf : SemE PG h' (Instr.loadAt T_api_Proof (.pointer (some ⟨r32, 0, none⟩))) = some (Pf.val (decide (kd.1 = 2)) lv) := T_api_Proof.agg B' (by show 0 + 2 ≤ 2; decide)
      simp only [hz, neqI, lf, zSS, reduceIte, zZZ, Nat.reduceAdd]
      refine T_api_Proof.put (vs := [.bool (decide (kd.1 = 2)), lv]) Z' (o := 0) rfl (by show 0 + 2 ≤ 2; decide) (by
        have := O'.slR.isc
        simp [isCell]; exact this) fun h6 B6 u6 => ?_
      have l6 : SemE PG h6 (Instr.loadAt T_api_Proof (.pointer (some ⟨r1, 0, none⟩))) = some (Pf.val (decide (kd.1 = 2)) lv) := T_api_Proof.agg B6 (by show 0 + 2 ≤ 2; decide)
      simp only [l6, zSS, reduceIte, zZZ, Nat.reduceAdd]
      rw [hp] at hk
      exact hk h6 lv l rfl (O'.upd u6 (fun b hb => by simp only [List.mem_singleton]; rintro rfl; exact n1 hb)).slR (L'.upd u6 (fun b hb => by simp at hb; simp [hb])).lfs (e'.fresh u6 f1)
    · rw [if_pos hz] at hp
      have q : (rEnd s' != 0) = true := by simp [hz]
      simp only [neqI, q, pf_zb, zSS, reduceIte, zZZ, Nat.reduceAdd]
      exact bad e' Z' hp
end Go.Proofs.YtcoajnpchhmgjaaGreatDoor
namespace Go.Proofs.YtcoajnpchhmgjaaGreatDoor
open Go
set_option maxRecDepth 20000
structure Lf.Bd (f : Lf) : Prop where
  m : f.path.length ≤ 255
  k : f.p.k.length ≤ 65535
  v : f.p.v.length ≤ 65535
theorem rPath_len : ∀ (n : Nat) (st : Stt) (acc : List Tx), (rPath n st acc).1.length ≤ acc.length + n
  | 0, st, acc => by simp [rPath]
  | n + 1, st, acc => by
    rw [rPath]
    split
    · have := rPath_len n (rRaw st 32).2 (acc ++ [(rRaw st 32).1])
      rw [List.length_append] at this
      simp at this ⊢; omega
    · simp only; omega
theorem rText_le (st : Stt) : (rText st).1.length ≤ 65535 := by
  have h1 := rRaw_len (rGet st 2).2 (rGet st 2).1
  have h2 := rGet_lt st 2
  unfold rText
  omega
theorem rLeaf_bd (st : Stt) : (rLeaf st).1.Bd := by
  have h1 := rPath_len (rGet (rText (rText (rSmall (rSmall st).2).2).2).2 1).1 (rGet (rText (rText (rSmall (rSmall st).2).2).2).2 1).2 []
  have h2 := rGet_lt (rText (rText (rSmall (rSmall st).2).2).2).2 1
  exact ⟨by
    show (rPath _ _ []).1.length ≤ 255
    simp only [List.length_nil] at h1
    omega, rText_le _, rText_le _⟩
theorem rLeaves_bd : ∀ (n : Nat) (st : Stt) (acc : List Lf), (∀ f ∈ acc, f.Bd) → ∀ f ∈ (rLeaves n st acc).1, f.Bd
  | 0, st, acc, h => h
  | n + 1, st, acc, h => by
    rw [rLeaves]
    refine rLeaves_bd n _ _ fun f hf => ?_
    rcases List.mem_append.1 hf with hf | hf
    · exact h f hf
    · simp only [List.mem_singleton] at hf
      subst hf; exact rLeaf_bd st
theorem parse_bd (s : Tx) : ∀ f ∈ (parsePf s).1.lv, f.Bd := by
  unfold parsePf
  split
  · intro f hf; cases hf
  · split
    · intro f hf; cases hf
    · exact rLeaves_bd _ _ _ (fun f hf => by cases hf)
theorem rLeaves_len : ∀ (n : Nat) (st : Stt) (acc : List Lf), (rLeaves n st acc).1.length = acc.length + n
  | 0, st, acc => rfl
  | n + 1, st, acc => by rw [rLeaves, rLeaves_len n]; simp; omega
theorem parse_two (s : Tx) : (parsePf s).1.lv.length ≤ 2 := by
  unfold parsePf
  split
  · decide
  · split
    · decide
    · simp only [rLeaves_len]; simp; omega
theorem Pr.eql {h : PH} {x y : Operand} (p q : Pr) : SemE PG h (binS .eql T_api_Pair x y p.val q.val) = some (.bool (p == q)) := by
  have e : SemE PG h (Op.equalIn (9999 + 1) T_api_Pair (.agg #[.string (tx p.k), .string (tx p.v)]) (.agg #[.string (tx q.k), .string (tx q.v)])) = some ((tx p.k == tx q.k) && ((tx p.v == tx q.v) && true)) := by
    refine (eqIn_struct T_api_Pair.und (by kernel_rfl) (fun f => match f.offset with | 0 => tx p.k == tx q.k | _ => tx p.v == tx q.v) ?_)
    intro f hf
    simp only [List.mem_cons, List.not_mem_nil, or_false] at hf
    rcases hf with rfl | rfl
    · exact ⟨by decide, _, _, part_cell T_string.und rfl rfl, part_cell T_string.und rfl rfl, eqIn_string T_string.und⟩
    · exact ⟨by decide, _, _, part_cell T_string.und rfl rfl, part_cell T_string.und rfl rfl, eqIn_string T_string.und⟩
  have := eqlStruct (x := x) (y := y) (t := T_api_Pair) (P := PG) (h := h) (by kernel_rfl) e
  rw [show p.val = .agg #[.string (tx p.k), .string (tx p.v)] from rfl, show q.val = .agg #[.string (tx q.k), .string (tx q.v)] from rfl, this]
  congr 2
  rw [beq_bytes, beq_bytes, Bool.eq_iff_iff]
  obtain ⟨a, b⟩ := p
  obtain ⟨c, d⟩ := q
  simp only [Bool.and_true, Bool.and_eq_true, decide_eq_true_eq, beq_iff_eq, Pr.mk.injEq]
  exact ⟨fun ⟨x, y⟩ => ⟨tx_inj x, tx_inj y⟩, fun ⟨x, y⟩ => ⟨by rw [x], by rw [y]⟩⟩
theorem SlR.lff {h : PH} {v : Value} {l : List LV} (S : SlR h 5 v (l.map lrow)) {j : Nat} {y : LV} (hy : l[j]? = some y) :
    ∃ b o, SemP PG (Instr.indexAt T_sl_api_Leaf v (.int .i64 (j : Int))) = some (.pointer (some ⟨b, o, none⟩)) ∧ (∀ {h' : PH}, Ext h h' → SemE PG h' (Instr.loadAt T_int (.pointer (some ⟨b, o, none⟩))) = some (.int .i64 y.1.i) ∧ SemE PG h' (Instr.loadAt T_int (.pointer (some ⟨b, o + 1, none⟩))) = some (.int .i64 y.1.n) ∧ SemE PG h' (Instr.loadAt T_string (.pointer (some ⟨b, o + 2, none⟩))) = some (.string (tx y.1.p.k)) ∧ SemE PG h' (Instr.loadAt T_api_Pair (.pointer (some ⟨b, o + 2, none⟩))) = some y.1.p.val) := by
  obtain ⟨b, o, cs, e', fr, h1, hb, hle, hex⟩ := S.at T_sl_api_Leaf.und T_api_Leaf.info T_api_Leaf.size (k := .i64) (j := (j : Int)) (r := lrow y) (by omega) (by rw [List.getElem?_map, Int.toNat_natCast, hy]; rfl)
  have hd : ∀ i n, i + n ≤ 5 → (cs.extract (o + i) (o + i + n)).toList = ((lrow y).drop i).take n := fun i n hi => by
    rw [← hex]
    simp only [Array.toList_extract, List.extract_eq_take_drop, Nat.add_sub_cancel_left, List.drop_take, List.drop_drop, List.take_take]
    congr 1; omega
  have hc : ∀ i, i < 5 → cs[o + i]? = (lrow y)[i]? := fun i hi => by
    have := congrArg (fun l : List Value => l[0]?) (hd i 1 (by omega))
    simp only [Array.toList_extract, List.extract_eq_take_drop, Nat.add_sub_cancel_left, List.getElem?_take, List.getElem?_drop, Nat.add_zero] at this
    simpa using this
  refine ⟨b, o, h1, fun {h'} u => ?_⟩
  have hb' := u.get hb
  refine ⟨?_, ?_, ?_, ?_⟩
  · rw [T_int.load]; unfold cellH; simp only [hb']; exact hc 0 (by decide)
  · rw [T_int.load]; unfold cellH; simp only [hb']; exact hc 1 (by decide)
  · rw [T_string.load]; unfold cellH; simp only [hb']; exact hc 2 (by decide)
  · rw [T_api_Pair.loadAgg hb' (by omega)]
    congr 2
    exact Array.ext' (hd 2 2 (by decide))
theorem climb_call {h : PH} {root : Tx} {v : Value} {l : List LV} (hK : KAt h) (S : SlR h 5 v (l.map lrow)) (HS : LfS h l) (hl : l.length ≤ 1000000) (hb : ∀ y ∈ l, y.1.Bd) {k : Value → PH → Prop} (hk : ∀ h', Ext h h' → k (.bool (climbsP root (l.map (·.1)))) h') :
    CallsH PG id_proof_climb #[.string (tx root), v] h k := by
  apply proof_climb.call
  unfold proof_climb
  intro r1 hr1
  try rw [bindH_eq]
  have u1 : Ext h (h.set r1 (.cells (Value.cells (.string (tx root))) T_string)) := Upd.new hr1
  have B1 : Bx (h.set r1 (.cells (Value.cells (.string (tx root))) T_string)) r1 [.string (tx root)] := Bx.new
  generalize h.set r1 (.cells (Value.cells (.string (tx root))) T_string) = h1 at *
  try simp only [makeFunc_eq, zSS, reduceIte, zZZ, Nat.reduceAdd]
  refine AnyL_ok (f := fun y => !(climbP y.1 == some root)) (S.ext u1) hl (fun y hy h' u k' hk' => ?_) fun h3 u3 => ?_
  · show CallsH PG id_proof_climb_1 #[y.1.val y.2, .pointer (some ⟨r1, 0, none⟩)] h' k'
    apply proof_climb_1.call
    unfold proof_climb_1
    intro r hr
    try rw [bindH_eq]
    have v1 : Ext h' (h'.set r (.cells (Value.cells (y.1.val y.2)) T_api_Leaf)) := Upd.new hr
    have C1 : Bx (h'.set r (.cells (Value.cells (y.1.val y.2)) T_api_Leaf)) r (y.1.cells y.2) := Bx.new
    generalize h'.set r (.cells (Value.cells (y.1.val y.2)) T_api_Leaf) = h'' at *
    have lf : SemE PG h'' (Instr.loadAt T_api_Leaf (.pointer (some ⟨r, 0, none⟩))) = some (y.1.val y.2) := T_api_Leaf.agg C1 (by show 0 + 5 ≤ 5; decide)
    have lr : ∀ {h4 : PH}, Ext h'' h4 → SemE PG h4 (Instr.loadAt T_string (.pointer (some ⟨r1, 0, none⟩))) = some (.string (tx root)) := fun w => by rw [T_string.load, (((B1.ext u).ext v1).ext w).cell]; rfl
    have bd := hb y hy
    have b1 := bd.m; have b2 := bd.k; have b3 := bd.v
    simp only [lf, zSS, reduceIte, zZZ, Nat.reduceAdd]
    refine Climb_ok ((HS y hy).ext ((u1.trans u).trans v1)) (by omega) (by omega) (hK.ext ((u1.trans u).trans v1)) (fun t h4 e4 _ u4 => ?_) (fun e4 h4 u4 => ?_)
    · have := hk' h4 (v1.trans u4)
      have ed : (!(climbP y.1 == some root)) = !decide (t = root) := by rw [e4, Bool.eq_iff_iff]; simp
      rw [ed] at this
      simp only [lr u4, neqStr, zSS, reduceIte, zZZ, Nat.reduceAdd]
      exact this
    · have := hk' h4 (v1.trans u4)
      have ed : (!(climbP y.1 == some root)) = true := by rw [e4]; rfl
      rw [ed] at this
      simp only [zSS, reduceIte, zZZ, Nat.reduceAdd]
      exact this
  · have := hk h3 (u1.trans u3)
    have e : climbsP root (l.map (·.1)) = !(l.any fun y => !(climbP y.1 == some root)) := by
      unfold climbsP
      rw [List.all_map, Bool.eq_iff_iff]
      simp [List.all_eq_true, List.any_eq_true]
    rw [e] at this
    generalize (l.any fun y => !(climbP y.1 == some root)) = b at this ⊢
    cases b <;> (simp only [zSS, reduceIte, zZZ, Nat.reduceAdd]; exact this)
theorem Has_ok {h : PH} {root s key v : Tx} (hK : KAt h) {k : Value → PH → Prop} (hk : ∀ h', Ext h h' → k (.bool (hasP root s key v)) h') : CallsH PG id_proof_Has #[.string (tx root), .string (tx s), .string (tx key), .string (tx v)] h k := by
  apply proof_Has.call
  unfold proof_Has
  have hbd := parse_bd s
  unfold hasP at hk
  refine Parse_ok fun h1 lv l el S HS u1 => ?_
  have hl2 : l.length ≤ 2 := by have := parse_two s; rw [← el] at this; simpa using this
  rw [← el] at hk hbd
  generalize parsePf s = P at *
  obtain ⟨⟨ab, _⟩, e⟩ := P
  simp only at hk hbd
  simp only [zSS, reduceIte, zZZ, Nat.reduceAdd]
  intro r5 hr5
  try rw [bindH_eq]
  refine T_api_Proof.fill (vs := [.bool ab, lv]) hr5 rfl (by have := S.isc; simp [isCell]; exact this) fun h2 B2 u2 => ?_
  have e2 := u1.trans u2
  have la : SemE PG h2 (Instr.loadAt T_bool (.pointer (some ⟨r5, 0, none⟩))) = some (.bool ab) := by rw [T_bool.load, B2.cell]; rfl
  have ll : SemE PG h2 (Instr.loadAt T_sl_api_Leaf (.pointer (some ⟨r5, 1, none⟩))) = some lv := by rw [T_sl_api_Leaf.load, B2.cell]; rfl
  have ln := lf_len S
  by_cases c0 : e = 0
  case neg =>
    have q : (e == 0) = false := by simpa using c0
    simp only [q, Bool.false_and] at hk
    simp only [eqlI, q, zSS, reduceIte, zZZ, Nat.reduceAdd]
    exact hk _ e2
  subst c0
  cases ab with
  | true =>
    simp only [beq_self_eq_true, Bool.not_true, Bool.and_false, Bool.false_and, Bool.true_and] at hk
    simp only [eqlI, T_api_Proof.f0, la, zSS, reduceIte, zZZ, Nat.reduceAdd]
    exact hk _ e2
  | false =>
    match l, hl2 with
    | [], _ =>
      have q : (((([] : List LV).length : Nat) : Int) == 1) = false := rfl
      simp only [List.map_nil, Bool.and_false, Bool.false_and] at hk
      simp only [eqlI, T_api_Proof.f0, T_api_Proof.f1, Nat.zero_add, la, ll, ln, q, zSS, reduceIte, zZZ, Nat.reduceAdd]
      exact hk _ e2
    | [a, b], _ =>
      have q : ((([a, b].length : Nat) : Int) == 1) = false := rfl
      simp only [List.map_cons, List.map_nil, Bool.and_false, Bool.false_and] at hk
      simp only [eqlI, T_api_Proof.f0, T_api_Proof.f1, Nat.zero_add, la, ll, ln, q, zSS, reduceIte, zZZ, Nat.reduceAdd]
      exact hk _ e2
    | [a], _ =>
      have q : ((([a].length : Nat) : Int) == 1) = true := rfl
      obtain ⟨b, o, i1, i2⟩ := S.lff (j := 0) (y := a) rfl
      rw [show ((0 : Nat) : Int) = 0 from rfl] at i1
      obtain ⟨-, -, -, i3⟩ := i2 u2
      have pb : SemP PG (Instr.build T_api_Pair #[(0, .string (tx key)), (1, .string (tx v))]) = some (Pr.val ⟨key, v⟩) := by kernel_rfl
      simp only [List.map_cons, List.map_nil, beq_self_eq_true, Bool.not_false, Bool.true_and] at hk
      simp only [eqlI, T_api_Proof.f0, T_api_Proof.f1, T_api_Leaf.f2, Nat.zero_add, la, ll, ln, q, i1, i3, pb, Pr.eql, zSS, reduceIte, zZZ, Nat.reduceAdd]
      cases hq : (a.1.p == (⟨key, v⟩ : Pr)) with
      | false =>
        rw [hq] at hk
        simp only [Bool.false_and] at hk
        simp only [zSS, reduceIte, zZZ, Nat.reduceAdd]
        exact hk _ e2
      | true =>
        rw [hq] at hk
        simp only [Bool.true_and] at hk
        simp only [T_api_Proof.f1, Nat.zero_add, ll, zSS, reduceIte, zZZ, Nat.reduceAdd]
        refine climb_call (l := [a]) (hK.ext e2) (S.ext u2) (HS.ext u2) (by simp) (fun y hy => hbd y.1 (List.mem_map_of_mem hy)) fun h3 u3 => ?_
        try simp only [zSS, reduceIte, zZZ, Nat.reduceAdd]
        exact hk h3 (e2.trans u3)
end Go.Proofs.YtcoajnpchhmgjaaGreatDoor
namespace Go.Proofs.YtcoajnpchhmgjaaGreatDoor
open Go
set_option maxRecDepth 20000
theorem Lacks_ok {h : PH} {root s key : Tx} (hK : KAt h) {k : Value → PH → Prop} (hk : ∀ h', Ext h h' → k (.bool (lacksP root s key)) h') : CallsH PG id_proof_Lacks #[.string (tx root), .string (tx s), .string (tx key)] h k := by
  apply proof_Lacks.call
  unfold proof_Lacks
  have hbd := parse_bd s
  unfold lacksP at hk
  refine Parse_ok fun h1 lv l el S HS u1 => ?_
  have hl2 : l.length ≤ 2 := by have := parse_two s; rw [← el] at this; simpa using this
  rw [← el] at hk hbd
  generalize parsePf s = P at *
  obtain ⟨⟨ab, _⟩, e⟩ := P
  simp only at hk hbd
  simp only [zSS, reduceIte, zZZ, Nat.reduceAdd]
  intro r5 hr5
  try rw [bindH_eq]
  refine T_api_Proof.fill (vs := [.bool ab, lv]) hr5 rfl (by have := S.isc; simp [isCell]; exact this) fun h2 B2 u2 => ?_
  have e2 := u1.trans u2
  have la : SemE PG h2 (Instr.loadAt T_bool (.pointer (some ⟨r5, 0, none⟩))) = some (.bool ab) := by rw [T_bool.load, B2.cell]; rfl
  have ll : ∀ {h' : PH}, Ext h2 h' → SemE PG h' (Instr.loadAt T_sl_api_Leaf (.pointer (some ⟨r5, 1, none⟩))) = some lv := fun u => by rw [T_sl_api_Leaf.load, (B2.ext u).cell]; rfl
  have ln := lf_len S
  have lk : SemP PG (Builtin.len_ #[T_string] T_int #[.string (tx key)]) = some (.int .i64 (key.length : Int)) := by rw [len_string T_string.und, tx_size]
  by_cases c0 : e = 0
  case neg =>
    have q : (e == 0) = false := by simpa using c0
    have q' : (e != 0) = true := by simpa using c0
    simp only [q, Bool.false_and] at hk
    simp only [neqI, q', zSS, reduceIte, zZZ, Nat.reduceAdd]
    exact hk _ e2
  subst c0
  cases ab with
  | false =>
    simp only [Bool.and_false, Bool.false_and] at hk
    simp only [neqI, T_api_Proof.f0, la, zSS, reduceIte, zZZ, Nat.reduceAdd]
    exact hk _ e2
  | true =>
    by_cases c1 : key.length < 1
    · have g1 : ((key.length : Int) < 1) = True := eq_true (by omega)
      have d1 : decide (1 ≤ key.length) = false := decide_eq_false (by omega)
      simp only [d1, Bool.and_false, Bool.false_and] at hk
      simp only [neqI, T_api_Proof.f0, la, lk, g1, zSS, reduceIte, zZZ, Nat.reduceAdd]
      exact hk _ e2
    have g1 : ((key.length : Int) < 1) = False := eq_false (by omega)
    have d1 : decide (1 ≤ key.length) = true := decide_eq_true (by omega)
    by_cases c2 : 16 < key.length
    · have g2 : ((16 : Int) < (key.length : Int)) = True := eq_true (by omega)
      have d2 : decide (key.length ≤ 16) = false := decide_eq_false (by omega)
      simp only [d2, Bool.and_false, Bool.false_and] at hk
      simp only [neqI, T_api_Proof.f0, la, lk, g1, g2, zSS, reduceIte, zZZ, Nat.reduceAdd]
      exact hk _ e2
    have g2 : ((16 : Int) < (key.length : Int)) = False := eq_false (by omega)
    have d2 : decide (key.length ≤ 16) = true := decide_eq_true (by omega)
    simp only [d1, d2, beq_self_eq_true, Bool.true_and, Bool.and_self] at hk
    simp only [neqI, T_api_Proof.f0, T_api_Proof.f1, Nat.zero_add, la, lk, ll Upd.refl, g1, g2, zSS, reduceIte, zZZ, Nat.reduceAdd]
    refine climb_call (l := l) (hK.ext e2) (S.ext u2) (HS.ext u2) (by omega) (fun y hy => hbd y.1 (List.mem_map_of_mem hy)) fun h3 u3 => ?_
    have e3 := e2.trans u3
    cases hc : climbsP root (l.map (·.1)) with
    | false =>
      rw [hc] at hk
      simp only [Bool.false_and] at hk
      simp only [zSS, reduceIte, zZZ, Nat.reduceAdd]
      exact hk _ e3
    | true =>
      rw [hc] at hk
      simp only [Bool.true_and] at hk
      match l, hl2 with
      | [], _ =>
        have q : (((([] : List LV).length : Nat) : Int) == 0) = true := rfl
        simp only [List.map_nil] at hk
        simp only [eqlI, T_api_Proof.f1, Nat.zero_add, ll u3, ln, q, zSS, reduceIte, zZZ, Nat.reduceAdd]
        refine MRoot_ok (l := []) (by simp) (hK.ext e3) (OwnR.nil (e := T_api_Pair) (size := 2)).slR (fun p hp => by cases hp) fun h4 u4 => ?_
        have := hk h4 (e3.trans u4)
        rw [show (root == rootP []) = decide (root = rootP []) by rw [Bool.eq_iff_iff]; simp] at this
        simp only [eqlStr, zSS, reduceIte, zZZ, Nat.reduceAdd]
        exact this
      | [a], _ =>
        have q0 : ((([a].length : Nat) : Int) == 0) = false := rfl
        have q1 : ((([a].length : Nat) : Int) == 1) = true := rfl
        obtain ⟨b, o, i1, i2⟩ := S.lff (j := 0) (y := a) rfl
        rw [show ((0 : Nat) : Int) = 0 from rfl] at i1
        obtain ⟨x1, x2, x3, -⟩ := i2 (u2.trans u3)
        have hk := hk h3 e3
        simp only [List.map_cons, List.map_nil] at hk
        simp only [eqlI, T_api_Proof.f1, T_api_Leaf.f0, T_api_Leaf.f1, T_api_Leaf.f2, T_api_Pair.f0, Nat.zero_add, ll u3, ln, q0, q1, i1, x1, zSS, reduceIte, zZZ, Nat.reduceAdd]
        cases hi : a.1.i == 0 with
        | true =>
          rw [hi] at hk
          by_cases c3 : key < a.1.p.k
          · have d3 := decide_eq_true c3
            rw [d3] at hk
            simp only [Bool.true_or, Bool.and_self] at hk
            simp only [i1, T_api_Leaf.f2, T_api_Pair.f0, x3, lss_tx, d3, zSS, reduceIte, zZZ, Nat.reduceAdd]
            exact hk
          · have d3 := decide_eq_false c3
            rw [d3] at hk
            simp only [Bool.and_false, Bool.false_or] at hk
            simp only [i1, T_api_Leaf.f0, T_api_Leaf.f1, T_api_Leaf.f2, T_api_Pair.f0, x1, x2, x3, lss_tx, d3, eqlI, zSS, reduceIte, zZZ, Nat.reduceAdd]
            cases hj : a.1.i == IntKind.i64.wrap (a.1.n - 1) with
            | true =>
              rw [hj] at hk
              simp only [Bool.true_and] at hk
              simp only [i1, T_api_Leaf.f2, T_api_Pair.f0, x3, lss_tx, zSS, reduceIte, zZZ, Nat.reduceAdd]
              exact hk
            | false =>
              rw [hj] at hk
              simp only [Bool.false_and] at hk
              simp only [zSS, reduceIte, zZZ, Nat.reduceAdd]
              exact hk
        | false =>
          rw [hi] at hk
          simp only [Bool.false_and, Bool.false_or] at hk
          simp only [i1, T_api_Leaf.f0, T_api_Leaf.f1, x1, x2, eqlI, zSS, reduceIte, zZZ, Nat.reduceAdd]
          cases hj : a.1.i == IntKind.i64.wrap (a.1.n - 1) with
          | true =>
            rw [hj] at hk
            simp only [Bool.true_and] at hk
            simp only [i1, T_api_Leaf.f2, T_api_Pair.f0, x3, lss_tx, zSS, reduceIte, zZZ, Nat.reduceAdd]
            exact hk
          | false =>
            rw [hj] at hk
            simp only [Bool.false_and] at hk
            simp only [zSS, reduceIte, zZZ, Nat.reduceAdd]
            exact hk
      | [a, c], _ =>
        have q0 : ((([a, c].length : Nat) : Int) == 0) = false := rfl
        have q1 : ((([a, c].length : Nat) : Int) == 1) = false := rfl
        obtain ⟨b, o, i1, i2⟩ := S.lff (j := 0) (y := a) rfl
        rw [show ((0 : Nat) : Int) = 0 from rfl] at i1
        obtain ⟨x1, x2, x3, -⟩ := i2 (u2.trans u3)
        obtain ⟨b', o', j1, j2⟩ := S.lff (j := 1) (y := c) rfl
        rw [show ((1 : Nat) : Int) = 1 from rfl] at j1
        obtain ⟨y1, y2, y3, -⟩ := j2 (u2.trans u3)
        have hk := hk h3 e3
        simp only [List.map_cons, List.map_nil] at hk
        simp only [eqlI, T_api_Proof.f1, T_api_Leaf.f0, T_api_Leaf.f1, T_api_Leaf.f2, T_api_Pair.f0, Nat.zero_add, ll u3, ln, q0, q1, i1, x2, j1, y2, zSS, reduceIte, zZZ, Nat.reduceAdd]
        cases h1 : a.1.n == c.1.n with
        | false =>
          rw [h1] at hk
          simp only [Bool.false_and] at hk
          simp only [zSS, reduceIte, zZZ, Nat.reduceAdd]
          exact hk
        | true =>
          rw [h1] at hk
          simp only [Bool.true_and] at hk
          simp only [i1, j1, T_api_Leaf.f0, x1, y1, eqlI, zSS, reduceIte, zZZ, Nat.reduceAdd]
          cases h2' : IntKind.i64.wrap (a.1.i + 1) == c.1.i with
          | false =>
            rw [h2'] at hk
            simp only [Bool.false_and] at hk
            simp only [zSS, reduceIte, zZZ, Nat.reduceAdd]
            exact hk
          | true =>
            rw [h2'] at hk
            simp only [Bool.true_and] at hk
            simp only [i1, j1, T_api_Leaf.f2, T_api_Pair.f0, x3, y3, lss_tx, zSS, reduceIte, zZZ, Nat.reduceAdd]
            cases h3' : decide (a.1.p.k < key) with
            | false =>
              rw [h3'] at hk
              simp only [Bool.false_and] at hk
              simp only [zSS, reduceIte, zZZ, Nat.reduceAdd]
              exact hk
            | true =>
              rw [h3'] at hk
              simp only [Bool.true_and] at hk
              simp only [i1, j1, T_api_Leaf.f2, T_api_Pair.f0, x3, y3, lss_tx, zSS, reduceIte, zZZ, Nat.reduceAdd]
              exact hk
end Go.Proofs.YtcoajnpchhmgjaaGreatDoor
namespace Go.Proofs.YtcoajnpchhmgjaaGreatDoor
open Go
set_option maxRecDepth 20000
theorem cvp_iu (x : Int) : SemP PG (convert T_int T_uint (.int .i64 x)) = some (.int .u64 (IntKind.u64.wrap x)) := by kernel_rfl
theorem cvp_ui (x : Int) : SemP PG (convert T_uint T_int (.int .u64 x)) = some (.int .i64 (IntKind.i64.wrap x)) := by kernel_rfl
theorem shr1 {t : TypeId} {n : Nat} : SemP PG (binOp .shr t (.int .u64 (n : Int)) (.int .u64 1)) = some (.int .u64 ((n / 2 : Nat) : Int)) := by
  rw [shr_eq (by decide)]
  congr 2
  show (n : Int).fdiv (2 ^ 1) = _
  rw [Int.fdiv_eq_ediv_of_nonneg _ (by decide)]
  have : (2 : Int) ^ 1 = 2 := by rfl
  omega
def fnF : Value := .func (.func id_proof_find_1) #[] #[]
theorem cmpF_ok {h : PH} {p : Pr} {key : Tx} {k : Value → PH → Prop} (hk : ∀ h', Ext h h' → k (.int .i64 (if p.k < key then -1 else if key < p.k then 1 else 0)) h') : CallsH PG id_proof_find_1 #[p.val, .string (tx key)] h k := by
  apply proof_find_1.call
  unfold proof_find_1
  intro r1 hr1
  try rw [bindH_eq]
  have u1 : Ext h (h.set r1 (.cells (Value.cells p.val) T_api_Pair)) := Upd.new hr1
  have B1 : Bx (h.set r1 (.cells (Value.cells p.val) T_api_Pair)) r1 p.cells := Bx.new
  generalize h.set r1 (.cells (Value.cells p.val) T_api_Pair) = h1 at *
  have lk : SemE PG h1 (Instr.loadAt T_string (.pointer (some ⟨r1, 0, none⟩))) = some (.string (tx p.k)) := by rw [T_string.load, B1.cell]; rfl
  simp only [T_api_Pair.f0, lk, zSS, reduceIte, zZZ, Nat.reduceAdd]
  refine Compare_ok ?_
  exact hk _ u1
theorem pfind_ok {h : PH} {v : Value} {l : List Pr} (S : SlR h 2 v (l.map Pr.cells)) (hs : SUp l) (hl : l.length ≤ 1000000) (key : Tx) {k : Value → PH → Prop} (hk : ∀ h', Ext h h' → k (.tuple #[.int .i64 ((placeP l key : Nat) : Int), .bool (sgetL l key).isSome]) h') :
    CallsH PG id_proof_find #[v, .string (tx key)] h k := by
  apply proof_find.call
  unfold proof_find
  apply slices_BinarySearchFunc_sl_api_Pair_api_Pair_string.call
  unfold slices_BinarySearchFunc_sl_api_Pair_api_Pair_string
  have lv := S.len (t' := T_int) T_sl_api_Pair.und
  rw [List.length_map] at lv
  have hple := place_le l key
  simp only [lv, zSS, reduceIte, zZZ, Nat.reduceAdd]
  refine ⟨fun vs h' => ∃ i j : Nat, i ≤ placeP l key ∧ placeP l key ≤ j ∧ j ≤ l.length ∧ vs = [v, .string (tx key), fnF, .int .i64 (l.length : Int), .int .i64 (i : Int), .int .i64 (j : Int)] ∧ Ext h h', fun vs _ => match vs with | [_, _, _, _, .int _ i, .int _ j] => (j - i).toNat | _ => 0, ⟨0, l.length, by omega, hple, by omega, rfl, Upd.refl⟩, ?_⟩
  rintro ρ h' ⟨i, j, h1, h2, h3, hvs, u⟩
  simp only [List.map_cons, List.map_nil, List.cons.injEq, and_true] at hvs
  obtain ⟨v0, v1, v2, v3, v4, v5⟩ := hvs
  unfold slices_BinarySearchFunc_sl_api_Pair_api_Pair_string_b3
  rw [v0, v1, v2, v3, v4, v5]
  by_cases hlt : i < j
  · have g : ((i : Int) < (j : Int)) = True := eq_true (by omega)
    have w1 : IntKind.i64.wrap ((i : Int) + (j : Int)) = ((i + j : Nat) : Int) := by rw [i64_wrap (by omega) (by omega)]; omega
    have w2 : IntKind.u64.wrap ((i + j : Nat) : Int) = ((i + j : Nat) : Int) := u64_wrap (by omega) (by omega)
    have w3 : IntKind.i64.wrap (((i + j) / 2 : Nat) : Int) = (((i + j) / 2 : Nat) : Int) := i64_wrap (by omega) (by omega)
    obtain ⟨m, hm⟩ : ∃ m, m = (i + j) / 2 := ⟨_, rfl⟩
    have hmj : m < j := by omega
    have him : i ≤ m := by omega
    have w4 : IntKind.i64.wrap ((m : Int) + 1) = ((m + 1 : Nat) : Int) := by rw [i64_wrap (by omega) (by omega)]; omega
    rw [← hm] at w3
    obtain ⟨p, hp⟩ : ∃ p, l[m]? = some p := ⟨_, List.getElem?_eq_getElem (by omega)⟩
    obtain ⟨b, o, a1, -, -, a2⟩ := (S.ext u).pair hp
    have hpl := place_lt (k := key) hs hp
    simp only [g, w1, cvp_iu, w2, shr1, ← hm, cvp_ui, w3, a1, a2, zSS, reduceIte, zZZ, Nat.reduceAdd]
    show CallsH PG id_proof_find_1 #[p.val, .string (tx key)] h' _
    refine cmpF_ok fun h4 u4 => ?_
    unfold slices_BinarySearchFunc_sl_api_Pair_api_Pair_string_k15
    by_cases c : p.k < key
    · have gc : ((-1 : Int) < 0) = True := eq_true (by decide)
      have := hpl.2 c
      rw [if_pos c]
      simp only [gc, w4, zSS, reduceIte, zZZ, Nat.reduceAdd]
      exact ⟨⟨m + 1, j, by omega, h2, h3, rfl, u.trans u4⟩, by simp [v4, v5]; omega⟩
    · have hpn : ¬ m < placeP l key := fun x => c (hpl.1 x)
      rw [if_neg c]
      have gc : ((if key < p.k then (1 : Int) else 0) < 0) = False := eq_false (by split <;> decide)
      simp only [gc, zSS, reduceIte, zZZ, Nat.reduceAdd]
      exact ⟨⟨i, m, h1, by omega, by omega, rfl, u.trans u4⟩, by simp [v4, v5]; omega⟩
  · have g : ((i : Int) < (j : Int)) = False := eq_false (by omega)
    have ei : i = placeP l key := by omega
    by_cases hil : i < l.length
    · have g2 : ((i : Int) < (l.length : Int)) = True := eq_true (by omega)
      obtain ⟨p, hp⟩ : ∃ p, l[i]? = some p := ⟨_, List.getElem?_eq_getElem hil⟩
      obtain ⟨b, o, a1, -, -, a2⟩ := (S.ext u).pair hp
      have hpl := place_lt (k := key) hs hp
      have hnl : ¬ p.k < key := fun c => by have := hpl.2 c; omega
      simp only [g, g2, a1, a2, zSS, reduceIte, zZZ, Nat.reduceAdd]
      show CallsH PG id_proof_find_1 #[p.val, .string (tx key)] h' _
      refine cmpF_ok fun h4 u4 => ?_
      rw [if_neg hnl]
      have hk := hk h4 (u.trans u4)
      rw [← ei] at hk
      by_cases c : key < p.k
      · have hno : (sgetL l key).isSome = false := by
          rw [Option.isSome_eq_false_iff, Option.isNone_iff_eq_none, sgetL_none]
          intro q hq e
          obtain ⟨x, hx⟩ := List.mem_iff_getElem?.1 hq
          have hqk : ¬ q.k < key := by rw [e]; exact List.lt_irrefl _
          have : ¬ x < placeP l key := fun y => hqk ((place_lt hs hx).1 y)
          rcases Nat.lt_or_ge i x with hix | hix
          · have := hs.lt hp hx hix
            rw [e] at this
            exact List.lt_irrefl _ (List.lt_trans c this)
          · have : x = i := by omega
            rw [this, hp] at hx
            cases hx
            rw [e] at c
            exact List.lt_irrefl _ c
        have q1 : ((1 : Int) == 0) = false := by decide
        rw [hno] at hk
        rw [if_pos c]
        simp only [eqlI, q1, zSS, reduceIte, zZZ, Nat.reduceAdd]
        exact hk
      · have e : p.k = key := by
          rcases tx_total p.k key with h | h | h
          · exact absurd h hnl
          · exact h
          · exact absurd h c
        have hyes : (sgetL l key).isSome = true := by rw [(sgetL_some hs).2 ⟨List.mem_of_getElem? hp, e⟩]; rfl
        have q1 : ((0 : Int) == 0) = true := by decide
        rw [hyes] at hk
        rw [if_neg c]
        simp only [eqlI, q1, zSS, reduceIte, zZZ, Nat.reduceAdd]
        exact hk
    · have g2 : ((i : Int) < (l.length : Int)) = False := eq_false (by omega)
      have hno : (sgetL l key).isSome = false := by
        rw [Option.isSome_eq_false_iff, Option.isNone_iff_eq_none, sgetL_none]
        intro q hq e
        obtain ⟨x, hx⟩ := List.mem_iff_getElem?.1 hq
        have hxl := (List.getElem?_eq_some_iff.1 hx).1
        have := (place_lt (k := key) hs hx).1 (by omega)
        rw [e] at this
        exact List.lt_irrefl _ this
      have hk := hk h' u
      rw [← ei, hno] at hk
      simp only [g, g2, zSS, reduceIte, zZZ, Nat.reduceAdd]
      exact hk
end Go.Proofs.YtcoajnpchhmgjaaGreatDoor
namespace Go.Proofs.YtcoajnpchhmgjaaGreatDoor
open Go
set_option maxRecDepth 20000
def ncellI (j : Nat) : List Value := [.int .i64 (j : Int)]
theorem ncellI.rows (l : List Nat) : Rows 1 (l.map ncellI) := fun r hr => by obtain ⟨m, _, rfl⟩ := List.mem_map.1 hr; rfl
theorem SlR.ic {h : PH} {v : Value} {l : List Nat} (S : SlR h 1 v (l.map ncellI)) {j : Nat} {x : Nat} (hx : l[j]? = some x) :
    ∃ a, SemP PG (Instr.indexAt T_sl_int v (.int .i64 (j : Int))) = some (.pointer (some a)) ∧ SemE PG h (Instr.loadAt T_int (.pointer (some a))) = some (.int .i64 (x : Int)) :=
  S.loadCell T_sl_int.und T_int.info T_int.size T_int.und rfl (k := .i64) (j := (j : Int)) (x := .int .i64 (x : Int)) (by omega) (by rw [Int.toNat_natCast, List.getElem?_map, hx]; rfl)
theorem ic_len {h : PH} {v : Value} {l : List Nat} (S : SlR h 1 v (l.map ncellI)) : SemP PG (Builtin.len_ #[T_sl_int] T_int #[v]) = some (.int .i64 l.length) := by
  have := S.len (t' := T_int) T_sl_int.und
  rw [List.length_map] at this
  exact this
def LfN (h0 h : PH) (l : List LV) (B : List Nat) : Prop := ∀ y ∈ l, ∃ G, OwnR h T_string 1 y.2 (y.1.path.map scell) G ∧ Fresh h0 G ∧ ∀ b ∈ G, b ∉ B
theorem LfN.upd {h0 h h' : PH} {l : List LV} {B K : List Nat} (H : LfN h0 h l B) (u : Upd K h h') (hK : ∀ b ∈ K, b ∈ B ∨ h0 b ≠ none) : LfN h0 h' l B := fun y hy => by
  obtain ⟨G, O, f, hG⟩ := H y hy
  refine ⟨G, O.upd u (fun b hb hk => ?_), f, hG⟩
  rcases hK b hk with hx | hx
  · exact hG b hb hx
  · exact hx (f b hb)
theorem LfN.grow {h0 h : PH} {l : List LV} {B B' : List Nat} (H : LfN h0 h l B) (hB : ∀ b ∈ B', b ∈ B ∨ h b = none) : LfN h0 h l B' := fun y hy => by
  obtain ⟨G, O, f, hG⟩ := H y hy
  exact ⟨G, O, f, fun b hb hb' => by
    rcases hB b hb' with hx | hx
    · exact hG b hb hx
    · exact O.known b hb hx⟩
theorem LfN.lfs {h0 h : PH} {l : List LV} {B : List Nat} (H : LfN h0 h l B) : LfS h l := fun y hy => by
  obtain ⟨G, O, -⟩ := H y hy
  exact O.slR
theorem lf_b4 (x y : Int) (p : Pr) (b : Option Addr) (n c : Nat) : SemP PG (Instr.build T_api_Leaf #[(0, .int .i64 x), (1, .int .i64 y), (2, p.val), (3, .slice b n c)]) = some (Lf.val ⟨x, y, p, []⟩ (.slice b n c)) := by kernel_rfl
structure LsAt (h0 h : PH) (v : Value) (fs : List Lf) : Prop where
  here : ∃ (l : List LV) (F : List Nat), l.map (·.1) = fs ∧ OwnR h T_api_Leaf 5 v (l.map lrow) F ∧ Fresh h0 F ∧ LfN h0 h l F
theorem LsAt.upd {h0 h h' : PH} {v : Value} {fs : List Lf} {K : List Nat} (H : LsAt h0 h v fs) (u : Upd K h h') (hK : ∀ b ∈ K, h0 b ≠ none) : LsAt h0 h' v fs := by
  obtain ⟨l, F, e, O, f, L⟩ := H.here
  exact ⟨l, F, e, O.upd u (fun b hb hk => hK b hk (f b hb)), f, L.upd u (fun b hb => .inr (hK b hb))⟩
theorem LsAt.isc {h0 h : PH} {v : Value} {fs : List Lf} (H : LsAt h0 h v fs) : Go.Proofs.YtcoajnpchhmgjaaGreatDoor.isCell v = true := by
  obtain ⟨l, F, e, O, f, L⟩ := H.here
  exact O.slR.isc
theorem LsAt.nil {h0 h : PH} : LsAt h0 h (.slice none 0 0) [] := ⟨[], [], rfl, OwnR.nil, (fun b hb => by cases hb), (fun y hy => by cases hy)⟩
theorem leaves_ok {h0 h : PH} {v av : Value} {l : List Pr} {js : List Nat} (u0 : Ext h0 h) (hK : KAt h) (S : SlR h 2 v (l.map Pr.cells)) (hs : MSmall l) (hl : l.length ≤ 4096) (A : SlR h 1 av (js.map ncellI)) (hj : ∀ j ∈ js, j < l.length) (h2 : js.length ≤ 2) {k : Value → PH → Prop}
    (hk : ∀ h' v', LsAt h0 h' v' (js.map (leafOf l)) → Ext h h' → k v' h') : CallsH PG id_proof_leaves #[v, av] h k := by
  apply proof_leaves.call
  unfold proof_leaves
  have la := ic_len A
  have lv := S.len (t' := T_int) T_sl_api_Pair.und
  rw [List.length_map] at lv
  simp only [la, zSS, reduceIte, zZZ, Nat.reduceAdd]
  refine ⟨fun vs h' => ∃ (i : Nat) (o : Value) (r : List LV) (F : List Nat), i ≤ js.length ∧ vs = [v, o, av, .int .i64 (js.length : Int), .int .i64 (i : Int)] ∧ Ext h h' ∧ r.map (·.1) = (js.take i).map (leafOf l) ∧ OwnR h' T_api_Leaf 5 o (r.map lrow) F ∧ Fresh h F ∧ LfN h h' r F ∧ r.length ≤ i, upTo js.length 4, ⟨0, _, [], [], by omega, rfl, Upd.refl, rfl, OwnR.nil, (fun b hb => by cases hb), (fun y hy => by cases hy), by simp⟩, ?_⟩
  rintro ρ h' ⟨i, o, r, F, hi, hvs, u, hr, O, f, L, hrl⟩
  simp only [List.map_cons, List.map_nil, List.cons.injEq, and_true] at hvs
  obtain ⟨v0, v1, v2, v3, v4⟩ := hvs
  unfold proof_leaves_b3
  rw [v0, v1, v2, v3, v4]
  by_cases hlt : i < js.length
  · have g : ((i : Int) < (js.length : Int)) = True := eq_true (by omega)
    have gi : IntKind.i64.wrap ((i : Int) + 1) = ((i + 1 : Nat) : Int) := by rw [i64_wrap (by omega) (by omega)]; omega
    obtain ⟨j, hjj⟩ : ∃ j, js[i]? = some j := ⟨_, List.getElem?_eq_getElem hlt⟩
    have hjl := hj j (List.mem_of_getElem? hjj)
    obtain ⟨p, hp⟩ : ∃ p, l[j]? = some p := ⟨_, List.getElem?_eq_getElem hjl⟩
    obtain ⟨aa, a1, a2⟩ := (A.ext u).ic hjj
    obtain ⟨b, q, b1, -⟩ := S.pair hp
    have b2 : ∀ {h'' : PH}, Ext h h'' → SemE PG h'' (Instr.loadAt T_api_Pair (.pointer (some ⟨b, q, none⟩))) = some p.val := fun w => by
      obtain ⟨b', q', c1, -, -, c2⟩ := (S.ext w).pair hp
      rw [b1] at c1; cases c1
      exact c2
    simp only [g, a1, a2, lv, b1, b2 u, zSS, reduceIte, zZZ, Nat.reduceAdd]
    refine Path_ok hjl hl (hK.ext u) (S.ext u) hs fun pv h3 G O3 fG u3 => ?_
    have e3 := u.trans u3
    obtain ⟨pa, pc, epv, -⟩ := O3.slR.here
    refine ⟨b2 e3, ?_⟩
    have hb : SemP PG (Instr.build T_api_Leaf #[(0, .int .i64 (j : Int)), (1, .int .i64 (l.length : Int)), (2, p.val), (3, pv)]) = some ((leafOf l j).val pv) := by
      rw [epv, lf_b4, leafOf_at hp]; rfl
    have hpath : (leafOf l j).path = pathP l j := rfl
    simp only [hb, lf_lit1, zSS, reduceIte, zZZ, Nat.reduceAdd]
    intro r13 hr13
    refine popO_pure ?_
    try rw [bindH_eq]
    have u4 : Ext h3 (h3.set r13 (.cells ((leafOf l j).cells pv).toArray T_api_Leaf)) := Upd.new hr13
    have s1 : SlR (h3.set r13 (.cells ((leafOf l j).cells pv).toArray T_api_Leaf)) 5 (.slice (some ⟨r13, 0, none⟩) 1 1) ([(leafOf l j, pv)].map lrow) := (OwnR.lit (lrow.rows [(leafOf l j, pv)]) set_same (by simp) (by decide) (by simp [lrow])).slR
    generalize h3.set r13 (.cells ((leafOf l j).cells pv).toArray T_api_Leaf) = h4 at *
    have e4 := e3.trans u4
    refine append_own T_sl_api_Leaf.und T_sl_api_Leaf.und T_api_Leaf.info T_api_Leaf.size T_api_Leaf.bytes T_api_Leaf.zero rfl (by decide) ((O.ext u3).ext u4) s1 (fun r hr u hu => by
      obtain ⟨y, hy, rfl⟩ := List.mem_map.1 hr
      simp only [List.mem_singleton] at hy
      subst hy
      exact Lf.isC _ O3.slR.isc u hu) (by simp; omega) ?_
    intro v5 h5 F5 O5 u5 g5 _
    rw [← List.map_append] at O5
    have L4 : LfN h h4 (r ++ [(leafOf l j, pv)]) F := fun y hy => by
      rcases List.mem_append.1 hy with hy | hy
      · exact ((L.upd u3 (fun b hb => by cases hb)).upd u4 (fun b hb => by cases hb)) y hy
      · simp only [List.mem_singleton] at hy
        subst hy
        exact ⟨G, O3.ext u4, fG.of u, fun b hb hb' => O.known b hb' (fG b hb)⟩
    have L5 : LfN h h5 (r ++ [(leafOf l j, pv)]) F5 := by
      have := L4.grow (B' := F ++ F5) (fun b hb => by
        rcases List.mem_append.1 hb with hb | hb
        · exact .inl hb
        · exact g5 b hb)
      exact (this.upd u5 (fun b hb => .inl (by simp [hb]))).grow (fun b hb => .inl (by simp [hb]))
    simp only [gi, zSS, reduceIte, zZZ, Nat.reduceAdd]
    refine ⟨⟨i + 1, v5, r ++ [(leafOf l j, pv)], F5, by omega, rfl, e4.fresh u5 f, ?_, O5, f.grow e4 g5, L5, by simp; omega⟩, by simp [upTo, v4]; omega⟩
    rw [List.map_append, hr, List.take_add_one, hjj]
    simp
  · have g : ((i : Int) < (js.length : Int)) = False := eq_false (by omega)
    rw [List.take_of_length_le (by omega)] at hr
    simp only [g, zSS, reduceIte, zZZ, Nat.reduceAdd]
    refine hk h' o ⟨r, F, hr, O, f.of u0, fun y hy => ?_⟩ u
    obtain ⟨G, OG, fG, hG⟩ := L y hy
    exact ⟨G, OG, fG.of u0, hG⟩
end Go.Proofs.YtcoajnpchhmgjaaGreatDoor
namespace Go.Proofs.YtcoajnpchhmgjaaGreatDoor
open Go
set_option maxRecDepth 20000
theorem LsAt.of {h0 h1 h : PH} {v : Value} {fs : List Lf} (H : LsAt h1 h v fs) (u : Ext h0 h1) : LsAt h0 h v fs := by
  obtain ⟨l, F, e, O, f, L⟩ := H.here
  exact ⟨l, F, e, O, f.of u, fun y hy => by
    obtain ⟨G, OG, fG, hG⟩ := L y hy
    exact ⟨G, OG, fG.of u, hG⟩⟩
theorem MOk.small {l : List Pr} (H : MOk l) : MSmall l := fun p hp => by
  have := H.k p hp; have := H.v p hp; omega
theorem il1 (a : Int) : SemA PG (Instr.buildSlice T_sl_int 1 #[(0, .int .i64 a)]) = some (.cells #[.int .i64 a] T_int, fun r => pure (.slice (some ⟨r, 0, none⟩) 1 1)) := by kernel_rfl
theorem il2 (a b : Int) : SemA PG (Instr.buildSlice T_sl_int 2 #[(0, .int .i64 a), (1, .int .i64 b)]) = some (.cells #[.int .i64 a, .int .i64 b] T_int, fun r => pure (.slice (some ⟨r, 0, none⟩) 2 2)) := by kernel_rfl
theorem pf_bv (b : Option Addr) (n c : Nat) : SemP PG (Instr.build T_api_Proof #[(1, .slice b n c)]) = some (Pf.val false (.slice b n c)) := by kernel_rfl
theorem Present_ok {h : PH} {v : Value} {l : List Pr} {key : Tx} (H : MOk l) (hK : KAt h) (S : SlR h 2 v (l.map Pr.cells)) {kk : Value → PH → Prop} (hno : sgetL l key = none → ∀ h', Ext h h' → kk (.tuple #[Pf.val false (.slice none 0 0), .int .i64 3]) h')
    (hyes : (sgetL l key).isSome = true → ∀ h' v', LsAt h h' v' [leafOf l (placeP l key)] → Ext h h' → kk (.tuple #[Pf.val false v', .int .i64 0]) h') : CallsH PG id_proof_Present #[v, .string (tx key)] h kk := by
  apply proof_Present.call
  unfold proof_Present
  have hl := H.len
  intro r1 hr1
  try rw [bindH_eq]
  have u1 : Ext h (h.set r1 (.cells (zcells PG T_api_Proof) T_api_Proof)) := Upd.new hr1
  have Z1 := T_api_Proof.zbox (h := h) (r := r1)
  generalize h.set r1 (.cells (zcells PG T_api_Proof) T_api_Proof) = h1 at *
  have f1 : Fresh h [r1] := Fresh.one hr1
  refine pfind_ok (S.ext u1) H.up (by omega) key fun h2 u2 => ?_
  have e2 := u1.trans u2
  have Z2 := Z1.ext u2
  cases hg : (sgetL l key).isSome with
  | false =>
    simp only [pf_zb, zSS, reduceIte, zZZ, Nat.reduceAdd]
    refine T_api_Proof.put (vs := [.bool false, .slice none 0 0]) Z2 (o := 0) rfl (by show 0 + 2 ≤ 2; decide) (by simp [isCell]) fun h6 B6 u6 => ?_
    have l6 : SemE PG h6 (Instr.loadAt T_api_Proof (.pointer (some ⟨r1, 0, none⟩))) = some (Pf.val false (.slice none 0 0)) := T_api_Proof.agg B6 (by show 0 + 2 ≤ 2; decide)
    simp only [l6, zSS, reduceIte, zZZ, Nat.reduceAdd]
    exact hno (by simpa using hg) h6 (e2.fresh u6 f1)
  | true =>
    obtain ⟨p, hp⟩ := Option.isSome_iff_exists.1 hg
    have hj := (List.getElem?_eq_some_iff.1 (placeP_at H.up hp)).1
    simp only [il1, zSS, reduceIte, zZZ, Nat.reduceAdd]
    intro r12 hr12
    refine popO_pure ?_
    try rw [bindH_eq]
    have u3 : Ext h2 (h2.set r12 (.cells #[.int .i64 ((placeP l key : Nat) : Int)] T_int)) := Upd.new hr12
    have A : SlR (h2.set r12 (.cells #[.int .i64 ((placeP l key : Nat) : Int)] T_int)) 1 (.slice (some ⟨r12, 0, none⟩) 1 1) ([placeP l key].map ncellI) := (OwnR.lit (ncellI.rows [placeP l key]) set_same (by simp) (by decide) (by simp [ncellI])).slR
    generalize h2.set r12 (.cells #[.int .i64 ((placeP l key : Nat) : Int)] T_int) = h3 at *
    have e3 := e2.trans u3
    refine leaves_ok (h0 := h1) (u2.trans u3) (hK.ext e3) (S.ext e3) H.small hl A (by simpa using hj) (by simp) fun h4 v4 L4 u4 => ?_
    obtain ⟨b, n, c, ev⟩ : ∃ b n c, v4 = .slice b n c := by
      obtain ⟨l', F, -, O, -⟩ := L4.here
      obtain ⟨b, c, ev, -⟩ := O.slR.here
      exact ⟨b, _, c, ev⟩
    have hb : SemP PG (Instr.build T_api_Proof #[(1, v4)]) = some (Pf.val false v4) := by rw [ev]; exact pf_bv _ _ _
    simp only [hb, zSS, reduceIte, zZZ, Nat.reduceAdd]
    refine T_api_Proof.put (vs := [.bool false, v4]) ((Z2.ext u3).ext u4) (o := 0) rfl (by show 0 + 2 ≤ 2; decide) (by
      have := L4.isc
      simp [isCell]; exact this) fun h6 B6 u6 => ?_
    have l6 : SemE PG h6 (Instr.loadAt T_api_Proof (.pointer (some ⟨r1, 0, none⟩))) = some (Pf.val false v4) := T_api_Proof.agg B6 (by show 0 + 2 ≤ 2; decide)
    simp only [l6, zSS, reduceIte, zZZ, Nat.reduceAdd]
    exact hyes hg h6 v4 ((L4.upd u6 (fun b hb => by simp at hb; rw [hb]; exact Z1.known)).of u1) ((e3.trans u4).fresh u6 f1)
theorem Absent_ok {h : PH} {v : Value} {l : List Pr} {key : Tx} (H : MOk l) (hK : KAt h) (S : SlR h 2 v (l.map Pr.cells)) {kk : Value → PH → Prop} (hbad : ¬ (1 ≤ key.length ∧ key.length ≤ 16) → ∀ h', Ext h h' → kk (.tuple #[Pf.val false (.slice none 0 0), .int .i64 1]) h')
    (hyes : (sgetL l key).isSome = true → ∀ h', Ext h h' → kk (.tuple #[Pf.val false (.slice none 0 0), .int .i64 4]) h')
    (hno : 1 ≤ key.length → key.length ≤ 16 → sgetL l key = none → ∀ h' v', LsAt h h' v' (proofP l key).lv → Ext h h' → kk (.tuple #[Pf.val true v', .int .i64 0]) h') : CallsH PG id_proof_Absent #[v, .string (tx key)] h kk := by
  apply proof_Absent.call
  unfold proof_Absent
  have hl := H.len
  have hple := place_le l key
  intro r1 hr1
  try rw [bindH_eq]
  have u1 : Ext h (h.set r1 (.cells (zcells PG T_api_Proof) T_api_Proof)) := Upd.new hr1
  have Z1 := T_api_Proof.zbox (h := h) (r := r1)
  generalize h.set r1 (.cells (zcells PG T_api_Proof) T_api_Proof) = h1 at *
  have f1 : Fresh h [r1] := Fresh.one hr1
  have lk : SemP PG (Builtin.len_ #[T_string] T_int #[.string (tx key)]) = some (.int .i64 (key.length : Int)) := by rw [len_string T_string.und, tx_size]
  have lv := S.len (t' := T_int) T_sl_api_Pair.und
  rw [List.length_map] at lv
  have err : ∀ {h5 : PH} {e : Int}, Ext h h5 → Bx h5 r1 (Value.cells (Pf.val false (.slice none 0 0))).toList → (∀ h', Ext h h' → kk (.tuple #[Pf.val false (.slice none 0 0), .int .i64 e]) h') → SemH PG (storeS T_api_Proof (.pointer (some ⟨r1, 0, none⟩)) (Pf.val false (.slice none 0 0))) h5 fun v27 h28 => popO (SemE PG h28 (Instr.loadAt T_api_Proof (.pointer (some ⟨r1, 0, none⟩)))) fun v29 => kk (.tuple #[v29, (Value.int IntKind.i64 e)]) h28 := by
    intro h5 e e5 B5 hk
    refine T_api_Proof.put (vs := [.bool false, .slice none 0 0]) B5 (o := 0) rfl (by show 0 + 2 ≤ 2; decide) (by simp [isCell]) fun h6 B6 u6 => ?_
    have l6 : SemE PG h6 (Instr.loadAt T_api_Proof (.pointer (some ⟨r1, 0, none⟩))) = some (Pf.val false (.slice none 0 0)) := T_api_Proof.agg B6 (by show 0 + 2 ≤ 2; decide)
    simp only [l6, zSS, reduceIte, zZZ, Nat.reduceAdd]
    exact hk h6 (e5.fresh u6 f1)
  by_cases c1 : key.length < 1
  · have g1 : ((key.length : Int) < 1) = True := eq_true (by omega)
    simp only [lk, g1, pf_zb, zSS, reduceIte, zZZ, Nat.reduceAdd]
    exact err u1 Z1 (hbad (by omega))
  have g1 : ((key.length : Int) < 1) = False := eq_false (by omega)
  by_cases c2 : 16 < key.length
  · have g2 : ((16 : Int) < (key.length : Int)) = True := eq_true (by omega)
    simp only [lk, g1, g2, pf_zb, zSS, reduceIte, zZZ, Nat.reduceAdd]
    exact err u1 Z1 (hbad (by omega))
  have g2 : ((16 : Int) < (key.length : Int)) = False := eq_false (by omega)
  simp only [lk, g1, g2, zSS, reduceIte, zZZ, Nat.reduceAdd]
  refine pfind_ok (S.ext u1) H.up (by omega) key fun h2 u2 => ?_
  have e2 := u1.trans u2
  have Z2 := Z1.ext u2
  simp only [pf_b1, zSS, reduceIte, zZZ, Nat.reduceAdd]
  intro r26 hr26
  try rw [bindH_eq]
  have n126 : r1 ≠ r26 := Z2.apart hr26
  refine T_api_Proof.fill (vs := [.bool true, .slice none 0 0]) hr26 rfl (by simp [isCell]) fun h3 B3 u3 => ?_
  have e3 := e2.trans u3
  have Z3 := Z2.ext u3
  have f26 : Fresh h [r26] := Fresh.one (e2.none hr26)
  cases hg : (sgetL l key).isSome with
  | true =>
    simp only [pf_zb, zSS, reduceIte, zZZ, Nat.reduceAdd]
    exact err e3 Z3 (hyes hg)
  | false =>
    have hgn : sgetL l key = none := by simpa using hg
    have hno := hno (by omega) (by omega) hgn
    have epf : (proofP l key).lv = if l = [] then [] else if placeP l key = 0 then [leafOf l 0] else if placeP l key = l.length then [leafOf l (l.length - 1)] else [leafOf l (placeP l key - 1), leafOf l (placeP l key)] := by
      unfold proofP
      rw [if_neg (by rw [hg]; decide)]
      split
      · rfl
      · split
        · rfl
        · split <;> rfl
    -- the end
    have fin : ∀ {h5 : PH} {v5 : Value}, Ext h h5 → Bx h5 r1 (Value.cells (Pf.val false (.slice none 0 0))).toList → Bx h5 r26 [.bool true, v5] → LsAt h3 h5 v5 (proofP l key).lv → proof_Absent_k36 kk (.pointer (some ⟨r1, 0, none⟩)) (.pointer (some ⟨r26, 0, none⟩)) h5 := by
      intro h5 v5 e5 Z5 B5 L5
      unfold proof_Absent_k36 proof_Absent_k37
      have l5 : SemE PG h5 (Instr.loadAt T_api_Proof (.pointer (some ⟨r26, 0, none⟩))) = some (Pf.val true v5) := T_api_Proof.agg B5 (by show 0 + 2 ≤ 2; decide)
      simp only [l5, zSS, reduceIte, zZZ, Nat.reduceAdd]
      refine T_api_Proof.put (vs := [.bool true, v5]) Z5 (o := 0) rfl (by show 0 + 2 ≤ 2; decide) (by
        have := L5.isc
        simp [isCell]; exact this) fun h6 B6 u6 => ?_
      have l6 : SemE PG h6 (Instr.loadAt T_api_Proof (.pointer (some ⟨r1, 0, none⟩))) = some (Pf.val true v5) := T_api_Proof.agg B6 (by show 0 + 2 ≤ 2; decide)
      simp only [l6, zSS, reduceIte, zZZ, Nat.reduceAdd]
      exact hno h6 v5 ((L5.upd u6 (fun b hb => by simp at hb; rw [hb]; exact Z3.known)).of e3) (e5.fresh u6 f1)
    -- with leaves
    have mk : ∀ {h4 : PH} {js : List Nat} {av : Value}, Ext h3 h4 → SlR h4 1 av (js.map ncellI) → (∀ j ∈ js, j < l.length) → js.length ≤ 2 → js.map (leafOf l) = (proofP l key).lv →
        CallsH PG id_proof_leaves #[v, av] h4 fun v47 h48 => SemH PG (storeS T_sl_api_Leaf (.pointer (some ⟨r26, 1, none⟩)) v47) h48 fun v50 h51 => proof_Absent_k36 kk (.pointer (some ⟨r1, 0, none⟩)) (.pointer (some ⟨r26, 0, none⟩)) h51 := by
      intro h4 js av u4 A hj h2' ej
      have e4 := e3.trans u4
      refine leaves_ok (h0 := h3) u4 (hK.ext e4) (S.ext e4) H.small hl A hj h2' fun h5 v5 L5 u5 => ?_
      refine T_sl_api_Leaf.put ((B3.ext u4).ext u5) (o := 1) (by show 1 < 2; decide) L5.isc fun h6 B6 u6 => ?_
      rw [ej] at L5
      exact fin ((e4.trans u5).fresh u6 f26) (((Z3.ext u4).ext u5).upd u6 (by simpa using n126)) B6 (L5.upd u6 (fun b hb => by simp at hb; rw [hb]; exact B3.known))
    by_cases h0 : l = []
    · have q : ((l.length : Int) == 0) = true := by simp [h0]
      rw [if_pos h0] at epf
      simp only [lv, eqlI, q, zSS, reduceIte, zZZ, Nat.reduceAdd]
      exact fin e3 Z3 B3 (by rw [epf]; exact LsAt.nil)
    · have hpos := List.length_pos_iff.2 h0
      have q : ((l.length : Int) == 0) = false := by simpa using h0
      rw [if_neg h0] at epf
      by_cases hp0 : placeP l key = 0
      · have q2 : (((placeP l key : Nat) : Int) == 0) = true := by simp [hp0]
        rw [if_pos hp0] at epf
        simp only [lv, eqlI, q, q2, il1, T_api_Proof.f1, Nat.zero_add, zSS, reduceIte, zZZ, Nat.reduceAdd]
        intro r43 hr43
        refine popO_pure ?_
        try rw [bindH_eq]
        have u4 : Ext h3 (h3.set r43 (.cells #[.int .i64 0] T_int)) := Upd.new hr43
        have A : SlR (h3.set r43 (.cells #[.int .i64 0] T_int)) 1 (.slice (some ⟨r43, 0, none⟩) 1 1) ([0].map ncellI) := (OwnR.lit (ncellI.rows [0]) set_same (by simp) (by decide) (by simp [ncellI])).slR
        exact mk u4 A (by simpa using hpos) (by simp) (by rw [epf]; rfl)
      · have q2 : (((placeP l key : Nat) : Int) == 0) = false := by rw [beq_eq_false_iff_ne]; omega
        have w1 : IntKind.i64.wrap (((placeP l key : Nat) : Int) - 1) = ((placeP l key - 1 : Nat) : Int) := by rw [i64_wrap (by omega) (by omega)]; omega
        rw [if_neg hp0] at epf
        by_cases hpl : placeP l key = l.length
        · have q3 : (((placeP l key : Nat) : Int) == (l.length : Int)) = true := by rw [hpl]; simp
          rw [if_pos hpl] at epf
          simp only [lv, eqlI, q, q2, q3, w1, il1, T_api_Proof.f1, Nat.zero_add, zSS, reduceIte, zZZ, Nat.reduceAdd]
          intro r43 hr43
          refine popO_pure ?_
          try rw [bindH_eq]
          have u4 : Ext h3 (h3.set r43 (.cells #[.int .i64 ((placeP l key - 1 : Nat) : Int)] T_int)) := Upd.new hr43
          have A : SlR (h3.set r43 (.cells #[.int .i64 ((placeP l key - 1 : Nat) : Int)] T_int)) 1 (.slice (some ⟨r43, 0, none⟩) 1 1) ([placeP l key - 1].map ncellI) := (OwnR.lit (ncellI.rows [placeP l key - 1]) set_same (by simp) (by decide) (by simp [ncellI])).slR
          exact mk u4 A (by simp; omega) (by simp) (by rw [epf, hpl]; rfl)
        · have q3 : (((placeP l key : Nat) : Int) == (l.length : Int)) = false := by rw [beq_eq_false_iff_ne]; omega
          rw [if_neg hpl] at epf
          simp only [lv, eqlI, q, q2, q3, w1, il2, T_api_Proof.f1, Nat.zero_add, zSS, reduceIte, zZZ, Nat.reduceAdd]
          intro r43 hr43
          refine popO_pure ?_
          try rw [bindH_eq]
          have u4 : Ext h3 (h3.set r43 (.cells #[.int .i64 ((placeP l key - 1 : Nat) : Int), .int .i64 ((placeP l key : Nat) : Int)] T_int)) := Upd.new hr43
          have A : SlR (h3.set r43 (.cells #[.int .i64 ((placeP l key - 1 : Nat) : Int), .int .i64 ((placeP l key : Nat) : Int)] T_int)) 1 (.slice (some ⟨r43, 0, none⟩) 2 2) ([placeP l key - 1, placeP l key].map ncellI) := (OwnR.lit (ncellI.rows [placeP l key - 1, placeP l key]) set_same (by simp) (by decide) (by simp [ncellI])).slR
          exact mk u4 A (by simp; omega) (by simp) (by rw [epf]; rfl)
end Go.Proofs.YtcoajnpchhmgjaaGreatDoor
namespace Go.Proofs.YtcoajnpchhmgjaaGreatDoor
open Go Bld
set_option maxRecDepth 20000
def brow (x : Value × List Pr) : List Value := [x.1, .string (tx (rootP x.2))]
theorem brow.rows (l : List (Value × List Pr)) : Rows 2 (l.map brow) := fun r hr => by
  obtain ⟨p, -, rfl⟩ := List.mem_map.1 hr; rfl
structure StAt (h : PH) (a : Nat) (s : St) (F : List Nat) : Prop where
  here : ∃ (m : Nat) (l : List Pr) (v : Value) (bl : List (Value × List Pr)) (Fb G : List Nat), h a = some (.cells #[.map (some m), v, .int .u64 s.height] T_store_Store (0, 0)) ∧ SMAt h m l ∧ l.Perm s.now ∧ OwnR h T_store_block 2 v (bl.map brow) Fb ∧ (∀ x ∈ bl, SlR h 2 x.1 (x.2.map Pr.cells) ∧ inBlocks x.1 G) ∧
    bl.map (·.2) = s.blocks ∧ F = a :: m :: (Fb ++ G) ∧ a ≠ m ∧ a ∉ Fb ∧ m ∉ Fb ∧ ∀ g ∈ G, g ≠ a ∧ g ≠ m ∧ g ∉ Fb ∧ h g ≠ none
  ok : s.Ok
theorem StAt.upd {h h' : PH} {a : Nat} {s : St} {F K : List Nat} (H : StAt h a s F) (u : Upd K h h') (hd : ∀ b ∈ F, b ∉ K) : StAt h' a s F := by
  obtain ⟨m, l, v, bl, Fb, G, h1, h2, h3, h4, h5, h6, rfl, h8, h9, h10, h11⟩ := H.here
  refine ⟨⟨m, l, v, bl, Fb, G, u.get h1 (hd _ (by simp)), MapAt.upd h2 u (hd _ (by simp)), h3, h4.upd u (fun b hb => hd b (by simp [hb])), fun x hx => ⟨(h5 x hx).1.upd u fun y n c e => hd _ ?_, (h5 x hx).2⟩, h6, rfl, h8, h9, h10, fun g hg => ⟨(h11 g hg).1, (h11 g hg).2.1, (h11 g hg).2.2.1, ?_⟩⟩, H.ok⟩
  · have := (h5 x hx).2 y n c e
    simp [this]
  · have := (h11 g hg).2.2.2
    obtain ⟨o, ho⟩ := Option.ne_none_iff_exists'.1 this
    rw [u.get ho (hd g (by simp [hg]))]; simp
theorem StAt.ext {h h' : PH} {a : Nat} {s : St} {F : List Nat} (H : StAt h a s F) (u : Ext h h') : StAt h' a s F := H.upd u (by simp)
theorem StAt.known {h : PH} {a : Nat} {s : St} {F : List Nat} (H : StAt h a s F) : ∀ b ∈ F, h b ≠ none := by
  obtain ⟨m, l, v, bl, Fb, G, h1, h2, h3, h4, h5, h6, rfl, h8, h9, h10, h11⟩ := H.here
  intro b hb
  simp only [List.mem_cons, List.mem_append] at hb
  rcases hb with rfl | rfl | hb | hb
  · rw [h1]; simp
  · exact MapAt.known h2
  · exact h4.known b hb
  · exact (h11 b hb).2.2.2
theorem St.Ok.new (n : Nat) (hn : n < 18446744073709551616) : St.Ok ⟨[], [[]], n⟩ := ⟨List.Pairwise.nil, by simp, by simp, by simp [SUp], by simp, by simp, by simp, hn⟩
theorem StNew_ok {h : PH} (n : Nat) (hn : n < 18446744073709551616) (hK : KAt h) {k : Value → PH → Prop} (hk : ∀ a h' F, StAt h' a ⟨[], [[]], n⟩ F → Fresh h F → Ext h h' → k (.pointer (some ⟨a, 0, none⟩)) h') : CallsH PG id_store_New #[.int .u64 (n : Int)] h k := by
  apply store_New.call
  unfold store_New
  simp only [makeMap_eq, zSS, reduceIte]
  intro m hm
  refine popO_pure ?_
  try rw [bindH_eq]
  have u1 : Ext h (h.set m (.map #[] 0)) := Upd.new hm
  have m1 : SMAt (h.set m (.map #[] 0)) m [] := MapAt.new
  generalize h.set m (.map #[] 0) = h1 at *
  refine MRoot_ok (l := []) (by decide) (hK.ext u1) (OwnR.nil (e := T_api_Pair)).slR (fun p hp => by cases hp) fun h2 u2 => ?_
  have b1 : ∀ d : ByteArray, SemP PG (Instr.build T_store_block #[(1, .string d)]) = some (.agg #[.slice none 0 0, .string d]) := fun d => by kernel_rfl
  have b2 : ∀ d : ByteArray, SemA PG (Instr.buildSlice T_sl_store_block 1 #[(0, .agg #[.slice none 0 0, .string d])]) = some (.cells #[.slice none 0 0, .string d] T_store_block, fun r => pure (.slice (some ⟨r, 0, none⟩) 1 1)) := fun d => by kernel_rfl
  simp only [b1, b2, zSS, reduceIte]
  intro r hr
  refine popO_pure ?_
  try rw [bindH_eq]
  have u3 : Ext h2 (h2.set r (.cells #[.slice none 0 0, .string (tx (rootP []))] T_store_block)) := Upd.new hr
  have O3 : OwnR (h2.set r (.cells #[.slice none 0 0, .string (tx (rootP []))] T_store_block)) T_store_block 2 (.slice (some ⟨r, 0, none⟩) 1 1) ([((.slice none 0 0 : Value), ([] : List Pr))].map brow) [r] := OwnR.lit (n := 1) (brow.rows [((.slice none 0 0 : Value), ([] : List Pr))]) set_same (by simp) (by decide) rfl
  generalize h2.set r (.cells #[.slice none 0 0, .string (tx (rootP []))] T_store_block) = h3 at *
  have b3 : SemP PG (Instr.build T_store_Store #[(0, .map (some m)), (1, .slice (some ⟨r, 0, none⟩) 1 1), (2, .int .u64 (n : Int))]) = some (.agg #[.map (some m), .slice (some ⟨r, 0, none⟩) 1 1, .int .u64 (n : Int)]) := by kernel_rfl
  simp only [b3, zSS, reduceIte]
  intro a ha
  try rw [bindH_eq]
  have u4 : Ext h3 (h3.set a (.cells (Value.cells (.agg #[.map (some m), .slice (some ⟨r, 0, none⟩) 1 1, .int .u64 (n : Int)])) T_store_Store)) := Upd.new ha
  have m3 := MapAt.ext m1 (u2.trans u3)
  have hma : a ≠ m := by rintro rfl; exact MapAt.known m3 ha
  have har : a ≠ r := by rintro rfl; exact O3.known _ (by simp) ha
  have hmr : m ≠ r := by rintro rfl; exact MapAt.known (MapAt.ext m1 u2) hr
  refine hk a _ [a, m, r] ⟨⟨m, [], _, [(.slice none 0 0, [])], [r], [], set_same, MapAt.ext m3 u4, List.Perm.refl _, O3.ext u4, ?_, rfl, rfl, hma, by simpa using har, by simpa using hmr, by simp⟩, St.Ok.new n hn⟩ (fun b hb => ?_) (((u1.trans u2).trans u3).trans u4)
  · intro x hx
    simp only [List.mem_singleton] at hx
    subst hx
    exact ⟨(OwnR.nil (e := T_api_Pair)).slR, fun x n c e => by cases e⟩
  · simp only [List.mem_cons, List.not_mem_nil, or_false] at hb
    rcases hb with rfl | rfl | rfl
    · exact ((u1.trans u2).trans u3).none ha
    · exact hm
    · exact (u1.trans u2).none hr
theorem len_eq {h : PH} {m : Nat} {l L : List Pr} (hm : SMAt h m l) (hp : l.Perm L) : SemE PG h (Builtin.len_ #[T_map_string_string] T_int #[.map (some m)]) = some (.int .i64 L.length) := by
  have lm := MapAt.len hm (t' := T_int) T_map_string_string.und
  rw [List.length_map, hp.length_eq] at lm
  exact lm
theorem St.Ok.setOk {s : St} (H : s.Ok) {k v : Tx} (hk : ¬ (k.length < 1 ∨ 16 < k.length ∨ 64 < v.length)) (hf : ¬ (sgetL s.now k = none ∧ 4096 ≤ s.now.length)) : St.Ok { s with now := ssetL s.now ⟨k, v⟩ } := by
  refine ⟨H.up.set _, fun p hp => ?_, ?_, H.blk, H.h1, H.h2, H.h3, H.h4⟩
  · rcases smem_setL.1 hp with rfl | ⟨h1, _⟩
    · refine ⟨?_, ?_, ?_⟩ <;> simp only <;> omega
    · exact H.fit p h1
  · have hle : (ssetL s.now ⟨k, v⟩).length ≤ s.now.length + (if sgetL s.now k = none then 1 else 0) := by
      have hn := (H.up.set ⟨k, v⟩).irr
      split
      · have := nodup_len (ssetL s.now ⟨k, v⟩) (⟨k, v⟩ :: s.now) hn fun p hp => by
          rcases smem_setL.1 hp with rfl | ⟨h1, _⟩
          · simp
          · simp [h1]
        simpa using this
      · rename_i hne
        obtain ⟨q, hq⟩ := Option.ne_none_iff_exists'.1 hne
        obtain ⟨q1, q2⟩ := (sgetL_some H.up).1 hq
        have := nodup_len (ssetL s.now ⟨k, v⟩) (⟨k, v⟩ :: s.now.erase q) hn fun p hp => by
          rcases smem_setL.1 hp with rfl | ⟨h1, h2⟩
          · simp
          · refine List.mem_cons_of_mem _ ?_
            rw [List.mem_erase_of_ne]
            · exact h1
            · rintro rfl; exact h2 q2
        rw [List.length_cons, List.length_erase_of_mem q1] at this
        have hpos : 0 < s.now.length := List.length_pos_of_mem q1
        omega
    have := H.few
    show (ssetL s.now ⟨k, v⟩).length ≤ 4096
    split at hle
    · rename_i e
      have : ¬ 4096 ≤ s.now.length := fun h => hf ⟨e, h⟩
      omega
    · omega
theorem SSet_ok {h : PH} {a : Nat} {s : St} {F : List Nat} (H : StAt h a s F) (k v : Tx) {kk : Value → PH → Prop} (hk : ∀ h', StAt h' a (sSet s k v).1 F → Upd F h h' → kk (.int .i64 (sSet s k v).2) h') :
    CallsH PG id_store_Store_Set #[.pointer (some ⟨a, 0, none⟩), .string (tx k), .string (tx v)] h kk := by
  apply store_Store_Set.call
  unfold store_Store_Set
  have fin1 : (k.length < 1 ∨ 16 < k.length ∨ 64 < v.length) → kk (.int .i64 1) h := fun hb => by
    have := hk h (by unfold sSet; rw [if_pos hb]; exact H) Upd.refl
    unfold sSet at this
    rw [if_pos hb] at this
    exact this
  by_cases d1 : k.length < 1
  · have g1 : ((k.length : Int) < 1) = True := eq_true (by omega)
    simp only [T_string.len, tx_size, g1, zSS, reduceIte]
    exact fin1 (.inl d1)
  have g1 : ((k.length : Int) < 1) = False := eq_false (by omega)
  by_cases d2 : 16 < k.length
  · have g2 : ((16 : Int) < (k.length : Int)) = True := eq_true (by omega)
    simp only [T_string.len, tx_size, g1, g2, zSS, reduceIte]
    exact fin1 (.inr (.inl d2))
  have g2 : ((16 : Int) < (k.length : Int)) = False := eq_false (by omega)
  by_cases d3 : 64 < v.length
  · have g3 : ((64 : Int) < (v.length : Int)) = True := eq_true (by omega)
    simp only [T_string.len, tx_size, g1, g2, g3, zSS, reduceIte]
    exact fin1 (.inr (.inr d3))
  have g3 : ((64 : Int) < (v.length : Int)) = False := eq_false (by omega)
  have hok := H.ok
  have hr : ¬ (k.length < 1 ∨ 16 < k.length ∨ 64 < v.length) := by omega
  have hH := H
  obtain ⟨m, l, vv, bl, Fb, G, ha, hm, hp, hO, hS, hbl, rfl, hn1, hn2, hn3, hG⟩ := H.here
  have c0 : cellH h ⟨a, 0, none⟩ = some (.map (some m)) := by simp [cellH, ha]
  have hg := sgetL_perm hp hok.up k
  have hl := len_eq hm hp
  have fin : ¬ (sgetL s.now k = none ∧ 4096 ≤ s.now.length) → SemH PG (mapUpdS T_map_string_string (.map (some m)) (.string (tx k)) (.string (tx v))) h fun v61 h62 => kk (.int .i64 0) h62 := fun hc => by
    refine map_put skeyed T_map_string_string.und hm k (.string (tx v)) fun h6 hm6 u6 => ?_
    obtain ⟨l', e1, e2⟩ := sput_perm hp hok.up ⟨k, v⟩
    have e1' : putM (l.map Pr.pr) k (.string (tx v)) = l'.map Pr.pr := e1
    rw [e1'] at hm6
    have hs : sSet s k v = ({ s with now := ssetL s.now ⟨k, v⟩ }, 0) := by unfold sSet; rw [if_neg hr, if_neg hc]
    rw [hs] at hk
    refine hk h6 ⟨⟨m, l', vv, bl, Fb, G, u6.get ha (by simpa using hn1), hm6, e2, hO.upd u6 (fun b hb => by simp; rintro rfl; exact hn3 hb), fun x hx => ⟨(hS x hx).1.upd u6 fun y n c e => ?_, (hS x hx).2⟩, hbl, rfl, hn1, hn2, hn3, fun g hg => ⟨(hG g hg).1, (hG g hg).2.1, (hG g hg).2.2.1, ?_⟩⟩, hok.setOk hr hc⟩ (u6.mono fun b hb => .inl (by simp at hb; simp [hb]))
    · have := (hG _ ((hS x hx).2 y n c e)).2.1
      simpa using this
    · obtain ⟨o, ho⟩ := Option.ne_none_iff_exists'.1 (hG g hg).2.2.2
      rw [u6.get ho (by simpa using (hG g hg).2.1)]; simp
  cases eg : sgetL s.now k with
  | some q =>
    simp only [T_string.len, tx_size, g1, g2, g3, T_store_Store.f0, T_map_string_string.load, c0, slook_eq hm, hg, eg, Option.isSome_some, zSS, reduceIte]
    exact fin (by simp [eg])
  | none =>
    by_cases d4 : 4096 ≤ s.now.length
    · have g4 : ((4096 : Int) ≤ (s.now.length : Int)) = True := eq_true (by omega)
      simp only [T_string.len, tx_size, g1, g2, g3, T_store_Store.f0, T_map_string_string.load, c0, slook_eq hm, hg, eg, hl, g4, Option.isSome_none, zSS, reduceIte]
      have hs : sSet s k v = (s, 2) := by unfold sSet; rw [if_neg hr, if_pos ⟨eg, d4⟩]
      have := hk h (by rw [hs]; exact hH) Upd.refl
      rw [hs] at this
      exact this
    · have g4 : ((4096 : Int) ≤ (s.now.length : Int)) = False := eq_false (by omega)
      simp only [T_string.len, tx_size, g1, g2, g3, T_store_Store.f0, T_map_string_string.load, c0, slook_eq hm, hg, eg, hl, g4, Option.isSome_none, zSS, reduceIte]
      exact fin (fun h => d4 h.2)
theorem SDelete_ok {h : PH} {a : Nat} {s : St} {F : List Nat} (H : StAt h a s F) (k : Tx) {kk : Value → PH → Prop} (hk : ∀ h', StAt h' a (sDel s k).1 F → Upd F h h' → kk (.int .i64 (sDel s k).2) h') :
    CallsH PG id_store_Store_Delete #[.pointer (some ⟨a, 0, none⟩), .string (tx k)] h kk := by
  apply store_Store_Delete.call
  unfold store_Store_Delete
  have hok := H.ok
  have hH := H
  obtain ⟨m, l, vv, bl, Fb, G, ha, hm, hp, hO, hS, hbl, rfl, hn1, hn2, hn3, hG⟩ := H.here
  have c0 : cellH h ⟨a, 0, none⟩ = some (.map (some m)) := by simp [cellH, ha]
  have hg := sgetL_perm hp hok.up k
  cases eg : sgetL s.now k with
  | none =>
    simp only [T_store_Store.f0, T_map_string_string.load, c0, slook_eq hm, hg, eg, Option.isSome_none, zSS, reduceIte]
    have hs : sDel s k = (s, 3) := by unfold sDel; rw [if_pos eg]
    have := hk h (by rw [hs]; exact hH) Upd.refl
    rw [hs] at this
    exact this
  | some q =>
    simp only [T_store_Store.f0, T_map_string_string.load, c0, slook_eq hm, hg, eg, Option.isSome_some, zSS, reduceIte]
    refine map_del skeyed T_map_string_string.und hm k rfl fun h6 hm6 u6 => ?_
    have hs : sDel s k = ({ s with now := sdelL s.now k }, 0) := by unfold sDel; rw [if_neg (by rw [eg]; simp)]
    rw [hs] at hk
    rw [sdel_pr] at hm6
    refine hk h6 ⟨⟨m, sdelL l k, vv, bl, Fb, G, u6.get ha (by simpa using hn1), hm6, hp.filter _, hO.upd u6 (fun b hb => by simp; rintro rfl; exact hn3 hb), fun x hx => ⟨(hS x hx).1.upd u6 fun y n c e => ?_, (hS x hx).2⟩, hbl, rfl, hn1, hn2, hn3, fun g hg => ⟨(hG g hg).1, (hG g hg).2.1, (hG g hg).2.2.1, ?_⟩⟩, ⟨hok.up.del _, fun p hp => hok.fit p (smem_delL.1 hp).1, Nat.le_trans (List.length_filter_le _ _) hok.few, hok.blk, hok.h1, hok.h2, hok.h3, hok.h4⟩⟩ (u6.mono fun b hb => .inl (by simp at hb; simp [hb]))
    · have := (hG _ ((hS x hx).2 y n c e)).2.1
      simpa using this
    · obtain ⟨o, ho⟩ := Option.ne_none_iff_exists'.1 (hG g hg).2.2.2
      rw [u6.get ho (by simpa using (hG g hg).2.1)]; simp
theorem SGet_ok {h : PH} {a : Nat} {s : St} {F : List Nat} (H : StAt h a s F) (k : Tx) {kk : Value → PH → Prop} (hk : kk (.tuple #[.string (tx (((sgetL s.now k).map Pr.v).getD [])), .bool (sgetL s.now k).isSome]) h) :
    CallsH PG id_store_Store_Get #[.pointer (some ⟨a, 0, none⟩), .string (tx k)] h kk := by
  apply store_Store_Get.call
  unfold store_Store_Get
  obtain ⟨m, l, vv, bl, Fb, G, ha, hm, hp, hO, hS, hbl, rfl, hn1, hn2, hn3, hG⟩ := H.here
  have c0 : cellH h ⟨a, 0, none⟩ = some (.map (some m)) := by simp [cellH, ha]
  have hg := sgetL_perm hp H.ok.up k
  simp only [T_store_Store.f0, T_map_string_string.load, c0, slook_eq hm, hg, zSS, reduceIte]
  exact hk
theorem SLen_ok {h : PH} {a : Nat} {s : St} {F : List Nat} (H : StAt h a s F) {kk : Value → PH → Prop} (hk : kk (.int .i64 s.now.length) h) : CallsH PG id_store_Store_Len #[.pointer (some ⟨a, 0, none⟩)] h kk := by
  apply store_Store_Len.call
  unfold store_Store_Len
  obtain ⟨m, l, vv, bl, Fb, G, ha, hm, hp, hO, hS, hbl, rfl, hn1, hn2, hn3, hG⟩ := H.here
  have c0 : cellH h ⟨a, 0, none⟩ = some (.map (some m)) := by simp [cellH, ha]
  simp only [T_store_Store.f0, T_map_string_string.load, c0, len_eq hm hp, zSS, reduceIte]
  exact hk
theorem Height_ok {h : PH} {a : Nat} {s : St} {F : List Nat} (H : StAt h a s F) {kk : Value → PH → Prop} (hk : kk (.int .u64 s.height) h) : CallsH PG id_store_Store_Height #[.pointer (some ⟨a, 0, none⟩)] h kk := by
  apply store_Store_Height.call
  unfold store_Store_Height
  obtain ⟨m, l, vv, bl, Fb, G, ha, -⟩ := H.here
  have c2 : cellH h ⟨a, 0 + 2, none⟩ = some (.int .u64 s.height) := by simp [cellH, ha]
  simp only [T_store_Store.f2, T_uint64.load, c2, zSS, reduceIte]
  exact hk
end Go.Proofs.YtcoajnpchhmgjaaGreatDoor
namespace Go.Proofs.YtcoajnpchhmgjaaGreatDoor
open Go Bld
set_option maxRecDepth 20000
def bval (v : Value) (d : Tx) : Value := .agg #[v, .string (tx d)]
theorem sAt_lt {s : St} {x : Nat} {b : List Pr} (h : sAt s x = some b) : ¬ (s.height < x ∨ s.blocks.length ≤ s.height - x) ∧ s.blocks[s.blocks.length - 1 - (s.height - x)]? = some b := by
  unfold sAt at h
  split at h
  · cases h
  · rename_i hn; exact ⟨hn, h⟩
theorem sAt_none {s : St} (hs : 1 ≤ s.blocks.length) {x : Nat} : sAt s x = none ↔ (s.height < x ∨ s.blocks.length ≤ s.height - x) := by
  unfold sAt
  split
  · simp [*]
  · rename_i hn
    simp only [hn, iff_false, ne_eq]
    intro h
    rw [List.getElem?_eq_none_iff] at h
    omega
theorem zbl : zcells PG T_store_block = #[.slice none 0 0, .string (tx [])] := by rw [T_store_block.zc]; rfl
theorem at_ok {h : PH} {a : Nat} {s : St} {F : List Nat} (H : StAt h a s F) (x : Nat) (hx : x < 18446744073709551616) {k : Value → PH → Prop} (hn : sAt s x = none → ∀ h', Ext h h' → k (.tuple #[bval (.slice none 0 0) [], .int .i64 3]) h')
    (hk : ∀ b v h', sAt s x = some b → SlR h' 2 v (b.map Pr.cells) → isCell v = true → Ext h h' → k (.tuple #[bval v (rootP b), .int .i64 0]) h') : CallsH PG id_store_Store_at #[.pointer (some ⟨a, 0, none⟩), .int .u64 (x : Int)] h k := by
  apply store_Store_at.call
  unfold store_Store_at
  rw [zbl]
  intro r1 hr1
  try rw [bindH_eq]
  have u1 : Ext h (h.set r1 (.cells #[.slice none 0 0, .string (tx [])] T_store_block)) := Upd.new hr1
  have a1 : (h.set r1 (.cells #[.slice none 0 0, .string (tx [])] T_store_block)) r1 = some (.cells #[.slice none 0 0, .string (tx [])] T_store_block (0, 0)) := set_same
  generalize h.set r1 (.cells #[.slice none 0 0, .string (tx [])] T_store_block) = h1 at *
  have H1 := H.ext u1
  have hok := H.ok
  obtain ⟨m, l, vv, bl, Fb, G, ha, hm, hp, hO, hS, hbl, rfl, hn1, hn2, hn3, hG⟩ := H1.here
  have c1 : cellH h1 ⟨a, 0 + 1, none⟩ = some vv := by simp [cellH, ha]
  have c2 : cellH h1 ⟨a, 0 + 2, none⟩ = some (.int .u64 s.height) := by simp [cellH, ha]
  have hbn : bl.length = s.blocks.length := by rw [← hbl, List.length_map]
  have lv := hO.slR.len (t' := T_int) T_sl_store_block.und
  rw [List.length_map, hbn] at lv
  have h3 := hok.h3
  have h4 := hok.h4
  have h2 := hok.h2
  have h1' := hok.h1
  have ew : IntKind.u64.wrap ((s.blocks.length : Nat) : Int) = ((s.blocks.length : Nat) : Int) := u64_wrap (by omega) (by omega)
  have bz : SemP PG (Instr.build T_store_block #[]) = some (.agg #[.slice none 0 0, .string (tx [])]) := by kernel_rfl
  have bad : sAt s x = none → SemH PG (storeS T_store_block (.pointer (some ⟨r1, 0, none⟩)) (.agg #[.slice none 0 0, .string (tx [])])) h1 fun _ h44 => popO (SemE PG h44 (Instr.loadAt T_store_block (Value.pointer (some ⟨r1, 0, none⟩)))) fun v45 => k (Value.tuple #[v45, (Value.int IntKind.i64 3)]) h44 := fun hs => by
    refine store_box a1 T_store_block.info rfl (by simp) rfl (by simp [isCell]) ?_
    have l1 := T_store_block.loadAgg (h := h1.set r1 (.cells #[.slice none 0 0, .string (tx [])] T_store_block (0, 0))) (b := r1) (o := 0) set_same (by simp)
    simp only [l1, zSS, reduceIte]
    exact hn hs _ (u1.fresh (Upd.set (F := [r1]) (by simp)) (Fresh.one hr1))
  by_cases d1 : s.height < x
  · have g1 : ((s.height : Int) < (x : Int)) = True := eq_true (by omega)
    simp only [T_store_Store.f2, T_uint64.load, c2, g1, bz, zSS, reduceIte]
    exact bad ((sAt_none h1').2 (.inl d1))
  have g1 : ((s.height : Int) < (x : Int)) = False := eq_false (by omega)
  have e1 : IntKind.u64.wrap ((s.height : Int) - (x : Int)) = ((s.height - x : Nat) : Int) := by rw [u64_wrap (by omega) (by omega)]; omega
  by_cases d2 : s.blocks.length ≤ s.height - x
  · have g2 : (((s.blocks.length : Nat) : Int) ≤ ((s.height - x : Nat) : Int)) = True := eq_true (by omega)
    simp only [T_store_Store.f2, T_store_Store.f1, T_uint64.load, T_sl_store_block.load, c1, c2, g1, e1, lv, cv_int_u64, ew, g2, bz, zSS, reduceIte]
    exact bad ((sAt_none h1').2 (.inr d2))
  have g2 : (((s.blocks.length : Nat) : Int) ≤ ((s.height - x : Nat) : Int)) = False := eq_false (by omega)
  have e2 : IntKind.u64.wrap (((s.blocks.length : Nat) : Int) - 1) = ((s.blocks.length - 1 : Nat) : Int) := by rw [u64_wrap (by omega) (by omega)]; omega
  have e3 : IntKind.u64.wrap (((s.blocks.length - 1 : Nat) : Int) - ((s.height - x : Nat) : Int)) = ((s.blocks.length - 1 - (s.height - x) : Nat) : Int) := by rw [u64_wrap (by omega) (by omega)]; omega
  obtain ⟨j, hj⟩ : ∃ j, j = s.blocks.length - 1 - (s.height - x) := ⟨_, rfl⟩
  rw [← hj] at e3
  have hjl : j < bl.length := by omega
  have hrow : (bl.map brow)[((j : Nat) : Int).toNat]? = some (brow bl[j]) := by rw [Int.toNat_natCast, List.getElem?_map, List.getElem?_eq_getElem hjl]; rfl
  obtain ⟨pa, hpa, hload⟩ := hO.slR.loadAgg (t := T_sl_store_block) (k := .u64) (j := ((j : Nat) : Int)) T_sl_store_block.und T_store_block.info T_store_block.size T_store_block.und rfl (by omega) hrow
  have hmem : bl[j] ∈ bl := List.getElem_mem hjl
  have hsat : sAt s x = some (bl[j]).2 := by
    unfold sAt
    rw [if_neg (by omega), ← hj, ← hbl, List.getElem?_map, List.getElem?_eq_getElem hjl]; rfl
  obtain ⟨hs1, hs2⟩ := hS _ hmem
  generalize bl[j] = y at *
  have hyc : isCell y.1 = true := by obtain ⟨_, _, e, _⟩ := hs1.here; rw [e]; rfl
  simp only [T_store_Store.f2, T_store_Store.f1, T_uint64.load, T_sl_store_block.load, c1, c2, g1, e1, lv, cv_int_u64, ew, g2, e2, e3, hpa, hload, zSS, reduceIte]
  refine store_box a1 T_store_block.info rfl (by simp [brow]) rfl ?_ ?_
  · intro v hv
    simp only [brow, List.mem_cons, List.not_mem_nil, or_false] at hv
    rcases hv with rfl | rfl
    · exact hyc
    · rfl
  · have ub : Ext h1 h1 := Upd.refl
    have u2 : Ext h (h1.set r1 (.cells (brow y).toArray T_store_block (0, 0))) := u1.fresh (Upd.set (F := [r1]) (by simp)) (Fresh.one hr1)
    have l1 := T_store_block.loadAgg (h := h1.set r1 (.cells (brow y).toArray T_store_block (0, 0))) (b := r1) (o := 0) set_same (by simp [brow])
    have le : ((brow y).toArray).extract 0 (0 + 2) = (brow y).toArray := rfl
    rw [le] at l1
    simp only [l1, zSS, reduceIte]
    refine hk y.2 y.1 _ hsat ?_ hyc u2
    refine hs1.upd (Upd.set (F := [r1]) (by simp)) fun z n c e => ?_
    have := hs2 z n c e
    intro hm
    simp only [List.mem_singleton] at hm
    have hkn := H.known z.block (by simp [this])
    rw [hm] at hkn
    exact hkn hr1
theorem StRoot_ok {h : PH} {a : Nat} {s : St} {F : List Nat} (H : StAt h a s F) (x : Nat) (hx : x < 18446744073709551616) {k : Value → PH → Prop} (hn : sAt s x = none → ∀ h', Ext h h' → k (.tuple #[.string (tx []), .int .i64 3]) h')
    (hk : ∀ b h', sAt s x = some b → Ext h h' → k (.tuple #[.string (tx (rootP b)), .int .i64 0]) h') : CallsH PG id_store_Store_Root #[.pointer (some ⟨a, 0, none⟩), .int .u64 (x : Int)] h k := by
  apply store_Store_Root.call
  unfold store_Store_Root
  have key : ∀ (v : Value) (d : Tx) (e : Int) (h1 : PH), isCell v = true → (∀ h', Ext h1 h' → k (.tuple #[.string (tx d), .int .i64 e]) h') → ∀ r5, h1 r5 = none → bindH (PH.set h1 r5 (.cells (zcells PG T_store_block) T_store_block)) fun h6 =>
      SemH PG (storeS T_store_block (Value.pointer (some ⟨r5, 0, none⟩)) (bval v d)) h6 fun v7 h8 => popO (SemP PG (Instr.fieldAt T_store_block (Value.pointer (some ⟨r5, 0, none⟩)) 1)) fun v9 => popO (SemE PG h8 (Instr.loadAt T_string v9)) fun v10 => k (Value.tuple #[v10, .int .i64 e]) h8 := by
    intro v d e h1 hv hkk r hr
    try rw [bindH_eq]
    rw [zbl]
    refine store_box set_same T_store_block.info rfl (by simp) rfl ?_ ?_
    · intro y hy
      simp only [List.mem_cons, List.not_mem_nil, or_false] at hy
      rcases hy with rfl | rfl
      · exact hv
      · rfl
    · rw [set_set_same]
      have c1 : cellH (h1.set r (.cells #[v, .string (tx d)] T_store_block (0, 0))) ⟨r, 0 + 1, none⟩ = some (.string (tx d)) := by simp [cellH, set_same]
      simp only [T_store_block.f1, T_string.load, c1, zSS, reduceIte]
      exact hkk _ (Upd.new hr)
  refine at_ok H x hx (fun hs h1 u1 => ?_) (fun b v h1 hs S hv u1 => ?_)
  · simp only [zSS, reduceIte]
    exact key _ _ _ h1 rfl (fun h' u => hn hs _ (u1.trans u))
  · simp only [zSS, reduceIte]
    exact key _ _ _ h1 hv (fun h' u => hk b _ hs (u1.trans u))
theorem Clone2_ok {h : PH} {v : Value} {l : List Pr} (S : SlR h 2 v (l.map Pr.cells)) (hl : l.length ≤ 1000000) {k : Value → PH → Prop} (hk : ∀ v' h' F, OwnR h' T_api_Pair 2 v' (l.map Pr.cells) F → Fresh h F → Ext h h' → k v' h') : CallsH PG id_slices_Clone_sl_api_Pair_api_Pair #[v] h k := by
  apply slices_Clone_sl_api_Pair_api_Pair.call
  unfold slices_Clone_sl_api_Pair_api_Pair
  have hS := S
  obtain ⟨va, c, hv, hc1, hc2, hc3, -⟩ := S.here
  rw [List.length_map] at hv
  subst hv
  cases va with
  | none =>
    have hnil : l.map Pr.cells = [] := by
      by_cases h0 : l.map Pr.cells = []
      · exact h0
      · obtain ⟨b, o, cs, e, fr, e1, _⟩ := hc3 h0
        cases e1
    have hl0 : l = [] := List.map_eq_nil_iff.1 hnil
    subst hl0
    simp only [eqlNil T_sl_api_Pair.und, Option.isNone_none, zSS, reduceIte]
    exact hk _ _ [] OwnR.nil (fun b hb => by cases hb) Upd.refl
  | some va =>
    have b0 : SemA PG (Instr.buildSlice T_sl_api_Pair 0 #[]) = some (.cells #[] T_api_Pair, fun r => pure (.slice (some ⟨r, 0, none⟩) 0 0)) := by kernel_rfl
    simp only [eqlNil T_sl_api_Pair.und, Option.isNone_some, b0, zSS, reduceIte]
    intro r hr
    refine popO_pure ?_
    try rw [bindH_eq]
    have u1 : Ext h (h.set r (.cells #[] T_api_Pair)) := Upd.new hr
    have O1 : OwnR (h.set r (.cells #[] T_api_Pair)) T_api_Pair 2 (.slice (some ⟨r, 0, none⟩) 0 0) (([] : List Pr).map Pr.cells) [r] := OwnR.lit (n := 0) (Pr.rows []) set_same (by simp) (by decide) rfl
    generalize h.set r (.cells #[] T_api_Pair) = h1 at *
    refine append_own T_sl_api_Pair.und T_sl_api_Pair.und T_api_Pair.info T_api_Pair.size T_api_Pair.bytes T_api_Pair.zero rfl (by decide) O1 (hS.ext u1) (Pr.isCell l) (by simp; omega) ?_
    intro v2 h2 F2 O2 u2 k2 _
    rw [List.map_nil, List.nil_append] at O2
    exact hk _ _ F2 O2 (fun b hb => by
      rcases k2 b hb with h1 | h1
      · simp only [List.mem_singleton] at h1
        subst h1; exact hr
      · exact u1.none h1) (u1.fresh u2 (Fresh.one hr))
theorem At_ok {h : PH} {a : Nat} {s : St} {F : List Nat} (H : StAt h a s F) (x : Nat) (hx : x < 18446744073709551616) {k : Value → PH → Prop} (hn : sAt s x = none → ∀ v h' F', OwnR h' T_api_Pair 2 v (([] : List Pr).map Pr.cells) F' → Fresh h F' → Ext h h' → k (.tuple #[v, .int .i64 3]) h')
    (hk : ∀ b v h' F', sAt s x = some b → OwnR h' T_api_Pair 2 v (b.map Pr.cells) F' → Fresh h F' → Ext h h' → k (.tuple #[v, .int .i64 0]) h') : CallsH PG id_store_Store_At #[.pointer (some ⟨a, 0, none⟩), .int .u64 (x : Int)] h k := by
  apply store_Store_At.call
  unfold store_Store_At
  have hok := H.ok
  have key : ∀ (v : Value) (b : List Pr) (d : Tx) (e : Int) (h1 : PH), isCell v = true → SlR h1 2 v (b.map Pr.cells) → b.length ≤ 4096 → (∀ v' h' F', OwnR h' T_api_Pair 2 v' (b.map Pr.cells) F' → Fresh h1 F' → Ext h1 h' → k (.tuple #[v', .int .i64 e]) h') → ∀ r5, h1 r5 = none → bindH (PH.set h1 r5 (.cells (zcells PG T_store_block) T_store_block)) fun h6 =>
      SemH PG (storeS T_store_block (Value.pointer (some ⟨r5, 0, none⟩)) (bval v d)) h6 fun v7 h8 =>  popO (SemP PG (Instr.fieldAt T_store_block (Value.pointer (some ⟨r5, 0, none⟩)) 0)) fun v9 => popO (SemE PG h8 (Instr.loadAt T_store_sorted v9)) fun v10 => CallsH PG id_store_sorted_pairs #[v10] h8 fun v11 h12 => k (Value.tuple #[v11, .int .i64 e]) h12 := by
    intro v b d e h1 hv S hbl hkk r hr
    try rw [bindH_eq]
    rw [zbl]
    refine store_box set_same T_store_block.info rfl (by simp) rfl ?_ ?_
    · intro y hy
      simp only [List.mem_cons, List.not_mem_nil, or_false] at hy
      rcases hy with rfl | rfl
      · exact hv
      · rfl
    · rw [set_set_same]
      have u2 : Ext h1 (h1.set r (.cells #[v, .string (tx d)] T_store_block (0, 0))) := Upd.new hr
      have a2 : (h1.set r (.cells #[v, .string (tx d)] T_store_block (0, 0))) r = some (.cells #[v, .string (tx d)] T_store_block (0, 0)) := set_same
      generalize h1.set r (.cells #[v, .string (tx d)] T_store_block (0, 0)) = h2 at *
      have l1 := T_store_sorted.loadAgg (o := 0) a2 (by simp)
      have le : (#[v, .string (tx d)] : Array Value).extract 0 (0 + 1) = #[v] := rfl
      rw [le] at l1
      simp only [T_store_block.f0, l1, zSS, reduceIte]
      apply store_sorted_pairs.call
      unfold store_sorted_pairs
      intro r2 hr2
      try rw [bindH_eq]
      have ec : Value.cells (.agg #[v]) = #[v] := rfl
      rw [ec]
      have u3 : Ext h2 (h2.set r2 (.cells #[v] T_store_sorted)) := Upd.new hr2
      have a3 : (h2.set r2 (.cells #[v] T_store_sorted)) r2 = some (.cells #[v] T_store_sorted (0, 0)) := set_same
      generalize h2.set r2 (.cells #[v] T_store_sorted) = h3 at *
      have c0 : cellH h3 ⟨r2, 0, none⟩ = some v := by simp [cellH, a3]
      simp only [T_store_sorted.f0, T_sl_api_Pair.load, c0, zSS, reduceIte]
      have u := u2.trans u3
      refine Clone2_ok (S.ext u) (by omega) fun v' h4 F4 O4 f4 u4 => ?_
      exact hkk v' h4 F4 O4 (f4.of u) (u.trans u4)
  refine at_ok H x hx (fun hs h1 u1 => ?_) (fun b v h1 hs S hv u1 => ?_)
  · simp only [zSS, reduceIte]
    exact key _ [] _ _ h1 rfl (OwnR.nil (e := T_api_Pair)).slR (by decide) (fun v' h' F' O' f' u' => hn hs v' h' F' O' (f'.of u1) (u1.trans u'))
  · simp only [zSS, reduceIte]
    have hb : b ∈ s.blocks := List.mem_of_getElem? (sAt_lt hs).2
    exact key _ b _ _ h1 hv S (hok.blk b hb).2.2 (fun v' h' F' O' f' u' => hk b v' h' F' hs O' (f'.of u1) (u1.trans u'))
end Go.Proofs.YtcoajnpchhmgjaaGreatDoor
namespace Go.Proofs.YtcoajnpchhmgjaaGreatDoor
open Go Bld
set_option maxRecDepth 20000
def unP (q : Tx × Value) : Pr := match q.2 with
  | Value.string t => ⟨q.1, t.data.toList⟩
  | _ => ⟨[], []⟩
theorem unP_pr (p : Pr) : unP p.pr = p := by
  obtain ⟨k, v⟩ := p
  simp [unP, Pr.pr, skey, tx]
theorem sun_pr (l : List Pr) : (l.map Pr.pr).map unP = l := by
  rw [List.map_map]
  have : unP ∘ Pr.pr = id := by funext p; exact unP_pr p
  rw [this, List.map_id]
theorem perm_un {a b : List Pr} (h : (a.map Pr.pr).Perm (b.map Pr.pr)) : a.Perm b := by
  have := h.map unP
  rw [sun_pr, sun_pr] at this
  exact this
theorem SUp.of {l L : List Pr} (hp : l.Perm L) (hs : SUp L) (ho : l.Pairwise fun a b => ¬ b.k < a.k) : l = L := by
  have hk : (l.map Pr.k).Nodup := (hp.map Pr.k).nodup_iff.2 hs.keys
  have hu : SUp l := by
    unfold List.Nodup at hk
    rw [List.pairwise_map] at hk
    have := ho.and hk
    refine List.Pairwise.imp (fun {a b} hab => ?_) this
    obtain ⟨h1, h2⟩ := hab
    rcases tx_total a.k b.k with h | h | h
    · exact h
    · exact absurd h h2
    · exact absurd h h1
  exact hu.ext hs fun p => hp.mem_iff
theorem pr_build (p : Pr) : SemP PG (Instr.build T_api_Pair #[(0, .string (tx p.k)), (1, .string (tx p.v))]) = some p.val := by kernel_rfl
theorem pr_lit (p : Pr) : SemA PG (Instr.buildSlice T_sl_api_Pair 1 #[(0, p.val)]) = some (.cells #[.string (tx p.k), .string (tx p.v)] T_api_Pair, fun r => pure (.slice (some ⟨r, 0, none⟩) 1 1)) := by kernel_rfl
theorem so_build (a : Option Addr) (n c : Nat) : SemP PG (Instr.build T_store_sorted #[(0, .slice a n c)]) = some (.agg #[.slice a n c]) := by kernel_rfl
theorem bl_build (a : Option Addr) (n c : Nat) (d : ByteArray) : SemP PG (Instr.build T_store_block #[(0, .agg #[.slice a n c]), (1, .string d)]) = some (.agg #[.slice a n c, .string d]) := by kernel_rfl
theorem bl_lit (a : Option Addr) (n c : Nat) (d : ByteArray) : SemA PG (Instr.buildSlice T_sl_store_block 1 #[(0, .agg #[.slice a n c, .string d])]) = some (.cells #[.slice a n c, .string d] T_store_block, fun r => pure (.slice (some ⟨r, 0, none⟩) 1 1)) := by kernel_rfl
theorem Commit_ok {h : PH} {a : Nat} {s : St} {F : List Nat} (hK : KAt h) (H : StAt h a s F) {k : Value → PH → Prop} (hk : ∀ h' F', StAt h' a (sCom s).1 F' → Upd F h h' → (∀ b ∈ F', b ∈ F ∨ h b = none) → k (.tuple #[.int .u64 ((sCom s).2.1 : Int), .int .i64 (sCom s).2.2]) h') :
    CallsH PG id_store_Store_Commit #[.pointer (some ⟨a, 0, none⟩)] h k := by
  apply store_Store_Commit.call
  unfold store_Store_Commit
  have hok := H.ok
  have hH := H
  have hkn := H.known
  obtain ⟨m, l, vv, bl, Fb, G, ha, hm, hp, hO, hS, hbl, rfl, hn1, hn2, hn3, hG⟩ := H.here
  have c0 : cellH h ⟨a, 0, none⟩ = some (.map (some m)) := by simp [cellH, ha]
  have c1 : cellH h ⟨a, 0 + 1, none⟩ = some vv := by simp [cellH, ha]
  have c2 : cellH h ⟨a, 0 + 2, none⟩ = some (.int .u64 s.height) := by simp [cellH, ha]
  have h4 := hok.h4
  by_cases d1 : s.height = 18446744073709551615
  · have g1 : ((s.height : Int) == 18446744073709551615) = true := by simp; omega
    simp only [T_store_Store.f2, T_uint64.load, c2, g1, zSS, reduceIte]
    have hs : sCom s = (s, (0, 12)) := by unfold sCom; rw [if_pos d1]
    rw [hs] at hk
    exact hk h _ hH Upd.refl (fun b hb => .inl hb)
  have g1 : ((s.height : Int) == 18446744073709551615) = false := by simp; omega
  have lv := hO.slR.len (t' := T_int) T_sl_store_block.und
  have hbn : bl.length = s.blocks.length := by rw [← hbl, List.length_map]
  rw [List.length_map, hbn] at lv
  by_cases d2 : 4096 ≤ s.blocks.length
  · have g2 : ((4096 : Int) ≤ ((s.blocks.length : Nat) : Int)) = True := eq_true (by omega)
    simp only [T_store_Store.f2, T_store_Store.f1, T_uint64.load, T_sl_store_block.load, c1, c2, lv, g1, g2, zSS, reduceIte]
    have hs : sCom s = (s, (0, 2)) := by unfold sCom; rw [if_neg d1, if_pos d2]
    rw [hs] at hk
    exact hk h _ hH Upd.refl (fun b hb => .inl hb)
  have g2 : ((4096 : Int) ≤ ((s.blocks.length : Nat) : Int)) = False := eq_false (by omega)
  simp only [T_store_Store.f2, T_store_Store.f1, T_store_Store.f0, T_uint64.load, T_sl_store_block.load, T_map_string_string.load, c0, c1, c2, lv, g1, g2, zSS, reduceIte]
  refine range_it T_map_string_string.und hm fun it h1 hit HI u1 => ?_
  have hll : l.length ≤ 4096 := by rw [hp.length_eq]; exact hok.few
  refine ⟨fun vs h' => ∃ (pre : List Pr) (v : Value) (Fl : List Nat), vs = [.pointer (some ⟨a, 0, none⟩), v, .pointer (some ⟨it, 0, none⟩)] ∧ MapIt skey h' m it (l.map Pr.pr) (pre.map Pr.pr) ∧ OwnR h' T_api_Pair 2 v (pre.map Pr.cells) Fl ∧ Fresh h Fl ∧ it ∉ Fl ∧ Ext h h', fun _ h' => itLeft l.length it h', ⟨[], _, [], rfl, HI, OwnR.nil, (fun b hb => by cases hb), by simp, u1⟩, ?_⟩
  rintro ρ h' ⟨pre, v, Fl, hvs, HI, O, fl, hil, u⟩
  simp only [List.map_cons, List.map_nil, List.cons.injEq, and_true] at hvs
  obtain ⟨v0, v4, v24⟩ := hvs
  simp only [v0, v4, v24, List.map_cons, List.map_nil]
  unfold store_Store_Commit_b16
  have hlen := HI.le
  rw [List.length_map, List.length_map] at hlen
  refine next_it HI (fun hperm => ?_) (fun ky vl h2 hmem hnot HI2 u2 => ?_)
  · -- all are gathered
    have hpp : pre.Perm s.now := (perm_un hperm).trans hp
    simp only [zSS, reduceIte]
    refine PSort_ok O (by omega) fun l' h2 hp2 hs2 O2 u2 => ?_
    have hl' : l' = s.now := SUp.of (hp2.trans hpp) hok.up hs2
    subst hl'
    have e2 : Ext h h2 := u.fresh u2 fl
    have ha2 := e2.get ha
    have c1 : cellH h2 ⟨a, 0 + 1, none⟩ = some vv := by simp [cellH, ha2]
    obtain ⟨va, cap, hv, -⟩ := O2.slR.here
    rw [List.length_map] at hv
    have hsl := O2.slR
    rw [hv] at hsl
    simp only [T_store_Store.f1, T_sl_store_block.load, c1, hv, so_build, zSS, reduceIte]
    refine MRoot_ok (by have := hok.few; omega) (hK.ext e2) hsl (fun p hp => by have := hok.fit p hp; unfold SFit at this; omega) fun h3 u3 => ?_
    have e3 := e2.trans u3
    have ha3 := e3.get ha
    refine ⟨by simp [cellH, ha3], ?_⟩
    simp only [bl_build, bl_lit, zSS, reduceIte]
    intro r hr
    refine popO_pure ?_
    try rw [bindH_eq]
    have u4 : Ext h3 (h3.set r (.cells #[.slice va s.now.length cap, .string (tx (rootP s.now))] T_store_block)) := Upd.new hr
    have s4 : SlR (h3.set r (.cells #[.slice va s.now.length cap, .string (tx (rootP s.now))] T_store_block)) 2 (.slice (some ⟨r, 0, none⟩) 1 1) ([((.slice va s.now.length cap : Value), s.now)].map brow) := (OwnR.lit (n := 1) (brow.rows [((.slice va s.now.length cap : Value), s.now)]) set_same (by simp) (by decide) rfl).slR
    generalize h3.set r (.cells #[.slice va s.now.length cap, .string (tx (rootP s.now))] T_store_block) = h4' at *
    have e4 := e3.trans u4
    have hO4 := hO.ext e4
    refine append_own T_sl_store_block.und T_sl_store_block.und T_store_block.info T_store_block.size T_store_block.bytes T_store_block.zero rfl (by decide) hO4 s4 ?_ (by simp only [List.length_map, List.length_singleton]; omega) ?_
    · intro r hr u hu
      obtain ⟨y, hy, rfl⟩ := List.mem_map.1 hr
      simp only [List.mem_singleton] at hy
      subst hy
      simp only [brow, List.mem_cons, List.not_mem_nil, or_false] at hu
      rcases hu with rfl | rfl <;> rfl
    intro v5 h5 F5 O5 u5 k5 _
    have ha4 := e4.get ha
    have ha5 := u5.get ha4 hn2
    obtain ⟨x5, y5, hv5, -⟩ := O5.slR.here
    have hvc : isCell v5 = true := by rw [hv5]; rfl
    try simp only [T_store_Store.f1, zSS, reduceIte]
    refine store_cell T_sl_store_block.und rfl ha5 (by simp) hvc T_sl_store_block.info T_sl_store_block.size ?_
    have ew1 : (#[(Value.map (some m)), vv, .int .u64 (s.height : Int)] : Array Value).setIfInBounds (0 + 1) v5 = #[.map (some m), v5, .int .u64 (s.height : Int)] := rfl
    rw [ew1]
    have u6 : Upd [a] h5 (h5.set a (.cells #[.map (some m), v5, .int .u64 (s.height : Int)] T_store_Store (0, 0))) := Upd.set (by simp)
    have a6 : (h5.set a (.cells #[.map (some m), v5, .int .u64 (s.height : Int)] T_store_Store (0, 0))) a = some (.cells #[.map (some m), v5, .int .u64 (s.height : Int)] T_store_Store (0, 0)) := set_same
    generalize h5.set a (.cells #[.map (some m), v5, .int .u64 (s.height : Int)] T_store_Store (0, 0)) = h6 at *
    have c2 : cellH h6 ⟨a, 0 + 2, none⟩ = some (.int .u64 s.height) := by simp [cellH, a6]
    have ei : IntKind.u64.wrap ((s.height : Int) + 1) = ((s.height + 1 : Nat) : Int) := by rw [u64_wrap (by omega) (by omega)]; omega
    simp only [T_store_Store.f2, T_uint64.load, c2, ei, zSS, reduceIte]
    refine store_cell T_uint64.und rfl a6 (by simp) rfl T_uint64.info T_uint64.size ?_
    have ew2 : (#[(Value.map (some m)), v5, .int .u64 (s.height : Int)] : Array Value).setIfInBounds (0 + 2) (.int .u64 ((s.height + 1 : Nat) : Int)) = #[.map (some m), v5, .int .u64 ((s.height + 1 : Nat) : Int)] := rfl
    rw [ew2]
    have u7 : Upd [a] h6 (h6.set a (.cells #[.map (some m), v5, .int .u64 ((s.height + 1 : Nat) : Int)] T_store_Store (0, 0))) := Upd.set (by simp)
    have a7 : (h6.set a (.cells #[.map (some m), v5, .int .u64 ((s.height + 1 : Nat) : Int)] T_store_Store (0, 0))) a = some (.cells #[.map (some m), v5, .int .u64 ((s.height + 1 : Nat) : Int)] T_store_Store (0, 0)) := set_same
    generalize h6.set a (.cells #[.map (some m), v5, .int .u64 ((s.height + 1 : Nat) : Int)] T_store_Store (0, 0)) = h7 at *
    have c2 : cellH h7 ⟨a, 0 + 2, none⟩ = some (.int .u64 ((s.height + 1 : Nat) : Int)) := by simp [cellH, a7]
    simp only [T_store_Store.f2, T_uint64.load, c2, zSS, reduceIte]
    have hs : sCom s = ({ s with blocks := s.blocks ++ [s.now], height := s.height + 1 }, (s.height + 1, 0)) := by unfold sCom; rw [if_neg d1, if_neg d2]
    rw [hs] at hk
    -- what was changed
    have w5 : Upd (a :: Fb) h4' h5 := u5.mono fun b hb => .inl (by simp [hb])
    have w7 : Upd (a :: Fb) h5 h7 := (u6.trans u7).mono fun b hb => .inl (by simp at hb; simp [hb])
    have w : Upd (a :: Fb) h4' h7 := w5.trans w7
    have wh : Upd (a :: Fb) h h7 := e4.upd.trans w
    have hflh : ∀ b ∈ Fl, b ≠ a ∧ b ≠ m ∧ b ∉ Fb := fun b hb => by
      have := fl b hb
      refine ⟨fun e => ?_, fun e => ?_, fun e => ?_⟩
      · subst e; rw [ha] at this; cases this
      · subst e; exact MapAt.known hm this
      · exact hO.known b e this
    have hO4l := (O2.ext u3).ext u4
    have hFlk : ∀ b ∈ Fl, h4' b ≠ none := hO4l.known
    have hnoF5 : ∀ b, h4' b ≠ none → b ∉ Fb → b ∉ F5 := fun b h1 h2 h3 => by
      rcases k5 b h3 with h | h
      · exact h2 h
      · exact h1 h
    have ha4n : h4' a ≠ none := by rw [ha4]; simp
    have hm4n : h4' m ≠ none := MapAt.known (MapAt.ext hm e4)
    have hG4 : ∀ g ∈ G, h4' g ≠ none := fun g hg => by
      obtain ⟨o, ho⟩ := Option.ne_none_iff_exists'.1 (hG g hg).2.2.2
      rw [e4.get ho]; simp
    have hOl7 := hO4l.upd w (fun b hb => by simp only [List.mem_cons, not_or]; exact ⟨(hflh b hb).1, (hflh b hb).2.2⟩)
    refine hk h7 (a :: m :: (F5 ++ (G ++ Fl))) ⟨⟨m, l, v5, bl ++ [(.slice va s.now.length cap, s.now)], F5, G ++ Fl, a7, MapAt.upd hm wh (by simp only [List.mem_cons, not_or]; exact ⟨hn1.symm, hn3⟩), hp, ?_, ?_, ?_, rfl, hn1, hnoF5 a ha4n hn2, hnoF5 m hm4n hn3, ?_⟩, ?_⟩ (wh.mono fun b hb => .inl ?_) ?_
    · rw [List.map_append]
      exact O5.upd (u6.trans u7) (fun b hb => by simp only [List.mem_singleton]; rintro rfl; exact hnoF5 _ ha4n hn2 hb)
    · intro x hx
      rw [List.mem_append] at hx
      rcases hx with hx | hx
      · refine ⟨(hS x hx).1.upd wh fun y n c e => ?_, fun y n c e => List.mem_append_left _ ((hS x hx).2 y n c e)⟩
        have hg := hG _ ((hS x hx).2 y n c e)
        simp only [List.mem_cons, not_or]
        exact ⟨hg.1, hg.2.2.1⟩
      · simp only [List.mem_singleton] at hx
        subst hx
        have hs7 := hOl7.slR
        rw [hv] at hs7
        refine ⟨hs7, fun y n c e => List.mem_append_right _ ?_⟩
        rcases hOl7.here with ⟨e1, _, _⟩ | ⟨b, cap', cs, e1, e2, _⟩
        · rw [hv] at e1
          simp only [Value.slice.injEq] at e1 e
          rw [e1.1] at e
          cases e.1
        · rw [hv] at e1
          simp only [Value.slice.injEq] at e1 e
          rw [e1.1] at e
          simp only [Option.some.injEq] at e
          rw [← e.1, e2]; simp
    · rw [List.map_append, hbl]; rfl
    · intro g hg
      rw [List.mem_append] at hg
      have wk : h4' g ≠ none → g ≠ a → g ∉ Fb → h7 g ≠ none := fun h1 h2 h3 => by
        obtain ⟨o, ho⟩ := Option.ne_none_iff_exists'.1 h1
        rw [w.get ho (by simp only [List.mem_cons, not_or]; exact ⟨h2, h3⟩)]; simp
      rcases hg with hg | hg
      · have := hG g hg
        exact ⟨this.1, this.2.1, hnoF5 g (hG4 g hg) this.2.2.1, wk (hG4 g hg) this.1 this.2.2.1⟩
      · have := hflh g hg
        exact ⟨this.1, this.2.1, hnoF5 g (hFlk g hg) this.2.2, wk (hFlk g hg) this.1 this.2.2⟩
    · refine ⟨hok.up, hok.fit, hok.few, fun b hb => ?_, ?_, ?_, ?_, ?_⟩
      · simp only [List.mem_append, List.mem_singleton] at hb
        rcases hb with hb | rfl
        · exact hok.blk b hb
        · exact ⟨hok.up, hok.fit, hok.few⟩
      · simp
      · simp only [List.length_append, List.length_singleton]; omega
      · have := hok.h3
        have := hok.h1
        simp only [List.length_append, List.length_singleton]; omega
      · show s.height + 1 < 18446744073709551616
        omega
    · simp only [List.mem_cons] at hb
      simp only [List.mem_cons, List.mem_append]
      rcases hb with hb | hb
      · exact .inl hb
      · exact .inr (.inr (.inl hb))
    · intro b hb
      simp only [List.mem_cons, List.mem_append] at hb ⊢
      rcases hb with hb | hb | hb | hb | hb
      · exact .inl (.inl hb)
      · exact .inl (.inr (.inl hb))
      · rcases k5 b hb with h1 | h1
        · exact .inl (.inr (.inr (.inl h1)))
        · exact .inr (e4.none h1)
      · exact .inl (.inr (.inr (.inr hb)))
      · exact .inr (fl b hb)
  · -- one more
    obtain ⟨p, hpl, hpe⟩ := List.mem_map.1 hmem
    have hky : ky = p.k := by have := congrArg Prod.fst hpe; exact this.symm
    have hvl : vl = .string (tx p.v) := by have := congrArg Prod.snd hpe; exact this.symm
    subst hky hvl
    have O2 := O.upd u2 (fun b hb => by simp only [List.mem_singleton]; rintro rfl; exact hil hb)
    have e2 : Ext h h2 := u.fresh u2 (Fresh.one hit)
    simp only [zSS, reduceIte]
    refine entry_it HI2 ?_
    have ek : skey p.k = .string (tx p.k) := rfl
    simp only [ek, pr_build, pr_lit, zSS, reduceIte]
    intro r hr
    refine popO_pure ?_
    try rw [bindH_eq]
    have u3 : Ext h2 (h2.set r (.cells #[.string (tx p.k), .string (tx p.v)] T_api_Pair)) := Upd.new hr
    have s3 : SlR (h2.set r (.cells #[.string (tx p.k), .string (tx p.v)] T_api_Pair)) 2 (.slice (some ⟨r, 0, none⟩) 1 1) ([p].map Pr.cells) := (OwnR.lit (n := 1) (Pr.rows [p]) set_same (by simp) (by decide) rfl).slR
    generalize h2.set r (.cells #[.string (tx p.k), .string (tx p.v)] T_api_Pair) = h3 at *
    have HI3 := HI2.upd u3 (by simp) (by simp)
    have O3 := O2.ext u3
    refine append_own T_sl_api_Pair.und T_sl_api_Pair.und T_api_Pair.info T_api_Pair.size T_api_Pair.bytes T_api_Pair.zero rfl (by decide) O3 s3 (Pr.isCell [p]) (by simp; omega) ?_
    intro v4' h4' F4 O4 u4 k4 _
    have e3 := e2.trans u3
    have hit3 : it ∉ F4 := fun hm => by
      rcases k4 it hm with h1 | h1
      · exact hil h1
      · exact HI3.known h1
    have HI4 := HI3.upd u4 (fun hm' => by have := fl m hm'; exact MapAt.known hm this) hil
    refine ⟨⟨pre ++ [p], v4', F4, (by trivial), ?_, ?_, fl.grow e3 k4, hit3, e3.fresh u4 fl⟩, ?_⟩
    · rw [List.map_append]; exact HI4
    · rw [List.map_append]; exact O4
    · rw [HI4.left, HI.left]
      have := HI4.le
      simp only [List.length_append, List.length_map, List.length_cons, List.length_nil] at this ⊢
      omega
end Go.Proofs.YtcoajnpchhmgjaaGreatDoor
namespace Go.Proofs.YtcoajnpchhmgjaaGreatDoor
open Go
set_option maxRecDepth 20000
structure Ch where
  id : Int
  st : St
  first : Nat
  blk : List (List Nt)
  nts : List Nt
  cl : List Known
  seq : Nat
def stA (a : Nat) (s : St) : Asrt := fun h F => StAt h a s F
theorem stA.good (a : Nat) (s : St) : Good (stA a s) := ⟨fun H => StAt.known H, fun H u hK => StAt.upd H u hK⟩
def mapA (m : Nat) (l : List Pr) : Asrt := fun h F => F = [m] ∧ SMAt h m l
theorem mapA.good (m : Nat) (l : List Pr) : Good (mapA m l) where
  known := by
    rintro h F ⟨rfl, H⟩ b hb
    simp only [List.mem_singleton] at hb
    subst hb; exact MapAt.known H
  upd := by
    rintro h h' F K ⟨rfl, H⟩ u hK
    exact ⟨rfl, MapAt.upd H u (hK m (by simp))⟩
def cliA (a : Nat) (l : List Known) : Asrt := fun h F => ∃ hs, ClientAt h a l hs F
theorem cliA.good (a : Nat) (l : List Known) : Good (cliA a l) := ⟨fun ⟨_, H⟩ => ClientAt.known H, fun ⟨hs, H⟩ u hK => ⟨hs, ClientAt.upd H u hK⟩⟩
def nrow (x : Value × List Nt) : List Value := [x.1]
theorem nrow.rows (l : List (Value × List Nt)) : Rows 1 (l.map nrow) := fun r hr => by obtain ⟨m, _, rfl⟩ := List.mem_map.1 hr; rfl
def blkA (v : Value) (blk : List (List Nt)) : Asrt := fun h F => ∃ (bl : List (Value × List Nt)) (Fb G : List Nat), OwnR h T_sl_api_Note 1 v (bl.map nrow) Fb ∧ (∀ x ∈ bl, SlR h 5 x.1 (x.2.map Nt.cells) ∧ inBlocks x.1 G) ∧ bl.map (·.2) = blk ∧ F = Fb ++ G ∧ ∀ g ∈ G, g ∉ Fb ∧ h g ≠ none
theorem blkA.good (v : Value) (blk : List (List Nt)) : Good (blkA v blk) where
  known := by
    rintro h F ⟨bl, Fb, G, O, S, e, rfl, hG⟩ b hb
    rcases List.mem_append.1 hb with hb | hb
    · exact O.known b hb
    · exact (hG b hb).2
  upd := by
    rintro h h' F K ⟨bl, Fb, G, O, S, e, rfl, hG⟩ u hK
    refine ⟨bl, Fb, G, O.upd u (fun b hb => hK b (by simp [hb])), fun x hx => ⟨(S x hx).1.upd u fun a n c ev => hK _ (by have := (S x hx).2 a n c ev; simp [this]), (S x hx).2⟩, e, rfl, fun g hg => ⟨(hG g hg).1, ?_⟩⟩
    obtain ⟨o, ho⟩ := Option.ne_none_iff_exists'.1 (hG g hg).2
    rw [u.get ho (hK g (by simp [hg]))]; simp
def Ch.cells (s : Ch) (sp : Nat) (bv nv : Value) (m cp : Nat) : List Value := [.pointer (some ⟨sp, 0, none⟩), .int .u64 s.first, bv, nv, .map (some m), .int .i64 s.id, .pointer (some ⟨cp, 0, none⟩), .int .u64 s.seq]
def parts (c : Nat) (cs : List Value) (sp : Nat) (st : St) (m : Nat) (lk : List Pr) (cp : Nat) (cl : List Known) (nv : Value) (nts : List Nt) (bv : Value) (blk : List (List Nt)) : Asrt :=
star (box c cs) (star (stA sp st) (star (mapA m lk) (star (cliA cp cl) (star (owned T_api_Note 5 nv (nts.map Nt.cells)) (blkA bv blk)))))
structure Ch.Ok (s : Ch) : Prop where
  id : s.id = 0 ∨ s.id = 1
  len : s.blk.length = s.st.blocks.length
  first : s.first + (s.blk.length - 1) = s.st.height
  seq : s.seq < 18446744073709551616
  seq1 : 1 ≤ s.seq
  nts : s.nts.length ≤ 1000000
  wf : ∀ n ∈ s.nts, n.p.wf
  bwf : ∀ b ∈ s.blk, b.length ≤ 1000000 ∧ ∀ n ∈ b, n.p.wf
def ChA (c : Nat) (s : Ch) : Asrt := fun h F => ∃ sp m cp nv bv lk, parts c (s.cells sp bv nv m cp) sp s.st m lk cp s.cl nv s.nts bv s.blk h F ∧ lk.Perm s.st.now ∧ s.Ok
section
variable {c : Nat} {cs : List Value} {sp : Nat} {st : St} {m : Nat} {lk : List Pr} {cp : Nat} {cl : List Known} {nv : Value} {nts : List Nt} {bv : Value} {blk : List (List Nt)}
theorem gN : Good (owned T_api_Note 5 nv (nts.map Nt.cells)) := owned.good _ _ _ _
theorem g5 : Good (star (owned T_api_Note 5 nv (nts.map Nt.cells)) (blkA bv blk)) := gN.star (blkA.good _ _)
theorem g4 : Good (star (cliA cp cl) (star (owned T_api_Note 5 nv (nts.map Nt.cells)) (blkA bv blk))) := (cliA.good _ _).star g5
theorem g3 : Good (star (mapA m lk) (star (cliA cp cl) (star (owned T_api_Note 5 nv (nts.map Nt.cells)) (blkA bv blk)))) := (mapA.good _ _).star g4
theorem g2 : Good (star (stA sp st) (star (mapA m lk) (star (cliA cp cl) (star (owned T_api_Note 5 nv (nts.map Nt.cells)) (blkA bv blk))))) := (stA.good _ _).star g3
theorem parts.good : Good (parts c cs sp st m lk cp cl nv nts bv blk) := (box.good _ _).star g2
variable {h : PH} {F : List Nat} (H : parts c cs sp st m lk cp cl nv nts bv blk h F)
include H
theorem parts.fBox : Focus h F (box c cs) (fun X => star X (star (stA sp st) (star (mapA m lk) (star (cliA cp cl) (star (owned T_api_Note 5 nv (nts.map Nt.cells)) (blkA bv blk)))))) := star.left g2 H
theorem parts.fSt : Focus h F (stA sp st) (fun X => star (Go.Proofs.YtcoajnpchhmgjaaGreatDoor.box c cs) (star X (star (mapA m lk) (star (cliA cp cl) (star (owned T_api_Note 5 nv (nts.map Nt.cells)) (blkA bv blk)))))) := (star.right (box.good _ _) H).comp fun _ H => star.left g3 H
theorem parts.fMap : Focus h F (mapA m lk) (fun X => star (Go.Proofs.YtcoajnpchhmgjaaGreatDoor.box c cs) (star (stA sp st) (star X (star (cliA cp cl) (star (owned T_api_Note 5 nv (nts.map Nt.cells)) (blkA bv blk)))))) := (star.right (box.good _ _) H).comp fun _ H => (star.right (stA.good _ _) H).comp fun _ H => star.left g4 H
theorem parts.fCli : Focus h F (cliA cp cl) (fun X => star (Go.Proofs.YtcoajnpchhmgjaaGreatDoor.box c cs) (star (stA sp st) (star (mapA m lk) (star X (star (owned T_api_Note 5 nv (nts.map Nt.cells)) (blkA bv blk)))))) := (star.right (box.good _ _) H).comp fun _ H => (star.right (stA.good _ _) H).comp fun _ H => (star.right (mapA.good _ _) H).comp fun _ H => star.left g5 H
theorem parts.fNts : Focus h F (owned T_api_Note 5 nv (nts.map Nt.cells)) (fun X => star (Go.Proofs.YtcoajnpchhmgjaaGreatDoor.box c cs) (star (stA sp st) (star (mapA m lk) (star (cliA cp cl) (star X (blkA bv blk)))))) := (star.right (box.good _ _) H).comp fun _ H => (star.right (stA.good _ _) H).comp fun _ H => (star.right (mapA.good _ _) H).comp fun _ H => (star.right (cliA.good _ _) H).comp fun _ H => star.left (blkA.good _ _) H
theorem parts.fTwo : Focus h F (star (owned T_api_Note 5 nv (nts.map Nt.cells)) (blkA bv blk)) (fun X => star (Go.Proofs.YtcoajnpchhmgjaaGreatDoor.box c cs) (star (stA sp st) (star (mapA m lk) (star (cliA cp cl) X)))) := (star.right (box.good _ _) H).comp fun _ H => (star.right (stA.good _ _) H).comp fun _ H => (star.right (mapA.good _ _) H).comp fun _ H => star.right (cliA.good _ _) H
end
theorem ChA.good (c : Nat) (s : Ch) : Good (ChA c s) where
  known := fun ⟨_, _, _, _, _, _, H, _⟩ => parts.good.known H
  upd := fun ⟨sp, m, cp, nv, bv, lk, H, e⟩ u hK => ⟨sp, m, cp, nv, bv, lk, parts.good.upd H u hK, e⟩
theorem parts.cell {c : Nat} {cs : List Value} {sp : Nat} {st : St} {m : Nat} {lk : List Pr} {cp : Nat} {cl : List Known} {nv : Value} {nts : List Nt} {bv : Value} {blk : List (List Nt)} {h : PH} {F : List Nat} (H : parts c cs sp st m lk cp cl nv nts bv blk h F) : Bx h c cs := by
  obtain ⟨Fa, ⟨-, B⟩, -, -⟩ := H.fBox
  exact B
end Go.Proofs.YtcoajnpchhmgjaaGreatDoor
namespace Go.Proofs.YtcoajnpchhmgjaaGreatDoor
open Go
set_option maxRecDepth 20000
theorem Ch.load0 {h : PH} {c : Nat} {s : Ch} {sp : Nat} {bv nv : Value} {m cp : Nat} (B : Bx h c (s.cells sp bv nv m cp)) : SemE PG h (Instr.loadAt T_p_store_Store (.pointer (some ⟨c, 0, none⟩))) = some (.pointer (some ⟨sp, 0, none⟩)) := by rw [T_p_store_Store.load, B.cell]; rfl
theorem Ch.load1 {h : PH} {c : Nat} {s : Ch} {sp : Nat} {bv nv : Value} {m cp : Nat} (B : Bx h c (s.cells sp bv nv m cp)) : SemE PG h (Instr.loadAt T_uint64 (.pointer (some ⟨c, 1, none⟩))) = some (.int .u64 s.first) := by rw [T_uint64.load, B.cell]; rfl
theorem Ch.load2 {h : PH} {c : Nat} {s : Ch} {sp : Nat} {bv nv : Value} {m cp : Nat} (B : Bx h c (s.cells sp bv nv m cp)) : SemE PG h (Instr.loadAt T_sl_sl_api_Note (.pointer (some ⟨c, 2, none⟩))) = some bv := by rw [T_sl_sl_api_Note.load, B.cell]; rfl
theorem Ch.load3 {h : PH} {c : Nat} {s : Ch} {sp : Nat} {bv nv : Value} {m cp : Nat} (B : Bx h c (s.cells sp bv nv m cp)) : SemE PG h (Instr.loadAt T_sl_api_Note (.pointer (some ⟨c, 3, none⟩))) = some nv := by rw [T_sl_api_Note.load, B.cell]; rfl
theorem Ch.load4 {h : PH} {c : Nat} {s : Ch} {sp : Nat} {bv nv : Value} {m cp : Nat} (B : Bx h c (s.cells sp bv nv m cp)) : SemE PG h (Instr.loadAt T_map_string_string (.pointer (some ⟨c, 4, none⟩))) = some (.map (some m)) := by rw [T_map_string_string.load, B.cell]; rfl
theorem Ch.load5 {h : PH} {c : Nat} {s : Ch} {sp : Nat} {bv nv : Value} {m cp : Nat} (B : Bx h c (s.cells sp bv nv m cp)) : SemE PG h (Instr.loadAt T_int (.pointer (some ⟨c, 5, none⟩))) = some (.int .i64 s.id) := by rw [T_int.load, B.cell]; rfl
theorem Ch.load6 {h : PH} {c : Nat} {s : Ch} {sp : Nat} {bv nv : Value} {m cp : Nat} (B : Bx h c (s.cells sp bv nv m cp)) : SemE PG h (Instr.loadAt T_p_client_Client (.pointer (some ⟨c, 6, none⟩))) = some (.pointer (some ⟨cp, 0, none⟩)) := by rw [T_p_client_Client.load, B.cell]; rfl
theorem Ch.load7 {h : PH} {c : Nat} {s : Ch} {sp : Nat} {bv nv : Value} {m cp : Nat} (B : Bx h c (s.cells sp bv nv m cp)) : SemE PG h (Instr.loadAt T_uint64 (.pointer (some ⟨c, 7, none⟩))) = some (.int .u64 s.seq) := by rw [T_uint64.load, B.cell]; rfl
def Ch.put (s : Ch) (k v : Tx) : Ch := { s with st := { s.st with now := ssetL s.st.now ⟨k, v⟩ } }
def Ch.del (s : Ch) (k : Tx) : Ch := { s with st := { s.st with now := sdelL s.st.now k } }
def Ch.add (s : Ch) (n : Nt) : Ch := { s with nts := s.nts ++ [n] }
theorem parts.okst {c : Nat} {cs : List Value} {sp : Nat} {st : St} {m : Nat} {lk : List Pr} {cp : Nat} {cl : List Known} {nv : Value} {nts : List Nt} {bv : Value} {blk : List (List Nt)} {h : PH} {F : List Nat} (H : parts c cs sp st m lk cp cl nv nts bv blk h F) : st.Ok := by
  obtain ⟨Fs, S, -, -⟩ := H.fSt
  exact StAt.ok S
theorem LSet_ok {h : PH} {c : Nat} {s : Ch} {F : List Nat} (H : ChA c s h F) {k v : Tx} (h1 : 1 ≤ k.length) (h2 : k.length ≤ 16) (h3 : v.length ≤ 64) (hr : ¬ (sgetL s.st.now k = none ∧ 4096 ≤ s.st.now.length)) {kk : Value → PH → Prop}
    (hk : ∀ h' F', ChA c (s.put k v) h' F' → Step h F h' F' → kk (.tuple #[]) h') : CallsH PG id_chain_ledger_set #[.pointer (some ⟨c, 0, none⟩), .string (tx k), .string (tx v)] h kk := by
  apply chain_ledger_set.call
  unfold chain_ledger_set
  obtain ⟨sp, m, cp, nv, bv, lk, P, perm, ok⟩ := H
  have hst := P.okst
  simp only [T_chain_ledger.f4, Nat.zero_add, Ch.load4 P.cell, zSS, reduceIte, zZZ, Nat.reduceAdd]
  obtain ⟨Fm, ⟨rfl, M⟩, hFm, back⟩ := P.fMap
  refine map_put skeyed T_map_string_string.und M k (.string (tx v)) fun h4 M4 u4 => ?_
  obtain ⟨l', e1, e2⟩ := sput_perm perm hst.up ⟨k, v⟩
  have e1' : putM (lk.map Pr.pr) k (.string (tx v)) = l'.map Pr.pr := e1
  rw [e1'] at M4
  obtain ⟨F4, P4, s4⟩ := back (mapA m l') h4 [m] ⟨rfl, M4⟩ ⟨u4, fun b hb => .inl hb⟩
  have P4 : parts c (s.cells sp bv nv m cp) sp s.st m l' cp s.cl nv s.nts bv s.blk h4 F4 := P4
  simp only [T_chain_ledger.f0, Ch.load0 P4.cell, zSS, reduceIte, zZZ, Nat.reduceAdd]
  obtain ⟨Fs, S, hFs, back2⟩ := P4.fSt
  have es : sSet s.st k v = ({ s.st with now := ssetL s.st.now ⟨k, v⟩ }, 0) := by
    unfold sSet
    rw [if_neg (by omega), if_neg hr]
  refine SSet_ok S k v fun h5 S5 u5 => ?_
  rw [es] at S5
  obtain ⟨F5, P5, s5⟩ := back2 (stA sp { s.st with now := ssetL s.st.now ⟨k, v⟩ }) h5 Fs S5 ⟨u5, fun b hb => .inl hb⟩
  exact hk h5 F5 ⟨sp, m, cp, nv, bv, l', P5, e2, ⟨ok.id, ok.len, ok.first, ok.seq, ok.seq1, ok.nts, ok.wf, ok.bwf⟩⟩ (s4.trans s5)
theorem LDrop_ok {h : PH} {c : Nat} {s : Ch} {F : List Nat} (H : ChA c s h F) {k : Tx} (hg : sgetL s.st.now k ≠ none) {kk : Value → PH → Prop}
    (hk : ∀ h' F', ChA c (s.del k) h' F' → Step h F h' F' → kk (.tuple #[]) h') : CallsH PG id_chain_ledger_drop #[.pointer (some ⟨c, 0, none⟩), .string (tx k)] h kk := by
  apply chain_ledger_drop.call
  unfold chain_ledger_drop
  obtain ⟨sp, m, cp, nv, bv, lk, P, perm, ok⟩ := H
  have hst := P.okst
  simp only [T_chain_ledger.f4, Nat.zero_add, Ch.load4 P.cell, zSS, reduceIte, zZZ, Nat.reduceAdd]
  obtain ⟨Fm, ⟨rfl, M⟩, hFm, back⟩ := P.fMap
  refine map_del skeyed T_map_string_string.und M k rfl fun h4 M4 u4 => ?_
  rw [sdel_pr] at M4
  obtain ⟨F4, P4, s4⟩ := back (mapA m (sdelL lk k)) h4 [m] ⟨rfl, M4⟩ ⟨u4, fun b hb => .inl hb⟩
  have P4 : parts c (s.cells sp bv nv m cp) sp s.st m (sdelL lk k) cp s.cl nv s.nts bv s.blk h4 F4 := P4
  simp only [T_chain_ledger.f0, Ch.load0 P4.cell, zSS, reduceIte, zZZ, Nat.reduceAdd]
  obtain ⟨Fs, S, hFs, back2⟩ := P4.fSt
  have es : sDel s.st k = ({ s.st with now := sdelL s.st.now k }, 0) := by
    unfold sDel
    rw [if_neg hg]
  refine SDelete_ok S k fun h5 S5 u5 => ?_
  rw [es] at S5
  obtain ⟨F5, P5, s5⟩ := back2 (stA sp { s.st with now := sdelL s.st.now k }) h5 Fs S5 ⟨u5, fun b hb => .inl hb⟩
  exact hk h5 F5 ⟨sp, m, cp, nv, bv, _, P5, perm.filter _, ⟨ok.id, ok.len, ok.first, ok.seq, ok.seq1, ok.nts, ok.wf, ok.bwf⟩⟩ (s4.trans s5)
theorem LRoom_ok {h : PH} {c : Nat} {s : Ch} {F : List Nat} (H : ChA c s h F) {n : Nat} (hn : n ≤ 100) {kk : Value → PH → Prop} (hk : kk (.bool (decide (s.st.now.length + n ≤ 4096))) h) : CallsH PG id_chain_ledger_room #[.pointer (some ⟨c, 0, none⟩), .int .i64 (n : Int)] h kk := by
  apply chain_ledger_room.call
  unfold chain_ledger_room
  obtain ⟨sp, m, cp, nv, bv, lk, P, perm, ok⟩ := H
  have hf := P.okst.few
  simp only [T_chain_ledger.f0, Ch.load0 P.cell, zSS, reduceIte, zZZ, Nat.reduceAdd]
  obtain ⟨Fs, S, -, -⟩ := P.fSt
  refine SLen_ok S ?_
  have e1 : IntKind.i64.wrap ((s.st.now.length : Int) + (n : Int)) = ((s.st.now.length + n : Nat) : Int) := by rw [i64_wrap (by omega) (by omega)]; omega
  have e2 : (((s.st.now.length + n : Nat) : Int) ≤ 4096) = (s.st.now.length + n ≤ 4096) := by apply propext; omega
  simp only [e1, e2, zSS, reduceIte, zZZ, Nat.reduceAdd]
  exact hk
theorem nt_b2 (k : Int) (p : Pk) : SemP PG (Instr.build T_api_Note #[(0, .int .i64 k), (1, p.v)]) = some (.agg (Nt.cells ⟨k, p⟩).toArray) := by kernel_rfl
theorem nt_lit1 (x : Nt) : SemA PG (Instr.buildSlice T_sl_api_Note 1 #[(0, .agg x.cells.toArray)]) = some (.cells x.cells.toArray T_api_Note (0, 0), fun r => pure (.slice (some ⟨r, 0, none⟩) 1 1)) := by kernel_rfl
theorem nrows (l : List Nt) : Rows 5 (l.map Nt.cells) := fun r hr => by obtain ⟨m, _, rfl⟩ := List.mem_map.1 hr; rfl
theorem ntIsC (l : List Nt) : ∀ r ∈ l.map Nt.cells, ∀ u ∈ r, Go.Proofs.YtcoajnpchhmgjaaGreatDoor.isCell u = true := fun r hr u hu => by
  obtain ⟨m, _, rfl⟩ := List.mem_map.1 hr
  simp only [Nt.cells, Pk.cells, List.mem_cons, List.cons_append, List.nil_append, List.not_mem_nil, or_false] at hu
  rcases hu with rfl | rfl | rfl | rfl | rfl <;> rfl
theorem CNote_ok {h : PH} {c : Nat} {s : Ch} {F : List Nat} (H : ChA c s h F) (k : Int) {p : Pk} (w : p.wf) (hl : s.nts.length < 1000000) {kk : Value → PH → Prop}
    (hk : ∀ h' F', ChA c (s.add ⟨k, p⟩) h' F' → Step h F h' F' → kk (.tuple #[]) h') : CallsH PG id_chain_Chain_note #[.pointer (some ⟨c, 0, none⟩), .int .i64 k, p.v] h kk := by
  apply chain_Chain_note.call
  unfold chain_Chain_note
  intro r1 hr1
  try rw [bindH_eq]
  have u1 : Ext h (h.set r1 (.cells (Value.cells p.v) T_api_Packet)) := Upd.new hr1
  have B1 : Bx (h.set r1 (.cells (Value.cells p.v) T_api_Packet)) r1 p.cells := Bx.new
  generalize h.set r1 (.cells (Value.cells p.v) T_api_Packet) = h1 at *
  have H1 := (ChA.good c s).ext H u1
  obtain ⟨sp, m, cp, nv, bv, lk, P, perm, ok⟩ := H1
  have lp : SemE PG h1 (Instr.loadAt T_api_Packet (.pointer (some ⟨r1, 0, none⟩))) = some p.v := B1.pk rfl
  simp only [T_chain_Chain.f0, T_chain_ledger.f3, Nat.zero_add, Ch.load3 P.cell, lp, nt_b2, nt_lit1, zSS, reduceIte, zZZ, Nat.reduceAdd]
  intro r9 hr9
  refine popO_pure ?_
  try rw [bindH_eq]
  have u2 : Ext h1 (h1.set r9 (.cells (Nt.cells ⟨k, p⟩).toArray T_api_Note (0, 0))) := Upd.new hr9
  have s1 : SlR (h1.set r9 (.cells (Nt.cells ⟨k, p⟩).toArray T_api_Note (0, 0))) 5 (.slice (some ⟨r9, 0, none⟩) 1 1) ([⟨k, p⟩].map Nt.cells) := (OwnR.lit (nrows [⟨k, p⟩]) set_same (by simp) (by decide) (by simp)).slR
  generalize h1.set r9 (.cells (Nt.cells ⟨k, p⟩).toArray T_api_Note (0, 0)) = h2 at *
  have P2 := parts.good.ext P u2
  obtain ⟨Fn, O, hFn, back⟩ := P2.fNts
  refine append_own T_sl_api_Note.und T_sl_api_Note.und T_api_Note.info T_api_Note.size T_api_Note.bytes T_api_Note.zero rfl (by decide) O s1 (ntIsC _) (by simp; omega) ?_
  intro v3 h3 F3 O3 u3 g3 _
  rw [← List.map_append] at O3
  obtain ⟨F4, P4, s4⟩ := back (owned T_api_Note 5 v3 ((s.nts ++ [(⟨k, p⟩ : Nt)]).map Nt.cells)) h3 F3 O3 ⟨u3, g3⟩
  have P4 : parts c (s.cells sp bv nv m cp) sp s.st m lk cp s.cl v3 (s.nts ++ [⟨k, p⟩]) bv s.blk h3 F4 := P4
  obtain ⟨Fb, ⟨rfl, B⟩, hFb, back2⟩ := P4.fBox
  refine T_sl_api_Note.put B (o := 3) (by show 3 < 8; decide) O3.slR.isc fun h5 B5 u5 => ?_
  obtain ⟨F5, P5, s5⟩ := back2 (box c (s.cells sp bv v3 m cp)) h5 [c] ⟨rfl, B5⟩ ⟨u5, fun b hb => .inl hb⟩
  refine hk h5 F5 ⟨sp, m, cp, v3, bv, lk, P5, perm, ⟨ok.id, ok.len, ok.first, ok.seq, ok.seq1, ?_, ?_, ok.bwf⟩⟩ (((Step.ext (u1.trans u2)).trans s4).trans s5)
  · show (s.nts ++ [(⟨k, p⟩ : Nt)]).length ≤ 1000000
    rw [List.length_append]; simp; omega
  · intro n hn
    rcases List.mem_append.1 hn with hn | hn
    · exact ok.wf n hn
    · simp only [List.mem_singleton] at hn
      subst hn; exact w
end Go.Proofs.YtcoajnpchhmgjaaGreatDoor
namespace Go.Proofs.YtcoajnpchhmgjaaGreatDoor
open Go
set_option maxRecDepth 20000
def RuleAt (h : PH) (fv : Value) (b : Bool) : Prop := ∀ h', Ext h h' → ∀ k' : Value → PH → Prop, (∀ h'', Ext h' h'' → k' (.bool b) h'') → callC PG fv #[] h' k'
theorem RuleAt.ext {h h' : PH} {fv : Value} {b : Bool} (R : RuleAt h fv b) (u : Ext h h') : RuleAt h' fv b := fun h2 u2 k hk => R h2 (u.trans u2) k hk
abbrev RuV := Value × Int × Bool
def rlrow (x : RuV) : List Value := [x.1, .int .i64 x.2.1]
theorem rlrow.rows (l : List RuV) : Rows 2 (l.map rlrow) := fun r hr => by obtain ⟨m, _, rfl⟩ := List.mem_map.1 hr; rfl
def RlsAt (h : PH) (rs : List RuV) : Prop := ∀ x ∈ rs, Go.Proofs.YtcoajnpchhmgjaaGreatDoor.isCell x.1 = true ∧ RuleAt h x.1 x.2.2
theorem RlsAt.ext {h h' : PH} {rs : List RuV} (R : RlsAt h rs) (u : Ext h h') : RlsAt h' rs := fun x hx => ⟨(R x hx).1, (R x hx).2.ext u⟩
def firstBad : List RuV → Int
  | [] => 0
  | x :: l => if x.2.2 then firstBad l else x.2.1
def allP (s : Ch) (rs : List RuV) : Int := if s.st.height = 18446744073709551615 then 12 else firstBad rs
theorem Call_ok {h : PH} {c : Nat} {s : Ch} {F : List Nat} (H : ChA c s h F) {v : Value} {rs : List RuV} (S : SlR h 2 v (rs.map rlrow)) (hf : RlsAt h rs) (hl : rs.length ≤ 100) {kk : Value → PH → Prop} (hk : ∀ h', Ext h h' → kk (.int .i64 (allP s rs)) h') :
    CallsH PG id_chain_Chain_all #[.pointer (some ⟨c, 0, none⟩), v] h kk := by
  apply chain_Chain_all.call
  unfold chain_Chain_all
  obtain ⟨sp, m, cp, nv, bv, lk, P, perm, ok⟩ := H
  simp only [T_chain_Chain.f0, T_chain_ledger.f0, Ch.load0 P.cell, zSS, reduceIte, zZZ, Nat.reduceAdd]
  obtain ⟨Fs, St, -, -⟩ := P.fSt
  refine Height_ok St ?_
  unfold allP at hk
  by_cases hm : s.st.height = 18446744073709551615
  · have q : ((s.st.height : Int) == 18446744073709551615) = true := by rw [hm]; rfl
    rw [if_pos hm] at hk
    simp only [eqlI, q, zSS, reduceIte, zZZ, Nat.reduceAdd]
    exact hk h Upd.refl
  have q : ((s.st.height : Int) == 18446744073709551615) = false := by rw [beq_eq_false_iff_ne]; omega
  rw [if_neg hm] at hk
  have lv := S.len (t' := T_int) T_sl_chain_rule.und
  rw [List.length_map] at lv
  simp only [eqlI, q, lv, zSS, reduceIte, zZZ, Nat.reduceAdd]
  refine ⟨fun vs h' => ∃ i : Nat, i ≤ rs.length ∧ vs = [v, .int .i64 (rs.length : Int), .int .i64 (i : Int)] ∧ Ext h h' ∧ firstBad rs = firstBad (rs.drop i), upTo rs.length 2, ⟨0, by omega, rfl, Upd.refl, rfl⟩, ?_⟩
  rintro ρ h' ⟨i, hi, hvs, u, hfb⟩
  simp only [List.map_cons, List.map_nil, List.cons.injEq, and_true] at hvs
  obtain ⟨v0, v1, v2⟩ := hvs
  unfold chain_Chain_all_b10
  rw [v0, v1, v2]
  by_cases hlt : i < rs.length
  · have g : ((i : Int) < (rs.length : Int)) = True := eq_true (by omega)
    have gi : IntKind.i64.wrap ((i : Int) + 1) = ((i + 1 : Nat) : Int) := by rw [i64_wrap (by omega) (by omega)]; omega
    obtain ⟨x, hx⟩ : ∃ x, rs[i]? = some x := ⟨_, List.getElem?_eq_getElem hlt⟩
    have hmem := List.mem_of_getElem? hx
    have hd : rs.drop i = x :: rs.drop (i + 1) := by
      obtain ⟨h1, e1⟩ := List.getElem?_eq_some_iff.1 hx
      rw [← e1]; exact List.drop_eq_getElem_cons h1
    rw [hd, firstBad] at hfb
    obtain ⟨a, a1, a2⟩ := (S.ext u).loadAgg T_sl_chain_rule.und T_chain_rule.info T_chain_rule.size T_chain_rule.und rfl (k := .i64) (j := (i : Int)) (r := rlrow x) (by omega) (by rw [Int.toNat_natCast, List.getElem?_map, hx]; rfl)
    obtain ⟨hc, hr⟩ := hf x hmem
    simp only [g, a1, a2, zSS, reduceIte, zZZ, Nat.reduceAdd]
    intro r14 hr14
    try rw [bindH_eq]
    refine T_chain_rule.fill (vs := rlrow x) hr14 rfl (by
      simp only [rlrow, List.mem_cons, List.not_mem_nil, or_false]
      rintro w (rfl | rfl)
      · exact hc
      · rfl) fun h2 B2 u2 => ?_
    have lf : SemE PG h2 (Instr.loadAt T_func_bool (.pointer (some ⟨r14, 0, none⟩))) = some x.1 := by rw [T_func_bool.load, B2.cell]; rfl
    simp only [T_chain_rule.f0, lf, zSS, reduceIte, zZZ, Nat.reduceAdd]
    refine hr h2 (u.trans u2) _ fun h3 u3 => ?_
    have e3 := (u.trans u2).trans u3
    cases hb : x.2.2 with
    | true =>
      rw [hb, if_pos rfl] at hfb
      simp only [gi, zSS, reduceIte, zZZ, Nat.reduceAdd]
      exact ⟨⟨i + 1, by omega, rfl, e3, hfb⟩, by simp [upTo, v2]; omega⟩
    | false =>
      rw [hb, if_neg (by decide)] at hfb
      have le : SemE PG h3 (Instr.loadAt T_api_Errno (.pointer (some ⟨r14, 1, none⟩))) = some (.int .i64 x.2.1) := by rw [T_api_Errno.load, (B2.ext u3).cell]; rfl
      simp only [T_chain_rule.f1, Nat.zero_add, le, zSS, reduceIte, zZZ, Nat.reduceAdd]
      have := hk h3 e3
      rw [hfb] at this
      exact this
  · have g : ((i : Int) < (rs.length : Int)) = False := eq_false (by omega)
    rw [List.drop_of_length_le (by omega), firstBad] at hfb
    simp only [g, zSS, reduceIte, zZZ, Nat.reduceAdd]
    have := hk h' u
    rw [hfb] at this
    exact this
theorem rule_b (f : FuncId) (cap : Array Value) (e : Int) : SemP PG (Instr.build T_chain_rule #[(0, .func (.func f) #[] cap), (1, .int .i64 e)]) = some (.agg #[.func (.func f) #[] cap, .int .i64 e]) := by kernel_rfl
theorem CFrom_ok {h : PH} {p : Pk} {id : Int} {kk : Value → PH → Prop} (hk : ∀ h' fv, Go.Proofs.YtcoajnpchhmgjaaGreatDoor.isCell fv = true → RuleAt h' fv (p.right && (p.f == id)) → Ext h h' → kk (.agg #[fv, .int .i64 1]) h') : CallsH PG id_chain_from #[p.v, .int .i64 id] h kk := by
  apply chain_from.call
  unfold chain_from
  intro r1 hr1
  try rw [bindH_eq]
  have u1 : Ext h (h.set r1 (.cells (Value.cells p.v) T_api_Packet)) := Upd.new hr1
  have B1 : Bx (h.set r1 (.cells (Value.cells p.v) T_api_Packet)) r1 p.cells := Bx.new
  generalize h.set r1 (.cells (Value.cells p.v) T_api_Packet) = h1 at *
  intro r3 hr3
  try rw [bindH_eq]
  have u3 : Ext h1 (h1.set r3 (.cells (Value.cells (.int .i64 id)) T_int)) := Upd.new hr3
  have B3 : Bx (h1.set r3 (.cells (Value.cells (.int .i64 id)) T_int)) r3 [.int .i64 id] := Bx.new
  generalize h1.set r3 (.cells (Value.cells (.int .i64 id)) T_int) = h3 at *
  intro r5 hr5
  try rw [bindH_eq]
  simp only [makeFunc_eq, rule_b, zSS, reduceIte, zZZ, Nat.reduceAdd]
  refine T_chain_rule.fill (vs := [.func (.func id_chain_from_1) #[] #[.pointer (some ⟨r1, 0, none⟩), .pointer (some ⟨r3, 0, none⟩)], .int .i64 1]) hr5 rfl (by simp [isCell]) fun h5 B5 u5 => ?_
  have l5 : SemE PG h5 (Instr.loadAt T_chain_rule (.pointer (some ⟨r5, 0, none⟩))) = some (.agg #[.func (.func id_chain_from_1) #[] #[.pointer (some ⟨r1, 0, none⟩), .pointer (some ⟨r3, 0, none⟩)], .int .i64 1]) := T_chain_rule.agg B5 (by show 0 + 2 ≤ 2; decide)
  simp only [l5, zSS, reduceIte, zZZ, Nat.reduceAdd]
  refine hk h5 _ rfl (fun h' u k' hk' => ?_) ((u1.trans u3).trans u5)
  show CallsH PG id_chain_from_1 #[.pointer (some ⟨r1, 0, none⟩), .pointer (some ⟨r3, 0, none⟩)] h' k'
  apply chain_from_1.call
  unfold chain_from_1
  have C1 := ((B1.ext u3).ext u5).ext u
  have C3 := (B3.ext u5).ext u
  have lp : SemE PG h' (Instr.loadAt T_api_Packet (.pointer (some ⟨r1, 0, none⟩))) = some (.agg p.cells.toArray) := C1.pk rfl
  simp only [lp, zSS, reduceIte, zZZ, Nat.reduceAdd]
  refine Check_ok p fun h6 u6 => ?_
  have lf : SemE PG h6 (Instr.loadAt T_int (.pointer (some ⟨r1, 0, none⟩))) = some (.int .i64 p.f) := by rw [T_int.load, (C1.ext u6).cell]; rfl
  have li : SemE PG h6 (Instr.loadAt T_int (.pointer (some ⟨r3, 0, none⟩))) = some (.int .i64 id) := by rw [T_int.load, (C3.ext u6).cell]; rfl
  have hk' := hk' h6 u6
  cases hr : p.right with
  | false =>
    rw [hr] at hk'
    have q : ((1 : Int) == 0) = false := by decide
    simp only [Bool.false_and] at hk'
    simp only [eqlI, q, Bool.false_eq_true, if_false, zSS, reduceIte, zZZ, Nat.reduceAdd]
    exact hk'
  | true =>
    rw [hr] at hk'
    have q : ((0 : Int) == 0) = true := by decide
    simp only [Bool.true_and] at hk'
    simp only [eqlI, q, if_true, T_api_Packet.f0, lf, li, zSS, reduceIte, zZZ, Nat.reduceAdd]
    exact hk'
end Go.Proofs.YtcoajnpchhmgjaaGreatDoor
namespace Go.Proofs.YtcoajnpchhmgjaaGreatDoor
open Go
set_option maxRecDepth 20000
def IsAt (h : PH) (fv : Value) (f : Tx → Bool) : Prop := ∀ h', Ext h h' → ∀ (root : Tx) (k' : Value → PH → Prop), (∀ h'', Ext h' h'' → k' (.bool (f root)) h'') → callC PG fv #[.string (tx root)] h' k'
theorem IsAt.ext {h h' : PH} {fv : Value} {f : Tx → Bool} (R : IsAt h fv f) (u : Ext h h') : IsAt h' fv f := fun h2 u2 r k hk => R h2 (u.trans u2) r k hk
def rootB (l : List Known) (x : Int) : Tx := ((rootL l x).getD ⟨#[]⟩).data.toList
theorem Proved_ok {h : PH} {c : Nat} {s : Ch} {F : List Nat} (H : ChA c s h F) {x : Int} {fis : Value} {f : Tx → Bool} (hfc : Go.Proofs.YtcoajnpchhmgjaaGreatDoor.isCell fis = true) (hf : IsAt h fis f) {kk : Value → PH → Prop}
    (hk : ∀ h' f1 f2, Go.Proofs.YtcoajnpchhmgjaaGreatDoor.isCell f1 = true → Go.Proofs.YtcoajnpchhmgjaaGreatDoor.isCell f2 = true → RuleAt h' f1 (rootL s.cl x).isSome → RuleAt h' f2 (f (rootB s.cl x)) → Ext h h' → kk (.tuple #[.agg #[f1, .int .i64 11], .agg #[f2, .int .i64 9]]) h') : CallsH PG id_chain_Chain_proved #[.pointer (some ⟨c, 0, none⟩), .int .u64 x, fis] h kk := by
  apply chain_Chain_proved.call
  unfold chain_Chain_proved
  have eone : Value.cells fis = #[fis] := by cases fis <;> first | rfl | cases hfc
  intro r1 hr1
  try rw [bindH_eq]
  have u1 : Ext h (h.set r1 (.cells (Value.cells fis) T_func_string_bool)) := Upd.new hr1
  have B1 : Bx (h.set r1 (.cells (Value.cells fis) T_func_string_bool)) r1 [fis] := by rw [eone]; exact Bx.new
  generalize h.set r1 (.cells (Value.cells fis) T_func_string_bool) = h1 at *
  intro r3 hr3
  try rw [bindH_eq]
  have u3 : Ext h1 (h1.set r3 (.cells (zcells PG T_chain_rule) T_chain_rule)) := Upd.new hr3
  have Z3 := T_chain_rule.zbox (h := h1) (r := r3)
  generalize h1.set r3 (.cells (zcells PG T_chain_rule) T_chain_rule) = h3 at *
  intro r5 hr5
  try rw [bindH_eq]
  have u5 : Ext h3 (h3.set r5 (.cells (zcells PG T_chain_rule) T_chain_rule)) := Upd.new hr5
  have Z5 := T_chain_rule.zbox (h := h3) (r := r5)
  have Y3 := Z3.ext u5
  have n35 : r3 ≠ r5 := Z3.apart hr5
  have n13 : r1 ≠ r3 := B1.apart hr3
  have n15 : r1 ≠ r5 := (B1.ext u3).apart hr5
  generalize h3.set r5 (.cells (zcells PG T_chain_rule) T_chain_rule) = h5 at *
  have e5 := (u1.trans u3).trans u5
  have H5 := (ChA.good c s).ext H e5
  obtain ⟨sp, m, cp, nv, bv, lk, P, perm, ok⟩ := H5
  simp only [T_chain_Chain.f2, Nat.zero_add, Ch.load6 P.cell, zSS, reduceIte, zZZ, Nat.reduceAdd]
  obtain ⟨Fc, ⟨hs, C⟩, -, -⟩ := P.fCli
  refine Root_ok C x ?_
  simp only [zSS, reduceIte, zZZ, Nat.reduceAdd]
  intro r14 hr14
  try rw [bindH_eq]
  have u14 : Ext h5 (h5.set r14 (.cells (zcells PG T_string) T_string)) := Upd.new hr14
  have Z14 := T_string.zbox (h := h5) (r := r14)
  have Y5 := Z5.ext u14
  have Y3' := Y3.ext u14
  have n314 : r3 ≠ r14 := Y3.apart hr14
  have n514 : r5 ≠ r14 := Z5.apart hr14
  generalize h5.set r14 (.cells (zcells PG T_string) T_string) = h14 at *
  intro r16 hr16
  try rw [bindH_eq]
  have u16 : Ext h14 (h14.set r16 (.cells (zcells PG T_bool) T_bool)) := Upd.new hr16
  have Z16 := T_bool.zbox (h := h14) (r := r16)
  have X14 := Z14.ext u16
  have X5 := Y5.ext u16
  have X3 := Y3'.ext u16
  have n1416 : r14 ≠ r16 := Z14.apart hr16
  have n316 : r3 ≠ r16 := Y3'.apart hr16
  have n516 : r5 ≠ r16 := Y5.apart hr16
  generalize h14.set r16 (.cells (zcells PG T_bool) T_bool) = h16 at *
  have e16 := (e5.trans u14).trans u16
  have k3 : h r3 = none := u1.none hr3
  have k5 : h r5 = none := (u1.trans u3).none hr5
  have k14 : h r14 = none := e5.none hr14
  have k16 : h r16 = none := (e5.trans u14).none hr16
  refine T_string.put X14 (o := 0) (by decide) rfl fun h17 B17 u17 => ?_
  refine T_bool.put (Z16.upd u17 (by simpa using n1416.symm)) (o := 0) (by decide) rfl fun h18 B18 u18 => ?_
  have C14 := B17.upd u18 (by simpa using n1416)
  have C3 := (X3.upd u17 (by simpa using n314)).upd u18 (by simpa using n316)
  have C5 := (X5.upd u17 (by simpa using n514)).upd u18 (by simpa using n516)
  have e18 : Ext h h18 := (e16.fresh u17 (Fresh.one k14)).fresh u18 (Fresh.one k16)
  try simp only [makeFunc_eq, rule_b, zSS, reduceIte, zZZ, Nat.reduceAdd]
  refine T_chain_rule.put (vs := [.func (.func id_chain_Chain_proved_1) #[] #[.pointer (some ⟨r16, 0, none⟩)], .int .i64 11]) C3 (o := 0) rfl (by show 0 + 2 ≤ 2; decide) (by simp [isCell]) fun h19 B19 u19 => ?_
  refine T_chain_rule.put (vs := [.func (.func id_chain_Chain_proved_2) #[] #[.pointer (some ⟨r1, 0, none⟩), .pointer (some ⟨r14, 0, none⟩)], .int .i64 9]) (C5.upd u19 (by simpa using n35.symm)) (o := 0) rfl (by show 0 + 2 ≤ 2; decide) (by simp [isCell]) fun h20 B20 u20 => ?_
  have D3 := B19.upd u20 (by simpa using n35)
  have l3 : SemE PG h20 (Instr.loadAt T_chain_rule (.pointer (some ⟨r3, 0, none⟩))) = some (.agg #[.func (.func id_chain_Chain_proved_1) #[] #[.pointer (some ⟨r16, 0, none⟩)], .int .i64 11]) := T_chain_rule.agg D3 (by show 0 + 2 ≤ 2; decide)
  have l5 : SemE PG h20 (Instr.loadAt T_chain_rule (.pointer (some ⟨r5, 0, none⟩))) = some (.agg #[.func (.func id_chain_Chain_proved_2) #[] #[.pointer (some ⟨r1, 0, none⟩), .pointer (some ⟨r14, 0, none⟩)], .int .i64 9]) := T_chain_rule.agg B20 (by show 0 + 2 ≤ 2; decide)
  have e20 : Ext h h20 := (e18.fresh u19 (Fresh.one k3)).fresh u20 (Fresh.one k5)
  have D16 : Bx h20 r16 [.bool (rootL s.cl x).isSome] := (B18.upd u19 (by simpa using n316.symm)).upd u20 (by simpa using n516.symm)
  have D14 : Bx h20 r14 [.string ((rootL s.cl x).getD ⟨#[]⟩)] := (C14.upd u19 (by simpa using n314.symm)).upd u20 (by simpa using n514.symm)
  have n114 : r1 ≠ r14 := ((B1.ext u3).ext u5).apart hr14
  have n116 : r1 ≠ r16 := (((B1.ext u3).ext u5).ext u14).apart hr16
  have D1 : Bx h20 r1 [fis] := ((((((((B1.ext u3).ext u5).ext u14).ext u16).upd u17 (by simpa using n114)).upd u18 (by simpa using n116)).upd u19 (by simpa using n13)).upd u20 (by simpa using n15))
  simp only [l3, l5, zSS, reduceIte, zZZ, Nat.reduceAdd]
  refine hk h20 _ _ rfl rfl (fun h' u k' hk' => ?_) (fun h' u k' hk' => ?_) e20
  · show CallsH PG id_chain_Chain_proved_1 #[.pointer (some ⟨r16, 0, none⟩)] h' k'
    apply chain_Chain_proved_1.call
    unfold chain_Chain_proved_1
    have lb : SemE PG h' (Instr.loadAt T_bool (.pointer (some ⟨r16, 0, none⟩))) = some (.bool (rootL s.cl x).isSome) := by rw [T_bool.load, (D16.ext u).cell]; rfl
    simp only [lb, zSS, reduceIte, zZZ, Nat.reduceAdd]
    exact hk' h' Upd.refl
  · show CallsH PG id_chain_Chain_proved_2 #[.pointer (some ⟨r1, 0, none⟩), .pointer (some ⟨r14, 0, none⟩)] h' k'
    apply chain_Chain_proved_2.call
    unfold chain_Chain_proved_2
    have lf : SemE PG h' (Instr.loadAt T_func_string_bool (.pointer (some ⟨r1, 0, none⟩))) = some fis := by rw [T_func_string_bool.load, (D1.ext u).cell]; rfl
    have ls : SemE PG h' (Instr.loadAt T_string (.pointer (some ⟨r14, 0, none⟩))) = some (.string (tx (rootB s.cl x))) := by
      rw [T_string.load, (D14.ext u).cell]
      unfold rootB
      rw [tx_list]; rfl
    simp only [lf, ls, zSS, reduceIte, zZZ, Nat.reduceAdd]
    exact hf h' (e20.trans u) (rootB s.cl x) _ hk'
def sentP (s : Ch) (p : Pk) : Bool := match sgetL s.st.now (keyP 99 p.s.toNat) with
  | some q => decide (q.v = commP p)
  | none => false
theorem SentR_ok {h : PH} {c : Nat} {s : Ch} {F : List Nat} (hK : KAt h) (H : ChA c s h F) {p : Pk} (w : p.wf) {kk : Value → PH → Prop} (hk : ∀ h' fv, Go.Proofs.YtcoajnpchhmgjaaGreatDoor.isCell fv = true → RuleAt h' fv (sentP s p) → Ext h h' → kk (.agg #[fv, .int .i64 3]) h') : CallsH PG id_chain_Chain_sent #[.pointer (some ⟨c, 0, none⟩), p.v] h kk := by
  apply chain_Chain_sent.call
  unfold chain_Chain_sent
  intro r1 hr1
  try rw [bindH_eq]
  have u1 : Ext h (h.set r1 (.cells (Value.cells (.pointer (some ⟨c, 0, none⟩))) T_p_chain_Chain)) := Upd.new hr1
  have B1 : Bx (h.set r1 (.cells (Value.cells (.pointer (some ⟨c, 0, none⟩))) T_p_chain_Chain)) r1 [.pointer (some ⟨c, 0, none⟩)] := Bx.new
  generalize h.set r1 (.cells (Value.cells (.pointer (some ⟨c, 0, none⟩))) T_p_chain_Chain) = h1 at *
  intro r3 hr3
  try rw [bindH_eq]
  have u3 : Ext h1 (h1.set r3 (.cells (Value.cells p.v) T_api_Packet)) := Upd.new hr3
  have B3 : Bx (h1.set r3 (.cells (Value.cells p.v) T_api_Packet)) r3 p.cells := Bx.new
  generalize h1.set r3 (.cells (Value.cells p.v) T_api_Packet) = h3 at *
  intro r5 hr5
  try rw [bindH_eq]
  simp only [makeFunc_eq, rule_b, zSS, reduceIte, zZZ, Nat.reduceAdd]
  refine T_chain_rule.fill (vs := [.func (.func id_chain_Chain_sent_1) #[] #[.pointer (some ⟨r1, 0, none⟩), .pointer (some ⟨r3, 0, none⟩)], .int .i64 3]) hr5 rfl (by simp [isCell]) fun h5 B5 u5 => ?_
  have l5 : SemE PG h5 (Instr.loadAt T_chain_rule (.pointer (some ⟨r5, 0, none⟩))) = some (.agg #[.func (.func id_chain_Chain_sent_1) #[] #[.pointer (some ⟨r1, 0, none⟩), .pointer (some ⟨r3, 0, none⟩)], .int .i64 3]) := T_chain_rule.agg B5 (by show 0 + 2 ≤ 2; decide)
  have e5 := (u1.trans u3).trans u5
  simp only [l5, zSS, reduceIte, zZZ, Nat.reduceAdd]
  refine hk h5 _ rfl (fun h' u k' hk' => ?_) e5
  show CallsH PG id_chain_Chain_sent_1 #[.pointer (some ⟨r1, 0, none⟩), .pointer (some ⟨r3, 0, none⟩)] h' k'
  apply chain_Chain_sent_1.call
  unfold chain_Chain_sent_1
  have C1 := ((B1.ext u3).ext u5).ext u
  have C3 := (B3.ext u5).ext u
  have H' := (ChA.good c s).ext H (e5.trans u)
  obtain ⟨sp, m, cp, nv, bv, lk, P, perm, ok⟩ := H'
  obtain ⟨n, hn⟩ := Int.eq_ofNat_of_zero_le w.1
  have hn2 : n < 18446744073709551616 := by have := w.2.1; omega
  have lc : ∀ {h'' : PH}, Ext h' h'' → SemE PG h'' (Instr.loadAt T_p_chain_Chain (.pointer (some ⟨r1, 0, none⟩))) = some (.pointer (some ⟨c, 0, none⟩)) := fun v => by rw [T_p_chain_Chain.load, (C1.ext v).cell]; rfl
  have ls : SemE PG h' (Instr.loadAt T_uint64 (.pointer (some ⟨r3, 1, none⟩))) = some (.int .u64 (n : Int)) := by rw [T_uint64.load, C3.cell, ← hn]; rfl
  simp only [lc Upd.refl, T_chain_Chain.f0, T_chain_ledger.f0, T_api_Packet.f1, Nat.zero_add, Ch.load0 P.cell, ls, zSS, reduceIte, zZZ, Nat.reduceAdd]
  refine Sent_ok hn2 fun h6 u6 => ?_
  have P6 := parts.good.ext P u6
  refine ⟨Ch.load0 P6.cell, lc u6, ?_⟩
  obtain ⟨Fs, St, -, -⟩ := P6.fSt
  refine SGet_ok St _ ?_
  have es : sentP s p = match sgetL s.st.now (keyP 99 n) with | some q => decide (q.v = commP p) | none => false := by
    unfold sentP; rw [hn]; rfl
  cases hg : sgetL s.st.now (keyP 99 n) with
  | none =>
    have hk' := hk' h6 u6
    rw [es, hg] at hk'
    simp only [Option.isSome_none, zSS, reduceIte, zZZ, Nat.reduceAdd]
    exact hk'
  | some q =>
    rw [hg] at es
    simp only at es
    rw [es] at hk'
    have lp : SemE PG h6 (Instr.loadAt T_api_Packet (.pointer (some ⟨r3, 0, none⟩))) = some p.v := (C3.ext u6).pk rfl
    simp only [Option.isSome_some, Option.map_some, Option.getD_some, lp, zSS, reduceIte, zZZ, Nat.reduceAdd]
    refine Commitment_ok w (hK.ext ((e5.trans u).trans u6)) fun h7 u7 => ?_
    simp only [eqlStr, zSS, reduceIte, zZZ, Nat.reduceAdd]
    exact hk' h7 (u6.trans u7)
end Go.Proofs.YtcoajnpchhmgjaaGreatDoor
namespace Go.Proofs.YtcoajnpchhmgjaaGreatDoor
open Go
set_option maxRecDepth 20000
theorem Ranked.uniq {a b : List Int} {l : List Known} (x : Ranked a l) (y : Ranked b l) : a = b :=
  List.Perm.eq_of_pairwise (le := fun p q : Int => p < q) (fun p q _ _ (h1 : p < q) h2 => by omega) x.up y.up (x.perm.trans y.perm.symm)
open Classical in
noncomputable def latK (l : List Known) : Int := if h : ∃ hs, Ranked hs l then latS h.choose else 0
theorem latK_eq {hs : List Int} {l : List Known} (R : Ranked hs l) : latK l = latS hs := by
  have h : ∃ hs, Ranked hs l := ⟨hs, R⟩
  unfold latK
  rw [dif_pos h, Ranked.uniq h.choose_spec R]
def firstE : List (Int × Bool) → Int
  | [] => 0
  | x :: l => if x.2 then firstE l else x.1
theorem firstBad_eq : ∀ rs : List RuV, firstBad rs = firstE (rs.map (·.2))
  | [] => rfl
  | x :: l => by simp only [firstBad, List.map_cons, firstE, firstBad_eq l]
def allE (s : Ch) (l : List (Int × Bool)) : Int := if s.st.height = 18446744073709551615 then 12 else firstE l
theorem allP_eq (s : Ch) (rs : List RuV) : allP s rs = allE s (rs.map (·.2)) := by unfold allP allE; rw [firstBad_eq]
theorem rl_lit4 (f0 f1 f2 f3 : Value) (e0 e1 e2 e3 : Int) : SemA PG (Instr.buildSlice T_sl_chain_rule 4 #[(0, .agg #[f0, .int .i64 e0]), (1, .agg #[f1, .int .i64 e1]), (2, .agg #[f2, .int .i64 e2]), (3, .agg #[f3, .int .i64 e3])]) = some (.cells #[f0, .int .i64 e0, f1, .int .i64 e1, f2, .int .i64 e2, f3, .int .i64 e3] T_chain_rule, fun r => pure (.slice (some ⟨r, 0, none⟩) 4 4)) := by kernel_rfl
theorem pk_b4 (f s t : Int) (d : ByteArray) : SemP PG (Instr.build T_api_Packet #[(0, .int .i64 f), (1, .int .u64 s), (2, .int .u64 t), (3, .string d)]) = some (Pk.v ⟨f, s, t, d⟩) := by kernel_rfl
def sendPk (s : Ch) (d : Tx) (t : Nat) : Pk := ⟨s.id, (s.seq : Int), (t : Int), tx d⟩
noncomputable def sendE (s : Ch) (d : Tx) (t : Nat) : Int := allE s [(12, decide (s.seq < 18446744073709551615)), (1, (sendPk s d t).right), (10, decide (latK s.cl < (t : Int))), (2, decide (s.st.now.length + 1 ≤ 4096))]
def Ch.next (s : Ch) : Ch := { s with seq := s.seq + 1 }
def Ch.sent (s : Ch) (p : Pk) : Ch := (((s.put (keyP 99 s.seq) (commP p)).next).add ⟨1, p⟩)
theorem Pk.isC (p : Pk) : ∀ u ∈ p.cells, Go.Proofs.YtcoajnpchhmgjaaGreatDoor.isCell u = true := fun u hu => by
  simp only [Pk.cells, List.mem_cons, List.not_mem_nil, or_false] at hu
  rcases hu with rfl | rfl | rfl | rfl <;> rfl
theorem allE_zero {s : Ch} {l : List (Int × Bool)} (h : allE s l = 0) (hne : ∀ x ∈ l, x.1 ≠ 0) : s.st.height ≠ 18446744073709551615 ∧ ∀ x ∈ l, x.2 = true := by
  unfold allE at h
  by_cases hm : s.st.height = 18446744073709551615
  · rw [if_pos hm] at h; cases h
  · rw [if_neg hm] at h
    refine ⟨hm, ?_⟩
    induction l with
    | nil => intro x hx; cases hx
    | cons a l ih =>
      rw [firstE] at h
      cases ha : a.2 with
      | false => rw [ha, if_neg (by decide)] at h; exact absurd h (hne a (by simp))
      | true =>
        rw [ha, if_pos rfl] at h
        intro x hx
        rcases List.mem_cons.1 hx with rfl | hx
        · exact ha
        · exact ih h (fun y hy => hne y (by simp [hy])) x hx
theorem sgetL_room {l : List Pr} {k : Tx} {n : Nat} (hn : 1 ≤ n) (h : l.length + n ≤ 4096) : ¬ (sgetL l k = none ∧ 4096 ≤ l.length) := fun c => by omega
theorem commP_len (p : Pk) : (commP p).length ≤ 64 := by
  unfold commP digK
  split
  · exact Nat.le_trans (Nat.le_of_eq rfl) (show 32 ≤ 64 by decide)
  · simp
theorem CSend_ok {h : PH} {c : Nat} {s : Ch} {F : List Nat} (hK : KAt h) (H : ChA c s h F) (d : Tx) {t : Nat} (ht : t < 18446744073709551616) (hl : s.nts.length < 1000000) {kk : Value → PH → Prop}
    (hbad : sendE s d t ≠ 0 → ∀ h' F', ChA c s h' F' → Step h F h' F' → Ext h h' → kk (.tuple #[Pk.v default, .int .i64 (sendE s d t)]) h')
    (hk : sendE s d t = 0 → ∀ h' F', ChA c (s.sent (sendPk s d t)) h' F' → Step h F h' F' → kk (.tuple #[Pk.v (sendPk s d t), .int .i64 0]) h') :
    CallsH PG id_chain_Chain_Send #[.pointer (some ⟨c, 0, none⟩), .string (tx d), .int .u64 (t : Int)] h kk := by
  apply chain_Chain_Send.call
  unfold chain_Chain_Send
  intro r1 hr1
  try rw [bindH_eq]
  have u1 : Ext h (h.set r1 (.cells (Value.cells (.pointer (some ⟨c, 0, none⟩))) T_p_chain_Chain)) := Upd.new hr1
  have B1 : Bx (h.set r1 (.cells (Value.cells (.pointer (some ⟨c, 0, none⟩))) T_p_chain_Chain)) r1 [.pointer (some ⟨c, 0, none⟩)] := Bx.new
  generalize h.set r1 (.cells (Value.cells (.pointer (some ⟨c, 0, none⟩))) T_p_chain_Chain) = h1 at *
  intro r3 hr3
  try rw [bindH_eq]
  have u3 : Ext h1 (h1.set r3 (.cells (Value.cells (.int .u64 (t : Int))) T_uint64)) := Upd.new hr3
  have B3 : Bx (h1.set r3 (.cells (Value.cells (.int .u64 (t : Int))) T_uint64)) r3 [.int .u64 (t : Int)] := Bx.new
  generalize h1.set r3 (.cells (Value.cells (.int .u64 (t : Int))) T_uint64) = h3 at *
  intro r5 hr5
  try rw [bindH_eq]
  have u5 : Ext h3 (h3.set r5 (.cells (zcells PG T_api_Packet) T_api_Packet)) := Upd.new hr5
  have Z5 := T_api_Packet.zbox (h := h3) (r := r5)
  generalize h3.set r5 (.cells (zcells PG T_api_Packet) T_api_Packet) = h5 at *
  have e5 := (u1.trans u3).trans u5
  have k5 : h r5 = none := (u1.trans u3).none hr5
  have C1 := (B1.ext u3).ext u5
  have C3 := B3.ext u5
  have H5 := (ChA.good c s).ext H e5
  obtain ⟨sp, m, cp, nv, bv, lk, P, perm, ok⟩ := H5
  have H5' : ChA c s h5 F := ⟨sp, m, cp, nv, bv, lk, P, perm, ok⟩
  have hseq := ok.seq
  have lc : ∀ {h'' : PH}, Ext h5 h'' → SemE PG h'' (Instr.loadAt T_p_chain_Chain (.pointer (some ⟨r1, 0, none⟩))) = some (.pointer (some ⟨c, 0, none⟩)) := fun v => by rw [T_p_chain_Chain.load, (C1.ext v).cell]; rfl
  have lt : ∀ {h'' : PH}, Ext h5 h'' → SemE PG h'' (Instr.loadAt T_uint64 (.pointer (some ⟨r3, 0, none⟩))) = some (.int .u64 (t : Int)) := fun v => by rw [T_uint64.load, (C3.ext v).cell]; rfl
  simp only [lc Upd.refl, lt Upd.refl, T_chain_Chain.f1, T_chain_Chain.f3, Nat.zero_add, Ch.load5 P.cell, Ch.load7 P.cell, pk_b4, zSS, reduceIte, zZZ, Nat.reduceAdd]
  intro r17 hr17
  try rw [bindH_eq]
  have n517 : r5 ≠ r17 := Z5.apart hr17
  refine T_api_Packet.fill (vs := (sendPk s d t).cells) hr17 rfl (Pk.isC _) fun h7 B7 u7 => ?_
  have w : (sendPk s d t).wf := ⟨by simp [sendPk], by simp only [sendPk]; omega, by simp [sendPk], by simp only [sendPk]; omega⟩
  have e7 := e5.trans u7
  have H7 := (ChA.good c s).ext H5' u7
  have Z7 := Z5.ext u7
  have lpk : ∀ {h'' : PH}, Ext h7 h'' → SemE PG h'' (Instr.loadAt T_api_Packet (.pointer (some ⟨r17, 0, none⟩))) = some (sendPk s d t).v := fun v => (B7.ext v).pk rfl
  simp only [lc u7, makeFunc_eq, rule_b, rl_lit4, zSS, reduceIte, zZZ, Nat.reduceAdd]
  intro r30 hr30
  refine popO_pure ?_
  try rw [bindH_eq]
  -- the rules
  obtain ⟨rs, hrs⟩ : ∃ rs : List RuV, rs = [(.func (.func id_chain_Chain_Send_1) #[] #[.pointer (some ⟨r1, 0, none⟩)], 12, decide (s.seq < 18446744073709551615)), (.func (.func id_chain_Chain_Send_2) #[] #[.pointer (some ⟨r17, 0, none⟩)], 1, (sendPk s d t).right), (.func (.func id_chain_Chain_Send_3) #[] #[.pointer (some ⟨r3, 0, none⟩), .pointer (some ⟨r1, 0, none⟩)], 10, decide (latK s.cl < (t : Int))), (.func (.func id_chain_Chain_Send_4) #[] #[.pointer (some ⟨r1, 0, none⟩)], 2, decide (s.st.now.length + 1 ≤ 4096))] := ⟨_, rfl⟩
  have eall : allP s rs = sendE s d t := by rw [allP_eq, hrs]; rfl
  have u8 : Ext h7 (h7.set r30 (.cells (rs.map rlrow).flatten.toArray T_chain_rule)) := Upd.new hr30
  have s8 : SlR (h7.set r30 (.cells (rs.map rlrow).flatten.toArray T_chain_rule)) 2 (.slice (some ⟨r30, 0, none⟩) 4 4) (rs.map rlrow) := (OwnR.lit (rlrow.rows rs) set_same (by rw [hrs]; simp) (by decide) (by simp)).slR
  have ecells : (#[.func (.func id_chain_Chain_Send_1) #[] #[.pointer (some ⟨r1, 0, none⟩)], .int .i64 12, .func (.func id_chain_Chain_Send_2) #[] #[.pointer (some ⟨r17, 0, none⟩)], .int .i64 1, .func (.func id_chain_Chain_Send_3) #[] #[.pointer (some ⟨r3, 0, none⟩), .pointer (some ⟨r1, 0, none⟩)], .int .i64 10, .func (.func id_chain_Chain_Send_4) #[] #[.pointer (some ⟨r1, 0, none⟩)], .int .i64 2] : Array Value) = (rs.map rlrow).flatten.toArray := by rw [hrs]; rfl
  rw [ecells]
  generalize h7.set r30 (.cells (rs.map rlrow).flatten.toArray T_chain_rule) = h8 at *
  have H8 := (ChA.good c s).ext H7 u8
  have e8 := e7.trans u8
  have v58 := u7.trans u8
  have hrules : RlsAt h8 rs := by
    rw [hrs]
    intro x hx
    simp only [List.mem_cons, List.not_mem_nil, or_false] at hx
    rcases hx with rfl | rfl | rfl | rfl
    · refine ⟨rfl, fun h' u k' hk' => ?_⟩
      show CallsH PG id_chain_Chain_Send_1 #[.pointer (some ⟨r1, 0, none⟩)] h' k'
      apply chain_Chain_Send_1.call
      unfold chain_Chain_Send_1
      obtain ⟨sp, m, cp, nv, bv, lk, P, perm, ok⟩ := (ChA.good c s).ext H8 u
      have eq1 : ((s.seq : Int) < 18446744073709551615) = (s.seq < 18446744073709551615) := by apply propext; omega
      simp only [lc (v58.trans u), T_chain_Chain.f3, Nat.zero_add, Ch.load7 P.cell, eq1, zSS, reduceIte, zZZ, Nat.reduceAdd]
      exact hk' h' Upd.refl
    · refine ⟨rfl, fun h' u k' hk' => ?_⟩
      show CallsH PG id_chain_Chain_Send_2 #[.pointer (some ⟨r17, 0, none⟩)] h' k'
      apply chain_Chain_Send_2.call
      unfold chain_Chain_Send_2
      simp only [lpk (u8.trans u), zSS, reduceIte, zZZ, Nat.reduceAdd]
      refine Check_ok (sendPk s d t) fun h9 u9 => ?_
      have hk' := hk' h9 u9
      cases hr : (sendPk s d t).right with
      | false =>
        rw [hr] at hk'
        have q : ((1 : Int) == 0) = false := by decide
        simp only [eqlI, q, Bool.false_eq_true, if_false, zSS, reduceIte, zZZ, Nat.reduceAdd]
        exact hk'
      | true =>
        rw [hr] at hk'
        have q : ((0 : Int) == 0) = true := by decide
        simp only [eqlI, q, if_true, zSS, reduceIte, zZZ, Nat.reduceAdd]
        exact hk'
    · refine ⟨rfl, fun h' u k' hk' => ?_⟩
      show CallsH PG id_chain_Chain_Send_3 #[.pointer (some ⟨r3, 0, none⟩), .pointer (some ⟨r1, 0, none⟩)] h' k'
      apply chain_Chain_Send_3.call
      unfold chain_Chain_Send_3
      obtain ⟨sp, m, cp, nv, bv, lk, P, perm, ok⟩ := (ChA.good c s).ext H8 u
      obtain ⟨Fc, ⟨hs, C⟩, -, -⟩ := P.fCli
      simp only [lt (v58.trans u), lc (v58.trans u), T_chain_Chain.f2, Nat.zero_add, Ch.load6 P.cell, zSS, reduceIte, zZZ, Nat.reduceAdd]
      refine Latest_ok C ?_
      refine ⟨lt (v58.trans u), ?_⟩
      rw [← latK_eq C.rank]
      simp only [zSS, reduceIte, zZZ, Nat.reduceAdd]
      exact hk' h' Upd.refl
    · refine ⟨rfl, fun h' u k' hk' => ?_⟩
      show CallsH PG id_chain_Chain_Send_4 #[.pointer (some ⟨r1, 0, none⟩)] h' k'
      apply chain_Chain_Send_4.call
      unfold chain_Chain_Send_4
      simp only [lc (v58.trans u), T_chain_Chain.f0, zSS, reduceIte, zZZ, Nat.reduceAdd]
      exact LRoom_ok (n := 1) ((ChA.good c s).ext H8 u) (by decide) (hk' h' Upd.refl)
  refine Call_ok H8 s8 hrules (by rw [hrs]; simp) fun h9 u9 => ?_
  rw [eall]
  have H9 := (ChA.good c s).ext H8 u9
  have e9 := e8.trans u9
  have v59 := v58.trans u9
  have v79 := u8.trans u9
  by_cases he : sendE s d t = 0
  case neg =>
    have q : (sendE s d t != 0) = true := by simpa using he
    simp only [neqI, q, Pk.zb, zSS, reduceIte, zZZ, Nat.reduceAdd]
    refine T_api_Packet.put (vs := Pk.cells default) ((Z7.ext u8).ext u9) (o := 0) rfl (by show 0 + 4 ≤ 4; decide) (Pk.isC _) fun h10 B10 u10 => ?_
    have l10 : SemE PG h10 (Instr.loadAt T_api_Packet (.pointer (some ⟨r5, 0, none⟩))) = some (Pk.v default) := B10.pk rfl
    simp only [l10, zSS, reduceIte, zZZ, Nat.reduceAdd]
    have n5F : ∀ b ∈ F, b ∉ [r5] := fun b hb hb' => by
      simp only [List.mem_singleton] at hb'
      exact (ChA.good c s).known H b hb (hb' ▸ k5)
    have e10 := e9.fresh u10 (Fresh.one k5)
    exact hbad he h10 F ((ChA.good c s).upd H9 u10 n5F) (Step.ext e10) e10
  obtain ⟨hmax, hall⟩ := allE_zero he (by intro x hx; simp only [List.mem_cons, List.not_mem_nil, or_false] at hx; rcases hx with rfl | rfl | rfl | rfl <;> simp)
  have b1 : s.seq < 18446744073709551615 := by simpa using hall _ (by simp : ((12 : Int), decide (s.seq < 18446744073709551615)) ∈ _)
  have b4 : s.st.now.length + 1 ≤ 4096 := by
    have := hall (2, decide (s.st.now.length + 1 ≤ 4096)) (by simp)
    simpa using this
  have ls : ∀ {h'' : PH}, Ext h7 h'' → SemE PG h'' (Instr.loadAt T_uint64 (.pointer (some ⟨r17, 1, none⟩))) = some (.int .u64 (s.seq : Int)) := fun v => by rw [T_uint64.load, (B7.ext v).cell]; rfl
  simp only [he, neqI, lc v59, T_chain_Chain.f0, T_api_Packet.f1, Nat.zero_add, ls v79, lpk v79, zSS, reduceIte, zZZ, Nat.reduceAdd]
  refine Sent_ok hseq fun h10 u10 => ?_
  refine ⟨lpk (v79.trans u10), lc (v59.trans u10), ?_⟩
  refine Commitment_ok w (hK.ext (e9.trans u10)) fun h11 u11 => ?_
  have v11 := u10.trans u11
  refine ⟨lc (v59.trans v11), ?_⟩
  have H11 := (ChA.good c s).ext H9 v11
  refine LSet_ok H11 (by rw [keyP_len]; decide) (by rw [keyP_len]; decide) (commP_len _) (sgetL_room (n := 1) (by decide) b4) fun h12 F12 H12 s12 => ?_
  -- boxes beside the chain
  have nF : ∀ {r : Nat}, h r = none → r ∉ F := fun hr hm => (ChA.good c s).known H _ hm hr
  have k1 : h r1 = none := hr1
  have k17 : h r17 = none := e5.none hr17
  have e11 := e9.trans v11
  have nF12 : ∀ {r : Nat} {o : Obj}, h r = none → h11 r = some o → r ∉ F12 := fun hr ho hm => by
    rcases s12.grow _ hm with hx | hx
    · exact nF hr hx
    · rw [ho] at hx; cases hx
  have D1 := (C1.ext (v59.trans v11)).upd s12.upd (nF k1)
  have D17 := (B7.ext (v79.trans v11)).upd s12.upd (nF k17)
  have D5 := (((Z7.ext u8).ext u9).ext v11).upd s12.upd (nF k5)
  have m1 : r1 ∉ F12 := by obtain ⟨_, ho⟩ := (C1.ext (v59.trans v11)).here; exact nF12 k1 ho
  have m17 : r17 ∉ F12 := by obtain ⟨_, ho⟩ := (B7.ext (v79.trans v11)).here; exact nF12 k17 ho
  have m5 : r5 ∉ F12 := by obtain ⟨_, ho⟩ := (((Z7.ext u8).ext u9).ext v11).here; exact nF12 k5 ho
  obtain ⟨sp', m', cp', nv', bv', lk', P', perm', ok'⟩ := H12
  have lc12 : SemE PG h12 (Instr.loadAt T_p_chain_Chain (.pointer (some ⟨r1, 0, none⟩))) = some (.pointer (some ⟨c, 0, none⟩)) := by rw [T_p_chain_Chain.load, D1.cell]; rfl
  have wq : IntKind.u64.wrap ((s.seq : Int) + 1) = ((s.seq + 1 : Nat) : Int) := by rw [u64_wrap (by omega) (by omega)]; omega
  have l7 : SemE PG h12 (Instr.loadAt T_uint64 (.pointer (some ⟨c, 7, none⟩))) = some (.int .u64 (s.seq : Int)) := Ch.load7 P'.cell
  simp only [lc12, T_chain_Chain.f3, Nat.zero_add, l7, wq, zSS, reduceIte, zZZ, Nat.reduceAdd]
  obtain ⟨Fb, ⟨rfl, Bc⟩, hFb, back⟩ := P'.fBox
  refine T_uint64.put Bc (o := 7) (by show 7 < 8; decide) rfl fun h13 B13 u13 => ?_
  obtain ⟨F13, P13, s13⟩ := back (box c ((s.put (keyP 99 s.seq) (commP (sendPk s d t))).next.cells sp' bv' nv' m' cp')) h13 [c] ⟨rfl, B13⟩ ⟨u13, fun b hb => .inl hb⟩
  have H13 : ChA c ((s.put (keyP 99 s.seq) (commP (sendPk s d t))).next) h13 F13 := ⟨sp', m', cp', nv', bv', lk', P13, perm', ⟨ok'.id, ok'.len, ok'.first, by show s.seq + 1 < _; omega, by show 1 ≤ s.seq + 1; omega, ok'.nts, ok'.wf, ok'.bwf⟩⟩
  have cF : c ∈ F12 := hFb c (by simp)
  have nc : ∀ {r : Nat}, r ∉ F12 → r ∉ [c] := fun hr hm => by simp only [List.mem_singleton] at hm; exact hr (hm ▸ cF)
  have E1 := D1.upd u13 (nc m1)
  have E17 := D17.upd u13 (nc m17)
  have E5 := D5.upd u13 (nc m5)
  have lc13 : SemE PG h13 (Instr.loadAt T_p_chain_Chain (.pointer (some ⟨r1, 0, none⟩))) = some (.pointer (some ⟨c, 0, none⟩)) := by rw [T_p_chain_Chain.load, E1.cell]; rfl
  have lp13 : SemE PG h13 (Instr.loadAt T_api_Packet (.pointer (some ⟨r17, 0, none⟩))) = some (sendPk s d t).v := E17.pk rfl
  simp only [lc13, lp13, zSS, reduceIte, zZZ, Nat.reduceAdd]
  refine CNote_ok H13 1 w hl fun h14 F14 H14 s14 => ?_
  have grow13 : ∀ {r : Nat}, r ∉ F12 → h12 r ≠ none → r ∉ F13 := fun hr hn hm => by
    rcases s13.grow _ hm with hx | hx
    · exact hr hx
    · exact hn hx
  have G17 := E17.upd s14.upd (grow13 m17 D17.known)
  have G5 := E5.upd s14.upd (grow13 m5 D5.known)
  have lp14 : SemE PG h14 (Instr.loadAt T_api_Packet (.pointer (some ⟨r17, 0, none⟩))) = some (sendPk s d t).v := G17.pk rfl
  simp only [lp14, zSS, reduceIte, zZZ, Nat.reduceAdd]
  refine T_api_Packet.put (vs := (sendPk s d t).cells) G5 (o := 0) rfl (by show 0 + 4 ≤ 4; decide) (Pk.isC _) fun h15 B15 u15 => ?_
  have l15 : SemE PG h15 (Instr.loadAt T_api_Packet (.pointer (some ⟨r5, 0, none⟩))) = some (sendPk s d t).v := B15.pk rfl
  simp only [l15, zSS, reduceIte, zZZ, Nat.reduceAdd]
  have m514 : r5 ∉ F14 := fun hm => by
    rcases s14.grow _ hm with hx | hx
    · exact grow13 m5 D5.known hx
    · exact E5.known hx
  have st14 := (((Step.ext (F := F) e11).trans s12).trans s13).trans s14
  refine hk he h15 F14 ((ChA.good c _).upd H14 u15 (fun b hb hb' => by simp only [List.mem_singleton] at hb'; exact m514 (hb' ▸ hb))) ⟨st14.upd.then u15 (fun b hb => .inr (by simp only [List.mem_singleton] at hb; rw [hb]; exact k5)), st14.grow⟩
end Go.Proofs.YtcoajnpchhmgjaaGreatDoor
namespace Go.Proofs.YtcoajnpchhmgjaaGreatDoor
open Go
set_option maxRecDepth 20000
theorem rl_lit2 (f0 f1 : Value) (e0 e1 : Int) : SemA PG (Instr.buildSlice T_sl_chain_rule 2 #[(0, .agg #[f0, .int .i64 e0]), (1, .agg #[f1, .int .i64 e1])]) = some (.cells #[f0, .int .i64 e0, f1, .int .i64 e1] T_chain_rule, fun r => pure (.slice (some ⟨r, 0, none⟩) 2 2)) := by kernel_rfl
theorem rl_lit3 (f0 f1 f2 : Value) (e0 e1 e2 : Int) : SemA PG (Instr.buildSlice T_sl_chain_rule 3 #[(0, .agg #[f0, .int .i64 e0]), (1, .agg #[f1, .int .i64 e1]), (2, .agg #[f2, .int .i64 e2])]) = some (.cells #[f0, .int .i64 e0, f1, .int .i64 e1, f2, .int .i64 e2] T_chain_rule, fun r => pure (.slice (some ⟨r, 0, none⟩) 3 3)) := by kernel_rfl
def settleE (s : Ch) (p : Pk) (l : List (Int × Bool)) : Int := allE s ([(1, p.right && (p.f == s.id)), (3, sentP s p)] ++ l)
def Ch.settled (s : Ch) (k : Int) (p : Pk) : Ch := (s.del (keyP 99 p.s.toNat)).add ⟨k, p⟩
theorem CSettle_ok {h : PH} {c : Nat} {s : Ch} {F : List Nat} (hK : KAt h) (H : ChA c s h F) (kind : Int) {p : Pk} (w : p.wf) {v : Value} {rs : List RuV} (S : SlR h 2 v (rs.map rlrow)) (hrs : RlsAt h rs) (hlr : rs.length ≤ 10) (hne : ∀ x ∈ rs, x.2.1 ≠ 0) (hl : s.nts.length < 1000000) {kk : Value → PH → Prop}
    (hbad : settleE s p (rs.map (·.2)) ≠ 0 → ∀ h', ChA c s h' F → Ext h h' → kk (.int .i64 (settleE s p (rs.map (·.2)))) h')
    (hk : settleE s p (rs.map (·.2)) = 0 → ∀ h' F', ChA c (s.settled kind p) h' F' → Step h F h' F' → kk (.int .i64 0) h') :
    CallsH PG id_chain_Chain_settle #[.pointer (some ⟨c, 0, none⟩), .int .i64 kind, p.v, v] h kk := by
  apply chain_Chain_settle.call
  unfold chain_Chain_settle
  intro r1 hr1
  try rw [bindH_eq]
  have u1 : Ext h (h.set r1 (.cells (Value.cells p.v) T_api_Packet)) := Upd.new hr1
  have B1 : Bx (h.set r1 (.cells (Value.cells p.v) T_api_Packet)) r1 p.cells := Bx.new
  generalize h.set r1 (.cells (Value.cells p.v) T_api_Packet) = h1 at *
  have lp : ∀ {h'' : PH}, Ext h1 h'' → SemE PG h'' (Instr.loadAt T_api_Packet (.pointer (some ⟨r1, 0, none⟩))) = some p.v := fun v => (B1.ext v).pk rfl
  have H1 := (ChA.good c s).ext H u1
  obtain ⟨sp, m, cp, nv, bv, lk, P, perm, ok⟩ := H1
  have H1 : ChA c s h1 F := ⟨sp, m, cp, nv, bv, lk, P, perm, ok⟩
  simp only [lp Upd.refl, T_chain_Chain.f1, Nat.zero_add, Ch.load5 P.cell, zSS, reduceIte, zZZ, Nat.reduceAdd]
  refine CFrom_ok fun h2 f0 c0 R0 u2 => ?_
  refine ⟨lp u2, ?_⟩
  have H2 := (ChA.good c s).ext H1 u2
  refine SentR_ok (hK.ext (u1.trans u2)) H2 w fun h3 f1 c1 R1 u3 => ?_
  have H3 := (ChA.good c s).ext H2 u3
  have e3 := (u1.trans u2).trans u3
  simp only [rl_lit2, zSS, reduceIte, zZZ, Nat.reduceAdd]
  intro r12 hr12
  refine popO_pure ?_
  try rw [bindH_eq]
  obtain ⟨hd, hhd⟩ : ∃ hd : List RuV, hd = [(f0, 1, p.right && (p.f == s.id)), (f1, 3, sentP s p)] := ⟨_, rfl⟩
  have ecells : (#[f0, .int .i64 1, f1, .int .i64 3] : Array Value) = (hd.map rlrow).flatten.toArray := by rw [hhd]; rfl
  rw [ecells]
  have u4 : Ext h3 (h3.set r12 (.cells (hd.map rlrow).flatten.toArray T_chain_rule)) := Upd.new hr12
  have O4 : OwnR (h3.set r12 (.cells (hd.map rlrow).flatten.toArray T_chain_rule)) T_chain_rule 2 (.slice (some ⟨r12, 0, none⟩) 2 2) (hd.map rlrow) [r12] := OwnR.lit (rlrow.rows hd) set_same (by rw [hhd]; simp) (by decide) (by simp)
  generalize h3.set r12 (.cells (hd.map rlrow).flatten.toArray T_chain_rule) = h4 at *
  have e4 := e3.trans u4
  refine append_own T_sl_chain_rule.und T_sl_chain_rule.und T_chain_rule.info T_chain_rule.size T_chain_rule.bytes T_chain_rule.zero rfl (by decide) O4 (S.ext e4) (fun r hr u hu => by
    obtain ⟨x, hx, rfl⟩ := List.mem_map.1 hr
    simp only [rlrow, List.mem_cons, List.not_mem_nil, or_false] at hu
    rcases hu with rfl | rfl
    · exact (hrs x hx).1
    · rfl) (by rw [hhd]; simp; omega) ?_
  intro v5 h5 F5 O5 u5 g5 _
  rw [← List.map_append] at O5
  have f12 : Fresh h [r12] := Fresh.one (e3.none hr12)
  have k12 : h3 r12 = none := hr12
  have e5 : Ext h h5 := e4.fresh u5 f12
  have e35 : Ext h3 h5 := u4.fresh u5 (Fresh.one k12)
  have H5 := (ChA.good c s).ext H3 e35
  have hrules : RlsAt h5 (hd ++ rs) := fun x hx => by
    rcases List.mem_append.1 hx with hx | hx
    · rw [hhd] at hx
      simp only [List.mem_cons, List.not_mem_nil, or_false] at hx
      rcases hx with rfl | rfl
      · exact ⟨c0, (R0.ext u3).ext e35⟩
      · exact ⟨c1, R1.ext e35⟩
    · exact (hrs.ext e5) x hx
  refine Call_ok H5 O5.slR hrules (by rw [hhd]; simp; omega) fun h6 u6 => ?_
  have eall : allP s (hd ++ rs) = settleE s p (rs.map (·.2)) := by rw [allP_eq, hhd]; rfl
  rw [eall]
  have H6 := (ChA.good c s).ext H5 u6
  have e6 := e5.trans u6
  have v16 : Ext h1 h6 := ((u2.trans u3).trans e35).trans u6
  unfold chain_Chain_settle_k32
  by_cases he : settleE s p (rs.map (·.2)) = 0
  case neg =>
    have q : (settleE s p (rs.map (·.2)) == 0) = false := by simpa using he
    simp only [eqlI, q, zSS, reduceIte, zZZ, Nat.reduceAdd]
    exact hbad he h6 H6 e6
  obtain ⟨n, hn⟩ := Int.eq_ofNat_of_zero_le w.1
  have hn2 : n < 18446744073709551616 := by have := w.2.1; omega
  obtain ⟨-, hall⟩ := allE_zero he (by
    intro x hx
    rcases List.mem_append.1 hx with hx | hx
    · simp only [List.mem_cons, List.not_mem_nil, or_false] at hx
      rcases hx with rfl | rfl <;> simp
    · obtain ⟨y, hy, rfl⟩ := List.mem_map.1 hx
      exact hne y hy)
  have hsent : sentP s p = true := hall (3, sentP s p) (by simp)
  have hg : sgetL s.st.now (keyP 99 n) ≠ none := fun hg => by
    unfold sentP at hsent
    rw [hn, Int.toNat_natCast, hg] at hsent
    cases hsent
  have ls : SemE PG h6 (Instr.loadAt T_uint64 (.pointer (some ⟨r1, 1, none⟩))) = some (.int .u64 (n : Int)) := by rw [T_uint64.load, (B1.ext v16).cell, ← hn]; rfl
  simp only [he, eqlI, T_chain_Chain.f0, T_api_Packet.f1, Nat.zero_add, ls, zSS, reduceIte, zZZ, Nat.reduceAdd]
  refine Sent_ok hn2 fun h7 u7 => ?_
  have H7 := (ChA.good c s).ext H6 u7
  refine LDrop_ok H7 hg fun h8 F8 H8 s8 => ?_
  have nF : r1 ∉ F := fun hm => (ChA.good c s).known H _ hm hr1
  have D1 := (B1.ext (v16.trans u7)).upd s8.upd nF
  have lp8 : SemE PG h8 (Instr.loadAt T_api_Packet (.pointer (some ⟨r1, 0, none⟩))) = some p.v := D1.pk rfl
  simp only [lp8, zSS, reduceIte, zZZ, Nat.reduceAdd]
  refine CNote_ok H8 kind w hl fun h9 F9 H9 s9 => ?_
  have es : (s.del (keyP 99 n)).add ⟨kind, p⟩ = s.settled kind p := by unfold Ch.settled; rw [hn]; rfl
  rw [es] at H9
  exact hk he h9 F9 H9 (((Step.ext (e6.trans u7)).trans s8).trans s9)
noncomputable def ackL (s : Ch) (p : Pk) (pf : Tx) (x : Int) : List (Int × Bool) := [(11, (rootL s.cl x).isSome), (9, hasP (rootB s.cl x) pf (keyP 97 p.s.toNat) (ansP p))]
theorem CAck_ok {h : PH} {c : Nat} {s : Ch} {F : List Nat} (hK : KAt h) (H : ChA c s h F) {p : Pk} (w : p.wf) {pf : Tx} {x : Int} (hl : s.nts.length < 1000000) {kk : Value → PH → Prop}
    (hbad : settleE s p (ackL s p pf x) ≠ 0 → ∀ h', ChA c s h' F → Ext h h' → kk (.int .i64 (settleE s p (ackL s p pf x))) h')
    (hk : settleE s p (ackL s p pf x) = 0 → ∀ h' F', ChA c (s.settled 3 p) h' F' → Step h F h' F' → kk (.int .i64 0) h') :
    CallsH PG id_chain_Chain_Ack #[.pointer (some ⟨c, 0, none⟩), p.v, .string (tx pf), .int .u64 x] h kk := by
  apply chain_Chain_Ack.call
  unfold chain_Chain_Ack
  obtain ⟨n, hn⟩ := Int.eq_ofNat_of_zero_le w.1
  have hn2 : n < 18446744073709551616 := by have := w.2.1; omega
  intro r1 hr1
  try rw [bindH_eq]
  have u1 : Ext h (h.set r1 (.cells (Value.cells p.v) T_api_Packet)) := Upd.new hr1
  have B1 : Bx (h.set r1 (.cells (Value.cells p.v) T_api_Packet)) r1 p.cells := Bx.new
  generalize h.set r1 (.cells (Value.cells p.v) T_api_Packet) = h1 at *
  intro r3 hr3
  try rw [bindH_eq]
  have u3 : Ext h1 (h1.set r3 (.cells (Value.cells (.string (tx pf))) T_string)) := Upd.new hr3
  have B3 : Bx (h1.set r3 (.cells (Value.cells (.string (tx pf))) T_string)) r3 [.string (tx pf)] := Bx.new
  generalize h1.set r3 (.cells (Value.cells (.string (tx pf))) T_string) = h3 at *
  have e3 := u1.trans u3
  have C1 := B1.ext u3
  have H3 := (ChA.good c s).ext H e3
  try simp only [makeFunc_eq, zSS, reduceIte, zZZ, Nat.reduceAdd]
  refine Proved_ok (f := fun root => hasP root pf (keyP 97 p.s.toNat) (ansP p)) H3 rfl (fun h' u root k' hk' => ?_) fun h4 f1 f2 c1 c2 R1 R2 u4 => ?_
  · show CallsH PG id_chain_Chain_Ack_1 #[.string (tx root), .pointer (some ⟨r3, 0, none⟩), .pointer (some ⟨r1, 0, none⟩)] h' k'
    apply chain_Chain_Ack_1.call
    unfold chain_Chain_Ack_1
    have lpf : ∀ {h'' : PH}, Ext h' h'' → SemE PG h'' (Instr.loadAt T_string (.pointer (some ⟨r3, 0, none⟩))) = some (.string (tx pf)) := fun v => by rw [T_string.load, ((B3.ext u).ext v).cell]; rfl
    have lp : ∀ {h'' : PH}, Ext h' h'' → SemE PG h'' (Instr.loadAt T_api_Packet (.pointer (some ⟨r1, 0, none⟩))) = some p.v := fun v => ((C1.ext u).ext v).pk rfl
    have ls : SemE PG h' (Instr.loadAt T_uint64 (.pointer (some ⟨r1, 1, none⟩))) = some (.int .u64 (n : Int)) := by rw [T_uint64.load, (C1.ext u).cell, ← hn]; rfl
    simp only [lpf Upd.refl, lp Upd.refl, T_api_Packet.f1, Nat.zero_add, ls, zSS, reduceIte, zZZ, Nat.reduceAdd]
    refine Answered_ok hn2 fun h5 u5 => ?_
    refine ⟨lp u5, lpf u5, ?_⟩
    refine Answer_ok w (hK.ext ((e3.trans u).trans u5)) fun h6 u6 => ?_
    refine ⟨lpf (u5.trans u6), ?_⟩
    refine Has_ok (hK.ext (((e3.trans u).trans u5).trans u6)) fun h7 u7 => ?_
    have := hk' h7 ((u5.trans u6).trans u7)
    rw [hn] at this
    exact this
  have e4 := e3.trans u4
  simp only [zSS, reduceIte, zZZ, Nat.reduceAdd]
  intro r10 hr10
  try rw [bindH_eq]
  have u5 : Ext h4 (h4.set r10 (.cells (zcells PG T_chain_rule) T_chain_rule)) := Upd.new hr10
  have Z10 := T_chain_rule.zbox (h := h4) (r := r10)
  generalize h4.set r10 (.cells (zcells PG T_chain_rule) T_chain_rule) = h5 at *
  intro r12 hr12
  try rw [bindH_eq]
  have u6 : Ext h5 (h5.set r12 (.cells (zcells PG T_chain_rule) T_chain_rule)) := Upd.new hr12
  have Z12 := T_chain_rule.zbox (h := h5) (r := r12)
  have n1012 : r10 ≠ r12 := Z10.apart hr12
  have Y10 := Z10.ext u6
  generalize h5.set r12 (.cells (zcells PG T_chain_rule) T_chain_rule) = h6 at *
  have k10 : h4 r10 = none := hr10
  have k12 : h4 r12 = none := u5.none hr12
  refine T_chain_rule.put (vs := [f1, .int .i64 11]) Y10 (o := 0) rfl (by show 0 + 2 ≤ 2; decide) (by simp only [List.mem_cons, List.not_mem_nil, or_false]; rintro z (rfl | rfl); exact c1; rfl) fun h7 B7 u7 => ?_
  refine T_chain_rule.put (vs := [f2, .int .i64 9]) (Z12.upd u7 (by simpa using n1012.symm)) (o := 0) rfl (by show 0 + 2 ≤ 2; decide) (by simp only [List.mem_cons, List.not_mem_nil, or_false]; rintro z (rfl | rfl); exact c2; rfl) fun h8 B8 u8 => ?_
  have e48 : Ext h4 h8 := ((u5.trans u6).fresh u7 (Fresh.one k10)).fresh u8 (Fresh.one k12)
  have l10 : SemE PG h8 (Instr.loadAt T_chain_rule (.pointer (some ⟨r10, 0, none⟩))) = some (.agg #[f1, .int .i64 11]) := T_chain_rule.agg (B7.upd u8 (by simpa using n1012)) (by show 0 + 2 ≤ 2; decide)
  have l12 : SemE PG h8 (Instr.loadAt T_chain_rule (.pointer (some ⟨r12, 0, none⟩))) = some (.agg #[f2, .int .i64 9]) := T_chain_rule.agg B8 (by show 0 + 2 ≤ 2; decide)
  have lp8 : SemE PG h8 (Instr.loadAt T_api_Packet (.pointer (some ⟨r1, 0, none⟩))) = some p.v := (C1.ext (u4.trans e48)).pk rfl
  simp only [lp8, l10, l12, rl_lit2, zSS, reduceIte, zZZ, Nat.reduceAdd]
  intro r21 hr21
  refine popO_pure ?_
  try rw [bindH_eq]
  obtain ⟨rs, hrs⟩ : ∃ rs : List RuV, rs = [(f1, 11, (rootL s.cl x).isSome), (f2, 9, hasP (rootB s.cl x) pf (keyP 97 p.s.toNat) (ansP p))] := ⟨_, rfl⟩
  have ecells : (#[f1, .int .i64 11, f2, .int .i64 9] : Array Value) = (rs.map rlrow).flatten.toArray := by rw [hrs]; rfl
  have ers : rs.map (·.2) = ackL s p pf x := by rw [hrs]; rfl
  rw [ecells]
  have u9 : Ext h8 (h8.set r21 (.cells (rs.map rlrow).flatten.toArray T_chain_rule)) := Upd.new hr21
  have S9 : SlR (h8.set r21 (.cells (rs.map rlrow).flatten.toArray T_chain_rule)) 2 (.slice (some ⟨r21, 0, none⟩) 2 2) (rs.map rlrow) := (OwnR.lit (rlrow.rows rs) set_same (by rw [hrs]; simp) (by decide) (by simp)).slR
  generalize h8.set r21 (.cells (rs.map rlrow).flatten.toArray T_chain_rule) = h9 at *
  have e49 := e48.trans u9
  have e9 := e4.trans e49
  have hrules : RlsAt h9 rs := fun y hy => by
    rw [hrs] at hy
    simp only [List.mem_cons, List.not_mem_nil, or_false] at hy
    rcases hy with rfl | rfl
    · exact ⟨c1, R1.ext e49⟩
    · exact ⟨c2, R2.ext e49⟩
  refine CSettle_ok (hK.ext e9) ((ChA.good c s).ext H e9) 3 w S9 hrules (by rw [hrs]; simp) (by rw [hrs]; simp) hl (fun he h' H' u' => ?_) (fun he h' F' H' s' => ?_)
  · rw [ers] at he ⊢
    exact hbad he h' H' (e9.trans u')
  · rw [ers] at he
    exact hk he h' F' H' ((Step.ext e9).trans s')
end Go.Proofs.YtcoajnpchhmgjaaGreatDoor
namespace Go.Proofs.YtcoajnpchhmgjaaGreatDoor
open Go
set_option maxRecDepth 20000
noncomputable def timeL (s : Ch) (p : Pk) (pf : Tx) (x : Int) : List (Int × Bool) := [(11, decide (IntKind.u64.wrap (p.t - 1) ≤ x)), (11, (rootL s.cl x).isSome), (9, lacksP (rootB s.cl x) pf (keyP 114 p.s.toNat))]
theorem CTimeout_ok {h : PH} {c : Nat} {s : Ch} {F : List Nat} (hK : KAt h) (H : ChA c s h F) {p : Pk} (w : p.wf) {pf : Tx} {x : Int} (hl : s.nts.length < 1000000) {kk : Value → PH → Prop}
    (hbad : settleE s p (timeL s p pf x) ≠ 0 → ∀ h', ChA c s h' F → Ext h h' → kk (.int .i64 (settleE s p (timeL s p pf x))) h')
    (hk : settleE s p (timeL s p pf x) = 0 → ∀ h' F', ChA c (s.settled 4 p) h' F' → Step h F h' F' → kk (.int .i64 0) h') :
    CallsH PG id_chain_Chain_Timeout #[.pointer (some ⟨c, 0, none⟩), p.v, .string (tx pf), .int .u64 x] h kk := by
  apply chain_Chain_Timeout.call
  unfold chain_Chain_Timeout
  obtain ⟨n, hn⟩ := Int.eq_ofNat_of_zero_le w.1
  have hn2 : n < 18446744073709551616 := by have := w.2.1; omega
  intro r1 hr1
  try rw [bindH_eq]
  have u1 : Ext h (h.set r1 (.cells (Value.cells p.v) T_api_Packet)) := Upd.new hr1
  have B1 : Bx (h.set r1 (.cells (Value.cells p.v) T_api_Packet)) r1 p.cells := Bx.new
  generalize h.set r1 (.cells (Value.cells p.v) T_api_Packet) = h1 at *
  intro r3 hr3
  try rw [bindH_eq]
  have u3 : Ext h1 (h1.set r3 (.cells (Value.cells (.string (tx pf))) T_string)) := Upd.new hr3
  have B3 : Bx (h1.set r3 (.cells (Value.cells (.string (tx pf))) T_string)) r3 [.string (tx pf)] := Bx.new
  generalize h1.set r3 (.cells (Value.cells (.string (tx pf))) T_string) = h3 at *
  intro r5 hr5
  try rw [bindH_eq]
  have u5 : Ext h3 (h3.set r5 (.cells (Value.cells (.int .u64 x)) T_uint64)) := Upd.new hr5
  have B5 : Bx (h3.set r5 (.cells (Value.cells (.int .u64 x)) T_uint64)) r5 [.int .u64 x] := Bx.new
  generalize h3.set r5 (.cells (Value.cells (.int .u64 x)) T_uint64) = h5 at *
  have e5 := (u1.trans u3).trans u5
  have C1 := (B1.ext u3).ext u5
  have C3 := B3.ext u5
  have H5 := (ChA.good c s).ext H e5
  have lx : ∀ {h'' : PH}, Ext h5 h'' → SemE PG h'' (Instr.loadAt T_uint64 (.pointer (some ⟨r5, 0, none⟩))) = some (.int .u64 x) := fun v => by rw [T_uint64.load, (B5.ext v).cell]; rfl
  simp only [lx Upd.refl, makeFunc_eq, zSS, reduceIte, zZZ, Nat.reduceAdd]
  refine Proved_ok (f := fun root => lacksP root pf (keyP 114 p.s.toNat)) H5 rfl (fun h' u root k' hk' => ?_) fun h4 f1 f2 c1 c2 R1 R2 u4 => ?_
  · show CallsH PG id_chain_Chain_Timeout_1 #[.string (tx root), .pointer (some ⟨r3, 0, none⟩), .pointer (some ⟨r1, 0, none⟩)] h' k'
    apply chain_Chain_Timeout_1.call
    unfold chain_Chain_Timeout_1
    have lpf : ∀ {h'' : PH}, Ext h' h'' → SemE PG h'' (Instr.loadAt T_string (.pointer (some ⟨r3, 0, none⟩))) = some (.string (tx pf)) := fun v => by rw [T_string.load, ((C3.ext u).ext v).cell]; rfl
    have ls : SemE PG h' (Instr.loadAt T_uint64 (.pointer (some ⟨r1, 1, none⟩))) = some (.int .u64 (n : Int)) := by rw [T_uint64.load, (C1.ext u).cell, ← hn]; rfl
    simp only [lpf Upd.refl, T_api_Packet.f1, Nat.zero_add, ls, zSS, reduceIte, zZZ, Nat.reduceAdd]
    refine Received_ok hn2 fun h6 u6 => ?_
    refine ⟨lpf u6, ?_⟩
    refine Lacks_ok (hK.ext ((e5.trans u).trans u6)) fun h7 u7 => ?_
    have := hk' h7 (u6.trans u7)
    rw [hn] at this
    exact this
  have e4 := e5.trans u4
  simp only [zSS, reduceIte, zZZ, Nat.reduceAdd]
  intro r13 hr13
  try rw [bindH_eq]
  have u6 : Ext h4 (h4.set r13 (.cells (zcells PG T_chain_rule) T_chain_rule)) := Upd.new hr13
  have Z13 := T_chain_rule.zbox (h := h4) (r := r13)
  generalize h4.set r13 (.cells (zcells PG T_chain_rule) T_chain_rule) = h6 at *
  intro r15 hr15
  try rw [bindH_eq]
  have u7 : Ext h6 (h6.set r15 (.cells (zcells PG T_chain_rule) T_chain_rule)) := Upd.new hr15
  have Z15 := T_chain_rule.zbox (h := h6) (r := r15)
  have n1315 : r13 ≠ r15 := Z13.apart hr15
  have Y13 := Z13.ext u7
  generalize h6.set r15 (.cells (zcells PG T_chain_rule) T_chain_rule) = h7 at *
  have k13 : h4 r13 = none := hr13
  have k15 : h4 r15 = none := u6.none hr15
  refine T_chain_rule.put (vs := [f1, .int .i64 11]) Y13 (o := 0) rfl (by show 0 + 2 ≤ 2; decide) (by simp only [List.mem_cons, List.not_mem_nil, or_false]; rintro z (rfl | rfl); exact c1; rfl) fun h8 B8 u8 => ?_
  refine T_chain_rule.put (vs := [f2, .int .i64 9]) (Z15.upd u8 (by simpa using n1315.symm)) (o := 0) rfl (by show 0 + 2 ≤ 2; decide) (by simp only [List.mem_cons, List.not_mem_nil, or_false]; rintro z (rfl | rfl); exact c2; rfl) fun h9 B9 u9 => ?_
  have e49 : Ext h4 h9 := ((u6.trans u7).fresh u8 (Fresh.one k13)).fresh u9 (Fresh.one k15)
  have D13 := B8.upd u9 (by simpa using n1315)
  try simp only [makeFunc_eq, rule_b, zSS, reduceIte, zZZ, Nat.reduceAdd]
  intro r23 hr23
  try rw [bindH_eq]
  refine T_chain_rule.fill (vs := [.func (.func id_chain_Chain_Timeout_2) #[] #[.pointer (some ⟨r5, 0, none⟩), .pointer (some ⟨r1, 0, none⟩)], .int .i64 11]) hr23 rfl (by simp [isCell]) fun h10 B10 u10 => ?_
  have e410 := e49.trans u10
  have l13 : SemE PG h10 (Instr.loadAt T_chain_rule (.pointer (some ⟨r13, 0, none⟩))) = some (.agg #[f1, .int .i64 11]) := T_chain_rule.agg (D13.ext u10) (by show 0 + 2 ≤ 2; decide)
  have l15 : SemE PG h10 (Instr.loadAt T_chain_rule (.pointer (some ⟨r15, 0, none⟩))) = some (.agg #[f2, .int .i64 9]) := T_chain_rule.agg (B9.ext u10) (by show 0 + 2 ≤ 2; decide)
  have l23 : SemE PG h10 (Instr.loadAt T_chain_rule (.pointer (some ⟨r23, 0, none⟩))) = some (.agg #[.func (.func id_chain_Chain_Timeout_2) #[] #[.pointer (some ⟨r5, 0, none⟩), .pointer (some ⟨r1, 0, none⟩)], .int .i64 11]) := T_chain_rule.agg B10 (by show 0 + 2 ≤ 2; decide)
  have v510 : Ext h5 h10 := u4.trans e410
  have lp8 : SemE PG h10 (Instr.loadAt T_api_Packet (.pointer (some ⟨r1, 0, none⟩))) = some p.v := (C1.ext v510).pk rfl
  simp only [lp8, l13, l15, l23, rl_lit3, zSS, reduceIte, zZZ, Nat.reduceAdd]
  intro r31 hr31
  refine popO_pure ?_
  try rw [bindH_eq]
  obtain ⟨rs, hrs⟩ : ∃ rs : List RuV, rs = [(.func (.func id_chain_Chain_Timeout_2) #[] #[.pointer (some ⟨r5, 0, none⟩), .pointer (some ⟨r1, 0, none⟩)], 11, decide (IntKind.u64.wrap (p.t - 1) ≤ x)), (f1, 11, (rootL s.cl x).isSome), (f2, 9, lacksP (rootB s.cl x) pf (keyP 114 p.s.toNat))] := ⟨_, rfl⟩
  have ecells : (#[.func (.func id_chain_Chain_Timeout_2) #[] #[.pointer (some ⟨r5, 0, none⟩), .pointer (some ⟨r1, 0, none⟩)], .int .i64 11, f1, .int .i64 11, f2, .int .i64 9] : Array Value) = (rs.map rlrow).flatten.toArray := by rw [hrs]; rfl
  have ers : rs.map (·.2) = timeL s p pf x := by rw [hrs]; rfl
  rw [ecells]
  have u11 : Ext h10 (h10.set r31 (.cells (rs.map rlrow).flatten.toArray T_chain_rule)) := Upd.new hr31
  have S11 : SlR (h10.set r31 (.cells (rs.map rlrow).flatten.toArray T_chain_rule)) 2 (.slice (some ⟨r31, 0, none⟩) 3 3) (rs.map rlrow) := (OwnR.lit (rlrow.rows rs) set_same (by rw [hrs]; simp) (by decide) (by simp)).slR
  generalize h10.set r31 (.cells (rs.map rlrow).flatten.toArray T_chain_rule) = h11 at *
  have e411 := e410.trans u11
  have e11 := e4.trans e411
  have v511 := v510.trans u11
  have hrules : RlsAt h11 rs := fun y hy => by
    rw [hrs] at hy
    simp only [List.mem_cons, List.not_mem_nil, or_false] at hy
    rcases hy with rfl | rfl | rfl
    · refine ⟨rfl, fun h' u k' hk' => ?_⟩
      show CallsH PG id_chain_Chain_Timeout_2 #[.pointer (some ⟨r5, 0, none⟩), .pointer (some ⟨r1, 0, none⟩)] h' k'
      apply chain_Chain_Timeout_2.call
      unfold chain_Chain_Timeout_2
      have lt : SemE PG h' (Instr.loadAt T_uint64 (.pointer (some ⟨r1, 2, none⟩))) = some (.int .u64 p.t) := by rw [T_uint64.load, (C1.ext (v511.trans u)).cell]; rfl
      simp only [lx (v511.trans u), T_api_Packet.f2, Nat.zero_add, lt, zSS, reduceIte, zZZ, Nat.reduceAdd]
      exact hk' h' Upd.refl
    · exact ⟨c1, R1.ext e411⟩
    · exact ⟨c2, R2.ext e411⟩
  refine CSettle_ok (hK.ext e11) ((ChA.good c s).ext H e11) 4 w S11 hrules (by rw [hrs]; simp) (by rw [hrs]; simp) hl (fun he h' H' u' => ?_) (fun he h' F' H' s' => ?_)
  · rw [ers] at he ⊢
    exact hbad he h' H' (e11.trans u')
  · rw [ers] at he
    exact hk he h' F' H' ((Step.ext e11).trans s')
end Go.Proofs.YtcoajnpchhmgjaaGreatDoor
