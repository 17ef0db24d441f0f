/- slices.SortFunc: the library's own contract, turned to parts of memory. -/
import Derived.Test.YtllopddcpkhfjaaDoorHMore
import Derived.Shelf.SlSortCmp.NoneTotal
set_option linter.unusedSimpArgs false
set_option linter.unusedVariables false
namespace Go.Proofs.YtllopddcpkhfjaaDoor
open Go Go.Sort Go.Shelf

theorem flat_rows {α : Type} [Inhabited α] (enc : α → List Value) (k : Nat) (hk0 : 0 < k) (hlen : ∀ x, (enc x).length = k) (l : List α) : (l.map enc).flatten = (flatK enc k l.toArray).toList := by
  have hr : Rows k (l.map enc) := fun r hr => by obtain ⟨x, _, rfl⟩ := List.mem_map.1 hr; exact hlen x
  apply List.ext_getElem?
  intro j
  have hfl : (l.map enc).flatten.length = l.length * k := by rw [hr.flat, List.length_map]
  by_cases hj : j < l.length * k
  · have hi : j / k < l.length := (Nat.div_lt_iff_lt_mul hk0).2 hj
    have hat := hr.at (i := j / k) (r := enc l[j / k]) (by simp [hi])
    have hc : j % k < k := Nat.mod_lt _ hk0
    have e1 : (l.map enc).flatten[j]? = (enc l[j / k])[j % k]? := by
      rw [← hat, List.getElem?_take, if_pos hc, List.getElem?_drop]
      congr 1
      rw [Nat.mul_comm]; exact (Nat.div_add_mod j k).symm
    have hs : j < (flatK enc k l.toArray).size := by rw [size_flatK]; exact hj
    have hg := get_flatK enc k l.toArray j (by simpa using hj)
    rw [getElem!_pos _ j hs] at hg
    have hle : j % k < (enc l[j / k]).length := by rw [hlen]; exact hc
    have hx : l.toArray[j / k]! = l[j / k] := by rw [getElem!_pos l.toArray (j / k) (by simpa using hi)]; rfl
    have e2 : (flatK enc k l.toArray).toList[j]? = (flatK enc k l.toArray)[j]? := by simp
    rw [e1, e2, Array.getElem?_eq_getElem hs, hg, hx, List.getElem?_eq_getElem hle, getElem!_pos (enc l[j / k]) (j % k) hle]
  · rw [List.getElem?_eq_none (by omega), Array.getElem?_toList, Array.getElem?_eq_none (by simp; omega)]

theorem take_putCells (F c : Array Value) (hle : F.size ≤ c.size) : (putCells id 0 F c).toList.take F.size = F.toList := by
  apply List.ext_getElem?
  intro j
  rw [List.getElem?_take, Array.getElem?_toList, Array.getElem?_toList]
  by_cases hj : j < F.size
  · rw [if_pos hj]
    simp only [putCells, Array.getElem?_mapIdx, Nat.zero_add, Nat.zero_le, true_and, Nat.sub_zero, hj, if_true, id]
    rw [Array.getElem?_eq_getElem (by omega), Array.getElem?_eq_getElem hj, getElem!_pos F j hj]; rfl
  · rw [if_neg hj, Array.getElem?_eq_none (by omega)]

theorem world_eq {w w' : World} (os : w'.os = w.os) (tape : w'.tape = w.tape) (output : w'.output = w.output) (drawn : w.drawn ≤ w'.drawn) (size : w.heap.size ≤ w'.heap.size) (far : ∀ b, b < w.heap.size → w'.heap[b]? = w.heap[b]?) :
    ∃ q os', w' = grow (w.drewN q) os' := by
  refine ⟨w'.drawn - w.drawn, w'.heap.extract w.heap.size w'.heap.size, ?_⟩
  cases w with | mk heap tp dr o ou => cases w' with | mk heap' tp' dr' o' ou' =>
  simp only at *
  subst os tape output
  unfold grow World.drewN
  simp only [World.mk.injEq, and_true, true_and]
  refine ⟨?_, by omega⟩
  apply Array.ext_getElem?
  intro i
  rw [Array.getElem?_append]
  split
  · rename_i hi; exact far i hi
  · rename_i hi
    rw [Array.getElem?_extract]
    split
    · congr 1; omega
    · rw [Array.getElem?_eq_none (by omega)]

theorem sortFunc_ok {P : Program} {ρ : Ren} {α : Type} [Inhabited α] (L : SlLaysF0.n6 P ρ) {f : FuncId} (hf : ρ.f 6 = f) {k : Nat} (hk0 : 0 < k) (aE : ∀ w, (isAgg (ρ.t 24)).run P w = .ok true w) (zE : ∀ w, (Go.sizeOf (ρ.t 24)).run P w = .ok k w)
    (enc : α → List Value) (hlen : ∀ x, (enc x).length = k) (h1 : ∀ x, ∀ v ∈ enc x, v.oneCell' = true) (cf : α → α → Int) (hO : SWO (ltOf cf)) {g : FuncId} (eg : enters P g = true)
    (hcmp : ∀ x y, CallsH P g #[.agg (enc x).toArray, .agg (enc y).toArray] (fun _ => none) fun v _ => v = .int .i64 (cf x y)) (hen : enters P f = true)
    {e : TypeId} {v : Value} {F : List Nat} {l : List α} {h : PH} (H : OwnR h e k v (l.map enc) F) (hsz : l.length < 4611686018427387904) {R : Value → PH → Prop}
    (hk : ∀ (l' : List α) h', l'.Perm l → l'.Pairwise (fun a b => ltOf cf b a = false) → OwnR h' e k v (l'.map enc) F → Upd F h h' → R (.tuple #[]) h') : CallsH P f #[v, .func (.func g) #[] #[]] h R := by
  subst hf
  refine .inl ⟨hen, fun w hs => ?_⟩
  have heg : ∀ (args : Array Value) (w : World), (callFunc g args).run P w = .ok (.enter g args) w := fun args w =>
    SemE.run (h := fun _ => none) (semE_enter eg) (fun _ _ hb => by cases hb)
  rcases H.here with ⟨hv, hr, hF⟩ | ⟨b, cap, cs, hv, hF, hb, hle, hcm, hcs, htk⟩
  · have hl : l = [] := List.map_eq_nil_iff.1 hr
    subst hl hv hF
    refine (AnyF.slices_SortFunc_none L none 0 _ w).mono fun e1 w' ⟨he, hw⟩ => ?_
    subst hw
    exact ⟨_, h, he, hk [] h (List.Perm.refl _) List.Pairwise.nil H Upd.refl, hs, Fr.refl _ _⟩
  · subst hF
    have hfl := flat_rows enc k hk0 hlen l
    have hrl : (l.map enc).length = l.length := List.length_map _
    rw [hrl] at hv hle htk
    have hwb := hs b _ hb
    have hblk : b < w.heap.size := hs.lt hb
    have hH : HoldsK enc k w b 0 l.toArray := by
      intro j hj
      have hj' : j < l.length * k := by simpa using hj
      have hc : cs[j]? = some ((flatK enc k l.toArray)[j]!) := by
        have e1 : cs.toList[j]? = (l.map enc).flatten[j]? := by rw [← htk, List.getElem?_take, if_pos hj']
        rw [Array.getElem?_toList] at e1
        rw [e1, hfl, Array.getElem?_toList, Array.getElem?_eq_getElem hj, getElem!_pos _ j hj]
      constructor
      · unfold World.cell?; simp only [Nat.zero_add, hwb, Option.isSome_none]; simpa using hc
      · unfold World.frozen?; simp only [hwb]; simp
    have hcm' : CmpLays P g #[] enc k cf b 0 l.toArray.size w := by
      intro m os dk _ x y
      have hc := (hcmp x y).calls eg (sortWorldK enc k w b 0 m dk os) (fun _ _ hb => by cases hb)
      refine hc.mono fun e1 w' ⟨v1, h1, he, hv1, _, fr⟩ => ⟨by rw [he, hv1], world_eq fr.os fr.tape fr.output fr.drawn fr.size fun i hi => fr.far i hi rfl⟩
    have hS := AnyQ.slices_SortFunc L k aE zE enc hlen h1 cf hO g #[] b 0 cap l.toArray w heg hcm' hH hblk (by simpa using hsz)
    subst hv
    have hz : l.toArray.size = l.length := by simp
    rw [hz] at hS
    refine hS.mono fun e1 w' ⟨he, d', n, os, hp, hso, hw⟩ => ?_
    obtain ⟨hps, _, hpp⟩ := hp
    have hds : d'.toList.length = l.length := by simpa using hps
    let c' := putCells id 0 (flatK enc k d') cs
    have hmod : ∀ i, w'.heap[i]? = if i < w.heap.size then (if i = b then some (.cells c' e (0, 0)) else w.heap[i]?) else os[i - w.heap.size]? := by
      intro i
      subst hw
      show ((w.heap.modify b (onCells (putCells id 0 (flatK enc k d')))) ++ os)[i]? = _
      rw [Array.getElem?_append, Array.size_modify, Array.getElem?_modify]
      by_cases hi : i < w.heap.size
      · rw [if_pos hi, if_pos hi]
        by_cases hib : i = b
        · subst hib; rw [if_pos rfl, if_pos rfl, hwb]; rfl
        · rw [if_neg (Ne.symm hib), if_neg hib]
      · rw [if_neg hi, if_neg hi]
    have hsub : Sub (h.set b (.cells c' e (0, 0))) w' := by
      intro i o hi
      rw [hmod]
      unfold PH.set at hi
      split at hi
      · rename_i e1; subst e1; rw [if_pos hblk, if_pos rfl]; exact hi
      · rename_i e1; rw [if_pos (hs.lt hi), if_neg e1]; exact hs _ _ hi
    have hfr : Fr h w (h.set b (.cells c' e (0, 0))) w' := by
      subst hw
      refine ⟨rfl, rfl, rfl, ?_, ?_, fun i hi hn => ?_, fun i hi hn => ?_⟩
      · show w.drawn ≤ w.drawn + n; omega
      · show w.heap.size ≤ ((w.heap.modify b _) ++ os).size; simp
      · rw [hmod, if_pos hi, if_neg (fun e1 => by subst e1; rw [hb] at hn; cases hn)]
      · rw [set_other (fun e1 => by subst e1; rw [hb] at hn; cases hn)]; exact hn
    refine ⟨_, _, he, hk d'.toList _ ?_ ?_ ⟨fun r hr => ?_, .inr ⟨b, cap, c', ?_, rfl, set_same, ?_, hcm, ?_, ?_⟩⟩ (Upd.set (by simp)), hsub, hfr⟩
    · have e1 : d'.extract 0 l.length = d' := by rw [← hz, ← hps]; simp
      have e2 : l.toArray.extract 0 l.length = l.toArray := by rw [← hz]; simp
      rw [e1, e2] at hpp
      simpa using hpp
    · rw [List.pairwise_iff_getElem]
      intro i j hi hj hij
      have := hso i j (Nat.zero_le _) hij (by rw [← hz, ← hps]; simpa using hj)
      rw [getElem!_pos d' i (by simpa using hi), getElem!_pos d' j (by simpa using hj)] at this
      simpa using this
    · obtain ⟨x, _, rfl⟩ := List.mem_map.1 hr; exact hlen x
    · rw [List.length_map, hds]
    · rw [List.length_map, hds]; exact hle
    · show (putCells id 0 (flatK enc k d') cs).size = _
      unfold putCells
      rw [Array.size_mapIdx]; exact hcs
    · rw [List.length_map, hds]
      have hfd := flat_rows enc k hk0 hlen d'.toList
      rw [hfd]
      have hsz2 : (flatK enc k d').size = l.length * k := by rw [size_flatK, hps, hz]
      have := take_putCells (flatK enc k d') cs (by rw [hsz2, hcs]; exact Nat.mul_le_mul_right _ hle)
      rw [hsz2] at this
      simpa using this
end Go.Proofs.YtllopddcpkhfjaaDoor
