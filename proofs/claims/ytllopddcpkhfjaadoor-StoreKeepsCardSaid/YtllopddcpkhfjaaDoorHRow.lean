/- From a rule for a law's call to its row: the whole memory as the part; what a reading tells; nothing that was there turns. -/
import Derived.Test.YtllopddcpkhfjaaDoorHMore
import Derived.Test.YtllopddcpkhfjaaDoorRows
import Derived.ReadAgain
import Derived.ChangeReads
import Derived.ChangeBears
import Derived.RowKit3
import Derived.ChangeSame
import Derived.OpenShut
import Derived.Deep.Slices
set_option linter.unusedSimpArgs false
set_option linter.unusedVariables false
namespace Go.Proofs.YtllopddcpkhfjaaDoor
open Go Go.RowKit Go.ChangeShapes

def heapOf (W : World) : PH := fun b => W.heap[b]?
theorem heapOf_sub (W : World) : Sub (heapOf W) W := fun _ _ h => h
/-- All that was there is as it was. -/
structure Kept (W W' : World) : Prop where
  os : W'.os = W.os
  output : W'.output = W.output
  heap : ∀ b, b < W.heap.size → W'.heap[b]? = W.heap[b]?
theorem calls_kept {P : Program} {f : FuncId} {args : Array Value} {W : World} (H : CallsH P f args (heapOf W) fun v h' => v = .bool true ∧ Ext (heapOf W) h') (he : enters P f = true := by kernel_rfl) :
    Calls P f args W fun e w' => e = .returned (.bool true) ∧ Kept W w' := by
  refine (H.calls he W (heapOf_sub W)).mono ?_
  rintro e w' ⟨v, h', rfl, ⟨rfl, hx⟩, hs, hf⟩
  refine ⟨rfl, hf.os, hf.output, fun b hb => ?_⟩
  cases e : W.heap[b]? with
  | none => simp at e; omega
  | some o => exact hs b o (hx.get e)
theorem Kept.cell {W W' : World} (K : Kept W W') (a : Addr) (h : a.block < W.heap.size) : W'.cell? a = W.cell? a := by
  unfold World.cell?; rw [K.heap _ h]
theorem Kept.frozen {W W' : World} (K : Kept W W') (a : Addr) (h : a.block < W.heap.size) : W'.frozen? a = W.frozen? a := by
  unfold World.frozen?; rw [K.heap _ h]
theorem Kept.sameAt {W W' : World} (K : Kept W W') (p : MemPlace) (h : p.block < W.heap.size) : W.sameAt W' p := by
  cases p with
  | cell b off => exact K.cell _ h
  | map b => exact K.heap _ h
theorem Kept.but {W W' : World} (K : Kept W W') (may : MemPlace → Prop) : W.keptBut W' may := by
  refine ⟨K.os, K.output, fun i hi => ?_⟩
  rw [K.heap i hi]
  cases W.heap[i]? with
  | none => rfl
  | some o =>
    cases o with
    | cells c t fr => exact ⟨rfl, rfl, rfl, fun _ _ => rfl⟩
    | map es clock => exact .inr ⟨rfl, rfl⟩
    | _ => rfl
theorem trodAll_carry {H : Type} {enc : TypeId × Value → H} {P : Program} {w w' : World} {base : Nat} {spare : Nat → Bool} {held : Bool} : ∀ {ts : List TypeId} {vs : List Value} {ds : List (DataW H)} {ps : List MemPlace},
    DataW.TrodAll enc P w base spare held ts vs ds ps → (∀ p ∈ ps, w.sameAt w' p) → DataW.TrodAll enc P w' base spare held ts vs ds ps
  | [], [], [], _, h, _ => h
  | _ :: _, _ :: _, _ :: _, _, ⟨p, q, ⟨n, h1⟩, h2, e⟩, hs => ⟨p, q, ⟨n, DataW.trod_carry n _ _ _ h1 fun x hx => hs x (by rw [e]; exact List.mem_append_left _ hx)⟩, trodAll_carry h2 (fun x hx => hs x (by rw [e]; exact List.mem_append_right _ hx)), e⟩

theorem post_of_kept {H : Type} {enc : TypeId × Value → H} {P : Program} {f : Func} {s : ChangeSpec} {apart fresh handsOn again : Bool} {W W' : World} {args : Array Value} {ds gs : List (DataW H)} {before : List MemPlace}
    {T : TypeId → Prop} (KP : Kids P T) (full : ∀ t e, T t → P.underlying t = some (.slice e) → 0 < P.cellsOf e) (hT : ∀ t ∈ f.params.toList, T t) {tb : TypeId} (hb : P.underlying tb = some .bool) (hr : f.resultTypes = #[tb])
    (hs : s.vars = []) (hW : DataW.Whole enc P f.params.toList s.vars apart W args.toList ds gs before) (hK : Kept W W')
    (e1 : (s.fn H (ds ++ gs)).results = [.lit (.bool true)]) (e2 : (s.fn H (ds ++ gs)).args = ds) (e3 : (s.fn H (ds ++ gs)).vars = []) :
    s.post enc P f apart fresh handsOn again W args (.bool true) W' := by
  have hlt := fun p hp => hW.lt p hp
  have hW' := hW
  obtain ⟨pa, pv, hA, hV, rfl, hz, hn⟩ := hW'
  rw [hs] at hV
  obtain ⟨rfl, rfl⟩ := trodVars_none hV
  simp only [List.append_nil] at *
  have hargs : ∀ sp : Nat → Bool, (∀ p ∈ pa, sp p.block = true) → DataW.TrodAll enc P W' 0 sp true f.params.toList args.toList ds pa := fun sp hsp =>
    trodAll_carry (DataW.TrodAll.respare KP full hT hA hsp) fun p hp => hK.sameAt p (hlt p hp)
  have hres : ∀ (b : Nat) (sp : Nat → Bool) (hd : Bool), DataW.TrodAll enc P W' b sp hd f.resultTypes.toList ((Value.bool true).resultList f.resultTypes.size) (s.fn H ds).results [] := fun b sp hd => by
    rw [e1, hr]; exact trodAll_cons_mk (shut_bool hb _) trodAll_mk0
  have hvars : ∀ sp : Nat → Bool, DataW.TrodVars enc P W' sp s.vars (s.fn H ds).vars [] := fun sp => by rw [e3, hs]; rfl
  have hold : ∀ p ∈ pa, (fun b => decide (b < W.heap.size)) p.block = true := fun p hp => by simpa using hlt p hp
  refine ⟨ds, [], pa, [], pa, [], hW, by simpa using hres _ _ _, by simpa [e2] using hargs _ hold, by simpa using hvars _, World.keptBut_mono (fun p hp => ⟨hp, by simp [hp]⟩) (hK.but (· ∈ pa)), fun _ => ?_⟩
  refine ⟨ok_one hr rfl (okWide_bool_mk hb _), _, _, ([] ++ pa) ++ [], ⟨[] ++ pa, [], trodAll_append (hargs _ (fun _ _ => rfl)) (hres _ _ _), hvars _, rfl, ?_, ?_⟩, ?_⟩
  · intro b off hp
    have hp' : MemPlace.cell b off ∈ pa := by simpa using hp
    rw [hK.frozen ⟨b, off, none⟩ (hlt _ hp')]
    exact hz b off hp'
  · intro ha
    simpa using hn ha
  · intro p hp _
    simpa using hp

/-! ### what a reading tells -/
variable {H : Type} {enc : TypeId × Value → H} {P : Program} {w : World} {spare : Nat → Bool} {held : Bool}
def Rd (enc : TypeId × Value → H) (P : Program) (w : World) (spare : Nat → Bool) (held : Bool) (t : TypeId) (cs : List Value) : Prop := ∃ n x, DataW.trod enc P w 0 spare held n t cs = some x
theorem rd_int {t : TypeId} {k : IntKind} {cs : List Value} (ht : P.underlying t = some (.int k)) (h : Rd enc P w spare held t cs) : ∃ n, cs = [.int k n] ∧ (Lit.int k n).wf = true := by
  obtain ⟨n, x, h⟩ := h
  obtain ⟨i, rfl, _, hw⟩ := DataW.trod_int ht h
  exact ⟨i, rfl, hw⟩
theorem rd_bool {t : TypeId} {cs : List Value} (ht : P.underlying t = some .bool) (h : Rd enc P w spare held t cs) : ∃ b, cs = [.bool b] := by
  obtain ⟨n, x, h⟩ := h
  obtain ⟨i, rfl, _⟩ := DataW.trod_bool ht h
  exact ⟨i, rfl⟩
theorem rd_string {t : TypeId} {cs : List Value} (ht : P.underlying t = some .string) (h : Rd enc P w spare held t cs) : ∃ s : ByteArray, cs = [.string s] ∧ s.size ≤ maxLen := by
  obtain ⟨n, x, h⟩ := h
  obtain ⟨i, rfl, _, hw⟩ := DataW.trod_string ht h
  exact ⟨i, rfl, hw⟩
theorem rd_struct {t : TypeId} {fs : Array Field} {cs : List Value} (ht : P.underlying t = some (.struct fs)) (h : Rd enc P w spare held t cs) :
    cs.length = P.cellsOf t ∧ ∀ (i : Nat) (f : Field), fs[i]? = some f → Rd enc P w spare held f.type ((cs.drop f.offset).take (P.cellsOf f.type)) := by
  obtain ⟨n, x, h⟩ := h
  obtain ⟨xs, m, rfl, _, hl, hx, hf⟩ := DataW.trod_struct ht h
  refine ⟨hl, fun i f hi => ?_⟩
  have h1 := hf i f hi
  have hlt : i < xs.length := by rw [hx]; exact (Array.getElem?_eq_some_iff.1 hi).1
  rw [List.getElem?_eq_getElem hlt] at h1
  exact ⟨m, _, h1⟩
theorem rd_array {t e : TypeId} {n : Nat} {cs : List Value} (ht : P.underlying t = some (.array n e)) (h : Rd enc P w spare held t cs) :
    cs.length = P.cellsOf t ∧ ∀ i, i < n → Rd enc P w spare held e ((cs.drop (i * P.cellsOf e)).take (P.cellsOf e)) := by
  obtain ⟨m, x, h⟩ := h
  cases m with
  | zero => simp [DataW.trod] at h
  | succ m =>
    unfold DataW.trod at h
    rw [ht] at h
    split at h <;> simp_all
    obtain ⟨hl, xs, hp, hd⟩ := h
    intro i hi
    have := mapM_some_get hp i i (by simp [hi])
    have hlt : i < xs.length := by have := mapM_some_length hp; simp at this; omega
    rw [List.getElem?_eq_getElem hlt] at this
    exact ⟨m, _, this⟩
theorem cell_heap {w : World} {a : Addr} {v : Value} (h : w.cell? a = some v) : ∃ c t fr, w.heap[a.block]? = some (.cells c t fr) ∧ a.spot = none ∧ c[a.off]? = some v := by
  unfold World.cell? at h
  split at h
  · rename_i c t fr e
    cases hs : a.spot with
    | none => rw [hs] at h; exact ⟨c, t, fr, e, rfl, by simpa using h⟩
    | some b => rw [hs] at h; simp at h
  · cases h
theorem add_plain {a : Addr} (h : a.spot = none) (n : Nat) : a.add n = ⟨a.block, a.off + n, none⟩ := by
  obtain ⟨b, o, s⟩ := a
  simp only at h
  subst h
  exact plain_add b o n
theorem rd_slice {t e : TypeId} {cs : List Value} (ht : P.underlying t = some (.slice e)) (hpos : 0 < P.cellsOf e) (h : Rd enc P w spare held t cs) :
    ∃ v rows, cs = [v] ∧ SlR (heapOf w) (P.cellsOf e) v rows ∧ ∀ r ∈ rows, Rd enc P w spare held e r := by
  obtain ⟨n, x, h⟩ := h
  rcases Go.Deep.open_slice ht h with ⟨rfl, _⟩ | ⟨a, len, cap, m, k, D, Pl, rfl, hb, hl, hm, hmm, rfl, hx⟩
  · exact ⟨_, [], rfl, OwnR.nil (e := e).slR, by simp⟩
  have hlm : len ≤ m := by rw [hmm]; split <;> omega
  obtain ⟨R, hR⟩ := Go.Deep.choose_lt (α := List Value) (n := len) (p := fun i r => w.cells? 0 (a.add (i * P.cellsOf e)) (P.cellsOf e) = some r ∧ Rd enc P w spare held e r) (fun i hi => by
    obtain ⟨r, h1, h2⟩ := hx i (by omega)
    exact ⟨r, h1, k, _, h2⟩)
  have hrows : Rows (P.cellsOf e) ((List.range len).map R) := fun r hr => by
    obtain ⟨i, hi, rfl⟩ := List.mem_map.1 hr
    exact (World.cells?_some (hR i (List.mem_range.1 hi)).1).2.1
  refine ⟨_, (List.range len).map R, rfl, ⟨hrows, some a, cap, by simp, by simpa using hl, hm, fun hne => ?_, trivial⟩, fun r hr => ?_⟩
  · have hlen : 0 < len := by
      rcases Nat.eq_zero_or_pos len with h0 | h0
      · subst h0; simp at hne
      · exact h0
    have cell : ∀ i j, i < len → j < P.cellsOf e → w.cell? (a.add (i * P.cellsOf e + j)) = (R i)[j]? := fun i j hi hj => by
      rw [← Go.Deep.add_add]; exact (World.cells?_some (hR i hi).1).2.2 j hj
    have hRl : ∀ i, i < len → (R i).length = P.cellsOf e := fun i hi => (World.cells?_some (hR i hi).1).2.1
    have c0 := cell 0 0 hlen hpos
    rw [Nat.zero_mul, Nat.zero_add, show a.add 0 = a by simp [Addr.add], List.getElem?_eq_getElem (by rw [hRl 0 hlen]; exact hpos)] at c0
    obtain ⟨c, tt, fr, hh, hs, _⟩ := cell_heap c0
    have at_ : ∀ i j, i < len → j < P.cellsOf e → c[a.off + (i * P.cellsOf e + j)]? = (R i)[j]? := fun i j hi hj => by
      have h1 := cell i j hi hj
      rw [add_plain hs] at h1
      have hj' : j < (R i).length := by rw [hRl i hi]; exact hj
      rw [List.getElem?_eq_getElem hj'] at h1 ⊢
      obtain ⟨c', _, _, hh', _, h2⟩ := cell_heap h1
      simp only [hh, Option.some.injEq, Obj.cells.injEq] at hh'
      rw [← hh'.1] at h2
      exact h2
    have hle : a.off + len * P.cellsOf e ≤ c.size := by
      have h1 := at_ (len - 1) (P.cellsOf e - 1) (by omega) (by omega)
      have hj' : P.cellsOf e - 1 < (R (len - 1)).length := by rw [hRl _ (by omega)]; omega
      rw [List.getElem?_eq_getElem hj'] at h1
      have h2 := (Array.getElem?_eq_some_iff.1 h1).1
      have h3 : (len - 1) * P.cellsOf e + P.cellsOf e = len * P.cellsOf e := by rw [← Nat.succ_mul]; congr 1; omega
      omega
    refine ⟨a.block, a.off, c, tt, fr, by rw [← hs], hh, by simpa using hle, ?_⟩
    have hfl := hrows.flat
    simp only [List.length_map, List.length_range] at hfl
    apply List.ext_getElem?
    intro q
    by_cases hq : q < len * P.cellsOf e
    · have hq1 : q / P.cellsOf e < len := Nat.div_lt_of_lt_mul (by rw [Nat.mul_comm]; exact hq)
      have hq2 := Nat.mod_lt q hpos
      have hq3 : q / P.cellsOf e * P.cellsOf e + q % P.cellsOf e = q := by rw [Nat.mul_comm]; exact Nat.div_add_mod _ _
      have h1 := at_ _ _ hq1 hq2
      rw [hq3] at h1
      have h2 := hrows.at (i := q / P.cellsOf e) (r := R (q / P.cellsOf e)) (by simp [hq1])
      have h3 : ((List.range len).map R).flatten[q]? = (R (q / P.cellsOf e))[q % P.cellsOf e]? := by
        rw [← h2, List.getElem?_take_of_lt hq2, List.getElem?_drop, hq3]
      rw [h3, ← h1, Array.getElem?_toList, Array.getElem?_extract]
      simp only [List.length_map, List.length_range]
      rw [if_pos (by omega)]
    · rw [List.getElem?_eq_none (by rw [Array.length_toList, Array.size_extract]; simp; omega), List.getElem?_eq_none (by omega)]
  · obtain ⟨i, hi, rfl⟩ := List.mem_map.1 hr
    exact (hR i (List.mem_range.1 hi)).2
theorem open_rd {r : Reach} {base : Nat} {t e : TypeId} {v : Value} {d : DataW H} {p : List MemPlace} (ht : P.underlying t = some (.slice e)) (hpos : 0 < P.cellsOf e) (hval : Value.okWide P w r base t v) (hd : DataW.Trod enc P w 0 spare held t v d p) :
    ∃ rows, SlR (heapOf w) (P.cellsOf e) v rows ∧ ∀ r ∈ rows, Rd enc P w spare held e r := by
  obtain ⟨a, n, c, rfl⟩ := Go.WideShapes.okWide_slice ht hval
  obtain ⟨k, hk⟩ := hd
  obtain ⟨v, rows, h1, h2, h3⟩ := rd_slice ht hpos ⟨k, _, hk⟩
  obtain rfl : Value.slice a n c = v := by simpa [Value.cells] using h1
  exact ⟨rows, h2, h3⟩
end Go.Proofs.YtllopddcpkhfjaaDoor
