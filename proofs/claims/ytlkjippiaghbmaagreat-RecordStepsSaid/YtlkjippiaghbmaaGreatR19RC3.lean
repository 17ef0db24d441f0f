/- The texts of this claim, put together. -/
import Derived.Test.YtlkjippiaghbmaaGreatR19RC2
import Derived.Test.YtlkjippiaghbmaaGreatRows
import Derived.ReadAgain
import Derived.ChangeReads
import Derived.ChangeBears
import Derived.RowKit3
import Derived.ChangeSame
import Derived.OpenShut
import Derived.Deep.Slices
import Derived.WalkKit
import Derived.ProofKit
import Derived.ChangeMaps5
import Derived.Lib.UnsafeStr
/- What the contracts share: wraps, measures, fresh blocks. -/
set_option linter.unusedSimpArgs false
set_option linter.unusedVariables false
namespace Go.Proofs.YtlkjippiaghbmaaGreat
open Go
theorem i64_wrap {x : Int} (h1 : -9223372036854775808 ≤ x) (h2 : x ≤ 9223372036854775807) : IntKind.i64.wrap x = x := IntWalk.i64_in _ ⟨h1, h2⟩
def upTo (n : Nat) (i : Nat) : List Value → PH → Nat := fun vs _ => match vs[i]? with
  | some (.int _ j) => n - j.toNat
  | _ => 0
def Fresh (h : PH) (F : List Nat) : Prop := ∀ b ∈ F, h b = none
theorem Fresh.one {h : PH} {a : Nat} (ha : h a = none) : Fresh h [a] := fun b hb => by simp at hb; subst hb; exact ha
theorem Ext.none {h h1 : PH} (u : Ext h h1) {b : Nat} (hb : h1 b = none) : h b = none := by
  cases e : h b with
  | none => rfl
  | some o => rw [u.get e] at hb; cases hb
theorem Fresh.grow {h h1 : PH} {F F' : List Nat} (f : Fresh h F) (u : Ext h h1) (hg : ∀ b ∈ F', b ∈ F ∨ h1 b = none) : Fresh h F' := fun b hb => by
  rcases hg b hb with h1 | h1
  · exact f b h1
  · exact u.none h1
theorem Fresh.of {h h1 : PH} {F : List Nat} (f : Fresh h1 F) (u : Ext h h1) : Fresh h F := fun b hb => u.none (f b hb)
theorem Ext.trans {h h1 h2 : PH} (u : Ext h h1) (v : Ext h1 h2) : Ext h h2 := Upd.trans u v
theorem Ext.fresh {h h1 h2 : PH} {F : List Nat} (u : Ext h h1) (v : Upd F h1 h2) (f : Fresh h F) : Ext h h2 := fun b o hb _ =>
  v b o (u.get hb) fun hm => by rw [f b hm] at hb; cases hb
theorem OwnR.ext {h h' : PH} {e : TypeId} {size : Nat} {v : Value} {rows : List (List Value)} {F : List Nat} (H : OwnR h e size v rows F) (u : Ext h h') : OwnR h' e size v rows F := H.upd u (by simp)
theorem popO_pure {α : Type} {v : α} {k : α → Prop} (hk : k v) : popO (SemP PG (pure v)) k := hk
theorem u64_wrap {x : Int} (h1 : 0 ≤ x) (h2 : x < 18446744073709551616) : IntKind.u64.wrap x = x := by
  unfold IntKind.wrap
  simp [IntKind.signed, IntKind.bits]
  omega
theorem u8_wrap (x : Int) : IntKind.u8.wrap x = x % 256 := by
  unfold IntKind.wrap
  simp [IntKind.signed, IntKind.bits]
theorem yV_undef : yV undef = none := (rfl)
theorem gopV_none {X : (Value → PH → Prop) → Prop} {h : PH} {kv : Value → PH → Prop} {w : Bool} : gopV none w X h kv = kv undef h := by simp [gopV]
end Go.Proofs.YtlkjippiaghbmaaGreat
/- From a rule for a law's call to its row: the whole memory as the part; what a reading tells; nothing that was there turns. -/
set_option linter.unusedSimpArgs false
set_option linter.unusedVariables false
namespace Go.Proofs.YtlkjippiaghbmaaGreat
open Go Go.RowKit Go.ChangeShapes

def heapOf (W : World) : PH := fun b => W.heap[b]?
theorem heapOf_sub (W : World) : Sub (heapOf W) W := fun _ _ h => h
/-- All that was there is as it was. -/
structure Kept (W W' : World) : Prop where
  os : W'.os = W.os
  output : W'.output = W.output
  heap : ∀ b, b < W.heap.size → W'.heap[b]? = W.heap[b]?
theorem calls_kept {P : Program} {f : FuncId} {args : Array Value} {W : World} (H : CallsH P f args (heapOf W) fun v h' => v = .bool true ∧ Ext (heapOf W) h') (he : enters P f = true := by kernel_rfl) :
    Calls P f args W fun e w' => e = .returned (.bool true) ∧ Kept W w' := by
  refine (H.calls he W (heapOf_sub W)).mono ?_
  rintro e w' ⟨v, h', rfl, ⟨rfl, hx⟩, hs, hf⟩
  refine ⟨rfl, hf.os, hf.output, fun b hb => ?_⟩
  cases e : W.heap[b]? with
  | none => simp at e; omega
  | some o => exact hs b o (hx.get e)
theorem Kept.cell {W W' : World} (K : Kept W W') (a : Addr) (h : a.block < W.heap.size) : W'.cell? a = W.cell? a := by
  unfold World.cell?; rw [K.heap _ h]
theorem Kept.frozen {W W' : World} (K : Kept W W') (a : Addr) (h : a.block < W.heap.size) : W'.frozen? a = W.frozen? a := by
  unfold World.frozen?; rw [K.heap _ h]
theorem Kept.sameAt {W W' : World} (K : Kept W W') (p : MemPlace) (h : p.block < W.heap.size) : W.sameAt W' p := by
  cases p with
  | cell b off => exact K.cell _ h
  | map b => exact K.heap _ h
theorem Kept.but {W W' : World} (K : Kept W W') (may : MemPlace → Prop) : W.keptBut W' may := by
  refine ⟨K.os, K.output, fun i hi => ?_⟩
  rw [K.heap i hi]
  cases W.heap[i]? with
  | none => rfl
  | some o =>
    cases o with
    | cells c t fr => exact ⟨rfl, rfl, rfl, fun _ _ => rfl⟩
    | map es clock => exact .inr ⟨rfl, rfl⟩
    | _ => rfl
theorem trodAll_carry {H : Type} {enc : TypeId × Value → H} {P : Program} {w w' : World} {base : Nat} {spare : Nat → Bool} {held : Bool} : ∀ {ts : List TypeId} {vs : List Value} {ds : List (DataW H)} {ps : List MemPlace},
    DataW.TrodAll enc P w base spare held ts vs ds ps → (∀ p ∈ ps, w.sameAt w' p) → DataW.TrodAll enc P w' base spare held ts vs ds ps
  | [], [], [], _, h, _ => h
  | _ :: _, _ :: _, _ :: _, _, ⟨p, q, ⟨n, h1⟩, h2, e⟩, hs => ⟨p, q, ⟨n, DataW.trod_carry n _ _ _ h1 fun x hx => hs x (by rw [e]; exact List.mem_append_left _ hx)⟩, trodAll_carry h2 (fun x hx => hs x (by rw [e]; exact List.mem_append_right _ hx)), e⟩

theorem post_of_kept {H : Type} {enc : TypeId × Value → H} {P : Program} {f : Func} {s : ChangeSpec} {apart fresh handsOn again : Bool} {W W' : World} {args : Array Value} {ds gs : List (DataW H)} {before : List MemPlace}
    {T : TypeId → Prop} (KP : Kids P T) (full : ∀ t e, T t → P.underlying t = some (.slice e) → 0 < P.cellsOf e) (hT : ∀ t ∈ f.params.toList, T t) {tb : TypeId} (hb : P.underlying tb = some .bool) (hr : f.resultTypes = #[tb])
    (hs : s.vars = []) (hW : DataW.Whole enc P f.params.toList s.vars apart W args.toList ds gs before) (hK : Kept W W')
    (e1 : (s.fn H (ds ++ gs)).results = [.lit (.bool true)]) (e2 : (s.fn H (ds ++ gs)).args = ds) (e3 : (s.fn H (ds ++ gs)).vars = []) :
    s.post enc P f apart fresh handsOn again W args (.bool true) W' := by
  have hlt := fun p hp => hW.lt p hp
  have hW' := hW
  obtain ⟨pa, pv, hA, hV, rfl, hz, hn⟩ := hW'
  rw [hs] at hV
  obtain ⟨rfl, rfl⟩ := trodVars_none hV
  simp only [List.append_nil] at *
  have hargs : ∀ sp : Nat → Bool, (∀ p ∈ pa, sp p.block = true) → DataW.TrodAll enc P W' 0 sp true f.params.toList args.toList ds pa := fun sp hsp =>
    trodAll_carry (DataW.TrodAll.respare KP full hT hA hsp) fun p hp => hK.sameAt p (hlt p hp)
  have hres : ∀ (b : Nat) (sp : Nat → Bool) (hd : Bool), DataW.TrodAll enc P W' b sp hd f.resultTypes.toList ((Value.bool true).resultList f.resultTypes.size) (s.fn H ds).results [] := fun b sp hd => by
    rw [e1, hr]; exact trodAll_cons_mk (shut_bool hb _) trodAll_mk0
  have hvars : ∀ sp : Nat → Bool, DataW.TrodVars enc P W' sp s.vars (s.fn H ds).vars [] := fun sp => by rw [e3, hs]; rfl
  have hold : ∀ p ∈ pa, (fun b => decide (b < W.heap.size)) p.block = true := fun p hp => by simpa using hlt p hp
  refine ⟨ds, [], pa, [], pa, [], hW, by simpa using hres _ _ _, by simpa [e2] using hargs _ hold, by simpa using hvars _, World.keptBut_mono (fun p hp => ⟨hp, by simp [hp]⟩) (hK.but (· ∈ pa)), fun _ => ?_⟩
  refine ⟨ok_one hr rfl (okWide_bool_mk hb _), _, _, ([] ++ pa) ++ [], ⟨[] ++ pa, [], trodAll_append (hargs _ (fun _ _ => rfl)) (hres _ _ _), hvars _, rfl, ?_, ?_⟩, ?_⟩
  · intro b off hp
    have hp' : MemPlace.cell b off ∈ pa := by simpa using hp
    rw [hK.frozen ⟨b, off, none⟩ (hlt _ hp')]
    exact hz b off hp'
  · intro ha
    simpa using hn ha
  · intro p hp _
    simpa using hp

/-! ### what a reading tells -/
variable {H : Type} {enc : TypeId × Value → H} {P : Program} {w : World} {spare : Nat → Bool} {held : Bool}
def Rd (enc : TypeId × Value → H) (P : Program) (w : World) (spare : Nat → Bool) (held : Bool) (t : TypeId) (cs : List Value) : Prop := ∃ n x, DataW.trod enc P w 0 spare held n t cs = some x
theorem rd_int {t : TypeId} {k : IntKind} {cs : List Value} (ht : P.underlying t = some (.int k)) (h : Rd enc P w spare held t cs) : ∃ n, cs = [.int k n] ∧ (Lit.int k n).wf = true := by
  obtain ⟨n, x, h⟩ := h
  obtain ⟨i, rfl, _, hw⟩ := DataW.trod_int ht h
  exact ⟨i, rfl, hw⟩
theorem rd_bool {t : TypeId} {cs : List Value} (ht : P.underlying t = some .bool) (h : Rd enc P w spare held t cs) : ∃ b, cs = [.bool b] := by
  obtain ⟨n, x, h⟩ := h
  obtain ⟨i, rfl, _⟩ := DataW.trod_bool ht h
  exact ⟨i, rfl⟩
theorem rd_string {t : TypeId} {cs : List Value} (ht : P.underlying t = some .string) (h : Rd enc P w spare held t cs) : ∃ s : ByteArray, cs = [.string s] ∧ s.size ≤ maxLen := by
  obtain ⟨n, x, h⟩ := h
  obtain ⟨i, rfl, _, hw⟩ := DataW.trod_string ht h
  exact ⟨i, rfl, hw⟩
theorem rd_struct {t : TypeId} {fs : Array Field} {cs : List Value} (ht : P.underlying t = some (.struct fs)) (h : Rd enc P w spare held t cs) :
    cs.length = P.cellsOf t ∧ ∀ (i : Nat) (f : Field), fs[i]? = some f → Rd enc P w spare held f.type ((cs.drop f.offset).take (P.cellsOf f.type)) := by
  obtain ⟨n, x, h⟩ := h
  obtain ⟨xs, m, rfl, _, hl, hx, hf⟩ := DataW.trod_struct ht h
  refine ⟨hl, fun i f hi => ?_⟩
  have h1 := hf i f hi
  have hlt : i < xs.length := by rw [hx]; exact (Array.getElem?_eq_some_iff.1 hi).1
  rw [List.getElem?_eq_getElem hlt] at h1
  exact ⟨m, _, h1⟩
theorem rd_array {t e : TypeId} {n : Nat} {cs : List Value} (ht : P.underlying t = some (.array n e)) (h : Rd enc P w spare held t cs) :
    cs.length = P.cellsOf t ∧ ∀ i, i < n → Rd enc P w spare held e ((cs.drop (i * P.cellsOf e)).take (P.cellsOf e)) := by
  obtain ⟨m, x, h⟩ := h
  cases m with
  | zero => simp [DataW.trod] at h
  | succ m =>
    unfold DataW.trod at h
    rw [ht] at h
    split at h <;> simp_all
    obtain ⟨hl, xs, hp, hd⟩ := h
    intro i hi
    have := mapM_some_get hp i i (by simp [hi])
    have hlt : i < xs.length := by have := mapM_some_length hp; simp at this; omega
    rw [List.getElem?_eq_getElem hlt] at this
    exact ⟨m, _, this⟩
theorem cell_heap {w : World} {a : Addr} {v : Value} (h : w.cell? a = some v) : ∃ c t fr, w.heap[a.block]? = some (.cells c t fr) ∧ a.spot = none ∧ c[a.off]? = some v := by
  unfold World.cell? at h
  split at h
  · rename_i c t fr e
    cases hs : a.spot with
    | none => rw [hs] at h; exact ⟨c, t, fr, e, rfl, by simpa using h⟩
    | some b => rw [hs] at h; simp at h
  · cases h
theorem add_plain {a : Addr} (h : a.spot = none) (n : Nat) : a.add n = ⟨a.block, a.off + n, none⟩ := by
  obtain ⟨b, o, s⟩ := a
  simp only at h
  subst h
  exact plain_add b o n
theorem rd_slice {t e : TypeId} {cs : List Value} (ht : P.underlying t = some (.slice e)) (hpos : 0 < P.cellsOf e) (h : Rd enc P w spare held t cs) :
    ∃ v rows, cs = [v] ∧ SlR (heapOf w) (P.cellsOf e) v rows ∧ ∀ r ∈ rows, Rd enc P w spare held e r := by
  obtain ⟨n, x, h⟩ := h
  rcases Go.Deep.open_slice ht h with ⟨rfl, _⟩ | ⟨a, len, cap, m, k, D, Pl, rfl, hb, hl, hm, hmm, rfl, hx⟩
  · exact ⟨_, [], rfl, OwnR.nil (e := e).slR, by simp⟩
  have hlm : len ≤ m := by rw [hmm]; split <;> omega
  obtain ⟨R, hR⟩ := Go.Deep.choose_lt (α := List Value) (n := len) (p := fun i r => w.cells? 0 (a.add (i * P.cellsOf e)) (P.cellsOf e) = some r ∧ Rd enc P w spare held e r) (fun i hi => by
    obtain ⟨r, h1, h2⟩ := hx i (by omega)
    exact ⟨r, h1, k, _, h2⟩)
  have hrows : Rows (P.cellsOf e) ((List.range len).map R) := fun r hr => by
    obtain ⟨i, hi, rfl⟩ := List.mem_map.1 hr
    exact (World.cells?_some (hR i (List.mem_range.1 hi)).1).2.1
  refine ⟨_, (List.range len).map R, rfl, ⟨hrows, some a, cap, by simp, by simpa using hl, hm, fun hne => ?_, trivial⟩, fun r hr => ?_⟩
  · have hlen : 0 < len := by
      rcases Nat.eq_zero_or_pos len with h0 | h0
      · subst h0; simp at hne
      · exact h0
    have cell : ∀ i j, i < len → j < P.cellsOf e → w.cell? (a.add (i * P.cellsOf e + j)) = (R i)[j]? := fun i j hi hj => by
      rw [← Go.Deep.add_add]; exact (World.cells?_some (hR i hi).1).2.2 j hj
    have hRl : ∀ i, i < len → (R i).length = P.cellsOf e := fun i hi => (World.cells?_some (hR i hi).1).2.1
    have c0 := cell 0 0 hlen hpos
    rw [Nat.zero_mul, Nat.zero_add, show a.add 0 = a by simp [Addr.add], List.getElem?_eq_getElem (by rw [hRl 0 hlen]; exact hpos)] at c0
    obtain ⟨c, tt, fr, hh, hs, _⟩ := cell_heap c0
    have at_ : ∀ i j, i < len → j < P.cellsOf e → c[a.off + (i * P.cellsOf e + j)]? = (R i)[j]? := fun i j hi hj => by
      have h1 := cell i j hi hj
      rw [add_plain hs] at h1
      have hj' : j < (R i).length := by rw [hRl i hi]; exact hj
      rw [List.getElem?_eq_getElem hj'] at h1 ⊢
      obtain ⟨c', _, _, hh', _, h2⟩ := cell_heap h1
      simp only [hh, Option.some.injEq, Obj.cells.injEq] at hh'
      rw [← hh'.1] at h2
      exact h2
    have hle : a.off + len * P.cellsOf e ≤ c.size := by
      have h1 := at_ (len - 1) (P.cellsOf e - 1) (by omega) (by omega)
      have hj' : P.cellsOf e - 1 < (R (len - 1)).length := by rw [hRl _ (by omega)]; omega
      rw [List.getElem?_eq_getElem hj'] at h1
      have h2 := (Array.getElem?_eq_some_iff.1 h1).1
      have h3 : (len - 1) * P.cellsOf e + P.cellsOf e = len * P.cellsOf e := by rw [← Nat.succ_mul]; congr 1; omega
      omega
    refine ⟨a.block, a.off, c, tt, fr, by rw [← hs], hh, by simpa using hle, ?_⟩
    have hfl := hrows.flat
    simp only [List.length_map, List.length_range] at hfl
    apply List.ext_getElem?
    intro q
    by_cases hq : q < len * P.cellsOf e
    · have hq1 : q / P.cellsOf e < len := Nat.div_lt_of_lt_mul (by rw [Nat.mul_comm]; exact hq)
      have hq2 := Nat.mod_lt q hpos
      have hq3 : q / P.cellsOf e * P.cellsOf e + q % P.cellsOf e = q := by rw [Nat.mul_comm]; exact Nat.div_add_mod _ _
      have h1 := at_ _ _ hq1 hq2
      rw [hq3] at h1
      have h2 := hrows.at (i := q / P.cellsOf e) (r := R (q / P.cellsOf e)) (by simp [hq1])
      have h3 : ((List.range len).map R).flatten[q]? = (R (q / P.cellsOf e))[q % P.cellsOf e]? := by
        rw [← h2, List.getElem?_take_of_lt hq2, List.getElem?_drop, hq3]
      rw [h3, ← h1, Array.getElem?_toList, Array.getElem?_extract]
      simp only [List.length_map, List.length_range]
      rw [if_pos (by omega)]
    · rw [List.getElem?_eq_none (by rw [Array.length_toList, Array.size_extract]; simp; omega), List.getElem?_eq_none (by omega)]
  · obtain ⟨i, hi, rfl⟩ := List.mem_map.1 hr
    exact (hR i (List.mem_range.1 hi)).2
theorem open_rd {r : Reach} {base : Nat} {t e : TypeId} {v : Value} {d : DataW H} {p : List MemPlace} (ht : P.underlying t = some (.slice e)) (hpos : 0 < P.cellsOf e) (hval : Value.okWide P w r base t v) (hd : DataW.Trod enc P w 0 spare held t v d p) :
    ∃ rows, SlR (heapOf w) (P.cellsOf e) v rows ∧ ∀ r ∈ rows, Rd enc P w spare held e r := by
  obtain ⟨a, n, c, rfl⟩ := Go.WideShapes.okWide_slice ht hval
  obtain ⟨k, hk⟩ := hd
  obtain ⟨v, rows, h1, h2, h3⟩ := rd_slice ht hpos ⟨k, _, hk⟩
  obtain rfl : Value.slice a n c = v := by simpa [Value.cells] using h1
  exact ⟨rows, h2, h3⟩
end Go.Proofs.YtlkjippiaghbmaaGreat
/- script: what is read of a row. -/
set_option linter.unusedSimpArgs false
set_option linter.unusedVariables false
namespace Go.Proofs.YtlkjippiaghbmaaGreat
open Go Go.RowKit Go.ChangeShapes
theorem kidsPG : Kids PG (· < PG.types.size) := kids_rows (by kernel_rfl) (by kernel_rfl)
theorem fullPG : ∀ t e, t < PG.types.size → PG.underlying t = some (.slice e) → 0 < PG.cellsOf e := slices_full_of PG (by kernel_rfl)
theorem open_any {H : Type} {enc : TypeId × Value → H} {P : Program} {w : World} {spare : Nat → Bool} {held : Bool} {t : TypeId} {v : Value} {d : DataW H} {p : List MemPlace} (hd : DataW.Trod enc P w 0 spare held t v d p) : Rd enc P w spare held t v.cells.toList := by
  obtain ⟨k, hk⟩ := hd; exact ⟨k, _, hk⟩
theorem wf_u64 {n : Int} (h : (Lit.int .u64 n).wf = true) : 0 ≤ n ∧ n < 18446744073709551616 := by
  simp [Lit.wf, IntKind.min, IntKind.max, IntKind.signed, IntKind.bits] at h
  omega
theorem wf_i64 {n : Int} (h : (Lit.int .i64 n).wf = true) : -9223372036854775808 ≤ n ∧ n < 9223372036854775808 := by
  simp [Lit.wf, IntKind.min, IntKind.max, IntKind.signed, IntKind.bits] at h
  omega
end Go.Proofs.YtlkjippiaghbmaaGreat
/- wire: strings.Builder, the writer. -/
set_option linter.unusedSimpArgs false
set_option linter.unusedVariables false
namespace Go.Proofs.YtlkjippiaghbmaaGreat
open Go
set_option maxRecDepth 20000
theorem neqPtrSelf {h : PH} {x y : Operand} (a : Addr) : SemE PG h (binS .neq T_p_strings_Builder x y (.pointer (some a)) (.pointer (some a))) = some (.bool false) := by
  show SemE PG h (Op.equalIn (9999 + 1) T_p_strings_Builder (.pointer (some a)) (.pointer (some a)) >>= fun b => (pure (Value.bool (!b)) : Sem Value)) = _
  rw [semE_bind]
  have : SemE PG h (Op.equalIn (9999 + 1) T_p_strings_Builder (.pointer (some a)) (.pointer (some a))) = some true := by
    rw [Op.equalIn, semE_und T_p_strings_Builder.und]
    simp only [sizeOf_bind]
    rw [semE_info T_strings_Builder.info]
    simp [T_strings_Builder.size, sameAddr, SemE, pure]
  rw [this]; rfl
theorem semE_viewAt {h : PH} {r : Nat} {x : TypeId × Nat} {α : Type} (hs : shapeH h r = some (some x)) (f : Option (Addr × TypeId) → Sem α) : SemE PG h (viewAt r >>= f) = SemE PG h (f none) := by
  rw [semE_bind]
  have : SemE PG h (viewAt r) = some none := by
    show (shapeH h r).bind _ = _
    rw [hs]; rfl
  rw [this]; rfl
theorem semE_seenAt {h : PH} {a : Addr} {x : TypeId × Nat} {α : Type} (hs : shapeH h a.block = some (some x)) (f : Addr → Sem α) : SemE PG h (Conv.seenAt a >>= f) = SemE PG h (f a) := by
  rw [semE_bind]
  have : SemE PG h (Conv.seenAt a) = some a := by
    unfold Conv.seenAt
    rw [semE_viewAt hs]; rfl
  rw [this]; rfl
theorem semE_cellsIn {h : PH} {r : Nat} {x : TypeId × Nat} {α : Type} (hs : shapeH h r = some (some x)) (f : Option Nat → Sem α) : SemE PG h (cellsIn r >>= f) = SemE PG h (f (some x.2)) := by
  rw [semE_bind]
  have : SemE PG h (cellsIn r) = some (some x.2) := by
    show (shapeH h r).bind _ = _
    rw [hs]; rfl
  rw [this]; rfl
theorem to_unsafe {h : PH} {a : Nat} {c : Array Value} (ha : h a = some (.cells c T_wire_Writer (0, 0))) (hc : 1 < c.size) : SemE PG h (convert T_p_strings_Builder T_unsafe_Pointer (.pointer (some ⟨a, 1, none⟩))) = some (.pointer (some ⟨a, 1, none⟩)) := by
  have hs : shapeH h a = some (some (T_wire_Writer, c.size)) := by unfold shapeH; rw [ha]
  show SemE PG h (underlying T_p_strings_Builder >>= _) = _
  rw [semE_und T_p_strings_Builder.und]
  show SemE PG h (underlying T_unsafe_Pointer >>= _) = _
  rw [semE_und T_unsafe_Pointer.und]
  show SemE PG h (underlying T_p_strings_Builder >>= _) = _
  rw [semE_und T_p_strings_Builder.und]
  show SemE PG h (underlying T_unsafe_Pointer >>= _) = _
  rw [semE_und T_unsafe_Pointer.und]
  show SemE PG h (Conv.seenAt ⟨a, 1, none⟩ >>= _) = _
  rw [semE_seenAt (a := ⟨a, 1, none⟩) hs]
  show SemE PG h (cellsIn a >>= _) = _
  rw [semE_cellsIn hs]
  have h1 : ¬ (1 ≥ c.size) := by omega
  simp only [sizeOf_bind]
  rw [semE_info T_strings_Builder.info]
  simp [T_strings_Builder.size, h1, SemE, pure]
theorem from_unsafe {h : PH} {a : Nat} {c : Array Value} (ha : h a = some (.cells c T_wire_Writer (0, 0))) (hc : c.size = 3) : SemE PG h (convert T_unsafe_Pointer T_p_strings_Builder (.pointer (some ⟨a, 1, none⟩))) = some (.pointer (some ⟨a, 1, none⟩)) := by
  have hs : shapeH h a = some (some (T_wire_Writer, c.size)) := by unfold shapeH; rw [ha]
  rw [hc] at hs
  show SemE PG h (underlying T_unsafe_Pointer >>= _) = _
  rw [semE_und T_unsafe_Pointer.und]
  show SemE PG h (underlying T_p_strings_Builder >>= _) = _
  rw [semE_und T_p_strings_Builder.und]
  show SemE PG h (underlying T_unsafe_Pointer >>= _) = _
  rw [semE_und T_unsafe_Pointer.und]
  show SemE PG h (underlying T_p_strings_Builder >>= _) = _
  rw [semE_und T_p_strings_Builder.und]
  show SemE PG h (Conv.seenAt ⟨a, 1, none⟩ >>= _) = _
  rw [semE_seenAt (a := ⟨a, 1, none⟩) hs]
  have hv : SemE PG h (variablesAt ⟨a, 1, none⟩ T_strings_Builder 1) = some true := by
    show (shapeH h a).bind _ = _
    rw [hs]
    kernel_rfl
  simp only [sizeOf_bind]
  rw [semE_info T_strings_Builder.info]
  simp only [T_strings_Builder.size]
  rw [semE_bind, hv]
  simp [SemE, pure]
theorem NoEscape_ok {h : PH} {v : Value} {k : Value → PH → Prop} (hk : k v h) : CallsH PG id_internal_abi_NoEscape #[v] h k :=
  CallsH.entry (v := v) (by kernel_rfl) hk
/-! ### a writer in memory: its error, its bytes -/
structure WAt (h : PH) (a : Nat) (e : Int) (bs : List UInt8) (F : List Nat) : Prop where
  here : ∃ p v G, h a = some (.cells #[.int .i64 e, p, v] T_wire_Writer (0, 0)) ∧ (p = .pointer none ∨ p = .pointer (some ⟨a, 1, none⟩)) ∧ OwnR h T_uint8 1 v (bs.map bcell) G ∧ F = a :: G ∧ a ∉ G
theorem WAt.known {h : PH} {a : Nat} {e : Int} {bs : List UInt8} {F : List Nat} (H : WAt h a e bs F) : ∀ b ∈ F, h b ≠ none := by
  obtain ⟨p, v, G, ha, hp, hO, rfl, hn⟩ := H
  intro b hb
  rcases List.mem_cons.1 hb with rfl | hb
  · rw [ha]; simp
  · exact hO.known b hb
theorem WAt.upd {h h' : PH} {a : Nat} {e : Int} {bs : List UInt8} {F G : List Nat} (H : WAt h a e bs F) (u : Upd G h h') (hd : ∀ b ∈ F, b ∉ G) : WAt h' a e bs F := by
  obtain ⟨p, v, G', ha, hp, hO, rfl, hn⟩ := H
  exact ⟨p, v, G', u.get ha (hd a (by simp)), hp, hO.upd u (fun b hb => hd b (by simp [hb])), rfl, hn⟩
theorem WAt.ext {h h' : PH} {a : Nat} {e : Int} {bs : List UInt8} {F : List Nat} (H : WAt h a e bs F) (u : Ext h h') : WAt h' a e bs F := H.upd u (by simp)
/-- What a step of a writer leaves. -/
def WNext (h : PH) (a : Nat) (F : List Nat) (e : Int) (bs : List UInt8) (k : PH → Prop) : Prop := ∀ h' F', WAt h' a e bs F' → Upd F h h' → (∀ b ∈ F', b ∈ F ∨ h b = none) → k h'

theorem copyCheck_ok {h : PH} {a : Nat} {m p v : Value} (ha : h a = some (.cells #[m, p, v] T_wire_Writer (0, 0))) (hp : p = .pointer none ∨ p = .pointer (some ⟨a, 1, none⟩)) {k : Value → PH → Prop}
    (hk : ∀ h', h' a = some (.cells #[m, .pointer (some ⟨a, 1, none⟩), v] T_wire_Writer (0, 0)) → Upd [a] h h' → (∀ b, b ≠ a → h' b = h b) → k (.tuple #[]) h') : CallsH PG id_strings_Builder_copyCheck #[.pointer (some ⟨a, 1, none⟩)] h k := by
  apply strings_Builder_copyCheck.call
  unfold strings_Builder_copyCheck
  have hc : cellH h ⟨a, 1, none⟩ = some p := by simp [cellH, ha]
  simp only [T_strings_Builder.f0, T_p_strings_Builder.load, hc, popO_some, bindH_eq, condV_bool, condV_true, condV_false, yV_bool, gopV_tt, gopV_ff, gopV_tf, gopV_ft, pickV_t, pickV_f, pickV_bool, nilS_ptr, add_eq, sub_eq, mul_eq, lss_eq, leq_eq, gtr_eq, geq_eq, not_eq, minI_eq, maxI_eq, extract_0, extract_1, extract_2, eqlI, neqI, makeFunc_eq, decide_true, decide_false, if_true, if_false, Bool.false_eq_true, Bool.not_true, Bool.not_false, reduceIte, List.getElem?_toArray, List.getElem?_cons_zero, List.getElem?_cons_succ, Option.isSome_none, List.length_map]
  rcases hp with rfl | rfl
  · simp only [eqlPtrNil T_p_strings_Builder.und, Option.isNone_none, popO_some, bindH_eq, condV_bool, condV_true, condV_false, yV_bool, gopV_tt, gopV_ff, gopV_tf, gopV_ft, pickV_t, pickV_f, pickV_bool, nilS_ptr, add_eq, sub_eq, mul_eq, lss_eq, leq_eq, gtr_eq, geq_eq, not_eq, minI_eq, maxI_eq, extract_0, extract_1, extract_2, eqlI, neqI, makeFunc_eq, decide_true, decide_false, if_true, if_false, Bool.false_eq_true, Bool.not_true, Bool.not_false, reduceIte, List.getElem?_toArray, List.getElem?_cons_zero, List.getElem?_cons_succ, Option.isSome_none, List.length_map]
    refine SemE.semH (to_unsafe ha (by simp)) ?_
    refine NoEscape_ok ?_
    refine SemE.semH (from_unsafe ha (by simp)) ?_
    refine store_cell T_p_strings_Builder.und rfl ha (by simp) rfl T_p_strings_Builder.info T_p_strings_Builder.size ?_
    exact hk _ set_same (Upd.set (by simp)) (fun b hb => set_other hb)
  · simp only [eqlPtrNil T_p_strings_Builder.und, Option.isNone_some, neqPtrSelf, T_strings_Builder.f0, T_p_strings_Builder.load, hc, popO_some, bindH_eq, condV_bool, condV_true, condV_false, yV_bool, gopV_tt, gopV_ff, gopV_tf, gopV_ft, pickV_t, pickV_f, pickV_bool, nilS_ptr, add_eq, sub_eq, mul_eq, lss_eq, leq_eq, gtr_eq, geq_eq, not_eq, minI_eq, maxI_eq, extract_0, extract_1, extract_2, eqlI, neqI, makeFunc_eq, decide_true, decide_false, if_true, if_false, Bool.false_eq_true, Bool.not_true, Bool.not_false, reduceIte, List.getElem?_toArray, List.getElem?_cons_zero, List.getElem?_cons_succ, Option.isSome_none, List.length_map]
    exact hk _ ha Upd.refl (fun _ _ => rfl)
theorem byte_lit (x : Int) : SemA PG (Instr.buildSlice T_sl_uint8 1 #[(0, .int .u8 x)]) = some (.cells #[.int .u8 x] T_uint8, fun r => pure (.slice (some ⟨r, 0, none⟩) 1 1)) := by kernel_rfl
/-- append(b.buf, ..) and stored. -/
theorem buf_app {h : PH} {a : Nat} {e : Int} {p v x : Value} {bs ys : List UInt8} {G : List Nat} {t2 e2 : TypeId} (hu2 : PG.underlying t2 = some (.slice e2)) (ha : h a = some (.cells #[.int .i64 e, p, v] T_wire_Writer (0, 0))) (hp : p = .pointer none ∨ p = .pointer (some ⟨a, 1, none⟩)) (hO : OwnR h T_uint8 1 v (bs.map bcell) G) (hn : a ∉ G)
    (hx : SlR h 1 x (ys.map bcell)) (hl : bs.length + ys.length ≤ 140737488355328) {k : PH → Prop} (hk : WNext h a (a :: G) e (bs ++ ys) k) :
    SemH PG (Builtin.append_ #[T_sl_uint8, t2] T_sl_uint8 #[v, x]) h fun v' h' => SemH PG (storeS T_sl_uint8 (.pointer (some ⟨a, 2, none⟩)) v') h' fun _ h'' => k h'' := by
  refine append_own T_sl_uint8.und hu2 T_uint8.info T_uint8.size T_uint8.bytes T_uint8.zero rfl (by decide) hO hx (bcell.isCell _) (by simp; omega) ?_
  intro v2 h2 F2 hO2 u2 k2 _
  rw [← List.map_append] at hO2
  have ha2 := u2.get ha hn
  have hn2 : a ∉ F2 := fun hm => by
    rcases k2 a hm with h1 | h1
    · exact hn h1
    · rw [ha] at h1; cases h1
  refine store_cell T_sl_uint8.und rfl ha2 (by simp) ?_ T_sl_uint8.info T_sl_uint8.size ?_
  · obtain ⟨_, _, rfl, -⟩ := hO2.slR.here; rfl
  · refine hk _ (a :: F2) ⟨p, v2, F2, set_same, hp, hO2.upd (Upd.set (F := [a]) (by simp)) (fun b hb => by simp; rintro rfl; exact hn2 hb), rfl, hn2⟩ ((u2.mono fun b hb => .inl (by simp [hb])).trans (Upd.set (by simp))) (fun b hb => ?_)
    rcases List.mem_cons.1 hb with rfl | hb
    · exact .inl (by simp)
    · rcases k2 b hb with h1 | h1
      · exact .inl (by simp [h1])
      · exact .inr h1
theorem WriteByte_ok {h : PH} {a : Nat} {e : Int} {bs : List UInt8} {F : List Nat} (hW : WAt h a e bs F) (hl : bs.length + 1 ≤ 140737488355328) (x : UInt8) {k : Value → PH → Prop} (hk : WNext h a F e (bs ++ [x]) (k .nilIface)) :
    CallsH PG id_strings_Builder_WriteByte #[.pointer (some ⟨a, 1, none⟩), .int .u8 x.toNat] h k := by
  obtain ⟨p, v, G, ha, hp, hO, rfl, hn⟩ := hW
  apply strings_Builder_WriteByte.call
  unfold strings_Builder_WriteByte
  refine copyCheck_ok ha hp fun h1 ha1 u1 o1 => ?_
  have hc : cellH h1 ⟨a, 2, none⟩ = some v := by simp [cellH, ha1]
  have hO1 := hO.upd u1 (fun b hb hf => by simp at hf; subst hf; exact hn hb)
  simp only [T_strings_Builder.f1, T_sl_uint8.load, hc, byte_lit, popO_some, bindH_eq, condV_bool, condV_true, condV_false, yV_bool, gopV_tt, gopV_ff, gopV_tf, gopV_ft, pickV_t, pickV_f, pickV_bool, nilS_ptr, add_eq, sub_eq, mul_eq, lss_eq, leq_eq, gtr_eq, geq_eq, not_eq, minI_eq, maxI_eq, extract_0, extract_1, extract_2, eqlI, neqI, makeFunc_eq, decide_true, decide_false, if_true, if_false, Bool.false_eq_true, Bool.not_true, Bool.not_false, reduceIte, List.getElem?_toArray, List.getElem?_cons_zero, List.getElem?_cons_succ, Option.isSome_none, List.length_map]
  intro r hr
  refine popO_pure ?_
  have u2 : Ext h1 (h1.set r (.cells #[.int .u8 x.toNat] T_uint8)) := Upd.new hr
  have s2 : SlR (h1.set r (.cells #[.int .u8 x.toNat] T_uint8)) 1 (.slice (some ⟨r, 0, none⟩) 1 1) ([x].map bcell) := (OwnR.lit (bcell.rows [x]) set_same (by simp) (by decide) (by simp [bcell])).slR
  refine buf_app T_sl_uint8.und (u2.get ha1) (.inr rfl) (hO1.ext u2) hn s2 (by simpa using hl) ?_
  intro h3 F3 hW3 u3 k3
  refine hk _ F3 hW3 ((u1.mono fun b hb => .inl (by simp at hb; simp [hb])).trans (u2.upd.trans u3)) fun b hb => ?_
  rcases k3 b hb with h' | h'
  · exact .inl h'
  · by_cases hba : b = a
    · exact .inl (by simp [hba])
    · have := u2.none h'
      rw [o1 b hba] at this
      exact .inr this
/-- append(b.buf, s...) and stored. -/
theorem buf_str {h : PH} {a : Nat} {e : Int} {p v : Value} {bs ys : List UInt8} {G : List Nat} (ha : h a = some (.cells #[.int .i64 e, p, v] T_wire_Writer (0, 0))) (hp : p = .pointer none ∨ p = .pointer (some ⟨a, 1, none⟩)) (hO : OwnR h T_uint8 1 v (bs.map bcell) G) (hn : a ∉ G)
    (hl : bs.length + ys.length ≤ 140737488355328) {k : PH → Prop} (hk : WNext h a (a :: G) e (bs ++ ys) k) :
    SemH PG (Builtin.append_ #[T_sl_uint8, T_string] T_sl_uint8 #[v, .string (tx ys)]) h fun v' h' => SemH PG (storeS T_sl_uint8 (.pointer (some ⟨a, 2, none⟩)) v') h' fun _ h'' => k h'' := by
  refine append_str T_sl_uint8.und T_string.und T_uint8.info T_uint8.size T_uint8.bytes T_uint8.zero rfl (by decide) hO (by simp; omega) ?_
  intro v2 h2 F2 hO2 u2 k2 _
  rw [← List.map_append] at hO2
  have ha2 := u2.get ha hn
  have hn2 : a ∉ F2 := fun hm => by
    rcases k2 a hm with h1 | h1
    · exact hn h1
    · rw [ha] at h1; cases h1
  refine store_cell T_sl_uint8.und rfl ha2 (by simp) ?_ T_sl_uint8.info T_sl_uint8.size ?_
  · obtain ⟨_, _, rfl, -⟩ := hO2.slR.here; rfl
  · refine hk _ (a :: F2) ⟨p, v2, F2, set_same, hp, hO2.upd (Upd.set (F := [a]) (by simp)) (fun b hb => by simp; rintro rfl; exact hn2 hb), rfl, hn2⟩ ((u2.mono fun b hb => .inl (by simp [hb])).trans (Upd.set (by simp))) (fun b hb => ?_)
    rcases List.mem_cons.1 hb with rfl | hb
    · exact .inl (by simp)
    · rcases k2 b hb with h1 | h1
      · exact .inl (by simp [h1])
      · exact .inr h1
theorem WriteString_ok {h : PH} {a : Nat} {e : Int} {bs ys : List UInt8} {F : List Nat} (hW : WAt h a e bs F) (hl : bs.length + ys.length ≤ 140737488355328) {k : Value → PH → Prop} (hk : WNext h a F e (bs ++ ys) (k (.tuple #[.int .i64 ys.length, .nilIface]))) :
    CallsH PG id_strings_Builder_WriteString #[.pointer (some ⟨a, 1, none⟩), .string (tx ys)] h k := by
  obtain ⟨p, v, G, ha, hp, hO, rfl, hn⟩ := hW
  apply strings_Builder_WriteString.call
  unfold strings_Builder_WriteString
  refine copyCheck_ok ha hp fun h1 ha1 u1 o1 => ?_
  have hc : cellH h1 ⟨a, 2, none⟩ = some v := by simp [cellH, ha1]
  have hO1 := hO.upd u1 (fun b hb hf => by simp at hf; subst hf; exact hn hb)
  simp only [T_strings_Builder.f1, T_sl_uint8.load, hc, T_string.len, tx_size, popO_some, bindH_eq, condV_bool, condV_true, condV_false, yV_bool, gopV_tt, gopV_ff, gopV_tf, gopV_ft, pickV_t, pickV_f, pickV_bool, nilS_ptr, add_eq, sub_eq, mul_eq, lss_eq, leq_eq, gtr_eq, geq_eq, not_eq, minI_eq, maxI_eq, extract_0, extract_1, extract_2, eqlI, neqI, makeFunc_eq, decide_true, decide_false, if_true, if_false, Bool.false_eq_true, Bool.not_true, Bool.not_false, reduceIte, List.getElem?_toArray, List.getElem?_cons_zero, List.getElem?_cons_succ, Option.isSome_none, List.length_map]
  refine buf_str ha1 (.inr rfl) hO1 hn hl ?_
  intro h3 F3 hW3 u3 k3
  refine hk _ F3 hW3 ((u1.mono fun b hb => .inl (by simp at hb; simp [hb])).trans u3) fun b hb => ?_
  rcases k3 b hb with h' | h'
  · exact .inl h'
  · by_cases hba : b = a
    · exact .inl (by simp [hba])
    · rw [o1 b hba] at h'
      exact .inr h'

theorem semE_loadBytes {h : PH} : ∀ (l : List UInt8) (a : Addr) (acc : ByteArray), a.spot = none → (∀ j x, l[j]? = some x → cellH h (a.add j) = some (.int .u8 x.toNat)) → SemE PG h (loadBytes a acc l.length) = some ⟨acc.data ++ l.toArray⟩
  | [], a, acc, _, _ => by show some acc = _; simp
  | x :: xs, a, acc, hsp, hc => by
    have h0 := hc 0 x rfl
    have ha0 : a.add 0 = a := by obtain ⟨b, o, w⟩ := a; cases w <;> simp [Addr.add]
    rw [ha0] at h0
    show (cellH h a).bind _ = _
    rw [h0, Option.bind_some]
    show SemE PG h (loadBytes (a.add 1) (acc.push ((x.toNat : Int).toNat.toUInt8)) xs.length) = _
    rw [semE_loadBytes xs (a.add 1) _ (by obtain ⟨b, o, w⟩ := a; simp at hsp; subst hsp; rw [plain_add]) fun j y hy => ?_]
    · congr 1
      apply ByteArray.ext
      show (acc.push _).data ++ xs.toArray = _
      rw [ByteArray.data_push]
      apply Array.ext'
      simp
    · have := hc (j + 1) y (by simpa using hy)
      have e : (a.add 1).add j = a.add (j + 1) := by
        obtain ⟨b, o, w⟩ := a
        simp at hsp
        subst hsp
        rw [plain_add, plain_add, plain_add]; congr 1; omega
      rw [e]; exact this
theorem unsafeStr {h : PH} {g : Nat} {cs : Array Value} {bs : List UInt8} (hb : h g = some (.cells cs T_uint8 (0, 0))) (hle : bs.length ≤ cs.size) (hcs : cs.toList.take bs.length = bs.map fun b => Value.int .u8 b.toNat) (hne : bs ≠ []) (hmax : bs.length ≤ maxL) {k : Value → PH → Prop}
    (hk : ∀ h', Upd [g] h h' → k (.string (tx bs)) h') : SemH PG (Builtin.unsafeString_ #[T_p_uint8, T_int] T_string #[.pointer (some ⟨g, 0, none⟩), .int .i64 bs.length]) h k := by
  have hl : bs.length ≠ 0 := by simpa using hne
  have h63 : ¬ ((bs.length : Int) > IntKind.i64.max) := by
    have : IntKind.i64.max = 9223372036854775807 := rfl
    unfold maxL at hmax
    omega
  have hneg : ¬ (bs.length : Int) < 0 := by omega
  have hz : ¬ (bs.length : Int) = 0 := by omega
  have hdef : Builtin.unsafeString_ #[T_p_uint8, T_int] T_string #[.pointer (some ⟨g, 0, none⟩), .int .i64 bs.length] =
      (do
        let n ← asInt (.int .i64 bs.length)
        if n < 0 then runtimePanic (.error "unsafe.String: len out of range")
        if n > IntKind.i64.max then unsupported (.unsafePointer "String: a length above the largest int")
        if n = 0 then pure (.string .empty)
        else if ← variablesAt ⟨g, 0, none⟩ (← elemOf T_p_uint8) n.toNat then do
          let s ← loadBytes ⟨g, 0, none⟩ .empty n.toNat
          freeze ⟨g, 0, none⟩ n.toNat
          pure (.string s)
        else unsupported (.unsafePointer "String: not so many bytes at ptr")) := rfl
  rw [hdef]
  have hs : shapeH h g = some (some (T_uint8, cs.size)) := by unfold shapeH; rw [hb]
  have hv : SemE PG h (variablesAt ⟨g, 0, none⟩ T_uint8 bs.length) = some true := by
    show (shapeH h g).bind _ = _
    rw [hs]
    have hc1 : PG.cellsOf T_uint8 = 1 := by kernel_rfl
    have := Go.Lib.liesAt_bytes (P := PG) hc1 (cs.size / PG.cellsOf T_uint8) bs.length (by rw [hc1]; simpa using hle)
    show some (liesAt PG PG.depth T_uint8 (cs.size / PG.cellsOf T_uint8) 0 T_uint8 bs.length) = some true
    rw [this]
  have hlb := semE_loadBytes (h := h) bs ⟨g, 0, none⟩ .empty rfl (fun j x hx => by
    rw [plain_add]
    unfold cellH
    simp only [hb, Nat.zero_add]
    have hj : j < bs.length := (List.getElem?_eq_some_iff.1 hx).1
    have : (cs.toList.take bs.length)[j]? = some (.int .u8 x.toNat) := by rw [hcs, List.getElem?_map, hx]; rfl
    rw [List.getElem?_take, if_pos hj] at this
    simpa using this)
  have helem : SemE PG h (elemOf T_p_uint8) = some T_uint8 := by kernel_rfl
  simp only [asInt, asIntOf, pure_bind, map_pure, hneg, h63, hz, if_false, Int.toNat_natCast]
  refine semH_of_semE helem ?_
  refine semH_of_semE hv ?_
  simp only [if_true]
  refine semH_of_semE hlb ?_
  show (∃ o, h g = some o) ∧ _
  refine ⟨⟨_, hb⟩, ?_⟩
  have hfin := hk (freezeH h ⟨g, 0, none⟩ bs.length) (fun b o hbo hn => by
    unfold freezeH
    rw [if_neg hl, if_neg (by simpa using hn)]
    exact hbo)
  show k (.string _) _
  have e : (⟨ByteArray.empty.data ++ bs.toArray⟩ : ByteArray) = tx bs := by apply ByteArray.ext; simp [tx]
  rw [e]
  exact hfin
theorem unsafeNone {h : PH} {q : Option Addr} : SemE PG h (Builtin.unsafeString_ #[T_p_uint8, T_int] T_string #[.pointer q, .int .i64 0]) = some (.string (tx [])) := by
  cases q <;> rfl
theorem String_ok {h : PH} {a : Nat} {e : Int} {bs : List UInt8} {F : List Nat} (hW : WAt h a e bs F) {k : Value → PH → Prop} (hk : ∀ h', Upd F h h' → k (.string (tx bs)) h') :
    CallsH PG id_strings_Builder_String #[.pointer (some ⟨a, 1, none⟩)] h k := by
  obtain ⟨p, v, G, ha, hp, hO, rfl, hn⟩ := hW
  have hc : cellH h ⟨a, 2, none⟩ = some v := by simp [cellH, ha]
  have lv := hO.slR.len (t' := T_int) T_sl_uint8.und
  rw [List.length_map] at lv
  apply strings_Builder_String.call
  unfold strings_Builder_String
  simp only [T_strings_Builder.f1, T_sl_uint8.load, hc, lv, popO_some, bindH_eq, condV_bool, condV_true, condV_false, yV_bool, gopV_tt, gopV_ff, gopV_tf, gopV_ft, pickV_t, pickV_f, pickV_bool, nilS_ptr, add_eq, sub_eq, mul_eq, lss_eq, leq_eq, gtr_eq, geq_eq, not_eq, minI_eq, maxI_eq, extract_0, extract_1, extract_2, eqlI, neqI, makeFunc_eq, decide_true, decide_false, if_true, if_false, Bool.false_eq_true, Bool.not_true, Bool.not_false, reduceIte, List.getElem?_toArray, List.getElem?_cons_zero, List.getElem?_cons_succ, Option.isSome_none, List.length_map]
  have hload : ∀ h', cellH h' ⟨a, 2, none⟩ = some v → SemE PG h' (Instr.loadAt T_sl_uint8 (.pointer (some ⟨a, 2, none⟩))) = some v := fun h' h1 => by rw [T_sl_uint8.load]; exact h1
  rcases hO.here with ⟨rfl, hr, rfl⟩ | ⟨g, cap, cs, rfl, rfl, hb, hle, hmax, hsz, htk⟩
  · have hnil : bs = [] := by simpa using hr
    subst hnil
    refine SemE.semH (a := .pointer none) rfl ?_
    refine ⟨hc, ?_⟩
    refine SemE.semH unsafeNone ?_
    exact hk _ Upd.refl
  · simp only [List.length_map] at *
    by_cases hne : bs = []
    · subst hne
      by_cases hc0 : cap = 0
      · subst hc0
        have hs : shapeH h g = some (some (T_uint8, cs.size)) := by unfold shapeH; rw [hb]
        show SemH PG (viewAt g >>= _) h _
        refine semH_of_semE (a := none) (by rw [show viewAt g = (viewAt g >>= fun x => pure x) by simp, semE_viewAt hs]; rfl) ?_
        refine semH_of_semE (a := T_uint8) (by kernel_rfl) ?_
        intro r hr
        have u : Ext h (h.set r (.view ⟨g, 0, none⟩ T_uint8)) := Upd.new hr
        refine ⟨by rw [cellH]; simp [u.get ha], ?_⟩
        refine SemE.semH unsafeNone ?_
        exact hk _ u.upd
      · refine SemE.semH (a := .pointer (some ⟨g, 0, none⟩)) ?_ ?_
        · show SemE PG h (if cap ≠ 0 then _ else _) = _
          rw [if_pos hc0]; rfl
        · refine ⟨hc, ?_⟩
          refine SemE.semH unsafeNone ?_
          exact hk _ Upd.refl
    · have hpos : 0 < bs.length := List.length_pos_iff.2 hne
      refine SemE.semH (a := .pointer (some ⟨g, 0, none⟩)) ?_ ?_
      · show SemE PG h (if cap ≠ 0 then _ else _) = _
        rw [if_pos (by omega)]; rfl
      · refine ⟨hc, ?_⟩
        rw [Nat.mul_one, bcell.flat] at htk
        refine unsafeStr hb (by omega) htk hne (by omega) fun h' u => ?_
        exact hk _ (u.mono fun b hb => .inl (by simp at hb; simp [hb]))
end Go.Proofs.YtlkjippiaghbmaaGreat
/- wire: the writer's methods. -/
set_option linter.unusedSimpArgs false
set_option linter.unusedVariables false
namespace Go.Proofs.YtlkjippiaghbmaaGreat
open Go
set_option maxRecDepth 20000
structure WS (h0 : PH) (F0 : List Nat) (h : PH) (a : Nat) (e : Int) (bs : List UInt8) (F : List Nat) : Prop where
  at_ : WAt h a e bs F
  upd : Upd F0 h0 h
  grow : ∀ b ∈ F, b ∈ F0 ∨ h0 b = none
theorem WS.refl {h : PH} {a : Nat} {e : Int} {bs : List UInt8} {F : List Nat} (H : WAt h a e bs F) : WS h F h a e bs F := ⟨H, Upd.refl, fun b hb => .inl hb⟩
theorem WS.step {h0 h h' : PH} {F0 F F' : List Nat} {a : Nat} {e e' : Int} {bs bs' : List UInt8} (S : WS h0 F0 h a e bs F) (H : WAt h' a e' bs' F') (u : Upd F h h') (g : ∀ b ∈ F', b ∈ F ∨ h b = none) : WS h0 F0 h' a e' bs' F' :=
  ⟨H, S.upd.then u S.grow, fun b hb => by
    rcases g b hb with h1 | h1
    · exact S.grow b h1
    · by_cases hF : b ∈ F0
      · exact .inl hF
      · right
        cases hh : h0 b with
        | none => rfl
        | some o => rw [S.upd.get hh hF] at h1; cases h1⟩
theorem WS.ext {h0 h h' : PH} {F0 F : List Nat} {a : Nat} {e : Int} {bs : List UInt8} (S : WS h0 F0 h a e bs F) (u : Ext h h') : WS h0 F0 h' a e bs F := S.step (S.at_.ext u) u.upd (fun b hb => .inl hb)
theorem WS.next {h : PH} {a : Nat} {F : List Nat} {e : Int} {bs : List UInt8} {k : PH → Prop} (hk : WNext h a F e bs k) {h' : PH} {F' : List Nat} (S : WS h F h' a e bs F') : k h' := hk h' F' S.at_ S.upd S.grow

theorem conv_iu (x : Int) : SemP PG (convert T_int T_uint64 (.int .i64 x)) = some (.int .u64 (IntKind.u64.wrap x)) := by kernel_rfl
theorem conv_u8 (x : Int) : SemP PG (convert T_uint64 T_uint8 (.int .u64 x)) = some (.int .u8 (IntKind.u8.wrap x)) := by kernel_rfl
theorem conv_ui (x : Int) : SemP PG (convert T_uint64 T_int (.int .u64 x)) = some (.int .i64 (IntKind.i64.wrap x)) := by kernel_rfl
theorem conv_8u (x : Int) : SemP PG (convert T_uint8 T_uint64 (.int .u8 x)) = some (.int .u64 (IntKind.u64.wrap x)) := by kernel_rfl
theorem conv_8i (x : Int) : SemP PG (convert T_uint8 T_int (.int .u8 x)) = some (.int .i64 (IntKind.i64.wrap x)) := by kernel_rfl

theorem shr_byte {n k : Nat} (hk : k < 8) : ((n : Int).fdiv (2 ^ (min (((8 * k : Nat) : Int)).toNat IntKind.u64.bits))) = ((n / 256 ^ k : Nat) : Int) := by
  have e1 : min (((8 * k : Nat) : Int)).toNat IntKind.u64.bits = 8 * k := by
    have : IntKind.u64.bits = 64 := rfl
    rw [this]; omega
  have e2 : (2 : Nat) ^ (8 * k) = 256 ^ k := by rw [Nat.pow_mul]
  rw [e1]
  have e3 : ((2 : Int) ^ (8 * k)) = ((256 ^ k : Nat) : Int) := by
    rw [← e2]; exact (Int.natCast_pow 2 (8 * k)).symm
  rw [e3, Int.fdiv_eq_ediv_of_nonneg _ (Int.natCast_nonneg _)]
  exact (Int.natCast_ediv n (256 ^ k)).symm
theorem put_ok {h : PH} {a : Nat} {e : Int} {bs : List UInt8} {F : List Nat} (hW : WAt h a e bs F) {n c : Nat} (hc : c ≤ 8) (hn : n < 18446744073709551616) (hl : bs.length ≤ 140737488355000) {k : Value → PH → Prop} (hk : WNext h a F e (bs ++ be n c) (k (.tuple #[]))) :
    CallsH PG id_wire_Writer_put #[.pointer (some ⟨a, 0, none⟩), .int .u64 n, .int .i64 c] h k := by
  apply wire_Writer_put.call
  unfold wire_Writer_put
  have e0 : IntKind.i64.wrap ((c : Int) - 1) = (c : Int) - 1 := i64_wrap (by omega) (by omega)
  simp only [e0, popO_some, bindH_eq, condV_bool, condV_true, condV_false, yV_bool, gopV_tt, gopV_ff, gopV_tf, gopV_ft, pickV_t, pickV_f, pickV_bool, nilS_ptr, add_eq, sub_eq, mul_eq, lss_eq, leq_eq, gtr_eq, geq_eq, not_eq, minI_eq, maxI_eq, extract_0, extract_1, extract_2, eqlI, neqI, makeFunc_eq, decide_true, decide_false, if_true, if_false, Bool.false_eq_true, Bool.not_true, Bool.not_false, reduceIte, List.getElem?_toArray, List.getElem?_cons_zero, List.getElem?_cons_succ, Option.isSome_none, List.length_map]
  refine ⟨fun vs h' => ∃ (i : Nat) (F' : List Nat), i ≤ c ∧ vs = [.pointer (some ⟨a, 0, none⟩), .int .u64 n, .int .i64 ((c : Int) - 1 - i)] ∧ WS h F h' a e (bs ++ (be n c).take i) F', fun vs _ => match vs with | [_, _, .int _ j] => (j + 1).toNat | _ => 0, ⟨0, F, by omega, by simp, by simpa using WS.refl hW⟩, ?_⟩
  rintro ρ h' ⟨i, F', hi, hvs, S⟩
  simp only [List.map_cons, List.map_nil, List.cons.injEq, and_true] at hvs
  obtain ⟨s0, s1, s2⟩ := hvs
  rw [s0, s1, s2]
  unfold wire_Writer_put_b3
  by_cases hlt : i < c
  · have hd : (0 ≤ (c : Int) - 1 - i) = True := by apply eq_true; omega
    obtain ⟨q, hq⟩ : ∃ q : Nat, c - 1 - i = q := ⟨_, rfl⟩
    have hqi : (c : Int) - 1 - i = (q : Int) := by omega
    have e1 : IntKind.i64.wrap (8 * (q : Int)) = ((8 * q : Nat) : Int) := by rw [i64_wrap (by omega) (by omega)]; omega
    have e2 : IntKind.i64.wrap ((q : Int) - 1) = (c : Int) - 1 - ((i + 1 : Nat) : Int) := by rw [i64_wrap (by omega) (by omega)]; omega
    have h8 : (0 : Int) ≤ ((8 * q : Nat) : Int) := by omega
    have e3 : IntKind.u8.wrap (((n / 256 ^ q : Nat) : Int)) = ((UInt8.ofNat (n / 256 ^ q % 256)).toNat : Int) := by
      rw [u8_wrap]
      simp
    rw [hqi] at hd ⊢
    simp only [hd, T_wire_Writer.f1, Nat.zero_add, e1, shr_eq h8, shr_byte (show q < 8 by omega), conv_u8, e3, e2, popO_some, bindH_eq, condV_bool, condV_true, condV_false, yV_bool, gopV_tt, gopV_ff, gopV_tf, gopV_ft, pickV_t, pickV_f, pickV_bool, nilS_ptr, add_eq, sub_eq, mul_eq, lss_eq, leq_eq, gtr_eq, geq_eq, not_eq, minI_eq, maxI_eq, extract_0, extract_1, extract_2, eqlI, neqI, makeFunc_eq, decide_true, decide_false, if_true, if_false, Bool.false_eq_true, Bool.not_true, Bool.not_false, reduceIte, List.getElem?_toArray, List.getElem?_cons_zero, List.getElem?_cons_succ, Option.isSome_none, List.length_map]
    have hlen : (bs ++ (be n c).take i).length ≤ 140737488355100 := by
      rw [List.length_append, List.length_take, be_len]; omega
    refine WriteByte_ok S.at_ (by omega) _ fun h3 F3 hW3 u3 k3 => ?_
    have ht := be_take_succ (n := n) hlt
    rw [hq] at ht
    rw [List.append_assoc, ← ht] at hW3
    exact ⟨⟨i + 1, F3, by omega, rfl, S.step hW3 u3 k3⟩, by simp [s2]; omega⟩
  · have hd : (0 ≤ (c : Int) - 1 - i) = False := by apply eq_false; omega
    rw [List.take_of_length_le (by rw [be_len]; omega)] at S
    simp only [hd, popO_some, bindH_eq, condV_bool, condV_true, condV_false, yV_bool, gopV_tt, gopV_ff, gopV_tf, gopV_ft, pickV_t, pickV_f, pickV_bool, nilS_ptr, add_eq, sub_eq, mul_eq, lss_eq, leq_eq, gtr_eq, geq_eq, not_eq, minI_eq, maxI_eq, extract_0, extract_1, extract_2, eqlI, neqI, makeFunc_eq, decide_true, decide_false, if_true, if_false, Bool.false_eq_true, Bool.not_true, Bool.not_false, reduceIte, List.getElem?_toArray, List.getElem?_cons_zero, List.getElem?_cons_succ, Option.isSome_none, List.length_map]
    exact S.next hk
theorem Fail_ok {h : PH} {a : Nat} {e : Int} {bs : List UInt8} {F : List Nat} (hW : WAt h a e bs F) (x : Int) {k : Value → PH → Prop} (hk : WNext h a F (if e = 0 then x else e) bs (k (.tuple #[]))) :
    CallsH PG id_wire_memory_Fail #[.pointer (some ⟨a, 0, none⟩), .int .i64 x] h k := by
  have hW' := hW
  obtain ⟨p, v, G, ha, hp, hO, rfl, hn⟩ := hW
  have hc : cellH h ⟨a, 0, none⟩ = some (.int .i64 e) := by simp [cellH, ha]
  apply wire_memory_Fail.call
  unfold wire_memory_Fail
  by_cases h0 : e = 0
  · have q : (e == 0) = true := by simp [h0]
    rw [if_pos h0] at hk
    simp only [T_wire_memory.f0, T_api_Errno.load, hc, q, popO_some, bindH_eq, condV_bool, condV_true, condV_false, yV_bool, gopV_tt, gopV_ff, gopV_tf, gopV_ft, pickV_t, pickV_f, pickV_bool, nilS_ptr, add_eq, sub_eq, mul_eq, lss_eq, leq_eq, gtr_eq, geq_eq, not_eq, minI_eq, maxI_eq, extract_0, extract_1, extract_2, eqlI, neqI, makeFunc_eq, decide_true, decide_false, if_true, if_false, Bool.false_eq_true, Bool.not_true, Bool.not_false, reduceIte, List.getElem?_toArray, List.getElem?_cons_zero, List.getElem?_cons_succ, Option.isSome_none, List.length_map]
    refine store_cell T_api_Errno.und rfl ha (by simp) rfl T_api_Errno.info T_api_Errno.size ?_
    refine hk _ (a :: G) ⟨p, v, G, set_same, hp, hO.upd (Upd.set (F := [a]) (by simp)) (fun b hb => by simp; rintro rfl; exact hn hb), rfl, hn⟩ (Upd.set (by simp)) (fun b hb => .inl hb)
  · have q : (e == 0) = false := by simp [h0]
    rw [if_neg h0] at hk
    simp only [T_wire_memory.f0, T_api_Errno.load, hc, q, popO_some, bindH_eq, condV_bool, condV_true, condV_false, yV_bool, gopV_tt, gopV_ff, gopV_tf, gopV_ft, pickV_t, pickV_f, pickV_bool, nilS_ptr, add_eq, sub_eq, mul_eq, lss_eq, leq_eq, gtr_eq, geq_eq, not_eq, minI_eq, maxI_eq, extract_0, extract_1, extract_2, eqlI, neqI, makeFunc_eq, decide_true, decide_false, if_true, if_false, Bool.false_eq_true, Bool.not_true, Bool.not_false, reduceIte, List.getElem?_toArray, List.getElem?_cons_zero, List.getElem?_cons_succ, Option.isSome_none, List.length_map]
    exact hk _ _ hW' Upd.refl (fun b hb => .inl hb)
/-- What a writer's Byte does. -/
def wByte (s : Int × List UInt8) (n : Int) : Int × List UInt8 := if 0 ≤ n ∧ n ≤ 255 then (s.1, s.2 ++ be n.toNat 1) else (if s.1 = 0 then 1 else s.1, s.2)
def wText (s : Int × List UInt8) (l : List UInt8) : Int × List UInt8 := if l.length ≤ 65535 then (s.1, s.2 ++ (be l.length 2 ++ l)) else (if s.1 = 0 then 1 else s.1, s.2)
theorem Byte_ok {h : PH} {a : Nat} {e : Int} {bs : List UInt8} {F : List Nat} (hW : WAt h a e bs F) (hl : bs.length ≤ 140737488355000) (n : Int) {k : Value → PH → Prop} (hk : WNext h a F (wByte (e, bs) n).1 (wByte (e, bs) n).2 (k (.tuple #[]))) :
    CallsH PG id_wire_Writer_Byte #[.pointer (some ⟨a, 0, none⟩), .int .i64 n] h k := by
  apply wire_Writer_Byte.call
  unfold wire_Writer_Byte
  unfold wByte at hk
  have bad : ¬ (0 ≤ n ∧ n ≤ 255) → CallsH PG id_wire_memory_Fail #[.pointer (some ⟨a, 0, none⟩), .int .i64 1] h fun v12 h13 => k (.tuple #[]) h13 := by
    intro hb
    rw [if_neg hb] at hk
    exact Fail_ok hW 1 hk
  by_cases h1 : n < 0
  · simp only [h1, T_wire_Writer.f0, popO_some, bindH_eq, condV_bool, condV_true, condV_false, yV_bool, gopV_tt, gopV_ff, gopV_tf, gopV_ft, pickV_t, pickV_f, pickV_bool, nilS_ptr, add_eq, sub_eq, mul_eq, lss_eq, leq_eq, gtr_eq, geq_eq, not_eq, minI_eq, maxI_eq, extract_0, extract_1, extract_2, eqlI, neqI, makeFunc_eq, decide_true, decide_false, if_true, if_false, Bool.false_eq_true, Bool.not_true, Bool.not_false, reduceIte, List.getElem?_toArray, List.getElem?_cons_zero, List.getElem?_cons_succ, Option.isSome_none, List.length_map]
    exact bad (by omega)
  · by_cases h2 : 255 < n
    · simp only [h1, h2, T_wire_Writer.f0, popO_some, bindH_eq, condV_bool, condV_true, condV_false, yV_bool, gopV_tt, gopV_ff, gopV_tf, gopV_ft, pickV_t, pickV_f, pickV_bool, nilS_ptr, add_eq, sub_eq, mul_eq, lss_eq, leq_eq, gtr_eq, geq_eq, not_eq, minI_eq, maxI_eq, extract_0, extract_1, extract_2, eqlI, neqI, makeFunc_eq, decide_true, decide_false, if_true, if_false, Bool.false_eq_true, Bool.not_true, Bool.not_false, reduceIte, List.getElem?_toArray, List.getElem?_cons_zero, List.getElem?_cons_succ, Option.isSome_none, List.length_map]
      exact bad (by omega)
    · rw [if_pos (by omega)] at hk
      obtain ⟨m, rfl⟩ := Int.eq_ofNat_of_zero_le (a := n) (by omega)
      have e1 : IntKind.u64.wrap (m : Int) = (m : Int) := u64_wrap (by omega) (by omega)
      simp only [h1, h2, conv_iu, e1, popO_some, bindH_eq, condV_bool, condV_true, condV_false, yV_bool, gopV_tt, gopV_ff, gopV_tf, gopV_ft, pickV_t, pickV_f, pickV_bool, nilS_ptr, add_eq, sub_eq, mul_eq, lss_eq, leq_eq, gtr_eq, geq_eq, not_eq, minI_eq, maxI_eq, extract_0, extract_1, extract_2, eqlI, neqI, makeFunc_eq, decide_true, decide_false, if_true, if_false, Bool.false_eq_true, Bool.not_true, Bool.not_false, reduceIte, List.getElem?_toArray, List.getElem?_cons_zero, List.getElem?_cons_succ, Option.isSome_none, List.length_map]
      exact put_ok hW (c := 1) (by omega) (by omega) hl hk
theorem Number_ok {h : PH} {a : Nat} {e : Int} {bs : List UInt8} {F : List Nat} (hW : WAt h a e bs F) (hl : bs.length ≤ 140737488355000) {n : Nat} (hn : n < 18446744073709551616) {k : Value → PH → Prop} (hk : WNext h a F e (bs ++ be n 8) (k (.tuple #[]))) :
    CallsH PG id_wire_Writer_Number #[.pointer (some ⟨a, 0, none⟩), .int .u64 n] h k := by
  apply wire_Writer_Number.call
  unfold wire_Writer_Number
  exact put_ok hW (c := 8) (by omega) hn hl hk
theorem WRaw_ok {h : PH} {a : Nat} {e : Int} {bs ys : List UInt8} {F : List Nat} (hW : WAt h a e bs F) (hl : bs.length + ys.length ≤ 140737488355328) {k : Value → PH → Prop} (hk : WNext h a F e (bs ++ ys) (k (.tuple #[]))) :
    CallsH PG id_wire_Writer_Raw #[.pointer (some ⟨a, 0, none⟩), .string (tx ys)] h k := by
  apply wire_Writer_Raw.call
  unfold wire_Writer_Raw
  simp only [T_wire_Writer.f1, Nat.zero_add, popO_some, bindH_eq, condV_bool, condV_true, condV_false, yV_bool, gopV_tt, gopV_ff, gopV_tf, gopV_ft, pickV_t, pickV_f, pickV_bool, nilS_ptr, add_eq, sub_eq, mul_eq, lss_eq, leq_eq, gtr_eq, geq_eq, not_eq, minI_eq, maxI_eq, extract_0, extract_1, extract_2, eqlI, neqI, makeFunc_eq, decide_true, decide_false, if_true, if_false, Bool.false_eq_true, Bool.not_true, Bool.not_false, reduceIte, List.getElem?_toArray, List.getElem?_cons_zero, List.getElem?_cons_succ, Option.isSome_none, List.length_map]
  exact WriteString_ok hW hl hk
theorem Text_ok {h : PH} {a : Nat} {e : Int} {bs ys : List UInt8} {F : List Nat} (hW : WAt h a e bs F) (hl : bs.length ≤ 140737488200000) {k : Value → PH → Prop} (hk : WNext h a F (wText (e, bs) ys).1 (wText (e, bs) ys).2 (k (.tuple #[]))) :
    CallsH PG id_wire_Writer_Text #[.pointer (some ⟨a, 0, none⟩), .string (tx ys)] h k := by
  apply wire_Writer_Text.call
  unfold wire_Writer_Text
  unfold wText at hk
  by_cases h1 : ys.length ≤ 65535
  · have q : ((65535 : Int) < (ys.length : Int)) = False := by apply eq_false; omega
    rw [if_pos h1] at hk
    have e1 : IntKind.u64.wrap (ys.length : Int) = (ys.length : Int) := u64_wrap (by omega) (by omega)
    simp only [T_string.len, tx_size, q, conv_iu, e1, popO_some, bindH_eq, condV_bool, condV_true, condV_false, yV_bool, gopV_tt, gopV_ff, gopV_tf, gopV_ft, pickV_t, pickV_f, pickV_bool, nilS_ptr, add_eq, sub_eq, mul_eq, lss_eq, leq_eq, gtr_eq, geq_eq, not_eq, minI_eq, maxI_eq, extract_0, extract_1, extract_2, eqlI, neqI, makeFunc_eq, decide_true, decide_false, if_true, if_false, Bool.false_eq_true, Bool.not_true, Bool.not_false, reduceIte, List.getElem?_toArray, List.getElem?_cons_zero, List.getElem?_cons_succ, Option.isSome_none, List.length_map]
    refine put_ok hW (c := 2) (by omega) (by omega) (by omega) fun h2 F2 hW2 u2 k2 => ?_
    have hl2 := be_len ys.length 2
    refine WRaw_ok hW2 (by rw [List.length_append, hl2]; omega) fun h3 F3 hW3 u3 k3 => ?_
    rw [List.append_assoc] at hW3
    exact WS.next hk (((WS.refl hW).step hW2 u2 k2).step hW3 u3 k3)
  · have q : ((65535 : Int) < (ys.length : Int)) = True := by apply eq_true; omega
    rw [if_neg h1] at hk
    simp only [T_string.len, tx_size, q, T_wire_Writer.f0, popO_some, bindH_eq, condV_bool, condV_true, condV_false, yV_bool, gopV_tt, gopV_ff, gopV_tf, gopV_ft, pickV_t, pickV_f, pickV_bool, nilS_ptr, add_eq, sub_eq, mul_eq, lss_eq, leq_eq, gtr_eq, geq_eq, not_eq, minI_eq, maxI_eq, extract_0, extract_1, extract_2, eqlI, neqI, makeFunc_eq, decide_true, decide_false, if_true, if_false, Bool.false_eq_true, Bool.not_true, Bool.not_false, reduceIte, List.getElem?_toArray, List.getElem?_cons_zero, List.getElem?_cons_succ, Option.isSome_none, List.length_map]
    exact Fail_ok hW 1 hk
theorem WErr_ok {h : PH} {a : Nat} {e : Int} {c : Array Value} {T : TypeId} {fr : Nat × Nat} (ha : h a = some (.cells c T fr)) (hc : c[0]? = some (.int .i64 e)) {k : Value → PH → Prop} (hk : k (.int .i64 e) h) : CallsH PG id_wire_memory_Err #[.pointer (some ⟨a, 0, none⟩)] h k := by
  apply wire_memory_Err.call
  unfold wire_memory_Err
  have hc' : cellH h ⟨a, 0, none⟩ = some (.int .i64 e) := by simp [cellH, ha, hc]
  simp only [T_wire_memory.f0, T_api_Errno.load, hc', popO_some, bindH_eq, condV_bool, condV_true, condV_false, yV_bool, gopV_tt, gopV_ff, gopV_tf, gopV_ft, pickV_t, pickV_f, pickV_bool, nilS_ptr, add_eq, sub_eq, mul_eq, lss_eq, leq_eq, gtr_eq, geq_eq, not_eq, minI_eq, maxI_eq, extract_0, extract_1, extract_2, eqlI, neqI, makeFunc_eq, decide_true, decide_false, if_true, if_false, Bool.false_eq_true, Bool.not_true, Bool.not_false, reduceIte, List.getElem?_toArray, List.getElem?_cons_zero, List.getElem?_cons_succ, Option.isSome_none, List.length_map]
  exact hk
def wBytes (s : Int × List UInt8) : List UInt8 × Int := if s.1 = 0 then (s.2, 0) else ([], s.1)
theorem Bytes_ok {h : PH} {a : Nat} {e : Int} {bs : List UInt8} {F : List Nat} (hW : WAt h a e bs F) {k : Value → PH → Prop} (hk : ∀ h', Upd F h h' → k (.tuple #[.string (tx (wBytes (e, bs)).1), .int .i64 (wBytes (e, bs)).2]) h') :
    CallsH PG id_wire_Writer_Bytes #[.pointer (some ⟨a, 0, none⟩)] h k := by
  have hW' := hW
  obtain ⟨p, v, G, ha, hp, hO, rfl, hn⟩ := hW
  apply wire_Writer_Bytes.call
  unfold wire_Writer_Bytes
  unfold wBytes at hk
  simp only [T_wire_Writer.f0, T_wire_Writer.f1, Nat.zero_add, popO_some, bindH_eq, condV_bool, condV_true, condV_false, yV_bool, gopV_tt, gopV_ff, gopV_tf, gopV_ft, pickV_t, pickV_f, pickV_bool, nilS_ptr, add_eq, sub_eq, mul_eq, lss_eq, leq_eq, gtr_eq, geq_eq, not_eq, minI_eq, maxI_eq, extract_0, extract_1, extract_2, eqlI, neqI, makeFunc_eq, decide_true, decide_false, if_true, if_false, Bool.false_eq_true, Bool.not_true, Bool.not_false, reduceIte, List.getElem?_toArray, List.getElem?_cons_zero, List.getElem?_cons_succ, Option.isSome_none, List.length_map]
  refine WErr_ok ha rfl ?_
  by_cases h0 : e = 0
  · have q : (e != 0) = false := by simp [h0]
    rw [if_pos h0] at hk
    simp only [q, popO_some, bindH_eq, condV_bool, condV_true, condV_false, yV_bool, gopV_tt, gopV_ff, gopV_tf, gopV_ft, pickV_t, pickV_f, pickV_bool, nilS_ptr, add_eq, sub_eq, mul_eq, lss_eq, leq_eq, gtr_eq, geq_eq, not_eq, minI_eq, maxI_eq, extract_0, extract_1, extract_2, eqlI, neqI, makeFunc_eq, decide_true, decide_false, if_true, if_false, Bool.false_eq_true, Bool.not_true, Bool.not_false, reduceIte, List.getElem?_toArray, List.getElem?_cons_zero, List.getElem?_cons_succ, Option.isSome_none, List.length_map]
    exact String_ok hW' hk
  · have q : (e != 0) = true := by simp [h0]
    rw [if_neg h0] at hk
    simp only [q, popO_some, bindH_eq, condV_bool, condV_true, condV_false, yV_bool, gopV_tt, gopV_ff, gopV_tf, gopV_ft, pickV_t, pickV_f, pickV_bool, nilS_ptr, add_eq, sub_eq, mul_eq, lss_eq, leq_eq, gtr_eq, geq_eq, not_eq, minI_eq, maxI_eq, extract_0, extract_1, extract_2, eqlI, neqI, makeFunc_eq, decide_true, decide_false, if_true, if_false, Bool.false_eq_true, Bool.not_true, Bool.not_false, reduceIte, List.getElem?_toArray, List.getElem?_cons_zero, List.getElem?_cons_succ, Option.isSome_none, List.length_map]
    exact hk _ Upd.refl
end Go.Proofs.YtlkjippiaghbmaaGreat
/- wire: the reader; the document's numbers and reader. -/
set_option linter.unusedSimpArgs false
set_option linter.unusedVariables false
namespace Go.Proofs.YtlkjippiaghbmaaGreat
open Go
set_option maxRecDepth 20000
theorem or_eq {t : TypeId} {x b : Nat} (hx : x * 256 + 255 < 18446744073709551616) (hb : b < 256) : SemP PG (binOp .or t (.int .u64 ((x * 256 : Nat) : Int)) (.int .u64 (b : Int))) = some (.int .u64 ((x * 256 + b : Nat) : Int)) := by
  have e : SemP PG (binOp .or t (.int .u64 ((x * 256 : Nat) : Int)) (.int .u64 (b : Int))) = some (.int .u64 (IntKind.u64.wrap ((BitVec.ofInt IntKind.u64.bits ((x * 256 : Nat) : Int) ||| BitVec.ofInt IntKind.u64.bits (b : Int)).toNat))) := rfl
  rw [e]
  congr 2
  have h64 : IntKind.u64.bits = 64 := rfl
  rw [h64, BitVec.toNat_or, BitVec.ofInt_natCast, BitVec.ofInt_natCast, BitVec.toNat_ofNat, BitVec.toNat_ofNat, Nat.mod_eq_of_lt (by omega), Nat.mod_eq_of_lt (by omega)]
  have := Nat.shiftLeft_add_eq_or_of_lt (i := 8) (b := b) (by omega) x
  rw [Nat.shiftLeft_eq] at this
  have e2 : (x * 256 ||| b) = x * 256 + b := this.symm
  rw [e2, u64_wrap (by omega) (by omega)]
structure RdAt (h : PH) (a : Nat) (e : Int) (s : List UInt8) : Prop where
  here : h a = some (.cells #[.int .i64 e, .string (tx s)] T_wire_Reader (0, 0))
theorem RdAt.upd {h h' : PH} {a : Nat} {e : Int} {s : List UInt8} {G : List Nat} (H : RdAt h a e s) (u : Upd G h h') (hd : a ∉ G) : RdAt h' a e s := ⟨u.get H.here hd⟩
theorem RdAt.ext {h h' : PH} {a : Nat} {e : Int} {s : List UInt8} (H : RdAt h a e s) (u : Ext h h') : RdAt h' a e s := H.upd u (by simp)
theorem NewReader_ok {h : PH} (s : List UInt8) {k : Value → PH → Prop} (hk : ∀ a h', RdAt h' a 0 s → Ext h h' → h a = none → k (.pointer (some ⟨a, 0, none⟩)) h') : CallsH PG id_wire_NewReader #[.string (tx s)] h k := by
  apply wire_NewReader.call
  unfold wire_NewReader
  have e1 : SemP PG (Instr.build T_wire_Reader #[(1, .string (tx s))]) = some (.agg #[.int .i64 0, .string (tx s)]) := by kernel_rfl
  simp only [e1, popO_some, bindH_eq, condV_bool, condV_true, condV_false, yV_bool, gopV_tt, gopV_ff, gopV_tf, gopV_ft, pickV_t, pickV_f, pickV_bool, nilS_ptr, add_eq, sub_eq, mul_eq, lss_eq, leq_eq, gtr_eq, geq_eq, not_eq, minI_eq, maxI_eq, extract_0, extract_1, extract_2, eqlI, neqI, makeFunc_eq, decide_true, decide_false, if_true, if_false, Bool.false_eq_true, Bool.not_true, Bool.not_false, reduceIte, List.getElem?_toArray, List.getElem?_cons_zero, List.getElem?_cons_succ, Option.isSome_none, List.length_map]
  intro r hr
  exact hk r _ ⟨set_same⟩ (Upd.new hr) hr
def rRaw (st : Int × List UInt8) (n : Int) : List UInt8 × (Int × List UInt8) :=
  if st.1 = 0 ∧ 0 ≤ n ∧ n ≤ st.2.length then (st.2.take n.toNat, (0, st.2.drop n.toNat)) else ([], (if st.1 = 0 then 6 else st.1, st.2))
theorem Raw_ok {h : PH} {a : Nat} {e : Int} {s : List UInt8} (hR : RdAt h a e s) (n : Int) {k : Value → PH → Prop} (hk : ∀ h', RdAt h' a (rRaw (e, s) n).2.1 (rRaw (e, s) n).2.2 → Upd [a] h h' → k (.string (tx (rRaw (e, s) n).1)) h') :
    CallsH PG id_wire_Reader_Raw #[.pointer (some ⟨a, 0, none⟩), .int .i64 n] h k := by
  have ha := hR.here
  have c1 : cellH h ⟨a, 1, none⟩ = some (.string (tx s)) := by simp [cellH, ha]
  have c0 : cellH h ⟨a, 0, none⟩ = some (.int .i64 e) := by simp [cellH, ha]
  apply wire_Reader_Raw.call
  unfold wire_Reader_Raw
  have tail : ∀ (e' : Int), (e' ≠ 0 → ∀ h', h' a = some (.cells #[.int .i64 e', .string (tx s)] T_wire_Reader (0, 0)) → Upd [a] h h' → k (.string (tx [])) h') → (e' = 0 → 0 ≤ n ∧ n ≤ s.length) → (e' = 0 → e = 0) → ∀ h', h' a = some (.cells #[.int .i64 e', .string (tx s)] T_wire_Reader (0, 0)) → Upd [a] h h' → wire_Reader_Raw_k33 k (.pointer (some ⟨a, 0, none⟩)) (.int .i64 n) h' := by
    intro e' hbad hgood he h' ha' u'
    unfold wire_Reader_Raw_k33
    simp only [T_wire_Reader.f0, T_wire_Reader.f1, Nat.zero_add, popO_some, bindH_eq, condV_bool, condV_true, condV_false, yV_bool, gopV_tt, gopV_ff, gopV_tf, gopV_ft, pickV_t, pickV_f, pickV_bool, nilS_ptr, add_eq, sub_eq, mul_eq, lss_eq, leq_eq, gtr_eq, geq_eq, not_eq, minI_eq, maxI_eq, extract_0, extract_1, extract_2, eqlI, neqI, makeFunc_eq, decide_true, decide_false, if_true, if_false, Bool.false_eq_true, Bool.not_true, Bool.not_false, reduceIte, List.getElem?_toArray, List.getElem?_cons_zero, List.getElem?_cons_succ, Option.isSome_none, List.length_map]
    refine WErr_ok ha' rfl ?_
    by_cases h0 : e' = 0
    · have q : (e' != 0) = false := by simp [h0]
      obtain ⟨g1, g2⟩ := hgood h0
      have c1' : cellH h' ⟨a, 1, none⟩ = some (.string (tx s)) := by simp [cellH, ha']
      obtain ⟨m, rfl⟩ := Int.eq_ofNat_of_zero_le g1
      have hm : m ≤ s.length := by omega
      simp only [q, T_wire_Reader.f1, Nat.zero_add, T_string.load, c1', cut_tx (lo := none) T_string.und (.inl ⟨rfl, rfl⟩) (.inr ⟨.i64, rfl⟩) (Nat.zero_le m) hm, cut_tx (hi := none) T_string.und (.inr ⟨.i64, rfl⟩) (.inl ⟨rfl, rfl⟩) hm (Nat.le_refl _), popO_some, bindH_eq, condV_bool, condV_true, condV_false, yV_bool, gopV_tt, gopV_ff, gopV_tf, gopV_ft, pickV_t, pickV_f, pickV_bool, nilS_ptr, add_eq, sub_eq, mul_eq, lss_eq, leq_eq, gtr_eq, geq_eq, not_eq, minI_eq, maxI_eq, extract_0, extract_1, extract_2, eqlI, neqI, makeFunc_eq, decide_true, decide_false, if_true, if_false, Bool.false_eq_true, Bool.not_true, Bool.not_false, reduceIte, List.getElem?_toArray, List.getElem?_cons_zero, List.getElem?_cons_succ, Option.isSome_none, List.length_map]
      refine store_cell T_string.und rfl ha' (by simp) rfl T_string.info T_string.size ?_
      have hr : rRaw (e, s) (m : Int) = (s.take m, (0, s.drop m)) := by
        unfold rRaw
        rw [if_pos ⟨he h0, by omega, by simpa using hm⟩]
        simp
      rw [hr] at hk
      rw [List.drop_zero, List.take_of_length_le (Nat.le_refl _)]
      refine hk _ ⟨?_⟩ (u'.trans (Upd.set (by simp)))
      rw [set_same, h0]
      rfl
    · have q : (e' != 0) = true := by simp [h0]
      simp only [q, popO_some, bindH_eq, condV_bool, condV_true, condV_false, yV_bool, gopV_tt, gopV_ff, gopV_tf, gopV_ft, pickV_t, pickV_f, pickV_bool, nilS_ptr, add_eq, sub_eq, mul_eq, lss_eq, leq_eq, gtr_eq, geq_eq, not_eq, minI_eq, maxI_eq, extract_0, extract_1, extract_2, eqlI, neqI, makeFunc_eq, decide_true, decide_false, if_true, if_false, Bool.false_eq_true, Bool.not_true, Bool.not_false, reduceIte, List.getElem?_toArray, List.getElem?_cons_zero, List.getElem?_cons_succ, Option.isSome_none, List.length_map]
      exact hbad h0 h' ha' u'
  have hin : e = 0 → ¬ (0 ≤ n ∧ n ≤ s.length) → rRaw (e, s) n = ([], (6, s)) := fun h0 hb => by
    unfold rRaw
    rw [if_neg (by rintro ⟨_, h2⟩; exact hb h2), if_pos h0]
  have hne : e ≠ 0 → rRaw (e, s) n = ([], (e, s)) := fun h0 => by
    unfold rRaw
    rw [if_neg (by rintro ⟨h1, _⟩; exact h0 h1), if_neg h0]
  have fails : ¬ (0 ≤ n ∧ n ≤ s.length) → CallsH PG id_wire_memory_Fail #[.pointer (some ⟨a, 0, none⟩), .int .i64 6] h fun v h' => wire_Reader_Raw_k33 k (.pointer (some ⟨a, 0, none⟩)) (.int .i64 n) h' := by
    intro hb
    apply wire_memory_Fail.call
    unfold wire_memory_Fail
    by_cases h0 : e = 0
    · have q : (e == 0) = true := by simp [h0]
      simp only [T_wire_memory.f0, T_api_Errno.load, c0, q, popO_some, bindH_eq, condV_bool, condV_true, condV_false, yV_bool, gopV_tt, gopV_ff, gopV_tf, gopV_ft, pickV_t, pickV_f, pickV_bool, nilS_ptr, add_eq, sub_eq, mul_eq, lss_eq, leq_eq, gtr_eq, geq_eq, not_eq, minI_eq, maxI_eq, extract_0, extract_1, extract_2, eqlI, neqI, makeFunc_eq, decide_true, decide_false, if_true, if_false, Bool.false_eq_true, Bool.not_true, Bool.not_false, reduceIte, List.getElem?_toArray, List.getElem?_cons_zero, List.getElem?_cons_succ, Option.isSome_none, List.length_map]
      refine store_cell T_api_Errno.und rfl ha (by simp) rfl T_api_Errno.info T_api_Errno.size ?_
      refine tail 6 (fun _ h' ha' u' => ?_) (fun h => absurd h (by decide)) (fun h => absurd h (by decide)) _ set_same (Upd.set (by simp))
      have := hk h'
      rw [hin h0 hb] at this
      exact this ⟨ha'⟩ u'
    · have q : (e == 0) = false := by simp [h0]
      simp only [T_wire_memory.f0, T_api_Errno.load, c0, q, popO_some, bindH_eq, condV_bool, condV_true, condV_false, yV_bool, gopV_tt, gopV_ff, gopV_tf, gopV_ft, pickV_t, pickV_f, pickV_bool, nilS_ptr, add_eq, sub_eq, mul_eq, lss_eq, leq_eq, gtr_eq, geq_eq, not_eq, minI_eq, maxI_eq, extract_0, extract_1, extract_2, eqlI, neqI, makeFunc_eq, decide_true, decide_false, if_true, if_false, Bool.false_eq_true, Bool.not_true, Bool.not_false, reduceIte, List.getElem?_toArray, List.getElem?_cons_zero, List.getElem?_cons_succ, Option.isSome_none, List.length_map]
      refine tail e (fun _ h' ha' u' => ?_) (fun h1 => absurd h1 h0) (fun h1 => h1) _ ha Upd.refl
      have := hk h'
      rw [hne h0] at this
      exact this ⟨ha'⟩ u'
  by_cases h1 : n < 0
  · simp only [h1, T_wire_Reader.f0, popO_some, bindH_eq, condV_bool, condV_true, condV_false, yV_bool, gopV_tt, gopV_ff, gopV_tf, gopV_ft, pickV_t, pickV_f, pickV_bool, nilS_ptr, add_eq, sub_eq, mul_eq, lss_eq, leq_eq, gtr_eq, geq_eq, not_eq, minI_eq, maxI_eq, extract_0, extract_1, extract_2, eqlI, neqI, makeFunc_eq, decide_true, decide_false, if_true, if_false, Bool.false_eq_true, Bool.not_true, Bool.not_false, reduceIte, List.getElem?_toArray, List.getElem?_cons_zero, List.getElem?_cons_succ, Option.isSome_none, List.length_map]
    exact fails (by omega)
  · by_cases h2 : (s.length : Int) < n
    · simp only [h1, T_wire_Reader.f0, T_wire_Reader.f1, Nat.zero_add, T_string.load, c1, T_string.len, tx_size, h2, popO_some, bindH_eq, condV_bool, condV_true, condV_false, yV_bool, gopV_tt, gopV_ff, gopV_tf, gopV_ft, pickV_t, pickV_f, pickV_bool, nilS_ptr, add_eq, sub_eq, mul_eq, lss_eq, leq_eq, gtr_eq, geq_eq, not_eq, minI_eq, maxI_eq, extract_0, extract_1, extract_2, eqlI, neqI, makeFunc_eq, decide_true, decide_false, if_true, if_false, Bool.false_eq_true, Bool.not_true, Bool.not_false, reduceIte, List.getElem?_toArray, List.getElem?_cons_zero, List.getElem?_cons_succ, Option.isSome_none, List.length_map]
      exact fails (by omega)
    · simp only [h1, T_wire_Reader.f1, Nat.zero_add, T_string.load, c1, T_string.len, tx_size, h2, popO_some, bindH_eq, condV_bool, condV_true, condV_false, yV_bool, gopV_tt, gopV_ff, gopV_tf, gopV_ft, pickV_t, pickV_f, pickV_bool, nilS_ptr, add_eq, sub_eq, mul_eq, lss_eq, leq_eq, gtr_eq, geq_eq, not_eq, minI_eq, maxI_eq, extract_0, extract_1, extract_2, eqlI, neqI, makeFunc_eq, decide_true, decide_false, if_true, if_false, Bool.false_eq_true, Bool.not_true, Bool.not_false, reduceIte, List.getElem?_toArray, List.getElem?_cons_zero, List.getElem?_cons_succ, Option.isSome_none, List.length_map]
      refine tail e (fun h0 h' ha' u' => ?_) (fun _ => by omega) (fun h1 => h1) _ ha Upd.refl
      have := hk h'
      rw [hne h0] at this
      exact this ⟨ha'⟩ u'
def rGet (st : Int × List UInt8) (c : Nat) : Nat × (Int × List UInt8) := (val (rRaw st c).1, (rRaw st c).2)
theorem rRaw_len (st : Int × List UInt8) (c : Nat) : (rRaw st c).1.length ≤ c := by
  unfold rRaw
  split
  · simp; omega
  · simp
theorem val_take {l : List UInt8} {i : Nat} {b : UInt8} (hb : l[i]? = some b) : val (l.take (i + 1)) = val (l.take i) * 256 + b.toNat := by
  rw [List.take_add_one, hb]
  exact val_snoc _ _
theorem val_small {l : List UInt8} {i : Nat} (hi : i < l.length) (hl : l.length ≤ 8) : val (l.take i) * 256 + 255 < 18446744073709551616 := by
  have h1 := val_lt (l.take i)
  rw [List.length_take, Nat.min_eq_left (by omega)] at h1
  have h2 : 256 ^ i ≤ 256 ^ 7 := Nat.pow_le_pow_right (by decide) (by omega)
  have h3 : (256 : Nat) ^ 7 = 72057594037927936 := by decide
  omega
theorem get_ok {h : PH} {a : Nat} {e : Int} {s : List UInt8} (hR : RdAt h a e s) {c : Nat} (hc : c ≤ 8) {k : Value → PH → Prop} (hk : ∀ h', RdAt h' a (rGet (e, s) c).2.1 (rGet (e, s) c).2.2 → Upd [a] h h' → k (.int .u64 (rGet (e, s) c).1) h') :
    CallsH PG id_wire_Reader_get #[.pointer (some ⟨a, 0, none⟩), .int .i64 c] h k := by
  apply wire_Reader_get.call
  unfold wire_Reader_get
  refine Raw_ok hR c fun h1 hR1 u1 => ?_
  have hlen := rRaw_len (e, s) c
  unfold rGet at hk
  generalize hrr : rRaw (e, s) (c : Int) = rr at *
  refine bytes_of T_string.und T_sl_uint8.und T_uint8.und (by omega) fun v h2 hS u2 => ?_
  have lv := hS.len (t' := T_int) T_sl_uint8.und
  rw [List.length_map] at lv
  simp only [lv, popO_some, bindH_eq, condV_bool, condV_true, condV_false, yV_bool, gopV_tt, gopV_ff, gopV_tf, gopV_ft, pickV_t, pickV_f, pickV_bool, nilS_ptr, add_eq, sub_eq, mul_eq, lss_eq, leq_eq, gtr_eq, geq_eq, not_eq, minI_eq, maxI_eq, extract_0, extract_1, extract_2, eqlI, neqI, makeFunc_eq, decide_true, decide_false, if_true, if_false, Bool.false_eq_true, Bool.not_true, Bool.not_false, reduceIte, List.getElem?_toArray, List.getElem?_cons_zero, List.getElem?_cons_succ, Option.isSome_none, List.length_map]
  refine ⟨fun vs h' => ∃ i : Nat, i ≤ rr.1.length ∧ vs = [.int .u64 (val (rr.1.take i)), v, .int .i64 rr.1.length, .int .i64 i] ∧ h' = h2, upTo rr.1.length 3, ⟨0, by omega, rfl, rfl⟩, ?_⟩
  rintro ρ h' ⟨i, hi, hvs, rfl⟩
  simp only [List.map_cons, List.map_nil, List.cons.injEq, and_true] at hvs
  obtain ⟨s0, s1, s2, s3⟩ := hvs
  rw [s0, s1, s2, s3]
  unfold wire_Reader_get_b7
  by_cases hlt : i < rr.1.length
  · have hd : ((i : Int) < (rr.1.length : Int)) = True := by apply eq_true; omega
    obtain ⟨b, hb⟩ : ∃ b, rr.1[i]? = some b := ⟨_, List.getElem?_eq_getElem hlt⟩
    obtain ⟨p, p1, p2⟩ := hS.loadCell T_sl_uint8.und T_uint8.info T_uint8.size T_uint8.und rfl (k := .i64) (j := (i : Int)) (x := .int .u8 b.toNat) (by omega) (by simp [List.getElem?_map, hb, bcell])
    have hsm := val_small hlt (by omega)
    have ei : IntKind.i64.wrap ((i : Int) + 1) = ((i + 1 : Nat) : Int) := by rw [i64_wrap (by omega) (by omega)]; omega
    have e1 : min (8 : Int).toNat IntKind.u64.bits = 8 := by decide
    have e2 : IntKind.u64.wrap ((val (rr.1.take i) : Int) * 2 ^ 8) = ((val (rr.1.take i) * 256 : Nat) : Int) := by rw [u64_wrap (by omega) (by omega)]; omega
    have hb8 := b.toNat_lt
    have e3 : IntKind.u64.wrap (b.toNat : Int) = (b.toNat : Int) := u64_wrap (by omega) (by omega)
    simp only [hd, p1, p2, shl_eq (show (0 : Int) ≤ 8 by decide), e1, e2, conv_8u, e3, or_eq hsm hb8, ei, popO_some, bindH_eq, condV_bool, condV_true, condV_false, yV_bool, gopV_tt, gopV_ff, gopV_tf, gopV_ft, pickV_t, pickV_f, pickV_bool, nilS_ptr, add_eq, sub_eq, mul_eq, lss_eq, leq_eq, gtr_eq, geq_eq, not_eq, minI_eq, maxI_eq, extract_0, extract_1, extract_2, eqlI, neqI, makeFunc_eq, decide_true, decide_false, if_true, if_false, Bool.false_eq_true, Bool.not_true, Bool.not_false, reduceIte, List.getElem?_toArray, List.getElem?_cons_zero, List.getElem?_cons_succ, Option.isSome_none, List.length_map]
    exact ⟨⟨i + 1, by omega, by rw [val_take hb], by trivial⟩, by simp [upTo, s3]; omega⟩
  · have hd : ((i : Int) < (rr.1.length : Int)) = False := by apply eq_false; omega
    rw [List.take_of_length_le (by omega)]
    simp only [hd, popO_some, bindH_eq, condV_bool, condV_true, condV_false, yV_bool, gopV_tt, gopV_ff, gopV_tf, gopV_ft, pickV_t, pickV_f, pickV_bool, nilS_ptr, add_eq, sub_eq, mul_eq, lss_eq, leq_eq, gtr_eq, geq_eq, not_eq, minI_eq, maxI_eq, extract_0, extract_1, extract_2, eqlI, neqI, makeFunc_eq, decide_true, decide_false, if_true, if_false, Bool.false_eq_true, Bool.not_true, Bool.not_false, reduceIte, List.getElem?_toArray, List.getElem?_cons_zero, List.getElem?_cons_succ, Option.isSome_none, List.length_map]
    exact hk _ (hR1.ext u2) (u1.trans u2.upd)
theorem RByte_ok {h : PH} {a : Nat} {e : Int} {s : List UInt8} (hR : RdAt h a e s) {k : Value → PH → Prop} (hk : ∀ h', RdAt h' a (rGet (e, s) 1).2.1 (rGet (e, s) 1).2.2 → Upd [a] h h' → k (.int .i64 (rGet (e, s) 1).1) h') :
    CallsH PG id_wire_Reader_Byte #[.pointer (some ⟨a, 0, none⟩)] h k := by
  apply wire_Reader_Byte.call
  unfold wire_Reader_Byte
  refine get_ok hR (c := 1) (by omega) fun h1 hR1 u1 => ?_
  have hlt := val_lt (rRaw (e, s) ((1 : Nat) : Int)).1
  have hlen := rRaw_len (e, s) 1
  have h2 : 256 ^ (rRaw (e, s) ((1 : Nat) : Int)).1.length ≤ 256 ^ 1 := Nat.pow_le_pow_right (by decide) hlen
  have e1 : IntKind.i64.wrap ((rGet (e, s) 1).1 : Int) = ((rGet (e, s) 1).1 : Int) := by unfold rGet; rw [i64_wrap (by omega) (by omega)]
  simp only [conv_ui, e1, popO_some, bindH_eq, condV_bool, condV_true, condV_false, yV_bool, gopV_tt, gopV_ff, gopV_tf, gopV_ft, pickV_t, pickV_f, pickV_bool, nilS_ptr, add_eq, sub_eq, mul_eq, lss_eq, leq_eq, gtr_eq, geq_eq, not_eq, minI_eq, maxI_eq, extract_0, extract_1, extract_2, eqlI, neqI, makeFunc_eq, decide_true, decide_false, if_true, if_false, Bool.false_eq_true, Bool.not_true, Bool.not_false, reduceIte, List.getElem?_toArray, List.getElem?_cons_zero, List.getElem?_cons_succ, Option.isSome_none, List.length_map]
  exact hk _ hR1 u1
theorem RNumber_ok {h : PH} {a : Nat} {e : Int} {s : List UInt8} (hR : RdAt h a e s) {k : Value → PH → Prop} (hk : ∀ h', RdAt h' a (rGet (e, s) 8).2.1 (rGet (e, s) 8).2.2 → Upd [a] h h' → k (.int .u64 (rGet (e, s) 8).1) h') :
    CallsH PG id_wire_Reader_Number #[.pointer (some ⟨a, 0, none⟩)] h k := by
  apply wire_Reader_Number.call
  unfold wire_Reader_Number
  exact get_ok hR (c := 8) (by omega) hk
def rText (st : Int × List UInt8) : List UInt8 × (Int × List UInt8) := rRaw (rGet st 2).2 (rGet st 2).1
theorem rGet_lt (st : Int × List UInt8) (c : Nat) : (rGet st c).1 < 256 ^ c := by
  unfold rGet
  have hlt := val_lt (rRaw st (c : Int)).1
  exact Nat.lt_of_lt_of_le hlt (Nat.pow_le_pow_right (by decide) (rRaw_len st c))
theorem RText_ok {h : PH} {a : Nat} {e : Int} {s : List UInt8} (hR : RdAt h a e s) {k : Value → PH → Prop} (hk : ∀ h', RdAt h' a (rText (e, s)).2.1 (rText (e, s)).2.2 → Upd [a] h h' → k (.string (tx (rText (e, s)).1)) h') :
    CallsH PG id_wire_Reader_Text #[.pointer (some ⟨a, 0, none⟩)] h k := by
  apply wire_Reader_Text.call
  unfold wire_Reader_Text
  refine get_ok hR (c := 2) (by omega) fun h1 hR1 u1 => ?_
  have hlt := rGet_lt (e, s) 2
  have e1 : IntKind.i64.wrap ((rGet (e, s) 2).1 : Int) = ((rGet (e, s) 2).1 : Int) := by rw [i64_wrap (by omega) (by omega)]
  simp only [conv_ui, e1, popO_some, bindH_eq, condV_bool, condV_true, condV_false, yV_bool, gopV_tt, gopV_ff, gopV_tf, gopV_ft, pickV_t, pickV_f, pickV_bool, nilS_ptr, add_eq, sub_eq, mul_eq, lss_eq, leq_eq, gtr_eq, geq_eq, not_eq, minI_eq, maxI_eq, extract_0, extract_1, extract_2, eqlI, neqI, makeFunc_eq, decide_true, decide_false, if_true, if_false, Bool.false_eq_true, Bool.not_true, Bool.not_false, reduceIte, List.getElem?_toArray, List.getElem?_cons_zero, List.getElem?_cons_succ, Option.isSome_none, List.length_map]
  exact Raw_ok hR1 _ fun h2 hR2 u2 => hk _ hR2 (u1.trans u2)
theorem RLeft_ok {h : PH} {a : Nat} {e : Int} {s : List UInt8} (hR : RdAt h a e s) {k : Value → PH → Prop} (hk : k (.int .i64 (if e = 0 then (s.length : Int) else 0)) h) :
    CallsH PG id_wire_Reader_Left #[.pointer (some ⟨a, 0, none⟩)] h k := by
  have ha := hR.here
  have c1 : cellH h ⟨a, 1, none⟩ = some (.string (tx s)) := by simp [cellH, ha]
  apply wire_Reader_Left.call
  unfold wire_Reader_Left
  simp only [T_wire_Reader.f0, popO_some, bindH_eq, condV_bool, condV_true, condV_false, yV_bool, gopV_tt, gopV_ff, gopV_tf, gopV_ft, pickV_t, pickV_f, pickV_bool, nilS_ptr, add_eq, sub_eq, mul_eq, lss_eq, leq_eq, gtr_eq, geq_eq, not_eq, minI_eq, maxI_eq, extract_0, extract_1, extract_2, eqlI, neqI, makeFunc_eq, decide_true, decide_false, if_true, if_false, Bool.false_eq_true, Bool.not_true, Bool.not_false, reduceIte, List.getElem?_toArray, List.getElem?_cons_zero, List.getElem?_cons_succ, Option.isSome_none, List.length_map]
  refine WErr_ok ha rfl ?_
  by_cases h0 : e = 0
  · have q : (e != 0) = false := by simp [h0]
    rw [if_pos h0] at hk
    simp only [q, T_wire_Reader.f1, Nat.zero_add, T_string.load, c1, T_string.len, tx_size, popO_some, bindH_eq, condV_bool, condV_true, condV_false, yV_bool, gopV_tt, gopV_ff, gopV_tf, gopV_ft, pickV_t, pickV_f, pickV_bool, nilS_ptr, add_eq, sub_eq, mul_eq, lss_eq, leq_eq, gtr_eq, geq_eq, not_eq, minI_eq, maxI_eq, extract_0, extract_1, extract_2, eqlI, neqI, makeFunc_eq, decide_true, decide_false, if_true, if_false, Bool.false_eq_true, Bool.not_true, Bool.not_false, reduceIte, List.getElem?_toArray, List.getElem?_cons_zero, List.getElem?_cons_succ, Option.isSome_none, List.length_map]
    exact hk
  · have q : (e != 0) = true := by simp [h0]
    rw [if_neg h0] at hk
    simp only [q, popO_some, bindH_eq, condV_bool, condV_true, condV_false, yV_bool, gopV_tt, gopV_ff, gopV_tf, gopV_ft, pickV_t, pickV_f, pickV_bool, nilS_ptr, add_eq, sub_eq, mul_eq, lss_eq, leq_eq, gtr_eq, geq_eq, not_eq, minI_eq, maxI_eq, extract_0, extract_1, extract_2, eqlI, neqI, makeFunc_eq, decide_true, decide_false, if_true, if_false, Bool.false_eq_true, Bool.not_true, Bool.not_false, reduceIte, List.getElem?_toArray, List.getElem?_cons_zero, List.getElem?_cons_succ, Option.isSome_none, List.length_map]
    exact hk
end Go.Proofs.YtlkjippiaghbmaaGreat
/- wire: writing, as a chain of rules. -/
set_option linter.unusedSimpArgs false
set_option linter.unusedVariables false
namespace Go.Proofs.YtlkjippiaghbmaaGreat
open Go
set_option maxRecDepth 20000
abbrev Stt := Int × List UInt8
def wNum (st : Stt) (n : Nat) : Stt := (st.1, st.2 ++ be n 8)
theorem wByte_len (st : Stt) (n : Int) : (wByte st n).2.length ≤ st.2.length + 1 := by
  unfold wByte; split <;> simp [be_len]
theorem wNum_len (st : Stt) (n : Nat) : (wNum st n).2.length ≤ st.2.length + 8 := by simp [wNum, be_len]
theorem wText_len (st : Stt) (l : List UInt8) : (wText st l).2.length ≤ st.2.length + 65537 := by
  unfold wText; split
  · simp [be_len]; omega
  · simp
/-- A writer made since h0. -/
abbrev WN (h0 : PH) (h : PH) (a : Nat) (st : Stt) (F : List Nat) : Prop := WS h0 [] h a st.1 st.2 F
theorem WN.upd {h0 h : PH} {a : Nat} {st : Stt} {F : List Nat} (S : WN h0 h a st F) : Ext h0 h := WS.upd S
theorem WN.fresh {h0 h : PH} {a : Nat} {st : Stt} {F : List Nat} (S : WN h0 h a st F) : Fresh h0 F := fun b hb => by
  rcases S.grow b hb with h1 | h1
  · cases h1
  · exact h1
/-- What is held beside the writer stays. -/
def Keep (h : PH) (F : List Nat) (h' : PH) (F' : List Nat) : Prop := ∀ r o, h r = some o → r ∉ F → h' r = some o ∧ r ∉ F'
theorem keepOf {h h' : PH} {F F' : List Nat} (u : Upd F h h') (g : ∀ b ∈ F', b ∈ F ∨ h b = none) : Keep h F h' F' := fun r o hr hn => ⟨u.get hr hn, fun hm => by
  rcases g r hm with h1 | h1
  · exact hn h1
  · rw [h1] at hr; cases hr⟩
theorem Byte_w {h0 h : PH} {a : Nat} {st : Stt} {F : List Nat} (S : WN h0 h a st F) (hl : st.2.length ≤ 1000000000) (n : Int) {k : Value → PH → Prop} (hk : ∀ h' F' x, x = wByte st n → WN h0 h' a x F' → Keep h F h' F' → k (.tuple #[]) h') : CallsH PG id_wire_Writer_Byte #[.pointer (some ⟨a, 0, none⟩), .int .i64 n] h k :=
  Byte_ok S.at_ (by omega) n fun h' F' hW u g => hk h' F' _ rfl (S.step hW u g) (keepOf u g)
theorem Number_w {h0 h : PH} {a : Nat} {st : Stt} {F : List Nat} (S : WN h0 h a st F) (hl : st.2.length ≤ 1000000000) {n : Nat} (hn : n < 18446744073709551616) {k : Value → PH → Prop} (hk : ∀ h' F' x, x = wNum st n → WN h0 h' a x F' → Keep h F h' F' → k (.tuple #[]) h') : CallsH PG id_wire_Writer_Number #[.pointer (some ⟨a, 0, none⟩), .int .u64 n] h k :=
  Number_ok S.at_ (by omega) hn fun h' F' hW u g => hk h' F' (wNum st n) rfl (S.step hW u g) (keepOf u g)
theorem Text_w {h0 h : PH} {a : Nat} {st : Stt} {F : List Nat} (S : WN h0 h a st F) (hl : st.2.length ≤ 1000000000) (ys : List UInt8) {k : Value → PH → Prop} (hk : ∀ h' F' x, x = wText st ys → WN h0 h' a x F' → Keep h F h' F' → k (.tuple #[]) h') : CallsH PG id_wire_Writer_Text #[.pointer (some ⟨a, 0, none⟩), .string (tx ys)] h k :=
  Text_ok S.at_ (by omega) fun h' F' hW u g => hk h' F' _ rfl (S.step hW u g) (keepOf u g)
/-- A box of one's own, beside the writer. -/
theorem WN.box {h0 h : PH} {a : Nat} {st : Stt} {F : List Nat} (S : WN h0 h a st F) {r : Nat} (hr : h r = none) : r ∉ F := fun hm => S.at_.known r hm hr
theorem WN.new {h0 h : PH} {a : Nat} {st : Stt} {F : List Nat} (S : WN h0 h a st F) {r : Nat} (hr : h r = none) (o : Obj) : WN h0 (h.set r o) a st F := WS.ext S (Upd.new hr)
end Go.Proofs.YtlkjippiaghbmaaGreat
/- maps: dropping a key, walking a map, a copy of it; on a part of memory. -/
set_option linter.unusedSectionVars false
set_option linter.unusedSimpArgs false
set_option linter.unusedVariables false
namespace Go.Proofs.YtlkjippiaghbmaaGreat
open Go
section
variable {P : Program} {h : PH} {t t' kt et : TypeId} {α : Type} [DecidableEq α] {enc : α → Value}

/-! ### dropping -/
def delM (l : List (α × Value)) (a : α) : List (α × Value) := l.filter fun p => decide (p.1 ≠ a)
theorem getM_del (l : List (α × Value)) (a b : α) : getM (delM l a) b = if b = a then none else getM l b := by
  induction l with
  | nil => simp [getM, delM]
  | cons p ps ih =>
    simp only [getM, delM] at ih ⊢
    simp only [List.filter_cons]
    by_cases hp : p.1 = a
    · simp only [hp, ne_eq, not_true, decide_false, Bool.false_eq_true, if_false, ih, List.find?_cons]
      by_cases hb : b = a
      · simp [hb]
      · simp [hb]
    · simp only [hp, ne_eq, not_false_eq_true, decide_true, if_true, List.find?_cons]
      by_cases hb : b = p.1
      · subst hb; simp [hp]
      · simp only [hb, decide_false]; exact ih
theorem erase_filter {β : Type} : ∀ (L : List (α × β)) (a : α) (q : Nat), (L.map (·.1)).Nodup → (L.map (·.1))[q]? = some a → L.eraseIdx q = L.filter fun p => decide (p.1 ≠ a)
  | [], a, q, _, hq => by simp at hq
  | p :: ps, a, 0, hnd, hq => by
    simp only [List.map_cons, List.getElem?_cons_zero, Option.some.injEq] at hq
    simp only [List.map_cons, List.nodup_cons] at hnd
    simp only [List.eraseIdx_cons_zero, List.filter_cons, hq, ne_eq, not_true, decide_false, Bool.false_eq_true, if_false]
    symm
    rw [List.filter_eq_self]
    intro x hx
    simp only [decide_eq_true_eq]
    rintro e
    exact hnd.1 (by rw [hq, ← e]; exact List.mem_map_of_mem hx)
  | p :: ps, a, q + 1, hnd, hq => by
    simp only [List.map_cons, List.getElem?_cons_succ] at hq
    simp only [List.map_cons, List.nodup_cons] at hnd
    have hne : p.1 ≠ a := fun e => hnd.1 (by rw [e]; exact List.mem_of_getElem? hq)
    simp only [List.eraseIdx_cons_succ, List.filter_cons, hne, ne_eq, not_false_eq_true, decide_true, if_true]
    rw [erase_filter ps a q hnd.2 hq]
theorem eraseIdx_map {β γ : Type} (f : β → γ) : ∀ (L : List β) (q : Nat), (L.map f).eraseIdx q = (L.eraseIdx q).map f
  | [], _ => rfl
  | _ :: _, 0 => rfl
  | x :: xs, q + 1 => by simp only [List.map_cons, List.eraseIdx_cons_succ, eraseIdx_map f xs q]
theorem nodup_len {β : Type} : ∀ (D L : List β), D.Nodup → (∀ p ∈ D, p ∈ L) → D.length ≤ L.length
  | [], _, _, _ => Nat.zero_le _
  | p :: ps, L, hn, hs => by
    obtain ⟨a, b, rfl⟩ := List.append_of_mem (hs p (by simp))
    simp only [List.nodup_cons] at hn
    have := nodup_len ps (a ++ b) hn.2 fun q hq => by
      have := hs q (by simp [hq])
      simp only [List.mem_append, List.mem_cons] at this ⊢
      rcases this with h | rfl | h
      · exact .inl h
      · exact absurd hq hn.1
      · exact .inr h
    simp only [List.length_cons, List.length_append] at this ⊢
    omega
theorem findL_none {a : α} {L : List (α × Value × Nat)} (e2 : a ∉ L.map (·.1)) : (L.filter fun p => decide (p.1 ≠ a)) = L := by
  rw [List.filter_eq_self]
  intro x hx
  simp only [decide_eq_true_eq]
  rintro e
  exact e2 (by rw [← e]; exact List.mem_map_of_mem hx)
theorem del_map (L : List (α × Value × Nat)) (a : α) : delM (L.map fun p => (p.1, p.2.1)) a = (L.filter fun p => decide (p.1 ≠ a)).map fun p => (p.1, p.2.1) := by
  unfold delM
  rw [List.filter_map]; rfl
theorem map_del {r : Nat} {l : List (α × Value)} (K : Keyed P kt enc) (hu : P.underlying t = some (.map kt et)) (H : MapAt enc h r l) (a : α) {ts : Array TypeId} (hts : ts[0]? = some t) {k : Value → PH → Prop}
    (hk : ∀ h', MapAt enc h' r (delM l a) → Upd [r] h h' → k (.tuple #[]) h') : SemH P (Builtin.delete_ ts t' #[.map (some r), enc a]) h k := by
  obtain ⟨es, c, L, h1, h2, rfl, hb1, hb2⟩ := H.here
  have hnd := H.nodup
  rw [mem_keys] at hnd
  unfold Builtin.delete_
  simp only [hts, List.getElem?_toArray, List.getElem?_cons_zero, List.getElem?_cons_succ]
  show SemH P (underlying t >>= _) h _
  rw [semH_und hu]
  dsimp only
  refine semH_getMap h1 ?_
  dsimp only
  refine semH_of_semE (K.chk h _ a) ?_
  rw [h2]
  refine semH_of_semE (findKey_eq K a L) ?_
  have hnd2 : (keysM (delM (L.map fun p => (p.1, p.2.1)) a)).Nodup := by
    rw [del_map, mem_keys]
    exact List.Nodup.sublist (List.Sublist.map _ List.filter_sublist) hnd
  have hb3 : ((L.filter fun p => decide (p.1 ≠ a)).map (·.2.2)).Nodup := List.Nodup.sublist (List.Sublist.map _ List.filter_sublist) hb1
  have hb4 : ∀ p ∈ L.filter fun p => decide (p.1 ≠ a), p.2.2 < c := fun p hp => hb2 p (List.mem_filter.1 hp).1
  rcases findL_at a L 0 with ⟨q, w, e1, e2, e3⟩ | ⟨e1, e2⟩
  · rw [e1, Nat.zero_add]
    show (∃ u, h r = some u ∧ (∀ c e f, u ≠ .cells c e f)) ∧ _
    refine ⟨⟨_, h1, by intros; simp⟩, ?_⟩
    show k (.tuple #[]) _
    refine hk _ ⟨hnd2, _, c, L.filter (fun p => decide (p.1 ≠ a)), set_same, ?_, del_map L a, hb3, hb4⟩ (Upd.set (by simp))
    rw [← erase_filter L a q hnd e2]
    have hq : q < es.size := by
      rw [← Array.length_toList, h2]
      have := (List.getElem?_eq_some_iff.1 e2).1
      simpa [ents] using this
    rw [Array.eraseIdxIfInBounds, dif_pos hq, Array.toList_eraseIdx, h2]
    unfold ents
    exact eraseIdx_map _ _ _
  · rw [e1]
    show (∃ u, h r = some u ∧ (∀ c e f, u ≠ .cells c e f)) ∧ _
    refine ⟨⟨_, h1, by intros; simp⟩, ?_⟩
    show k (.tuple #[]) _
    refine hk _ ⟨hnd2, _, c, L, set_same, h2, ?_, hb1, hb2⟩ (Upd.set (by simp))
    rw [del_map, findL_none e2]

/-! ### walking -/
/-- A walk over a map: 'D' has come. -/
structure MapIt (enc : α → Value) (h : PH) (r it : Nat) (l D : List (α × Value)) : Prop where
  nodup : (keysM l).Nodup
  here : ∃ (es : Array MapEntry) (c : Nat) (L DL : List (α × Value × Nat)) (S : Array Nat), h r = some (.map es c) ∧ es.toList = ents enc L ∧ l = L.map (fun p => (p.1, p.2.1)) ∧ (L.map (·.2.2)).Nodup ∧ (∀ p ∈ L, p.2.2 < c) ∧
    h it = some (.mapIter (some r) c S c) ∧ S.toList = DL.map (·.2.2) ∧ (∀ p ∈ DL, p ∈ L) ∧ DL.Nodup ∧ D = DL.map (fun p => (p.1, p.2.1))
theorem MapIt.upd {h h' : PH} {r it : Nat} {l D : List (α × Value)} {G : List Nat} (H : MapIt enc h r it l D) (u : Upd G h h') (hr : r ∉ G) (hi : it ∉ G) : MapIt enc h' r it l D := by
  obtain ⟨es, c, L, DL, S, h1, h2, h3, h4, h5, h6, h7⟩ := H.here
  exact ⟨H.nodup, es, c, L, DL, S, u.get h1 hr, h2, h3, h4, h5, u.get h6 hi, h7⟩
theorem MapIt.map {r it : Nat} {l D : List (α × Value)} (H : MapIt enc h r it l D) : MapAt enc h r l := by
  obtain ⟨es, c, L, DL, S, h1, h2, h3, h4, h5, _⟩ := H.here
  exact ⟨H.nodup, es, c, L, h1, h2, h3, h4, h5⟩
theorem MapIt.known {r it : Nat} {l D : List (α × Value)} (H : MapIt enc h r it l D) : h it ≠ none := by
  obtain ⟨es, c, L, DL, S, h1, h2, h3, h4, h5, h6, _⟩ := H.here; rw [h6]; simp
/-- How many are left. -/
def itLeft (n : Nat) (it : Nat) (h : PH) : Nat := match h it with
  | some (.mapIter _ _ S _) => n - S.size
  | _ => 0
theorem MapIt.left {r it : Nat} {l D : List (α × Value)} (H : MapIt enc h r it l D) (n : Nat) : itLeft n it h = n - D.length := by
  obtain ⟨es, c, L, DL, S, h1, h2, h3, h4, h5, h6, h7, _, _, h8⟩ := H.here
  unfold itLeft
  rw [h6]
  have : S.size = D.length := by rw [← Array.length_toList, h7, h8]; simp
  simp only [this]
theorem MapIt.le {r it : Nat} {l D : List (α × Value)} (H : MapIt enc h r it l D) : D.length ≤ l.length := by
  obtain ⟨es, c, L, DL, S, h1, h2, rfl, h4, h5, h6, h7, h9, h10, rfl⟩ := H.here
  rw [List.length_map, List.length_map]
  exact nodup_len _ _ h10 h9
theorem range_it {r : Nat} {l : List (α × Value)} (hu : P.underlying t = some (.map kt et)) (H : MapAt enc h r l) {k : Value → PH → Prop}
    (hk : ∀ it h', h it = none → MapIt enc h' r it l [] → Ext h h' → k (.pointer (some ⟨it, 0, none⟩)) h') : SemH P (Instr.range t (.map (some r))) h k := by
  obtain ⟨es, c, L, h1, h2, rfl, hb1, hb2⟩ := H.here
  unfold Instr.range
  show SemH P (underlying t >>= _) h _
  rw [semH_und hu]
  have key : ∀ (X : Sem Obj) (f : Obj → Sem Value), SemH P X h (fun o h' => SemH P (f o) h' k) → SemH P (X >>= f) h k := fun X f hX => SemH.bind (P := P) (s := X) hX
  refine key _ _ ?_
  refine semH_getMap h1 ?_
  intro it hit
  exact hk it _ hit ⟨H.nodup, es, c, L, [], #[], set_old hit h1, h2, rfl, hb1, hb2, set_same, rfl, by simp, by simp, rfl⟩ (Upd.new hit)

theorem nodup_of_map {β γ : Type} (f : β → γ) : ∀ {L : List β}, (L.map f).Nodup → L.Nodup
  | [], _ => List.nodup_nil
  | x :: xs, hnd => by
    simp only [List.map_cons, List.nodup_cons] at hnd ⊢
    exact ⟨fun hm => hnd.1 (List.mem_map_of_mem hm), nodup_of_map f hnd.2⟩
theorem nodup_inj {β γ : Type} {f : β → γ} : ∀ {L : List β}, (L.map f).Nodup → ∀ {p q : β}, p ∈ L → q ∈ L → f p = f q → p = q
  | [], _, p, q, hp, _, _ => by cases hp
  | x :: xs, hnd, p, q, hp, hq, e => by
    simp only [List.map_cons, List.nodup_cons] at hnd
    rcases List.mem_cons.1 hp with hp | hp
    · rcases List.mem_cons.1 hq with hq | hq
      · rw [hp, hq]
      · exact absurd (by rw [← hp, e]; exact List.mem_map_of_mem hq) hnd.1
    · rcases List.mem_cons.1 hq with hq | hq
      · exact absurd (by rw [← hq, ← e]; exact List.mem_map_of_mem hp) hnd.1
      · exact nodup_inj hnd.2 hp hq e
theorem semH_getO {r : Nat} {o : Obj} {β : Type} {Q : β → PH → Prop} (hr : h r = some o) (hc : ∀ c e f, o ≠ .cells c e f) {f : Obj → Sem β} (hq : SemH P (f o) h Q) : SemH P (getObj r >>= f) h Q := by
  show ∃ o, h r = some o ∧ (∀ c e f, o ≠ .cells c e f) ∧ SemH P _ h Q
  exact ⟨o, hr, hc, hq⟩
theorem next_it {r it : Nat} {l D : List (α × Value)} (H : MapIt enc h r it l D) {k : Value → PH → Prop}
    (hnil : D.Perm l → k (.tuple #[.bool false]) h)
    (hcons : ∀ a v h', (a, v) ∈ l → a ∉ keysM D → MapIt enc h' r it l (D ++ [(a, v)]) → Upd [it] h h' → k (.tuple #[.bool true, enc a, v]) h') : SemH P (Instr.next (.pointer (some ⟨it, 0, none⟩)) false t) h k := by
  obtain ⟨es, c, L, DL, S, h1, h2, h3, hb1, hb2, hi, hS, hDL, hDn, hD⟩ := H.here
  unfold Instr.next
  refine semH_getO hi (by intros; simp) ?_
  dsimp only
  refine semH_getMap h1 ?_
  dsimp only
  have hborn : ∀ e ∈ es.toList, e.born < c := fun e he => by
    rw [h2] at he
    obtain ⟨p, hp, rfl⟩ := List.mem_map.1 he
    exact hb2 p hp
  have hgo : (!S.isEmpty && !es.isEmpty && es.all (·.born ≥ c)) = false := by
    by_cases he : es.isEmpty = true
    · simp [he]
    · have : es.all (·.born ≥ c) = false := by
        rw [Bool.eq_false_iff]
        intro hall
        have hne : es.toList ≠ [] := by intro e; apply he; simpa using e
        obtain ⟨x, xs, hx⟩ := List.exists_cons_of_ne_nil hne
        have h1 := hborn x (by rw [hx]; simp)
        have h2 := Array.all_eq_true_iff_forall_mem.1 hall x (by rw [← Array.mem_toList_iff, hx]; simp)
        simp only [ge_iff_le, decide_eq_true_eq] at h2
        omega
      simp [this]
  rw [hgo]
  simp only [Bool.false_eq_true, if_false]
  obtain ⟨LL, hLL⟩ : ∃ LL : List (α × Value × Nat), LL = L.filter fun p => decide (p.2.2 ∉ DL.map (·.2.2)) := ⟨_, rfl⟩
  have hleft : (es.filter fun e => !S.contains e.born).toList = ents enc LL := by
    rw [Array.toList_filter, h2, hLL]
    unfold ents
    rw [List.filter_map]
    congr 1
    apply List.filter_congr
    intro p _
    simp only [Function.comp]
    rw [← Array.contains_toList, hS]
    by_cases hm : p.2.2 ∈ DL.map (·.2.2)
    · simp [hm]
    · simp [hm]
  have hmemLL : ∀ p, p ∈ LL ↔ p ∈ L ∧ p.2.2 ∉ DL.map (·.2.2) := fun p => by rw [hLL, List.mem_filter]; simp
  have hold : ((es.filter fun e => !S.contains e.born).filter (·.born < c)).toList = ents enc LL := by
    rw [Array.toList_filter, hleft, List.filter_eq_self]
    intro e he
    obtain ⟨p, hp, rfl⟩ := List.mem_map.1 he
    simpa using hb2 p ((hmemLL p).1 hp).1
  have hnew : ((es.filter fun e => !S.contains e.born).filter (·.born ≥ c)) = #[] := by
    rw [← Array.toList_inj, Array.toList_filter, hleft]
    show _ = []
    rw [List.filter_eq_nil_iff]
    intro e he
    obtain ⟨p, hp, rfl⟩ := List.mem_map.1 he
    have := hb2 p ((hmemLL p).1 hp).1
    simp only [ge_iff_le, decide_eq_true_eq]; omega
  generalize ho : (es.filter fun e => !S.contains e.born).filter (·.born < c) = old at hold
  rw [hnew]
  simp only [Array.append_empty]
  by_cases hemp : LL = []
  · have hold0 : old = #[] := by rw [← Array.toList_inj, hold, hemp]; rfl
    subst hold0
    simp only [List.isEmpty_toArray, List.isEmpty_nil, if_true, List.map_toArray, List.map_nil, Array.append_empty, List.size_toArray, List.length_cons, List.length_nil, Nat.zero_add]
    rw [semH_choose]
    intro tt
    have : (if Question.forced (.mapNext 1) then 0 else Question.cut (.mapNext 1) tt) = 0 := by simp [Question.forced]
    rw [this]
    show k (.tuple #[.bool false]) h
    refine hnil ?_
    rw [hD, h3]
    apply List.Perm.map
    refine (List.perm_ext_iff_of_nodup hDn ?_).2 fun p => ⟨hDL p, fun hp => ?_⟩
    · exact nodup_of_map _ hb1
    · by_cases hm : p.2.2 ∈ DL.map (·.2.2)
      · obtain ⟨q, hq, e⟩ := List.mem_map.1 hm
        rw [nodup_inj (f := fun p : α × Value × Nat => p.2.2) hb1 hp (hDL q hq) e.symm]; exact hq
      · have := (hmemLL p).2 ⟨hp, hm⟩
        rw [hemp] at this; cases this
  · have hne : old.isEmpty = false := by
      rw [Bool.eq_false_iff]
      intro e
      have : old.toList = [] := by simpa using e
      rw [hold] at this
      exact hemp (List.map_eq_nil_iff.1 this)
    rw [hne]
    simp only [Bool.false_eq_true, if_false, Array.empty_append, Array.size_map]
    have hpos : 0 < old.size := by
      rw [← Array.length_toList, hold]
      unfold ents
      rw [List.length_map]
      exact List.length_pos_iff.2 hemp
    rw [semH_choose]
    intro tt
    obtain ⟨j, hj, hjlt⟩ : ∃ j, (if Question.forced (.mapNext old.size) then 0 else Question.cut (.mapNext old.size) tt) = j ∧ j < old.size := by
      refine ⟨_, rfl, ?_⟩
      split
      · exact hpos
      · exact Nat.mod_lt _ hpos
    rw [hj]
    have hjl : j < LL.length := by
      have : old.size = LL.length := by rw [← Array.length_toList, hold]; simp [ents]
      omega
    have hget : (old.map some)[j]? = some (some ⟨enc LL[j].1, LL[j].2.1, LL[j].2.2⟩) := by
      rw [Array.getElem?_map, ← Array.getElem?_toList, hold]
      simp [ents, hjl]
    rw [hget]
    dsimp only
    have hp := (hmemLL LL[j]).1 (List.getElem_mem hjl)
    generalize LL[j] = p at hp
    obtain ⟨hpL, hpD⟩ := hp
    show (∃ u, h it = some u ∧ (∀ c e f, u ≠ .cells c e f)) ∧ _
    refine ⟨⟨_, hi, by intros; simp⟩, ?_⟩
    have hri : r ≠ it := fun e => by rw [e, hi] at h1; cases h1
    refine hcons p.1 p.2.1 _ ?_ ?_ ⟨H.nodup, es, c, L, DL ++ [p], S.push p.2.2, (by rw [set_other hri]; exact h1), h2, h3, hb1, hb2, set_same, ?_, ?_, ?_, ?_⟩ (Upd.set (by simp))
    · rw [h3]; exact List.mem_map_of_mem hpL
    · intro hm
      rw [hD, mem_keys] at hm
      obtain ⟨q, hq, e⟩ := List.mem_map.1 hm
      have hnd := H.nodup
      rw [h3, mem_keys] at hnd
      have hqL := hDL q hq
      have : q = p := nodup_inj (f := fun p : α × Value × Nat => p.1) hnd hqL hpL e
      exact hpD (by rw [← this]; exact List.mem_map_of_mem hq)
    · rw [Array.toList_push, hS]; simp
    · intro q hq
      rcases List.mem_append.1 hq with hq | hq
      · exact hDL q hq
      · simp only [List.mem_singleton] at hq; subst hq; exact hpL
    · rw [List.nodup_append]
      refine ⟨hDn, by simp, ?_⟩
      intro x hx y hy
      simp only [List.mem_singleton] at hy
      subst hy
      rintro rfl
      exact hpD (List.mem_map_of_mem hx)
    · rw [hD]; simp
theorem entry_it {r it : Nat} {l D : List (α × Value)} {a : α} {v : Value} (H : MapIt enc h r it l (D ++ [(a, v)])) {k : Value → PH → Prop} (hk : k (.tuple #[enc a, v]) h) : SemH P (Instr.entry (.pointer (some ⟨it, 0, none⟩))) h k := by
  obtain ⟨es, c, L, DL, S, h1, h2, h3, hb1, hb2, hi, hS, hDL, hDn, hD⟩ := H.here
  obtain ⟨DL', p, rfl, hp1⟩ : ∃ DL' p, DL = DL' ++ [p] ∧ (a, v) = (p.1, p.2.1) := by
    rcases List.eq_nil_or_concat DL with rfl | ⟨DL', p, rfl⟩
    · simp at hD
    · refine ⟨DL', p, by simp, ?_⟩
      simp only [List.concat_eq_append, List.map_append, List.map_cons, List.map_nil] at hD
      have := List.append_inj_right' hD rfl
      simpa using this
  simp only [Prod.mk.injEq] at hp1
  obtain ⟨rfl, rfl⟩ := hp1
  have hpL := hDL p (by simp)
  unfold Instr.entry
  refine semH_getO hi (by intros; simp) ?_
  dsimp only
  have hback : S.back? = some p.2.2 := by
    rw [← Array.getLast?_toList, hS]; simp
  rw [hback]
  dsimp only
  refine semH_getMap h1 ?_
  dsimp only
  simp only [bne_self_eq_false, Bool.false_eq_true, if_false]
  have hfind : es.find? (·.born == p.2.2) = some ⟨enc p.1, p.2.1, p.2.2⟩ := by
    rw [← Array.find?_toList, h2]
    unfold ents
    rw [List.find?_map]
    have : L.find? ((fun e : MapEntry => e.born == p.2.2) ∘ fun p => ⟨enc p.1, p.2.1, p.2.2⟩) = some p := by
      cases hf : L.find? ((fun e : MapEntry => e.born == p.2.2) ∘ fun p => ⟨enc p.1, p.2.1, p.2.2⟩) with
      | none =>
        rw [List.find?_eq_none] at hf
        have := hf p hpL
        simp at this
      | some q =>
        have hq := List.mem_of_find?_eq_some hf
        have he := List.find?_some hf
        simp only [Function.comp, beq_iff_eq] at he
        rw [nodup_inj (f := fun p : α × Value × Nat => p.2.2) hb1 hq hpL he]
    rw [this]; rfl
  rw [hfind]
  exact hk

/-! ### a copy -/
theorem clone_map {r : Nat} {l : List (α × Value)} (H : MapAt enc h r l) {k : Value → PH → Prop}
    (hk : ∀ r' h', h r' = none → MapAt enc h' r' l → Ext h h' → k (.iface t (.map (some r'))) h') : SemH P (Extern.MapsClone.clone #[.iface t (.map (some r))]) h k := by
  obtain ⟨es, c, L, h1, h2, h3, hb1, hb2⟩ := H.here
  unfold Extern.MapsClone.clone
  refine semH_getMap h1 ?_
  intro r' hr'
  exact hk r' _ hr' ⟨H.nodup, es, c, L, set_same, h2, h3, hb1, hb2⟩ (Upd.new hr')
end
end Go.Proofs.YtlkjippiaghbmaaGreat
/- packets: what may be; boxes. -/
set_option linter.unusedSimpArgs false
set_option linter.unusedVariables false
namespace Go.Proofs.YtlkjippiaghbmaaGreat
open Go

structure Pk where
  f : Int
  s : Int
  t : Int
  d : ByteArray
  deriving DecidableEq
instance : Inhabited Pk := ⟨⟨0, 0, 0, ⟨#[]⟩⟩⟩
def Pk.cells (p : Pk) : List Value := [.int .i64 p.f, .int .u64 p.s, .int .u64 p.t, .string p.d]
theorem Pk.allCell (p : Pk) : ∀ v ∈ p.cells.toArray.toList, isCell v = true := by simp [Pk.cells, isCell]
/-! ### boxes -/
theorem Bx.pk {h : PH} {r : Nat} {cs : List Value} (H : Bx h r cs) {o : Nat} {p : Pk} (ho : (cs.drop o).take 4 = p.cells) : SemE PG h (Instr.loadAt T_api_Packet (.pointer (some ⟨r, o, none⟩))) = some (.agg p.cells.toArray) := by
  obtain ⟨e, h1⟩ := H
  have hl : o + 4 ≤ cs.length := by
    have : ((cs.drop o).take 4).length = 4 := by rw [ho]; rfl
    rw [List.length_take, List.length_drop] at this; omega
  rw [T_api_Packet.loadAgg h1 (by simpa using hl)]
  congr 2
  rw [← ho]; simp [List.drop_take]
/-! ### what may be -/
def Pk.right (p : Pk) : Bool := decide (0 ≤ p.f) && decide (p.f ≤ 1) && decide (p.s ≠ 0) && decide (p.t ≠ 0) && decide (p.d.size ≤ 64)
set_option maxRecDepth 20000 in
theorem Check_ok {h : PH} (p : Pk) {k : Value → PH → Prop} (hk : ∀ h', Ext h h' → k (.int .i64 (if p.right then 0 else 1)) h') : CallsH PG id_packet_Check #[.agg p.cells.toArray] h k := by
  apply packet_Check.call
  unfold packet_Check
  intro r hr
  rw [bindH_eq]
  have u : Ext h (h.set r (.cells (Value.cells (.agg p.cells.toArray)) T_api_Packet)) := Upd.new hr
  have b : Bx (h.set r (.cells (Value.cells (.agg p.cells.toArray)) T_api_Packet)) r p.cells := Bx.new
  generalize h.set r (.cells (Value.cells (.agg p.cells.toArray)) T_api_Packet) = h1 at *
  have c0 : cellH h1 ⟨r, 0, none⟩ = some (.int .i64 p.f) := b.cell 0
  have c1 : cellH h1 ⟨r, 0 + 1, none⟩ = some (.int .u64 p.s) := b.cell 1
  have c2 : cellH h1 ⟨r, 0 + 2, none⟩ = some (.int .u64 p.t) := b.cell 2
  have c3 : cellH h1 ⟨r, 0 + 3, none⟩ = some (.string p.d) := b.cell 3
  have hk := hk h1 u
  unfold Pk.right at hk
  simp only [T_api_Packet.f0, T_api_Packet.f1, T_api_Packet.f2, T_api_Packet.f3, T_int.load, T_uint64.load, T_string.load, c0, popO_some, bindH_eq, condV_bool, condV_true, condV_false, yV_bool, gopV_tt, gopV_ff, gopV_tf, gopV_ft, pickV_t, pickV_f, pickV_bool, nilS_ptr, add_eq, sub_eq, mul_eq, lss_eq, leq_eq, gtr_eq, geq_eq, not_eq, minI_eq, maxI_eq, extract_0, extract_1, extract_2, eqlI, neqI, makeFunc_eq, decide_true, decide_false, if_true, if_false, Bool.false_eq_true, Bool.not_true, Bool.not_false, reduceIte, List.getElem?_toArray, List.getElem?_cons_zero, List.getElem?_cons_succ, Option.isSome_none, List.length_map]
  by_cases d1 : p.f < 0
  · have e1 : (0 ≤ p.f) = False := by apply eq_false; omega
    simp only [T_api_Packet.f0, T_api_Packet.f1, T_api_Packet.f2, T_api_Packet.f3, T_int.load, T_uint64.load, T_string.load, c0, d1, e1, Bool.false_and, decide_false, popO_some, bindH_eq, condV_bool, condV_true, condV_false, yV_bool, gopV_tt, gopV_ff, gopV_tf, gopV_ft, pickV_t, pickV_f, pickV_bool, nilS_ptr, add_eq, sub_eq, mul_eq, lss_eq, leq_eq, gtr_eq, geq_eq, not_eq, minI_eq, maxI_eq, extract_0, extract_1, extract_2, eqlI, neqI, makeFunc_eq, decide_true, decide_false, if_true, if_false, Bool.false_eq_true, Bool.not_true, Bool.not_false, reduceIte, List.getElem?_toArray, List.getElem?_cons_zero, List.getElem?_cons_succ, Option.isSome_none, List.length_map] at hk ⊢
    exact hk
  · have e1 : (0 ≤ p.f) = True := by apply eq_true; omega
    by_cases d2 : 1 < p.f
    · have e2 : (p.f ≤ 1) = False := by apply eq_false; omega
      simp only [T_api_Packet.f0, T_api_Packet.f1, T_api_Packet.f2, T_api_Packet.f3, T_int.load, T_uint64.load, T_string.load, c0, d1, e1, d2, e2, Bool.false_and, Bool.and_false, decide_false, popO_some, bindH_eq, condV_bool, condV_true, condV_false, yV_bool, gopV_tt, gopV_ff, gopV_tf, gopV_ft, pickV_t, pickV_f, pickV_bool, nilS_ptr, add_eq, sub_eq, mul_eq, lss_eq, leq_eq, gtr_eq, geq_eq, not_eq, minI_eq, maxI_eq, extract_0, extract_1, extract_2, eqlI, neqI, makeFunc_eq, decide_true, decide_false, if_true, if_false, Bool.false_eq_true, Bool.not_true, Bool.not_false, reduceIte, List.getElem?_toArray, List.getElem?_cons_zero, List.getElem?_cons_succ, Option.isSome_none, List.length_map] at hk ⊢
      exact hk
    · have e2 : (p.f ≤ 1) = True := by apply eq_true; omega
      by_cases d3 : p.s = 0
      · have e3 : (p.s == 0) = true := by simp [d3]
        have e3' : (p.s ≠ 0) = False := by simp [d3]
        simp only [T_api_Packet.f0, T_api_Packet.f1, T_api_Packet.f2, T_api_Packet.f3, T_int.load, T_uint64.load, T_string.load, c0, d1, e1, d2, e2, c1, e3, e3', Bool.false_and, Bool.and_false, decide_false, popO_some, bindH_eq, condV_bool, condV_true, condV_false, yV_bool, gopV_tt, gopV_ff, gopV_tf, gopV_ft, pickV_t, pickV_f, pickV_bool, nilS_ptr, add_eq, sub_eq, mul_eq, lss_eq, leq_eq, gtr_eq, geq_eq, not_eq, minI_eq, maxI_eq, extract_0, extract_1, extract_2, eqlI, neqI, makeFunc_eq, decide_true, decide_false, if_true, if_false, Bool.false_eq_true, Bool.not_true, Bool.not_false, reduceIte, List.getElem?_toArray, List.getElem?_cons_zero, List.getElem?_cons_succ, Option.isSome_none, List.length_map] at hk ⊢
        exact hk
      · have e3 : (p.s == 0) = false := by simp [d3]
        have e3' : (p.s ≠ 0) = True := by simp [d3]
        by_cases d4 : p.t = 0
        · have e4 : (p.t == 0) = true := by simp [d4]
          have e4' : (p.t ≠ 0) = False := by simp [d4]
          simp only [T_api_Packet.f0, T_api_Packet.f1, T_api_Packet.f2, T_api_Packet.f3, T_int.load, T_uint64.load, T_string.load, c0, d1, e1, d2, e2, c1, e3, e3', c2, e4, e4', Bool.false_and, Bool.and_false, decide_false, popO_some, bindH_eq, condV_bool, condV_true, condV_false, yV_bool, gopV_tt, gopV_ff, gopV_tf, gopV_ft, pickV_t, pickV_f, pickV_bool, nilS_ptr, add_eq, sub_eq, mul_eq, lss_eq, leq_eq, gtr_eq, geq_eq, not_eq, minI_eq, maxI_eq, extract_0, extract_1, extract_2, eqlI, neqI, makeFunc_eq, decide_true, decide_false, if_true, if_false, Bool.false_eq_true, Bool.not_true, Bool.not_false, reduceIte, List.getElem?_toArray, List.getElem?_cons_zero, List.getElem?_cons_succ, Option.isSome_none, List.length_map] at hk ⊢
          exact hk
        · have e4 : (p.t == 0) = false := by simp [d4]
          have e4' : (p.t ≠ 0) = True := by simp [d4]
          by_cases d5 : p.d.size ≤ 64
          · have e5 : ((64 : Int) < (p.d.size : Int)) = False := by apply eq_false; omega
            simp only [T_api_Packet.f0, T_api_Packet.f1, T_api_Packet.f2, T_api_Packet.f3, T_int.load, T_uint64.load, T_string.load, c0, d1, e1, d2, e2, c1, e3, e3', c2, e4, e4', c3, len_string T_string.und, e5, d5, Bool.and_self, Bool.true_and, popO_some, bindH_eq, condV_bool, condV_true, condV_false, yV_bool, gopV_tt, gopV_ff, gopV_tf, gopV_ft, pickV_t, pickV_f, pickV_bool, nilS_ptr, add_eq, sub_eq, mul_eq, lss_eq, leq_eq, gtr_eq, geq_eq, not_eq, minI_eq, maxI_eq, extract_0, extract_1, extract_2, eqlI, neqI, makeFunc_eq, decide_true, decide_false, if_true, if_false, Bool.false_eq_true, Bool.not_true, Bool.not_false, reduceIte, List.getElem?_toArray, List.getElem?_cons_zero, List.getElem?_cons_succ, Option.isSome_none, List.length_map] at hk ⊢
            exact hk
          · have e5 : ((64 : Int) < (p.d.size : Int)) = True := by apply eq_true; omega
            simp only [T_api_Packet.f0, T_api_Packet.f1, T_api_Packet.f2, T_api_Packet.f3, T_int.load, T_uint64.load, T_string.load, c0, d1, e1, d2, e2, c1, e3, e3', c2, e4, e4', c3, len_string T_string.und, e5, d5, Bool.and_false, decide_false, popO_some, bindH_eq, condV_bool, condV_true, condV_false, yV_bool, gopV_tt, gopV_ff, gopV_tf, gopV_ft, pickV_t, pickV_f, pickV_bool, nilS_ptr, add_eq, sub_eq, mul_eq, lss_eq, leq_eq, gtr_eq, geq_eq, not_eq, minI_eq, maxI_eq, extract_0, extract_1, extract_2, eqlI, neqI, makeFunc_eq, decide_true, decide_false, if_true, if_false, Bool.false_eq_true, Bool.not_true, Bool.not_false, reduceIte, List.getElem?_toArray, List.getElem?_cons_zero, List.getElem?_cons_succ, Option.isSome_none, List.length_map] at hk ⊢
            exact hk
end Go.Proofs.YtlkjippiaghbmaaGreat
/- bytes of packets, lists, places: what is written, what is read, and that they are each other's. -/
set_option linter.unusedSimpArgs false
set_option linter.unusedVariables false
namespace Go.Proofs.YtlkjippiaghbmaaGreat
open Go
set_option maxRecDepth 20000
/-! ### writing -/
def Pk.tx (p : Pk) : Tx := p.d.data.toList
def wPk (st : Stt) (p : Pk) : Stt := if p.right then wText (wNum (wNum (wByte st p.f) p.s.toNat) p.t.toNat) p.tx else wByte st (-1)
def kindN (n g : Int) : Int := if n < 1 ∨ g < n then -1 else n
def wOne (st : Stt) (x : Int × Pk) : Stt := wPk (wByte st x.1) x.2
def wList (st : Stt) (l : List (Int × Pk)) : Stt := l.foldl wOne (wByte st l.length)
structure Pl where
  h : Int
  i : Int
  deriving DecidableEq
def Pl.cells (q : Pl) : List Value := [.int .u64 q.h, .int .i64 q.i]
def Pl.zero : Pl := ⟨0, 0⟩
def wPl (st : Stt) (q : Pl) : Stt := wNum (wNum (if q.i < 0 ∨ 65535 < q.i then wByte st (-1) else st) q.h.toNat) (IntKind.u64.wrap q.i).toNat
/-- A writer that has failed stays so. -/
theorem wByte_bad {st : Stt} (h : st.1 = 1) (n : Int) : (wByte st n).1 = 1 := by unfold wByte; split <;> simp [h]
theorem wNum_bad {st : Stt} (h : st.1 = 1) (n : Nat) : (wNum st n).1 = 1 := h
theorem wText_bad {st : Stt} (h : st.1 = 1) (l : Tx) : (wText st l).1 = 1 := by unfold wText; split <;> simp [h]
theorem wPk_bad {st : Stt} (h : st.1 = 1) (p : Pk) : (wPk st p).1 = 1 := by
  unfold wPk; split
  · exact wText_bad (wNum_bad (wNum_bad (wByte_bad h _) _) _) _
  · exact wByte_bad h _
theorem wFold_bad : ∀ (l : List (Int × Pk)) {st : Stt}, st.1 = 1 → (l.foldl wOne st).1 = 1
  | [], _, h => h
  | x :: l, st, h => wFold_bad l (wPk_bad (wByte_bad h _) _)
theorem wList_bad {st : Stt} (h : st.1 = 1) (l : List (Int × Pk)) : (wList st l).1 = 1 := wFold_bad l (wByte_bad h _)
theorem wPl_bad {st : Stt} (h : st.1 = 1) (q : Pl) : (wPl st q).1 = 1 := by
  unfold wPl; split
  · exact wByte_bad h _
  · exact h
/-! ### what is written of what may be -/
def Pk.bs (p : Pk) : Tx := be p.f.toNat 1 ++ (be p.s.toNat 8 ++ (be p.t.toNat 8 ++ (be p.tx.length 2 ++ p.tx)))
theorem tx_len (p : Pk) : p.tx.length = p.d.size := rfl
theorem Pk.right_iff {p : Pk} : p.right = true ↔ 0 ≤ p.f ∧ p.f ≤ 1 ∧ p.s ≠ 0 ∧ p.t ≠ 0 ∧ p.d.size ≤ 64 := by
  unfold Pk.right
  simp only [Bool.and_eq_true, decide_eq_true_eq, and_assoc]
theorem wPk_good {p : Pk} (h : p.right = true) (b : Tx) : wPk (0, b) p = (0, b ++ p.bs) := by
  obtain ⟨h1, h2, -, -, h5⟩ := Pk.right_iff.1 h
  unfold wPk
  rw [if_pos h]
  unfold wByte wNum wText
  rw [if_pos (show p.tx.length ≤ 65535 by rw [tx_len]; omega), if_pos (show 0 ≤ p.f ∧ p.f ≤ 255 from ⟨h1, by omega⟩)]
  simp only [Pk.bs, List.append_assoc]
theorem wPk_wrong {p : Pk} (h : p.right = false) (b : Tx) : (wPk (0, b) p).1 = 1 := by
  unfold wPk
  rw [if_neg (by simp [h])]
  rfl
def oneBs (x : Int × Pk) : Tx := be x.1.toNat 1 ++ x.2.bs
def onesBs : List (Int × Pk) → Tx
  | [] => []
  | x :: l => oneBs x ++ onesBs l
def listBs (l : List (Int × Pk)) : Tx := be l.length 1 ++ onesBs l
def okOne (x : Int × Pk) : Prop := 0 ≤ x.1 ∧ x.1 ≤ 255 ∧ x.2.right = true
instance (x : Int × Pk) : Decidable (okOne x) := by unfold okOne; infer_instance
theorem wOne_good {x : Int × Pk} (h : okOne x) (b : Tx) : wOne (0, b) x = (0, b ++ oneBs x) := by
  unfold wOne wByte
  rw [if_pos ⟨h.1, h.2.1⟩, wPk_good h.2.2, oneBs, List.append_assoc]
theorem wOne_wrong {x : Int × Pk} (h : ¬ okOne x) (b : Tx) : (wOne (0, b) x).1 = 1 := by
  unfold wOne
  by_cases h1 : 0 ≤ x.1 ∧ x.1 ≤ 255
  · have h2 : x.2.right = false := by
      cases e : x.2.right with
      | false => rfl
      | true => exact absurd ⟨h1.1, h1.2, e⟩ h
    unfold wByte
    rw [if_pos h1]
    exact wPk_wrong h2 _
  · refine wPk_bad ?_ _
    unfold wByte
    rw [if_neg h1]; rfl
theorem wFold_good : ∀ (l : List (Int × Pk)) (b : Tx), (∀ x ∈ l, okOne x) → l.foldl wOne (0, b) = (0, b ++ onesBs l)
  | [], b, _ => by simp [onesBs]
  | x :: l, b, h => by
    rw [List.foldl_cons, wOne_good (h x (by simp)), wFold_good l _ (fun y hy => h y (by simp [hy])), onesBs, List.append_assoc]
theorem wFold_wrong : ∀ (l : List (Int × Pk)) (b : Tx), ¬ (∀ x ∈ l, okOne x) → (l.foldl wOne (0, b)).1 = 1
  | [], b, h => absurd (by simp) h
  | x :: l, b, h => by
    rw [List.foldl_cons]
    by_cases hx : okOne x
    · rw [wOne_good hx]
      exact wFold_wrong l _ fun hl => h fun y hy => by
        rcases List.mem_cons.1 hy with rfl | hy
        · exact hx
        · exact hl y hy
    · exact wFold_bad l (wOne_wrong hx b)
def okList (l : List (Int × Pk)) : Prop := l.length ≤ 255 ∧ ∀ x ∈ l, okOne x
theorem wList_good {l : List (Int × Pk)} (h : okList l) (b : Tx) : wList (0, b) l = (0, b ++ listBs l) := by
  unfold wList wByte
  have h1 := h.1
  rw [if_pos ⟨by omega, by omega⟩, wFold_good l _ h.2, listBs, List.append_assoc, Int.toNat_natCast]
theorem wList_wrong {l : List (Int × Pk)} (h : ¬ okList l) (b : Tx) : (wList (0, b) l).1 = 1 := by
  unfold wList
  by_cases h1 : l.length ≤ 255
  · unfold wByte
    rw [if_pos ⟨by omega, by omega⟩]
    exact wFold_wrong l _ fun hl => h ⟨h1, hl⟩
  · refine wFold_bad l ?_
    unfold wByte
    rw [if_neg (by omega)]; rfl
def okPl (q : Pl) : Prop := 0 ≤ q.i ∧ q.i ≤ 65535
instance (q : Pl) : Decidable (okPl q) := by unfold okPl; infer_instance
def Pl.bs (q : Pl) : Tx := be q.h.toNat 8 ++ be q.i.toNat 8
theorem wPl_good {q : Pl} (h : okPl q) (b : Tx) : wPl (0, b) q = (0, b ++ q.bs) := by
  unfold okPl at h
  unfold wPl wNum
  rw [if_neg (by omega), u64_wrap (by omega) (by omega), Pl.bs, List.append_assoc]
theorem wPl_wrong {q : Pl} (h : ¬ okPl q) (b : Tx) : (wPl (0, b) q).1 = 1 := by
  unfold okPl at h
  unfold wPl wNum
  rw [if_pos (by omega)]; rfl
/-! ### reading -/
def rFail (st : Stt) (e : Int) : Stt := (if st.1 = 0 then e else st.1, st.2)
def rA (st : Stt) : (Int × ByteArray) × Stt := ((((rGet st 8).1 : Int), tx (rText (rGet st 8).2).1), (rText (rGet st 8).2).2)
def rB (st : Stt) : (Int × Int × ByteArray) × Stt := ((((rGet st 8).1 : Int), (rA (rGet st 8).2).1), (rA (rGet st 8).2).2)
def rC (st : Stt) : Pk × Stt := (⟨((rGet st 1).1 : Int), (rB (rGet st 1).2).1.1, (rB (rGet st 1).2).1.2.1, (rB (rGet st 1).2).1.2.2⟩, (rB (rGet st 1).2).2)
def rPk (st : Stt) : Pk × Stt :=
  let st' := if (rC st).1.right then (rC st).2 else rFail (rC st).2 5
  (if st'.1 = 0 then (rC st).1 else default, st')
def rOne (g : Int) (st : Stt) : (Int × Pk) × Stt :=
  let a := rGet st 1
  let b := rPk a.2
  (((a.1 : Int), b.1), if (a.1 : Int) < 1 ∨ g < a.1 then rFail b.2 5 else b.2)
def rMany (g : Int) : Nat → Stt → List (Int × Pk) → List (Int × Pk) × Stt
  | 0, st, acc => (acc, st)
  | n + 1, st, acc => if st.1 = 0 then rMany g n (rOne g st).2 (acc ++ [(rOne g st).1]) else (acc, st)
def rList (g : Int) (st : Stt) : List (Int × Pk) × Stt :=
  let a := rGet st 1
  let b := rMany g a.1 a.2 []
  (if b.2.1 = 0 then b.1 else [], b.2)
def rPl (st : Stt) : Pl × Stt :=
  let a := rGet st 8
  let b := rGet a.2 8
  let st' := if 65535 < b.1 then rFail b.2 5 else b.2
  (if st'.1 = 0 then ⟨a.1, b.1⟩ else Pl.zero, st')
/-- A reader that tells v of bs, ends short within it, and stays failed. -/
structure Reads {α : Type} (R : Stt → α × Stt) (bs : Tx) (v : α) : Prop where
  all : ∀ rest, R (0, bs ++ rest) = (v, (0, rest))
  cut : ∀ n, n < bs.length → (R (0, bs.take n)).2.1 = 6
def Sticky {α : Type} (R : Stt → α × Stt) : Prop := ∀ e s, e ≠ 0 → (R (e, s)).2.1 = e
theorem Sticky.keep {α : Type} {R : Stt → α × Stt} (h : Sticky R) {st : Stt} {e : Int} (he : st.1 = e) (h0 : e ≠ 0) : (R st).2.1 = e := by
  obtain ⟨a, b⟩ := st
  simp only at he
  subst he
  exact h _ _ h0
theorem Reads.bind {α β γ : Type} {R : Stt → α × Stt} {S : α → Stt → β × Stt} {f : α → β → γ} {bs cs : Tx} {v : α} {w : β} (h1 : Reads R bs v) (h2 : Reads (S v) cs w) (hs : ∀ x, Sticky (S x)) :
    Reads (fun st => (f (R st).1 (S (R st).1 (R st).2).1, (S (R st).1 (R st).2).2)) (bs ++ cs) (f v w) := by
  refine ⟨fun rest => ?_, fun n hn => ?_⟩
  · simp only [List.append_assoc, h1.all, h2.all]
  · simp only
    by_cases hb : n < bs.length
    · have e : (bs ++ cs).take n = bs.take n := by rw [List.take_append_of_le_length (by omega)]
      rw [e]
      exact (hs _).keep (h1.cut n hb) (by decide)
    · have e : (bs ++ cs).take n = bs ++ cs.take (n - bs.length) := by
        rw [List.take_append, List.take_of_length_le (by omega)]
      rw [e, h1.all]
      exact h2.cut _ (by rw [List.length_append] at hn; omega)
theorem rRaw_reads (l : Tx) : Reads (fun st => rRaw st (l.length : Int)) l l := by
  refine ⟨fun rest => ?_, fun n hn => ?_⟩
  · unfold rRaw
    rw [if_pos ⟨rfl, by omega, by rw [List.length_append]; omega⟩]
    simp
  · unfold rRaw
    rw [if_neg (by simp; omega)]
    rfl
theorem rRaw_sticky (n : Int) : Sticky (fun st => rRaw st n) := fun e s h => by
  simp only [rRaw]
  rw [if_neg (by simp [h])]
  simp [h]
theorem rGet_reads {n c : Nat} (h : n < 256 ^ c) : Reads (fun st => rGet st c) (be n c) n := by
  have := rRaw_reads (be n c)
  rw [be_len] at this
  refine ⟨fun rest => ?_, fun m hm => ?_⟩
  · unfold rGet
    rw [this.all, val_be, Nat.mod_eq_of_lt h]
  · unfold rGet
    exact this.cut m hm
theorem rGet_sticky (c : Nat) : Sticky (fun st => rGet st c) := fun e s h => rRaw_sticky _ e s h
theorem rText_reads {l : Tx} (h : l.length ≤ 65535) : Reads rText (be l.length 2 ++ l) l :=
  Reads.bind (R := fun st => rGet st 2) (S := fun n st => rRaw st (n : Int)) (f := fun _ w => w) (rGet_reads (by omega)) (rRaw_reads l) fun x => rRaw_sticky _
theorem rText_sticky : Sticky rText := fun e s h => (rRaw_sticky _).keep (rGet_sticky 2 e s h) h
theorem rFail_sticky {st : Stt} {e x : Int} (he : st.1 = e) (h0 : e ≠ 0) : (rFail st x).1 = e := by
  unfold rFail
  rw [if_neg (by rw [he]; exact h0)]; exact he
/-- A value of a packet that may be, of numbers that Go has. -/
def Pk.wf (p : Pk) : Prop := 0 ≤ p.s ∧ p.s < 18446744073709551616 ∧ 0 ≤ p.t ∧ p.t < 18446744073709551616
theorem tx_tx (p : Pk) : tx p.tx = p.d := tx_list p.d
theorem rA_sticky : Sticky rA := fun e s h => rText_sticky.keep (rGet_sticky 8 e s h) h
theorem rB_sticky : Sticky rB := fun e s h => rA_sticky.keep (rGet_sticky 8 e s h) h
theorem rC_sticky : Sticky rC := fun e s h => rB_sticky.keep (rGet_sticky 1 e s h) h
theorem rPk_reads {p : Pk} (h : p.right = true) (w : p.wf) : Reads rPk p.bs p := by
  obtain ⟨h1, h2, -, -, h5⟩ := Pk.right_iff.1 h
  obtain ⟨w1, w2, w3, w4⟩ := w
  have r1 := rGet_reads (n := p.f.toNat) (c := 1) (by omega)
  have r2 := rGet_reads (n := p.s.toNat) (c := 8) (by omega)
  have r3 := rGet_reads (n := p.t.toNat) (c := 8) (by omega)
  have r4 := rText_reads (l := p.tx) (by rw [tx_len]; omega)
  have hp : (⟨(p.f.toNat : Int), (p.s.toNat : Int), (p.t.toNat : Int), tx p.tx⟩ : Pk) = p := by
    rw [tx_tx, Int.toNat_of_nonneg h1, Int.toNat_of_nonneg w1, Int.toNat_of_nonneg w3]
  have ra : Reads rA _ _ := r3.bind (S := fun _ st => rText st) (f := fun (c : Nat) (d : Tx) => ((c : Int), tx d)) r4 fun _ => rText_sticky
  have rb : Reads rB _ _ := r2.bind (S := fun _ st => rA st) (f := fun (b : Nat) (x : Int × ByteArray) => ((b : Int), x)) ra fun _ => rA_sticky
  have rc : Reads rC _ _ := r1.bind (S := fun _ st => rB st) (f := fun (a : Nat) (x : Int × Int × ByteArray) => (⟨(a : Int), x.1, x.2.1, x.2.2⟩ : Pk)) rb fun _ => rB_sticky
  rw [hp] at rc
  refine ⟨fun rest => ?_, fun n hn => ?_⟩
  · have e := rc.all rest
    unfold rPk Pk.bs
    rw [e]
    simp only [h, if_true]
  · have e := rc.cut n hn
    unfold rPk Pk.bs
    simp only
    split
    · exact e
    · exact rFail_sticky e (by decide)
theorem rPk_sticky : Sticky rPk := fun e s h => by
  unfold rPk
  have := rC_sticky e s h
  simp only
  split
  · exact this
  · exact rFail_sticky this h
theorem rOne_sticky (g : Int) : Sticky (rOne g) := fun e s h => by
  unfold rOne
  have := rPk_sticky.keep (rGet_sticky 1 e s h) h
  simp only at this ⊢
  split
  · exact rFail_sticky this h
  · exact this
theorem rOne_reads {g : Int} {x : Int × Pk} (h1 : 1 ≤ x.1) (h2 : x.1 ≤ g) (hg : g ≤ 255) (h : x.2.right = true) (w : x.2.wf) : Reads (rOne g) (oneBs x) x := by
  have r := (rGet_reads (n := x.1.toNat) (c := 1) (by omega)).bind (S := fun _ st => rPk st) (f := fun (a : Nat) (p : Pk) => ((a : Int), p)) (rPk_reads h w) fun _ => rPk_sticky
  have hx : ((x.1.toNat : Int), x.2) = x := by rw [Int.toNat_of_nonneg (by omega)]
  simp only [hx] at r
  refine ⟨fun rest => ?_, fun n hn => ?_⟩
  · have e := r.all rest
    have e1 := congrArg Prod.fst e
    have e2 := congrArg Prod.snd e
    have e3 := congrArg Prod.fst e1
    simp only at e1 e2 e3
    unfold rOne oneBs
    refine Prod.ext e1 ?_
    show (if _ then _ else _) = _
    rw [if_neg (by rw [e3]; omega)]
    exact e2
  · have := r.cut n hn
    unfold rOne oneBs
    simp only at this ⊢
    split
    · exact rFail_sticky this (by decide)
    · exact this
theorem rMany_sticky (g : Int) : ∀ (n : Nat) (acc : List (Int × Pk)), Sticky (fun st => rMany g n st acc)
  | 0, acc => fun e s h => rfl
  | n + 1, acc => fun e s h => by
    simp only [rMany]
    rw [if_neg h]
theorem rMany_reads {g : Int} (hg : g ≤ 255) : ∀ (l : List (Int × Pk)) (acc : List (Int × Pk)), (∀ x ∈ l, 1 ≤ x.1 ∧ x.1 ≤ g ∧ x.2.right = true ∧ x.2.wf) → Reads (fun st => rMany g l.length st acc) (onesBs l) (acc ++ l)
  | [], acc, _ => ⟨fun rest => by simp [rMany, onesBs], fun n hn => by simp [onesBs] at hn⟩
  | x :: l, acc, h => by
    obtain ⟨h1, h2, h3, h4⟩ := h x (by simp)
    have r1 := rOne_reads h1 h2 hg h3 h4
    have r2 := rMany_reads hg l (acc ++ [x]) fun y hy => h y (by simp [hy])
    have r := r1.bind (S := fun x st => rMany g l.length st (acc ++ [x])) (f := fun _ w => w) r2 fun _ => rMany_sticky g _ _
    rw [List.append_assoc] at r
    refine ⟨fun rest => ?_, fun n hn => ?_⟩
    · have := r.all rest
      simp only [List.length_cons, rMany]
      rw [if_pos (by trivial)]
      exact this
    · have := r.cut n hn
      simp only [List.length_cons, rMany]
      rw [if_pos (by trivial)]
      exact this
theorem rList_sticky (g : Int) : Sticky (rList g) := fun e s h => by
  unfold rList
  exact (rMany_sticky g _ _).keep (rGet_sticky 1 e s h) h
theorem rList_reads {g : Int} (hg : g ≤ 255) {l : List (Int × Pk)} (hl : l.length ≤ 255) (h : ∀ x ∈ l, 1 ≤ x.1 ∧ x.1 ≤ g ∧ x.2.right = true ∧ x.2.wf) : Reads (rList g) (listBs l) l := by
  have r := (rGet_reads (n := l.length) (c := 1) (by omega)).bind (S := fun n st => rMany g n st []) (f := fun _ w => w) (rMany_reads hg l [] h) fun _ => rMany_sticky g _ _
  rw [List.nil_append] at r
  refine ⟨fun rest => ?_, fun n hn => ?_⟩
  · have := r.all rest
    unfold rList listBs
    simp only [Prod.mk.injEq] at this ⊢
    obtain ⟨e1, e2⟩ := this
    rw [e1, e2, if_pos rfl]
    exact ⟨rfl, rfl⟩
  · have := r.cut n hn
    unfold rList listBs
    exact this
theorem rPl_sticky : Sticky rPl := fun e s h => by
  unfold rPl
  have := (rGet_sticky 8).keep (rGet_sticky 8 e s h) h
  simp only at this ⊢
  split
  · exact rFail_sticky this h
  · exact this
theorem rPl_reads {q : Pl} (h : okPl q) (w1 : 0 ≤ q.h) (w2 : q.h < 18446744073709551616) : Reads rPl q.bs q := by
  obtain ⟨h1, h2⟩ := h
  have r := (rGet_reads (n := q.h.toNat) (c := 8) (by omega)).bind (S := fun _ st => rGet st 8) (f := fun (a b : Nat) => (a, b)) (rGet_reads (n := q.i.toNat) (c := 8) (by omega)) fun _ => rGet_sticky 8
  have hq : (⟨(q.h.toNat : Int), (q.i.toNat : Int)⟩ : Pl) = q := by rw [Int.toNat_of_nonneg w1, Int.toNat_of_nonneg h1]
  refine ⟨fun rest => ?_, fun n hn => ?_⟩
  · have := r.all rest
    unfold rPl Pl.bs
    simp only [Prod.mk.injEq] at this ⊢
    obtain ⟨⟨e1, e2⟩, e3⟩ := this
    rw [e1, e2, e3, if_neg (show ¬ 65535 < q.i.toNat by omega), if_pos rfl, hq]
    exact ⟨rfl, rfl⟩
  · have := r.cut n hn
    unfold rPl Pl.bs
    simp only at this ⊢
    split
    · exact rFail_sticky this (by decide)
    · exact this
end Go.Proofs.YtlkjippiaghbmaaGreat
/- notes: what may be. -/
set_option linter.unusedSimpArgs false
set_option linter.unusedVariables false
namespace Go.Proofs.YtlkjippiaghbmaaGreat
open Go

structure Nt where
  k : Int
  p : Pk
  deriving DecidableEq
def Nt.cells (n : Nt) : List Value := [.int .i64 n.k, .int .i64 n.p.f, .int .u64 n.p.s, .int .u64 n.p.t, .string n.p.d]
theorem Nt.rows (l : List Nt) : Rows 5 (l.map Nt.cells) := fun r hr => by obtain ⟨m, _, rfl⟩ := List.mem_map.1 hr; rfl
theorem Bx.nt {h : PH} {r : Nat} {n : Nt} (H : Bx h r n.cells) : SemE PG h (Instr.loadAt T_api_Note (.pointer (some ⟨r, 0, none⟩))) = some (.agg n.cells.toArray) := by
  obtain ⟨e, h1⟩ := H
  rw [T_api_Note.loadAgg h1 (by show 0 + 5 ≤ 5; decide)]; rfl
def Nt.right (n : Nt) : Bool := decide (1 ≤ n.k) && decide (n.k ≤ 4) && n.p.right
set_option maxRecDepth 20000 in
theorem NCheck_ok {h : PH} (n : Nt) {k : Value → PH → Prop} (hk : ∀ h', Ext h h' → k (.int .i64 (if n.right then 0 else 1)) h') : CallsH PG id_note_Check #[.agg n.cells.toArray] h k := by
  apply note_Check.call
  unfold note_Check
  intro r hr
  rw [bindH_eq]
  have u : Ext h (h.set r (.cells (Value.cells (.agg n.cells.toArray)) T_api_Note)) := Upd.new hr
  have b : Bx (h.set r (.cells (Value.cells (.agg n.cells.toArray)) T_api_Note)) r n.cells := Bx.new
  generalize h.set r (.cells (Value.cells (.agg n.cells.toArray)) T_api_Note) = h1 at *
  have c0 : cellH h1 ⟨r, 0, none⟩ = some (.int .i64 n.k) := b.cell 0
  have p1 := b.pk (o := 0 + 1) (p := n.p) rfl
  unfold Nt.right at hk
  simp only [T_api_Note.f0, T_api_Note.f1, T_int.load, c0, popO_some, bindH_eq, condV_bool, condV_true, condV_false, yV_bool, gopV_tt, gopV_ff, gopV_tf, gopV_ft, pickV_t, pickV_f, pickV_bool, nilS_ptr, add_eq, sub_eq, mul_eq, lss_eq, leq_eq, gtr_eq, geq_eq, not_eq, minI_eq, maxI_eq, extract_0, extract_1, extract_2, eqlI, neqI, makeFunc_eq, decide_true, decide_false, if_true, if_false, Bool.false_eq_true, Bool.not_true, Bool.not_false, reduceIte, List.getElem?_toArray, List.getElem?_cons_zero, List.getElem?_cons_succ, Option.isSome_none, List.length_map]
  by_cases d1 : n.k < 1
  · have e1 : (1 ≤ n.k) = False := by apply eq_false; omega
    simp only [T_api_Note.f0, T_api_Note.f1, T_int.load, c0, d1, e1, Bool.false_and, decide_false, popO_some, bindH_eq, condV_bool, condV_true, condV_false, yV_bool, gopV_tt, gopV_ff, gopV_tf, gopV_ft, pickV_t, pickV_f, pickV_bool, nilS_ptr, add_eq, sub_eq, mul_eq, lss_eq, leq_eq, gtr_eq, geq_eq, not_eq, minI_eq, maxI_eq, extract_0, extract_1, extract_2, eqlI, neqI, makeFunc_eq, decide_true, decide_false, if_true, if_false, Bool.false_eq_true, Bool.not_true, Bool.not_false, reduceIte, List.getElem?_toArray, List.getElem?_cons_zero, List.getElem?_cons_succ, Option.isSome_none, List.length_map] at hk ⊢
    exact hk _ u
  · have e1 : (1 ≤ n.k) = True := by apply eq_true; omega
    by_cases d2 : 4 < n.k
    · have e2 : (n.k ≤ 4) = False := by apply eq_false; omega
      simp only [T_api_Note.f0, T_api_Note.f1, T_int.load, c0, d1, e1, d2, e2, Bool.false_and, Bool.and_false, decide_false, popO_some, bindH_eq, condV_bool, condV_true, condV_false, yV_bool, gopV_tt, gopV_ff, gopV_tf, gopV_ft, pickV_t, pickV_f, pickV_bool, nilS_ptr, add_eq, sub_eq, mul_eq, lss_eq, leq_eq, gtr_eq, geq_eq, not_eq, minI_eq, maxI_eq, extract_0, extract_1, extract_2, eqlI, neqI, makeFunc_eq, decide_true, decide_false, if_true, if_false, Bool.false_eq_true, Bool.not_true, Bool.not_false, reduceIte, List.getElem?_toArray, List.getElem?_cons_zero, List.getElem?_cons_succ, Option.isSome_none, List.length_map] at hk ⊢
      exact hk _ u
    · have e2 : (n.k ≤ 4) = True := by apply eq_true; omega
      simp only [T_api_Note.f0, T_api_Note.f1, T_int.load, c0, d1, e1, d2, e2, p1, Bool.true_and, popO_some, bindH_eq, condV_bool, condV_true, condV_false, yV_bool, gopV_tt, gopV_ff, gopV_tf, gopV_ft, pickV_t, pickV_f, pickV_bool, nilS_ptr, add_eq, sub_eq, mul_eq, lss_eq, leq_eq, gtr_eq, geq_eq, not_eq, minI_eq, maxI_eq, extract_0, extract_1, extract_2, eqlI, neqI, makeFunc_eq, decide_true, decide_false, if_true, if_false, Bool.false_eq_true, Bool.not_true, Bool.not_false, reduceIte, List.getElem?_toArray, List.getElem?_cons_zero, List.getElem?_cons_succ, Option.isSome_none, List.length_map] at hk ⊢
      refine Check_ok n.p fun h2 u2 => hk _ (u.trans u2)
end Go.Proofs.YtlkjippiaghbmaaGreat
/- packets, lists and places: how they are written. -/
set_option linter.unusedSimpArgs false
set_option linter.unusedVariables false
namespace Go.Proofs.YtlkjippiaghbmaaGreat
open Go
set_option maxRecDepth 20000
theorem Keep.refl {h : PH} {F : List Nat} : Keep h F h F := fun r o hr hn => ⟨hr, hn⟩
theorem Keep.trans {h h1 h2 : PH} {F F1 F2 : List Nat} (a : Keep h F h1 F1) (b : Keep h1 F1 h2 F2) : Keep h F h2 F2 := fun r o hr hn => b r o (a r o hr hn).1 (a r o hr hn).2
theorem Keep.ext {h h1 : PH} {F : List Nat} (u : Ext h h1) : Keep h F h1 F := fun r o hr hn => ⟨u.get hr, hn⟩
structure BK (h : PH) (F : List Nat) (r : Nat) (cs : List Value) : Prop where
  bx : Bx h r cs
  out : r ∉ F
theorem BK.keep {h h' : PH} {F F' : List Nat} {r : Nat} {cs : List Value} (H : BK h F r cs) (K : Keep h F h' F') : BK h' F' r cs := by
  obtain ⟨e, h1⟩ := H.bx
  exact ⟨⟨e, (K r _ h1 H.out).1⟩, (K r _ h1 H.out).2⟩
theorem BK.ext {h h' : PH} {F : List Nat} {r : Nat} {cs : List Value} (H : BK h F r cs) (u : Ext h h') : BK h' F r cs := ⟨H.bx.ext u, H.out⟩
theorem wPk_len (st : Stt) (p : Pk) : (wPk st p).2.length ≤ st.2.length + 65600 := by
  unfold wPk
  split
  · have h1 := wText_len (wNum (wNum (wByte st p.f) p.s.toNat) p.t.toNat) p.tx
    have h2 := wNum_len (wNum (wByte st p.f) p.s.toNat) p.t.toNat
    have h3 := wNum_len (wByte st p.f) p.s.toNat
    have h4 := wByte_len st p.f
    omega
  · have := wByte_len st (-1); omega
theorem wOne_len (st : Stt) (x : Int × Pk) : (wOne st x).2.length ≤ st.2.length + 65601 := by
  unfold wOne
  have h1 := wPk_len (wByte st x.1) x.2
  have h2 := wByte_len st x.1
  omega
theorem wFold_len : ∀ (l : List (Int × Pk)) (st : Stt), (l.foldl wOne st).2.length ≤ st.2.length + 65601 * l.length
  | [], st => by simp
  | x :: l, st => by
    have h1 := wFold_len l (wOne st x)
    have h2 := wOne_len st x
    simp only [List.foldl_cons, List.length_cons]
    omega
theorem wList_len (st : Stt) (l : List (Int × Pk)) : (wList st l).2.length ≤ st.2.length + 1 + 65601 * l.length := by
  unfold wList
  have h1 := wFold_len l (wByte st l.length)
  have h2 := wByte_len st l.length
  omega
theorem wPl_len (st : Stt) (q : Pl) : (wPl st q).2.length ≤ st.2.length + 17 := by
  unfold wPl
  have h1 := wNum_len (wNum (if q.i < 0 ∨ 65535 < q.i then wByte st (-1) else st) q.h.toNat) (IntKind.u64.wrap q.i).toNat
  have h2 := wNum_len (if q.i < 0 ∨ 65535 < q.i then wByte st (-1) else st) q.h.toNat
  have h3 := wByte_len st (-1)
  have h4 : (if q.i < 0 ∨ 65535 < q.i then wByte st (-1) else st).2.length ≤ st.2.length + 1 := by split <;> omega
  omega
theorem Put_w {h0 h : PH} {a : Nat} {st : Stt} {F : List Nat} (S : WN h0 h a st F) (hl : st.2.length ≤ 900000000) (p : Pk) (w : p.wf) {k : Value → PH → Prop} (hk : ∀ h' F', WN h0 h' a (wPk st p) F' → Keep h F h' F' → k (.tuple #[]) h') :
    CallsH PG id_packet_Put #[.pointer (some ⟨a, 0, none⟩), .agg p.cells.toArray] h k := by
  apply packet_Put.call
  unfold packet_Put
  intro r hr
  try rw [bindH_eq]
  have S1 := S.new hr (.cells (Value.cells (.agg p.cells.toArray)) T_api_Packet)
  have u1 : Ext h (h.set r (.cells (Value.cells (.agg p.cells.toArray)) T_api_Packet)) := Upd.new hr
  have B1 : BK (h.set r (.cells (Value.cells (.agg p.cells.toArray)) T_api_Packet)) F r p.cells := ⟨Bx.new, S.box hr⟩
  generalize h.set r (.cells (Value.cells (.agg p.cells.toArray)) T_api_Packet) = h1 at *
  have l1 : SemE PG h1 (Instr.loadAt T_api_Packet (.pointer (some ⟨r, 0, none⟩))) = some (.agg p.cells.toArray) := T_api_Packet.agg B1.bx (by show 0 + 4 ≤ 4; decide)
  simp only [l1, popO_some, bindH_eq, condV_bool, condV_true, condV_false, yV_bool, gopV_tt, gopV_ff, gopV_tf, gopV_ft, pickV_t, pickV_f, pickV_bool, nilS_ptr, add_eq, sub_eq, mul_eq, lss_eq, leq_eq, gtr_eq, geq_eq, not_eq, minI_eq, maxI_eq, extract_0, extract_1, extract_2, eqlI, neqI, makeFunc_eq, decide_true, decide_false, if_true, if_false, Bool.false_eq_true, Bool.not_true, Bool.not_false, reduceIte, List.getElem?_toArray, List.getElem?_cons_zero, List.getElem?_cons_succ, Option.isSome_none, List.length_map]
  refine Check_ok p fun h2 u2 => ?_
  have S2 := WS.ext S1 u2
  have B2 := B1.ext u2
  have K2 : Keep h F h2 F := Keep.ext (u1.trans u2)
  unfold wPk at hk
  obtain ⟨w1, w2, w3, w4⟩ := w
  cases hp : p.right with
  | false =>
    rw [hp] at hk
    simp only [Bool.false_eq_true, if_false, neqI, show ((1 : Int) != 0) = true from rfl, popO_some, bindH_eq, condV_bool, condV_true, condV_false, yV_bool, gopV_tt, gopV_ff, gopV_tf, gopV_ft, pickV_t, pickV_f, pickV_bool, nilS_ptr, add_eq, sub_eq, mul_eq, lss_eq, leq_eq, gtr_eq, geq_eq, not_eq, minI_eq, maxI_eq, extract_0, extract_1, extract_2, eqlI, neqI, makeFunc_eq, decide_true, decide_false, if_true, if_false, Bool.false_eq_true, Bool.not_true, Bool.not_false, reduceIte, List.getElem?_toArray, List.getElem?_cons_zero, List.getElem?_cons_succ, Option.isSome_none, List.length_map] at hk ⊢
    exact Byte_w S2 (by omega) (-1) fun h3 F3 x e S3 K3 => by subst e; exact hk _ _ S3 (K2.trans K3)
  | true =>
    rw [hp] at hk
    have n1 : ((p.s.toNat : Nat) : Int) = p.s := Int.toNat_of_nonneg w1
    have n2 : ((p.t.toNat : Nat) : Int) = p.t := Int.toNat_of_nonneg w3
    have n3 : p.d = tx p.tx := (tx_tx p).symm
    simp only [if_true, neqI, show ((0 : Int) != 0) = false from rfl, T_api_Packet.f0, T_int.load, B2.bx.cell, Pk.cells, popO_some, bindH_eq, condV_bool, condV_true, condV_false, yV_bool, gopV_tt, gopV_ff, gopV_tf, gopV_ft, pickV_t, pickV_f, pickV_bool, nilS_ptr, add_eq, sub_eq, mul_eq, lss_eq, leq_eq, gtr_eq, geq_eq, not_eq, minI_eq, maxI_eq, extract_0, extract_1, extract_2, eqlI, neqI, makeFunc_eq, decide_true, decide_false, if_true, if_false, Bool.false_eq_true, Bool.not_true, Bool.not_false, reduceIte, List.getElem?_toArray, List.getElem?_cons_zero, List.getElem?_cons_succ, Option.isSome_none, List.length_map] at hk ⊢
    refine Byte_w S2 (by omega) p.f fun h3 F3 x3 e3 S3 K3 => ?_
    have B3 := B2.keep K3
    have b3 := wByte_len st p.f
    rw [← e3] at b3 hk
    simp only [T_api_Packet.f1, T_uint64.load, B3.bx.cell, Pk.cells, Nat.zero_add, popO_some, bindH_eq, condV_bool, condV_true, condV_false, yV_bool, gopV_tt, gopV_ff, gopV_tf, gopV_ft, pickV_t, pickV_f, pickV_bool, nilS_ptr, add_eq, sub_eq, mul_eq, lss_eq, leq_eq, gtr_eq, geq_eq, not_eq, minI_eq, maxI_eq, extract_0, extract_1, extract_2, eqlI, neqI, makeFunc_eq, decide_true, decide_false, if_true, if_false, Bool.false_eq_true, Bool.not_true, Bool.not_false, reduceIte, List.getElem?_toArray, List.getElem?_cons_zero, List.getElem?_cons_succ, Option.isSome_none, List.length_map]
    rw [← n1]
    refine Number_w S3 (by omega) (n := p.s.toNat) (by omega) fun h4 F4 x4 e4 S4 K4 => ?_
    have B4 := B3.keep K4
    have b4 := wNum_len x3 p.s.toNat
    rw [← e4] at b4 hk
    simp only [T_api_Packet.f2, T_uint64.load, B4.bx.cell, Pk.cells, Nat.zero_add, popO_some, bindH_eq, condV_bool, condV_true, condV_false, yV_bool, gopV_tt, gopV_ff, gopV_tf, gopV_ft, pickV_t, pickV_f, pickV_bool, nilS_ptr, add_eq, sub_eq, mul_eq, lss_eq, leq_eq, gtr_eq, geq_eq, not_eq, minI_eq, maxI_eq, extract_0, extract_1, extract_2, eqlI, neqI, makeFunc_eq, decide_true, decide_false, if_true, if_false, Bool.false_eq_true, Bool.not_true, Bool.not_false, reduceIte, List.getElem?_toArray, List.getElem?_cons_zero, List.getElem?_cons_succ, Option.isSome_none, List.length_map]
    rw [← n2]
    refine Number_w S4 (by omega) (n := p.t.toNat) (by omega) fun h5 F5 x5 e5 S5 K5 => ?_
    have B5 := B4.keep K5
    have b5 := wNum_len x4 p.t.toNat
    rw [← e5] at b5 hk
    simp only [T_api_Packet.f3, T_string.load, B5.bx.cell, Pk.cells, Nat.zero_add, popO_some, bindH_eq, condV_bool, condV_true, condV_false, yV_bool, gopV_tt, gopV_ff, gopV_tf, gopV_ft, pickV_t, pickV_f, pickV_bool, nilS_ptr, add_eq, sub_eq, mul_eq, lss_eq, leq_eq, gtr_eq, geq_eq, not_eq, minI_eq, maxI_eq, extract_0, extract_1, extract_2, eqlI, neqI, makeFunc_eq, decide_true, decide_false, if_true, if_false, Bool.false_eq_true, Bool.not_true, Bool.not_false, reduceIte, List.getElem?_toArray, List.getElem?_cons_zero, List.getElem?_cons_succ, Option.isSome_none, List.length_map]
    rw [n3]
    refine Text_w S5 (by omega) p.tx fun h6 F6 x6 e6 S6 K6 => ?_
    subst e6
    exact hk _ _ S6 ((((K2.trans K3).trans K4).trans K5).trans K6)
theorem kind_ok {h : PH} (n g : Int) {k : Value → PH → Prop} (hk : k (.int .i64 (kindN n g)) h) : CallsH PG id_note_kind #[.int .i64 n, .int .i64 g] h k := by
  apply note_kind.call
  unfold note_kind
  unfold kindN at hk
  by_cases h1 : n < 1
  · rw [if_pos (.inl h1)] at hk
    simp only [h1, yV_undef, gopV_none, popO_some, bindH_eq, condV_bool, condV_true, condV_false, yV_bool, gopV_tt, gopV_ff, gopV_tf, gopV_ft, pickV_t, pickV_f, pickV_bool, nilS_ptr, add_eq, sub_eq, mul_eq, lss_eq, leq_eq, gtr_eq, geq_eq, not_eq, minI_eq, maxI_eq, extract_0, extract_1, extract_2, eqlI, neqI, makeFunc_eq, decide_true, decide_false, if_true, if_false, Bool.false_eq_true, Bool.not_true, Bool.not_false, reduceIte, List.getElem?_toArray, List.getElem?_cons_zero, List.getElem?_cons_succ, Option.isSome_none, List.length_map]
    exact hk
  · by_cases h2 : g < n
    · rw [if_pos (.inr h2)] at hk
      simp only [h1, h2, popO_some, bindH_eq, condV_bool, condV_true, condV_false, yV_bool, gopV_tt, gopV_ff, gopV_tf, gopV_ft, pickV_t, pickV_f, pickV_bool, nilS_ptr, add_eq, sub_eq, mul_eq, lss_eq, leq_eq, gtr_eq, geq_eq, not_eq, minI_eq, maxI_eq, extract_0, extract_1, extract_2, eqlI, neqI, makeFunc_eq, decide_true, decide_false, if_true, if_false, Bool.false_eq_true, Bool.not_true, Bool.not_false, reduceIte, List.getElem?_toArray, List.getElem?_cons_zero, List.getElem?_cons_succ, Option.isSome_none, List.length_map]
      exact hk
    · rw [if_neg (by omega)] at hk
      simp only [h1, h2, popO_some, bindH_eq, condV_bool, condV_true, condV_false, yV_bool, gopV_tt, gopV_ff, gopV_tf, gopV_ft, pickV_t, pickV_f, pickV_bool, nilS_ptr, add_eq, sub_eq, mul_eq, lss_eq, leq_eq, gtr_eq, geq_eq, not_eq, minI_eq, maxI_eq, extract_0, extract_1, extract_2, eqlI, neqI, makeFunc_eq, decide_true, decide_false, if_true, if_false, Bool.false_eq_true, Bool.not_true, Bool.not_false, reduceIte, List.getElem?_toArray, List.getElem?_cons_zero, List.getElem?_cons_succ, Option.isSome_none, List.length_map]
      exact hk
theorem PutPlace_w {h0 h : PH} {a : Nat} {st : Stt} {F : List Nat} (S : WN h0 h a st F) (hl : st.2.length ≤ 900000000) (q : Pl) (w1 : 0 ≤ q.h) (w2 : q.h < 18446744073709551616) {k : Value → PH → Prop} (hk : ∀ h' F', WN h0 h' a (wPl st q) F' → Keep h F h' F' → k (.tuple #[]) h') :
    CallsH PG id_note_PutPlace #[.pointer (some ⟨a, 0, none⟩), .agg q.cells.toArray] h k := by
  apply note_PutPlace.call
  unfold note_PutPlace
  intro r hr
  try rw [bindH_eq]
  have S1 := S.new hr (.cells (Value.cells (.agg q.cells.toArray)) T_api_Place)
  have u1 : Ext h (h.set r (.cells (Value.cells (.agg q.cells.toArray)) T_api_Place)) := Upd.new hr
  have B1 : BK (h.set r (.cells (Value.cells (.agg q.cells.toArray)) T_api_Place)) F r q.cells := ⟨Bx.new, S.box hr⟩
  generalize h.set r (.cells (Value.cells (.agg q.cells.toArray)) T_api_Place) = h1 at *
  have K1 : Keep h F h1 F := Keep.ext u1
  have n1 : ((q.h.toNat : Nat) : Int) = q.h := Int.toNat_of_nonneg w1
  have hu : 0 ≤ IntKind.u64.wrap q.i ∧ IntKind.u64.wrap q.i < 18446744073709551616 := by
    unfold IntKind.wrap
    simp [IntKind.signed, IntKind.bits]
    omega
  have n2 : (((IntKind.u64.wrap q.i).toNat : Nat) : Int) = IntKind.u64.wrap q.i := Int.toNat_of_nonneg hu.1
  have fin : ∀ {h2 : PH} {F2 : List Nat} {st2 : Stt}, WN h0 h2 a st2 F2 → st2.2.length ≤ 950000000 → Keep h1 F h2 F2 → wPl st q = wNum (wNum st2 q.h.toNat) (IntKind.u64.wrap q.i).toNat → note_PutPlace_k21 k (.pointer (some ⟨a, 0, none⟩)) (.pointer (some ⟨r, 0, none⟩)) h2 := by
    intro h2 F2 st2 S2 hl2 K2 e2
    have B2 := B1.keep K2
    unfold note_PutPlace_k21
    simp only [T_api_Place.f0, T_uint64.load, B2.bx.cell, Pl.cells, popO_some, bindH_eq, condV_bool, condV_true, condV_false, yV_bool, gopV_tt, gopV_ff, gopV_tf, gopV_ft, pickV_t, pickV_f, pickV_bool, nilS_ptr, add_eq, sub_eq, mul_eq, lss_eq, leq_eq, gtr_eq, geq_eq, not_eq, minI_eq, maxI_eq, extract_0, extract_1, extract_2, eqlI, neqI, makeFunc_eq, decide_true, decide_false, if_true, if_false, Bool.false_eq_true, Bool.not_true, Bool.not_false, reduceIte, List.getElem?_toArray, List.getElem?_cons_zero, List.getElem?_cons_succ, Option.isSome_none, List.length_map]
    rw [← n1]
    refine Number_w S2 (by omega) (n := q.h.toNat) (by omega) fun h3 F3 x3 e3 S3 K3 => ?_
    have B3 := B2.keep K3
    have b3 := wNum_len st2 q.h.toNat
    rw [← e3] at b3 e2
    simp only [T_api_Place.f1, T_int.load, B3.bx.cell, Pl.cells, Nat.zero_add, conv_iu, popO_some, bindH_eq, condV_bool, condV_true, condV_false, yV_bool, gopV_tt, gopV_ff, gopV_tf, gopV_ft, pickV_t, pickV_f, pickV_bool, nilS_ptr, add_eq, sub_eq, mul_eq, lss_eq, leq_eq, gtr_eq, geq_eq, not_eq, minI_eq, maxI_eq, extract_0, extract_1, extract_2, eqlI, neqI, makeFunc_eq, decide_true, decide_false, if_true, if_false, Bool.false_eq_true, Bool.not_true, Bool.not_false, reduceIte, List.getElem?_toArray, List.getElem?_cons_zero, List.getElem?_cons_succ, Option.isSome_none, List.length_map]
    rw [← n2]
    refine Number_w S3 (by omega) (n := (IntKind.u64.wrap q.i).toNat) (by omega) fun h4 F4 x4 e4 S4 K4 => ?_
    subst e4
    rw [← e2] at S4
    exact hk _ _ S4 (((K1.trans K2).trans K3).trans K4)
  simp only [T_api_Place.f1, T_int.load, B1.bx.cell, Pl.cells, Nat.zero_add, popO_some, bindH_eq, condV_bool, condV_true, condV_false, yV_bool, gopV_tt, gopV_ff, gopV_tf, gopV_ft, pickV_t, pickV_f, pickV_bool, nilS_ptr, add_eq, sub_eq, mul_eq, lss_eq, leq_eq, gtr_eq, geq_eq, not_eq, minI_eq, maxI_eq, extract_0, extract_1, extract_2, eqlI, neqI, makeFunc_eq, decide_true, decide_false, if_true, if_false, Bool.false_eq_true, Bool.not_true, Bool.not_false, reduceIte, List.getElem?_toArray, List.getElem?_cons_zero, List.getElem?_cons_succ, Option.isSome_none, List.length_map]
  by_cases h1' : q.i < 0
  · simp only [h1', yV_undef, gopV_none, popO_some, bindH_eq, condV_bool, condV_true, condV_false, yV_bool, gopV_tt, gopV_ff, gopV_tf, gopV_ft, pickV_t, pickV_f, pickV_bool, nilS_ptr, add_eq, sub_eq, mul_eq, lss_eq, leq_eq, gtr_eq, geq_eq, not_eq, minI_eq, maxI_eq, extract_0, extract_1, extract_2, eqlI, neqI, makeFunc_eq, decide_true, decide_false, if_true, if_false, Bool.false_eq_true, Bool.not_true, Bool.not_false, reduceIte, List.getElem?_toArray, List.getElem?_cons_zero, List.getElem?_cons_succ, Option.isSome_none, List.length_map]
    refine Byte_w S1 (by omega) (-1) fun h3 F3 x e S3 K3 => ?_
    have b3 := wByte_len st (-1)
    subst e
    exact fin S3 (by omega) K3 (by unfold wPl; rw [if_pos (.inl h1')])
  · by_cases h2' : 65535 < q.i
    · simp only [h1', h2', T_int.load, B1.bx.cell, Pl.cells, popO_some, bindH_eq, condV_bool, condV_true, condV_false, yV_bool, gopV_tt, gopV_ff, gopV_tf, gopV_ft, pickV_t, pickV_f, pickV_bool, nilS_ptr, add_eq, sub_eq, mul_eq, lss_eq, leq_eq, gtr_eq, geq_eq, not_eq, minI_eq, maxI_eq, extract_0, extract_1, extract_2, eqlI, neqI, makeFunc_eq, decide_true, decide_false, if_true, if_false, Bool.false_eq_true, Bool.not_true, Bool.not_false, reduceIte, List.getElem?_toArray, List.getElem?_cons_zero, List.getElem?_cons_succ, Option.isSome_none, List.length_map]
      refine Byte_w S1 (by omega) (-1) fun h3 F3 x e S3 K3 => ?_
      have b3 := wByte_len st (-1)
      subst e
      exact fin S3 (by omega) K3 (by unfold wPl; rw [if_pos (.inr h2')])
    · simp only [h1', h2', T_int.load, B1.bx.cell, Pl.cells, popO_some, bindH_eq, condV_bool, condV_true, condV_false, yV_bool, gopV_tt, gopV_ff, gopV_tf, gopV_ft, pickV_t, pickV_f, pickV_bool, nilS_ptr, add_eq, sub_eq, mul_eq, lss_eq, leq_eq, gtr_eq, geq_eq, not_eq, minI_eq, maxI_eq, extract_0, extract_1, extract_2, eqlI, neqI, makeFunc_eq, decide_true, decide_false, if_true, if_false, Bool.false_eq_true, Bool.not_true, Bool.not_false, reduceIte, List.getElem?_toArray, List.getElem?_cons_zero, List.getElem?_cons_succ, Option.isSome_none, List.length_map]
      exact fin S1 (by omega) Keep.refl (by unfold wPl; rw [if_neg (by omega)])
end Go.Proofs.YtlkjippiaghbmaaGreat
/- table: packets, notes, items; what may be; comparing. -/
set_option linter.unusedSimpArgs false
set_option linter.unusedVariables false
namespace Go.Proofs.YtlkjippiaghbmaaGreat
open Go

structure It where
  p : Pk
  g : Int
  deriving DecidableEq
instance : Inhabited It := ⟨⟨default, 0⟩⟩
def It.cells (i : It) : List Value := [.int .i64 i.p.f, .int .u64 i.p.s, .int .u64 i.p.t, .string i.p.d, .int .i64 i.g]
structure Ac where
  dr : Bool
  n : Nt
  deriving DecidableEq
def Ac.cells (a : Ac) : List Value := [.bool a.dr, .int .i64 a.n.k, .int .i64 a.n.p.f, .int .u64 a.n.p.s, .int .u64 a.n.p.t, .string a.n.p.d]
abbrev Ky := Int × Int
def Pk.key (p : Pk) : Ky := (p.f, p.s)
def It.key (i : It) : Ky := i.p.key
def kenc (k : Ky) : Value := .agg #[.int .i64 k.1, .int .u64 k.2]
def It.val (i : It) : Value := .agg i.cells.toArray
theorem It.allCell (p : It) : ∀ v ∈ p.cells.toArray.toList, isCell v = true := by simp [It.cells, isCell]
theorem It.rows (l : List It) : Rows 5 (l.map It.cells) := fun r hr => by obtain ⟨m, _, rfl⟩ := List.mem_map.1 hr; rfl
theorem Ac.rows (l : List Ac) : Rows 6 (l.map Ac.cells) := fun r hr => by obtain ⟨m, _, rfl⟩ := List.mem_map.1 hr; rfl

theorem Bx.it {h : PH} {r : Nat} {n : It} (H : Bx h r n.cells) : SemE PG h (Instr.loadAt T_api_Item (.pointer (some ⟨r, 0, none⟩))) = some n.val := by
  obtain ⟨e, h1⟩ := H
  rw [T_api_Item.loadAgg h1 (by show 0 + 5 ≤ 5; decide)]; rfl
theorem Bx.id {h : PH} {r : Nat} {k : Ky} (H : Bx h r [.int .i64 k.1, .int .u64 k.2]) : SemE PG h (Instr.loadAt T_table_id (.pointer (some ⟨r, 0, none⟩))) = some (kenc k) := by
  obtain ⟨e, h1⟩ := H
  rw [T_table_id.loadAgg h1 (by show 0 + 2 ≤ 2; decide)]; rfl

/-! ### comparing -/
def cmpI (a b : Int) : Int := if a < b then -1 else if b < a then 1 else 0
theorem Compare_int_ok {h : PH} (a b : Int) {k : Value → PH → Prop} (hk : k (.int .i64 (cmpI a b)) h) : CallsH PG id_cmp_Compare_int #[.int .i64 a, .int .i64 b] h k := by
  have hn : ∀ (x : Int) {k' : Value → PH → Prop}, k' (.bool false) h → CallsH PG id_cmp_isNaN_int #[.int .i64 x] h k' := fun x k' hk' => by
    apply cmp_isNaN_int.call
    unfold cmp_isNaN_int
    have e : (x != x) = false := by simp
    simp only [e, popO_some, bindH_eq, condV_bool, condV_true, condV_false, yV_bool, gopV_tt, gopV_ff, gopV_tf, gopV_ft, pickV_t, pickV_f, pickV_bool, nilS_ptr, add_eq, sub_eq, mul_eq, lss_eq, leq_eq, gtr_eq, geq_eq, not_eq, minI_eq, maxI_eq, extract_0, extract_1, extract_2, eqlI, neqI, makeFunc_eq, decide_true, decide_false, if_true, if_false, Bool.false_eq_true, Bool.not_true, Bool.not_false, reduceIte, List.getElem?_toArray, List.getElem?_cons_zero, List.getElem?_cons_succ, Option.isSome_none, List.length_map]
    exact hk'
  apply cmp_Compare_int.call
  unfold cmp_Compare_int
  refine hn a (hn b ?_)
  unfold cmpI at hk
  by_cases h1 : a < b
  · simp only [h1, popO_some, bindH_eq, condV_bool, condV_true, condV_false, yV_bool, gopV_tt, gopV_ff, gopV_tf, gopV_ft, pickV_t, pickV_f, pickV_bool, nilS_ptr, add_eq, sub_eq, mul_eq, lss_eq, leq_eq, gtr_eq, geq_eq, not_eq, minI_eq, maxI_eq, extract_0, extract_1, extract_2, eqlI, neqI, makeFunc_eq, decide_true, decide_false, if_true, if_false, Bool.false_eq_true, Bool.not_true, Bool.not_false, reduceIte, List.getElem?_toArray, List.getElem?_cons_zero, List.getElem?_cons_succ, Option.isSome_none, List.length_map] at hk ⊢; exact hk
  · by_cases h2 : b < a
    · simp only [h1, h2, popO_some, bindH_eq, condV_bool, condV_true, condV_false, yV_bool, gopV_tt, gopV_ff, gopV_tf, gopV_ft, pickV_t, pickV_f, pickV_bool, nilS_ptr, add_eq, sub_eq, mul_eq, lss_eq, leq_eq, gtr_eq, geq_eq, not_eq, minI_eq, maxI_eq, extract_0, extract_1, extract_2, eqlI, neqI, makeFunc_eq, decide_true, decide_false, if_true, if_false, Bool.false_eq_true, Bool.not_true, Bool.not_false, reduceIte, List.getElem?_toArray, List.getElem?_cons_zero, List.getElem?_cons_succ, Option.isSome_none, List.length_map] at hk ⊢; exact hk
    · simp only [h1, h2, popO_some, bindH_eq, condV_bool, condV_true, condV_false, yV_bool, gopV_tt, gopV_ff, gopV_tf, gopV_ft, pickV_t, pickV_f, pickV_bool, nilS_ptr, add_eq, sub_eq, mul_eq, lss_eq, leq_eq, gtr_eq, geq_eq, not_eq, minI_eq, maxI_eq, extract_0, extract_1, extract_2, eqlI, neqI, makeFunc_eq, decide_true, decide_false, if_true, if_false, Bool.false_eq_true, Bool.not_true, Bool.not_false, reduceIte, List.getElem?_toArray, List.getElem?_cons_zero, List.getElem?_cons_succ, Option.isSome_none, List.length_map] at hk ⊢; exact hk
theorem Compare_uint64_ok {h : PH} (a b : Int) {k : Value → PH → Prop} (hk : k (.int .i64 (cmpI a b)) h) : CallsH PG id_cmp_Compare_uint64 #[.int .u64 a, .int .u64 b] h k := by
  have hn : ∀ (x : Int) {k' : Value → PH → Prop}, k' (.bool false) h → CallsH PG id_cmp_isNaN_uint64 #[.int .u64 x] h k' := fun x k' hk' => by
    apply cmp_isNaN_uint64.call
    unfold cmp_isNaN_uint64
    have e : (x != x) = false := by simp
    simp only [e, popO_some, bindH_eq, condV_bool, condV_true, condV_false, yV_bool, gopV_tt, gopV_ff, gopV_tf, gopV_ft, pickV_t, pickV_f, pickV_bool, nilS_ptr, add_eq, sub_eq, mul_eq, lss_eq, leq_eq, gtr_eq, geq_eq, not_eq, minI_eq, maxI_eq, extract_0, extract_1, extract_2, eqlI, neqI, makeFunc_eq, decide_true, decide_false, if_true, if_false, Bool.false_eq_true, Bool.not_true, Bool.not_false, reduceIte, List.getElem?_toArray, List.getElem?_cons_zero, List.getElem?_cons_succ, Option.isSome_none, List.length_map]
    exact hk'
  apply cmp_Compare_uint64.call
  unfold cmp_Compare_uint64
  refine hn a (hn b ?_)
  unfold cmpI at hk
  by_cases h1 : a < b
  · simp only [h1, popO_some, bindH_eq, condV_bool, condV_true, condV_false, yV_bool, gopV_tt, gopV_ff, gopV_tf, gopV_ft, pickV_t, pickV_f, pickV_bool, nilS_ptr, add_eq, sub_eq, mul_eq, lss_eq, leq_eq, gtr_eq, geq_eq, not_eq, minI_eq, maxI_eq, extract_0, extract_1, extract_2, eqlI, neqI, makeFunc_eq, decide_true, decide_false, if_true, if_false, Bool.false_eq_true, Bool.not_true, Bool.not_false, reduceIte, List.getElem?_toArray, List.getElem?_cons_zero, List.getElem?_cons_succ, Option.isSome_none, List.length_map] at hk ⊢; exact hk
  · by_cases h2 : b < a
    · simp only [h1, h2, popO_some, bindH_eq, condV_bool, condV_true, condV_false, yV_bool, gopV_tt, gopV_ff, gopV_tf, gopV_ft, pickV_t, pickV_f, pickV_bool, nilS_ptr, add_eq, sub_eq, mul_eq, lss_eq, leq_eq, gtr_eq, geq_eq, not_eq, minI_eq, maxI_eq, extract_0, extract_1, extract_2, eqlI, neqI, makeFunc_eq, decide_true, decide_false, if_true, if_false, Bool.false_eq_true, Bool.not_true, Bool.not_false, reduceIte, List.getElem?_toArray, List.getElem?_cons_zero, List.getElem?_cons_succ, Option.isSome_none, List.length_map] at hk ⊢; exact hk
    · simp only [h1, h2, popO_some, bindH_eq, condV_bool, condV_true, condV_false, yV_bool, gopV_tt, gopV_ff, gopV_tf, gopV_ft, pickV_t, pickV_f, pickV_bool, nilS_ptr, add_eq, sub_eq, mul_eq, lss_eq, leq_eq, gtr_eq, geq_eq, not_eq, minI_eq, maxI_eq, extract_0, extract_1, extract_2, eqlI, neqI, makeFunc_eq, decide_true, decide_false, if_true, if_false, Bool.false_eq_true, Bool.not_true, Bool.not_false, reduceIte, List.getElem?_toArray, List.getElem?_cons_zero, List.getElem?_cons_succ, Option.isSome_none, List.length_map] at hk ⊢; exact hk
def icell (x : Int) : List Value := [.int .i64 x]
theorem icell.rows (l : List Int) : Rows 1 (l.map icell) := fun r hr => by obtain ⟨m, _, rfl⟩ := List.mem_map.1 hr; rfl
theorem Or_ok {h : PH} {v : Value} {a b : Int} (H : SlR h 1 v ([a, b].map icell)) {k : Value → PH → Prop} (hk : k (.int .i64 (if a ≠ 0 then a else b)) h) : CallsH PG id_cmp_Or_int #[v] h k := by
  have lv := H.len (t' := T_int) T_sl_int.und
  obtain ⟨x, x1, x2⟩ := H.loadCell (k := .i64) (j := 0) (x := .int .i64 a) T_sl_int.und T_int.info T_int.size T_int.und rfl (by decide) rfl
  obtain ⟨y, y1, y2⟩ := H.loadCell (k := .i64) (j := 1) (x := .int .i64 b) T_sl_int.und T_int.info T_int.size T_int.und rfl (by decide) rfl
  apply cmp_Or_int.call
  unfold cmp_Or_int
  have e0 : (([a, b].map icell).length : Int) = 2 := rfl
  rw [e0] at lv
  simp only [lv, popO_some, bindH_eq, condV_bool, condV_true, condV_false, yV_bool, gopV_tt, gopV_ff, gopV_tf, gopV_ft, pickV_t, pickV_f, pickV_bool, nilS_ptr, add_eq, sub_eq, mul_eq, lss_eq, leq_eq, gtr_eq, geq_eq, not_eq, minI_eq, maxI_eq, extract_0, extract_1, extract_2, eqlI, neqI, makeFunc_eq, decide_true, decide_false, if_true, if_false, Bool.false_eq_true, Bool.not_true, Bool.not_false, reduceIte, List.getElem?_toArray, List.getElem?_cons_zero, List.getElem?_cons_succ, Option.isSome_none, List.length_map]
  refine ⟨fun vs h' => ∃ i : Nat, i ≤ 2 ∧ vs = [.int .i64 0, v, .int .i64 2, .int .i64 i] ∧ h' = h ∧ (1 ≤ i → a = 0) ∧ (2 ≤ i → b = 0), upTo 2 3, ⟨0, by omega, rfl, rfl, by omega, by omega⟩, ?_⟩
  rintro ρ h' ⟨i, hi, hvs, rfl, ha, hb⟩
  simp only [List.map_cons, List.map_nil, List.cons.injEq, and_true] at hvs
  obtain ⟨e0, e1, e2, e3⟩ := hvs
  rw [e0, e1, e2, e3]
  unfold cmp_Or_int_b3
  have hc : i = 0 ∨ i = 1 ∨ i = 2 := by omega
  rcases hc with rfl | rfl | rfl
  · have d0 : (((0 : Nat) : Int) < 2) = True := by simp
    have w0 : IntKind.i64.wrap (((0 : Nat) : Int) + 1) = ((1 : Nat) : Int) := by rw [i64_wrap (by omega) (by omega)]; rfl
    simp only [d0, Int.natCast_zero, x1, x2, popO_some, bindH_eq, condV_bool, condV_true, condV_false, yV_bool, gopV_tt, gopV_ff, gopV_tf, gopV_ft, pickV_t, pickV_f, pickV_bool, nilS_ptr, add_eq, sub_eq, mul_eq, lss_eq, leq_eq, gtr_eq, geq_eq, not_eq, minI_eq, maxI_eq, extract_0, extract_1, extract_2, eqlI, neqI, makeFunc_eq, decide_true, decide_false, if_true, if_false, Bool.false_eq_true, Bool.not_true, Bool.not_false, reduceIte, List.getElem?_toArray, List.getElem?_cons_zero, List.getElem?_cons_succ, Option.isSome_none, List.length_map]
    by_cases hz : a = 0
    · have e : (a != 0) = false := by simp [hz]
      have w0' : IntKind.i64.wrap ((0 : Int) + 1) = ((1 : Nat) : Int) := w0
      simp only [e, w0', popO_some, bindH_eq, condV_bool, condV_true, condV_false, yV_bool, gopV_tt, gopV_ff, gopV_tf, gopV_ft, pickV_t, pickV_f, pickV_bool, nilS_ptr, add_eq, sub_eq, mul_eq, lss_eq, leq_eq, gtr_eq, geq_eq, not_eq, minI_eq, maxI_eq, extract_0, extract_1, extract_2, eqlI, neqI, makeFunc_eq, decide_true, decide_false, if_true, if_false, Bool.false_eq_true, Bool.not_true, Bool.not_false, reduceIte, List.getElem?_toArray, List.getElem?_cons_zero, List.getElem?_cons_succ, Option.isSome_none, List.length_map]
      exact ⟨⟨1, by omega, rfl, by trivial, fun _ => hz, by omega⟩, by simp [upTo, e3]⟩
    · have e : (a != 0) = true := by simp [hz]
      simp only [e, popO_some, bindH_eq, condV_bool, condV_true, condV_false, yV_bool, gopV_tt, gopV_ff, gopV_tf, gopV_ft, pickV_t, pickV_f, pickV_bool, nilS_ptr, add_eq, sub_eq, mul_eq, lss_eq, leq_eq, gtr_eq, geq_eq, not_eq, minI_eq, maxI_eq, extract_0, extract_1, extract_2, eqlI, neqI, makeFunc_eq, decide_true, decide_false, if_true, if_false, Bool.false_eq_true, Bool.not_true, Bool.not_false, reduceIte, List.getElem?_toArray, List.getElem?_cons_zero, List.getElem?_cons_succ, Option.isSome_none, List.length_map]
      rw [if_pos hz] at hk; exact hk
  · have d0 : (((1 : Nat) : Int) < 2) = True := by simp
    have w0 : IntKind.i64.wrap ((1 : Int) + 1) = ((2 : Nat) : Int) := by rw [i64_wrap (by omega) (by omega)]; rfl
    have c1 : ((1 : Nat) : Int) = 1 := rfl
    have hz := ha (by omega)
    simp only [d0, c1, y1, y2, popO_some, bindH_eq, condV_bool, condV_true, condV_false, yV_bool, gopV_tt, gopV_ff, gopV_tf, gopV_ft, pickV_t, pickV_f, pickV_bool, nilS_ptr, add_eq, sub_eq, mul_eq, lss_eq, leq_eq, gtr_eq, geq_eq, not_eq, minI_eq, maxI_eq, extract_0, extract_1, extract_2, eqlI, neqI, makeFunc_eq, decide_true, decide_false, if_true, if_false, Bool.false_eq_true, Bool.not_true, Bool.not_false, reduceIte, List.getElem?_toArray, List.getElem?_cons_zero, List.getElem?_cons_succ, Option.isSome_none, List.length_map]
    by_cases hy : b = 0
    · have e : (b != 0) = false := by simp [hy]
      simp only [e, w0, popO_some, bindH_eq, condV_bool, condV_true, condV_false, yV_bool, gopV_tt, gopV_ff, gopV_tf, gopV_ft, pickV_t, pickV_f, pickV_bool, nilS_ptr, add_eq, sub_eq, mul_eq, lss_eq, leq_eq, gtr_eq, geq_eq, not_eq, minI_eq, maxI_eq, extract_0, extract_1, extract_2, eqlI, neqI, makeFunc_eq, decide_true, decide_false, if_true, if_false, Bool.false_eq_true, Bool.not_true, Bool.not_false, reduceIte, List.getElem?_toArray, List.getElem?_cons_zero, List.getElem?_cons_succ, Option.isSome_none, List.length_map]
      exact ⟨⟨2, by omega, rfl, by trivial, fun _ => hz, fun _ => hy⟩, by simp [upTo, e3]⟩
    · have e : (b != 0) = true := by simp [hy]
      simp only [e, popO_some, bindH_eq, condV_bool, condV_true, condV_false, yV_bool, gopV_tt, gopV_ff, gopV_tf, gopV_ft, pickV_t, pickV_f, pickV_bool, nilS_ptr, add_eq, sub_eq, mul_eq, lss_eq, leq_eq, gtr_eq, geq_eq, not_eq, minI_eq, maxI_eq, extract_0, extract_1, extract_2, eqlI, neqI, makeFunc_eq, decide_true, decide_false, if_true, if_false, Bool.false_eq_true, Bool.not_true, Bool.not_false, reduceIte, List.getElem?_toArray, List.getElem?_cons_zero, List.getElem?_cons_succ, Option.isSome_none, List.length_map]
      rw [if_neg (by simp [hz])] at hk; exact hk
  · have d0 : (((2 : Nat) : Int) < 2) = False := by simp
    simp only [d0, popO_some, bindH_eq, condV_bool, condV_true, condV_false, yV_bool, gopV_tt, gopV_ff, gopV_tf, gopV_ft, pickV_t, pickV_f, pickV_bool, nilS_ptr, add_eq, sub_eq, mul_eq, lss_eq, leq_eq, gtr_eq, geq_eq, not_eq, minI_eq, maxI_eq, extract_0, extract_1, extract_2, eqlI, neqI, makeFunc_eq, decide_true, decide_false, if_true, if_false, Bool.false_eq_true, Bool.not_true, Bool.not_false, reduceIte, List.getElem?_toArray, List.getElem?_cons_zero, List.getElem?_cons_succ, Option.isSome_none, List.length_map]
    rw [if_neg (by simp [ha (by omega)]), hb (by omega)] at hk; exact hk

/-- The order of items, as the program holds two against each other. -/
def cfI (a b : It) : Int := if cmpI a.p.f b.p.f ≠ 0 then cmpI a.p.f b.p.f else cmpI a.p.s b.p.s
theorem less_ok {h : PH} (a b : It) {k : Value → PH → Prop} (hk : ∀ h', Ext h h' → k (.int .i64 (cfI a b)) h') : CallsH PG id_table_Table_Items_1 #[.agg a.cells.toArray, .agg b.cells.toArray] h k := by
  apply table_Table_Items_1.call
  unfold table_Table_Items_1
  intro r1 hr1
  rw [bindH_eq]
  intro r3 hr3
  rw [bindH_eq]
  have u1 : Ext h (h.set r1 (.cells a.cells.toArray T_api_Item)) := Upd.new hr1
  have b1 : Bx (h.set r1 (.cells a.cells.toArray T_api_Item)) r1 a.cells := Bx.new
  show popO _ _
  have u3 : Ext (h.set r1 (.cells a.cells.toArray T_api_Item)) ((h.set r1 (.cells a.cells.toArray T_api_Item)).set r3 (.cells b.cells.toArray T_api_Item)) := Upd.new hr3
  have b3 : Bx ((h.set r1 (.cells a.cells.toArray T_api_Item)).set r3 (.cells b.cells.toArray T_api_Item)) r3 b.cells := Bx.new
  have b1' := b1.ext u3
  have u := u1.trans u3
  change Ext h ((h.set r1 (.cells (Value.cells (.agg a.cells.toArray)) T_api_Item)).set r3 (.cells (Value.cells (.agg b.cells.toArray)) T_api_Item)) at u
  change Bx ((h.set r1 (.cells (Value.cells (.agg a.cells.toArray)) T_api_Item)).set r3 (.cells (Value.cells (.agg b.cells.toArray)) T_api_Item)) r3 _ at b3
  change Bx ((h.set r1 (.cells (Value.cells (.agg a.cells.toArray)) T_api_Item)).set r3 (.cells (Value.cells (.agg b.cells.toArray)) T_api_Item)) r1 _ at b1'
  generalize (h.set r1 (.cells (Value.cells (.agg a.cells.toArray)) T_api_Item)).set r3 (.cells (Value.cells (.agg b.cells.toArray)) T_api_Item) = h4 at *
  have c1 : cellH h4 ⟨r1, 0, none⟩ = some (.int .i64 a.p.f) := b1'.cell 0
  have c2 : cellH h4 ⟨r1, 1, none⟩ = some (.int .u64 a.p.s) := b1'.cell 1
  have c3 : cellH h4 ⟨r3, 0, none⟩ = some (.int .i64 b.p.f) := b3.cell 0
  have c4 : cellH h4 ⟨r3, 1, none⟩ = some (.int .u64 b.p.s) := b3.cell 1
  simp only [T_api_Item.f0, T_api_Packet.f0, T_api_Packet.f1, Nat.zero_add, T_int.load, T_uint64.load, c1, c2, c3, c4, popO_some, bindH_eq, condV_bool, condV_true, condV_false, yV_bool, gopV_tt, gopV_ff, gopV_tf, gopV_ft, pickV_t, pickV_f, pickV_bool, nilS_ptr, add_eq, sub_eq, mul_eq, lss_eq, leq_eq, gtr_eq, geq_eq, not_eq, minI_eq, maxI_eq, extract_0, extract_1, extract_2, eqlI, neqI, makeFunc_eq, decide_true, decide_false, if_true, if_false, Bool.false_eq_true, Bool.not_true, Bool.not_false, reduceIte, List.getElem?_toArray, List.getElem?_cons_zero, List.getElem?_cons_succ, Option.isSome_none, List.length_map]
  refine Compare_int_ok _ _ ⟨c4, c2, ?_⟩
  refine Compare_uint64_ok _ _ ?_
  have hb : SemA PG (Instr.buildSlice T_sl_int 2 #[(0, .int .i64 (cmpI a.p.f b.p.f)), (1, .int .i64 (cmpI a.p.s b.p.s))]) = some (.cells #[.int .i64 (cmpI a.p.f b.p.f), .int .i64 (cmpI a.p.s b.p.s)] T_int (0, 0), fun r => pure (.slice (some ⟨r, 0, none⟩) 2 2)) := by kernel_rfl
  rw [hb, popO_some]
  intro r hr
  refine popO_pure ?_
  try rw [bindH_eq]
  have hO : OwnR (h4.set r (.cells #[.int .i64 (cmpI a.p.f b.p.f), .int .i64 (cmpI a.p.s b.p.s)] T_int (0, 0))) T_int 1 (.slice (some ⟨r, 0, none⟩) 2 2) ([cmpI a.p.f b.p.f, cmpI a.p.s b.p.s].map icell) [r] :=
    OwnR.lit (icell.rows _) set_same rfl (by decide) rfl
  refine Or_ok hO.slR (hk _ ?_)
  exact u.trans (Upd.new hr)

end Go.Proofs.YtlkjippiaghbmaaGreat
/- lists of notes and items: how they are written. -/
set_option linter.unusedSimpArgs false
set_option linter.unusedVariables false
namespace Go.Proofs.YtlkjippiaghbmaaGreat
open Go
set_option maxRecDepth 20000
def It.x (i : It) : Int × Pk := (kindN i.g 2, i.p)
def Nt.x (n : Nt) : Int × Pk := (kindN n.k 4, n.p)
theorem PutNote_1_ok {h : PH} (x : Nt) {k : Value → PH → Prop} (hk : ∀ h', Ext h h' → k (.tuple #[.int .i64 x.x.1, .agg x.x.2.cells.toArray]) h') : CallsH PG id_note_PutNotes_1 #[.agg x.cells.toArray] h k := by
  apply note_PutNotes_1.call
  unfold note_PutNotes_1
  intro r hr
  try rw [bindH_eq]
  have u1 : Ext h (h.set r (.cells (Value.cells (.agg x.cells.toArray)) T_api_Note)) := Upd.new hr
  have B1 : Bx (h.set r (.cells (Value.cells (.agg x.cells.toArray)) T_api_Note)) r x.cells := Bx.new
  generalize h.set r (.cells (Value.cells (.agg x.cells.toArray)) T_api_Note) = h1 at *
  intro r2 hr2
  try rw [bindH_eq]
  have u2 : Ext h1 (h1.set r2 (.cells (zcells PG T_api_Packet) T_api_Packet)) := Upd.new hr2
  have Z := T_api_Packet.zbox (h := h1) (r := r2)
  have B2 := B1.ext u2
  have hne : r ≠ r2 := B1.apart hr2
  generalize h1.set r2 (.cells (zcells PG T_api_Packet) T_api_Packet) = h2 at *
  have l2 : SemE PG h2 (Instr.loadAt T_api_Packet (.pointer (some ⟨r, 1, none⟩))) = some (.agg x.p.cells.toArray) := T_api_Packet.agg B2 (by show 1 + 4 ≤ 5; decide)
  simp only [T_api_Note.f0, T_api_Note.f1, T_int.load, B2.cell, Nt.cells, Nat.zero_add, l2, popO_some, bindH_eq, condV_bool, condV_true, condV_false, yV_bool, gopV_tt, gopV_ff, gopV_tf, gopV_ft, pickV_t, pickV_f, pickV_bool, nilS_ptr, add_eq, sub_eq, mul_eq, lss_eq, leq_eq, gtr_eq, geq_eq, not_eq, minI_eq, maxI_eq, extract_0, extract_1, extract_2, eqlI, neqI, makeFunc_eq, decide_true, decide_false, if_true, if_false, Bool.false_eq_true, Bool.not_true, Bool.not_false, reduceIte, List.getElem?_toArray, List.getElem?_cons_zero, List.getElem?_cons_succ, Option.isSome_none, List.length_map]
  refine kind_ok x.k 4 ?_
  refine ⟨l2, ?_⟩
  refine T_api_Packet.put Z rfl (by show 0 + 4 ≤ 4; decide) (by simp [Pk.cells, isCell]) fun h3 B3 u3 => ?_
  have l3 : SemE PG h3 (Instr.loadAt T_api_Packet (.pointer (some ⟨r2, 0, none⟩))) = some (.agg x.p.cells.toArray) := T_api_Packet.agg B3 (by show 0 + 4 ≤ 4; decide)
  simp only [l3, popO_some, bindH_eq, condV_bool, condV_true, condV_false, yV_bool, gopV_tt, gopV_ff, gopV_tf, gopV_ft, pickV_t, pickV_f, pickV_bool, nilS_ptr, add_eq, sub_eq, mul_eq, lss_eq, leq_eq, gtr_eq, geq_eq, not_eq, minI_eq, maxI_eq, extract_0, extract_1, extract_2, eqlI, neqI, makeFunc_eq, decide_true, decide_false, if_true, if_false, Bool.false_eq_true, Bool.not_true, Bool.not_false, reduceIte, List.getElem?_toArray, List.getElem?_cons_zero, List.getElem?_cons_succ, Option.isSome_none, List.length_map]
  exact hk _ ((u1.trans u2).fresh u3 (Fresh.one (u1.none hr2)))
theorem SlR.wNote {h : PH} {v : Value} {l : List Nt} (S : SlR h 5 v (l.map Nt.cells)) {j : Nat} {x : Nt} (hx : l[j]? = some x) :
    ∃ a, SemP PG (Instr.indexAt T_sl_api_Note v (.int .i64 (j : Int))) = some (.pointer (some a)) ∧ SemE PG h (Instr.loadAt T_api_Note (.pointer (some a))) = some (.agg x.cells.toArray) :=
  S.loadAgg (k := .i64) (j := (j : Int)) T_sl_api_Note.und T_api_Note.info T_api_Note.size T_api_Note.und rfl (by omega) (by rw [Int.toNat_natCast, List.getElem?_map, hx]; rfl)
theorem PutNotes_w {h0 h : PH} {a : Nat} {st : Stt} {F : List Nat} (S : WN h0 h a st F) (hl : st.2.length ≤ 100000000) {v : Value} {l : List Nt} (V : SlR h0 5 v (l.map Nt.cells)) (hn : l.length ≤ 1000) (hw : ∀ x ∈ l, x.p.wf) {k : Value → PH → Prop} (hk : ∀ h' F', WN h0 h' a (wList st (l.map Nt.x)) F' → Keep h F h' F' → k (.tuple #[]) h') :
    CallsH PG id_note_PutNotes #[.pointer (some ⟨a, 0, none⟩), v] h k := by
  apply note_PutNotes.call
  unfold note_PutNotes
  apply note_put_api_Note.call
  unfold note_put_api_Note
  have lv := V.len (t' := T_int) T_sl_api_Note.und
  rw [List.length_map] at lv
  simp only [lv, popO_some, bindH_eq, condV_bool, condV_true, condV_false, yV_bool, gopV_tt, gopV_ff, gopV_tf, gopV_ft, pickV_t, pickV_f, pickV_bool, nilS_ptr, add_eq, sub_eq, mul_eq, lss_eq, leq_eq, gtr_eq, geq_eq, not_eq, minI_eq, maxI_eq, extract_0, extract_1, extract_2, eqlI, neqI, makeFunc_eq, decide_true, decide_false, if_true, if_false, Bool.false_eq_true, Bool.not_true, Bool.not_false, reduceIte, List.getElem?_toArray, List.getElem?_cons_zero, List.getElem?_cons_succ, Option.isSome_none, List.length_map]
  refine Byte_w S (by omega) l.length fun h1 F1 x1 e1 S1 K1 => ?_
  have b1 := wByte_len st l.length
  rw [← e1] at b1
  refine ⟨fun vs h' => ∃ (i : Nat) (st' : Stt) (F' : List Nat), i ≤ l.length ∧ vs = [.pointer (some ⟨a, 0, none⟩), .func (.func id_note_PutNotes_1) #[] #[], v, .int .i64 (l.length : Int), .int .i64 (i : Int)] ∧ WN h0 h' a st' F' ∧ Keep h F h' F' ∧ st' = ((l.map Nt.x).take i).foldl wOne (wByte st l.length), upTo l.length 4, ⟨0, x1, F1, by omega, rfl, S1, K1, e1⟩, ?_⟩
  rintro ρ h' ⟨i, st', F', hi, hvs, S', K', e'⟩
  simp only [List.map_cons, List.map_nil, List.cons.injEq, and_true] at hvs
  obtain ⟨v0, v1, v14, v15, v16⟩ := hvs
  simp only [v0, v1, v14, v15, v16, List.map_cons, List.map_nil]
  unfold note_put_api_Note_b6
  by_cases hlt : i < l.length
  · have g1 : ((i : Int) < (l.length : Int)) = True := eq_true (by omega)
    have gi : IntKind.i64.wrap ((i : Int) + 1) = ((i + 1 : Nat) : Int) := by rw [i64_wrap (by omega) (by omega)]; omega
    have hx : l[i]? = some l[i] := List.getElem?_eq_getElem hlt
    have hwx := hw _ (List.getElem_mem hlt)
    obtain ⟨pa, p1, p2⟩ := (V.ext S'.upd).wNote hx
    have htk : ((l.map Nt.x).take (i + 1)).foldl wOne (wByte st l.length) = wOne (((l.map Nt.x).take i).foldl wOne (wByte st l.length)) (l[i]).x := by
      rw [List.take_succ_eq_append_getElem (by simpa using hlt), List.foldl_append, List.getElem_map]; rfl
    have hlen' : st'.2.length ≤ st.2.length + 1 + 65601 * l.length := by
      have h1 := wFold_len ((l.map Nt.x).take i) (wByte st l.length)
      have h2 := wByte_len st l.length
      have h3 : ((l.map Nt.x).take i).length ≤ l.length := by simp; omega
      have h4 := Nat.mul_le_mul_left 65601 h3
      rw [e']; omega
    rw [← e'] at htk
    generalize l[i] = x at *
    have hmul := Nat.mul_le_mul_left 65601 hn
    simp only [g1, p1, p2, popO_some, bindH_eq, condV_bool, condV_true, condV_false, yV_bool, gopV_tt, gopV_ff, gopV_tf, gopV_ft, pickV_t, pickV_f, pickV_bool, nilS_ptr, add_eq, sub_eq, mul_eq, lss_eq, leq_eq, gtr_eq, geq_eq, not_eq, minI_eq, maxI_eq, extract_0, extract_1, extract_2, eqlI, neqI, makeFunc_eq, decide_true, decide_false, if_true, if_false, Bool.false_eq_true, Bool.not_true, Bool.not_false, reduceIte, List.getElem?_toArray, List.getElem?_cons_zero, List.getElem?_cons_succ, Option.isSome_none, List.length_map]
    intro r hr
    try rw [bindH_eq]
    refine T_api_Note.fill hr rfl (by simp [Nt.cells, isCell]) fun h2 B2 u2 => ?_
    have l2 : SemE PG h2 (Instr.loadAt T_api_Note (.pointer (some ⟨r, 0, none⟩))) = some (.agg x.cells.toArray) := T_api_Note.agg B2 (by show 0 + 5 ≤ 5; decide)
    simp only [l2, popO_some, bindH_eq, condV_bool, condV_true, condV_false, yV_bool, gopV_tt, gopV_ff, gopV_tf, gopV_ft, pickV_t, pickV_f, pickV_bool, nilS_ptr, add_eq, sub_eq, mul_eq, lss_eq, leq_eq, gtr_eq, geq_eq, not_eq, minI_eq, maxI_eq, extract_0, extract_1, extract_2, eqlI, neqI, makeFunc_eq, decide_true, decide_false, if_true, if_false, Bool.false_eq_true, Bool.not_true, Bool.not_false, reduceIte, List.getElem?_toArray, List.getElem?_cons_zero, List.getElem?_cons_succ, Option.isSome_none, List.length_map]
    show CallsH PG id_note_PutNotes_1 #[.agg x.cells.toArray] h2 _
    refine PutNote_1_ok x fun h3 u3 => ?_
    simp only [popO_some, bindH_eq, condV_bool, condV_true, condV_false, yV_bool, gopV_tt, gopV_ff, gopV_tf, gopV_ft, pickV_t, pickV_f, pickV_bool, nilS_ptr, add_eq, sub_eq, mul_eq, lss_eq, leq_eq, gtr_eq, geq_eq, not_eq, minI_eq, maxI_eq, extract_0, extract_1, extract_2, eqlI, neqI, makeFunc_eq, decide_true, decide_false, if_true, if_false, Bool.false_eq_true, Bool.not_true, Bool.not_false, reduceIte, List.getElem?_toArray, List.getElem?_cons_zero, List.getElem?_cons_succ, Option.isSome_none, List.length_map]
    intro r4 hr4
    try rw [bindH_eq]
    refine T_api_Packet.fill hr4 rfl (by simp [Pk.cells, isCell]) fun h4 B4 u4 => ?_
    have u := (u2.trans u3).trans u4
    have S4 := WS.ext S' u
    have hr4' : r4 ∉ F' := fun hm => S'.at_.known r4 hm ((u2.trans u3).none hr4)
    have BK4 : BK h4 F' r4 x.x.2.cells := ⟨B4, hr4'⟩
    refine Byte_w S4 (by omega) x.x.1 fun h5 F5 x5 e5 S5 K5 => ?_
    have BK5 := BK4.keep K5
    have l5 : SemE PG h5 (Instr.loadAt T_api_Packet (.pointer (some ⟨r4, 0, none⟩))) = some (.agg x.x.2.cells.toArray) := T_api_Packet.agg BK5.bx (by show 0 + 4 ≤ 4; decide)
    have b5 := wByte_len st' x.x.1
    rw [← e5] at b5
    simp only [l5, popO_some, bindH_eq, condV_bool, condV_true, condV_false, yV_bool, gopV_tt, gopV_ff, gopV_tf, gopV_ft, pickV_t, pickV_f, pickV_bool, nilS_ptr, add_eq, sub_eq, mul_eq, lss_eq, leq_eq, gtr_eq, geq_eq, not_eq, minI_eq, maxI_eq, extract_0, extract_1, extract_2, eqlI, neqI, makeFunc_eq, decide_true, decide_false, if_true, if_false, Bool.false_eq_true, Bool.not_true, Bool.not_false, reduceIte, List.getElem?_toArray, List.getElem?_cons_zero, List.getElem?_cons_succ, Option.isSome_none, List.length_map]
    refine Put_w S5 (by omega) x.x.2 hwx fun h6 F6 S6 K6 => ?_
    simp only [gi, popO_some, bindH_eq, condV_bool, condV_true, condV_false, yV_bool, gopV_tt, gopV_ff, gopV_tf, gopV_ft, pickV_t, pickV_f, pickV_bool, nilS_ptr, add_eq, sub_eq, mul_eq, lss_eq, leq_eq, gtr_eq, geq_eq, not_eq, minI_eq, maxI_eq, extract_0, extract_1, extract_2, eqlI, neqI, makeFunc_eq, decide_true, decide_false, if_true, if_false, Bool.false_eq_true, Bool.not_true, Bool.not_false, reduceIte, List.getElem?_toArray, List.getElem?_cons_zero, List.getElem?_cons_succ, Option.isSome_none, List.length_map]
    refine ⟨⟨i + 1, _, F6, by omega, rfl, S6, ((K'.trans (Keep.ext u)).trans K5).trans K6, ?_⟩, ?_⟩
    · rw [htk, e5]; rfl
    · simp only [upTo, List.getElem?_cons_succ, List.getElem?_cons_zero]
      omega
  · have g1 : ((i : Int) < (l.length : Int)) = False := eq_false (by omega)
    simp only [g1, popO_some, bindH_eq, condV_bool, condV_true, condV_false, yV_bool, gopV_tt, gopV_ff, gopV_tf, gopV_ft, pickV_t, pickV_f, pickV_bool, nilS_ptr, add_eq, sub_eq, mul_eq, lss_eq, leq_eq, gtr_eq, geq_eq, not_eq, minI_eq, maxI_eq, extract_0, extract_1, extract_2, eqlI, neqI, makeFunc_eq, decide_true, decide_false, if_true, if_false, Bool.false_eq_true, Bool.not_true, Bool.not_false, reduceIte, List.getElem?_toArray, List.getElem?_cons_zero, List.getElem?_cons_succ, Option.isSome_none, List.length_map]
    rw [List.take_of_length_le (by simp; omega)] at e'
    refine hk h' F' ?_ K'
    unfold wList
    rw [List.length_map, ← e']
    exact S'

theorem PutItem_1_ok {h : PH} (x : It) {k : Value → PH → Prop} (hk : ∀ h', Ext h h' → k (.tuple #[.int .i64 x.x.1, .agg x.x.2.cells.toArray]) h') : CallsH PG id_note_PutItems_1 #[.agg x.cells.toArray] h k := by
  apply note_PutItems_1.call
  unfold note_PutItems_1
  intro r hr
  try rw [bindH_eq]
  have u1 : Ext h (h.set r (.cells (Value.cells (.agg x.cells.toArray)) T_api_Item)) := Upd.new hr
  have B1 : Bx (h.set r (.cells (Value.cells (.agg x.cells.toArray)) T_api_Item)) r x.cells := Bx.new
  generalize h.set r (.cells (Value.cells (.agg x.cells.toArray)) T_api_Item) = h1 at *
  intro r2 hr2
  try rw [bindH_eq]
  have u2 : Ext h1 (h1.set r2 (.cells (zcells PG T_api_Packet) T_api_Packet)) := Upd.new hr2
  have Z := T_api_Packet.zbox (h := h1) (r := r2)
  have B2 := B1.ext u2
  have hne : r ≠ r2 := B1.apart hr2
  generalize h1.set r2 (.cells (zcells PG T_api_Packet) T_api_Packet) = h2 at *
  have l2 : SemE PG h2 (Instr.loadAt T_api_Packet (.pointer (some ⟨r, 0, none⟩))) = some (.agg x.p.cells.toArray) := T_api_Packet.agg B2 (by show 0 + 4 ≤ 5; decide)
  simp only [T_api_Item.f0, T_api_Item.f1, T_int.load, B2.cell, It.cells, Nat.zero_add, l2, popO_some, bindH_eq, condV_bool, condV_true, condV_false, yV_bool, gopV_tt, gopV_ff, gopV_tf, gopV_ft, pickV_t, pickV_f, pickV_bool, nilS_ptr, add_eq, sub_eq, mul_eq, lss_eq, leq_eq, gtr_eq, geq_eq, not_eq, minI_eq, maxI_eq, extract_0, extract_1, extract_2, eqlI, neqI, makeFunc_eq, decide_true, decide_false, if_true, if_false, Bool.false_eq_true, Bool.not_true, Bool.not_false, reduceIte, List.getElem?_toArray, List.getElem?_cons_zero, List.getElem?_cons_succ, Option.isSome_none, List.length_map]
  refine kind_ok x.g 2 ?_
  refine ⟨l2, ?_⟩
  refine T_api_Packet.put Z rfl (by show 0 + 4 ≤ 4; decide) (by simp [Pk.cells, isCell]) fun h3 B3 u3 => ?_
  have l3 : SemE PG h3 (Instr.loadAt T_api_Packet (.pointer (some ⟨r2, 0, none⟩))) = some (.agg x.p.cells.toArray) := T_api_Packet.agg B3 (by show 0 + 4 ≤ 4; decide)
  simp only [l3, popO_some, bindH_eq, condV_bool, condV_true, condV_false, yV_bool, gopV_tt, gopV_ff, gopV_tf, gopV_ft, pickV_t, pickV_f, pickV_bool, nilS_ptr, add_eq, sub_eq, mul_eq, lss_eq, leq_eq, gtr_eq, geq_eq, not_eq, minI_eq, maxI_eq, extract_0, extract_1, extract_2, eqlI, neqI, makeFunc_eq, decide_true, decide_false, if_true, if_false, Bool.false_eq_true, Bool.not_true, Bool.not_false, reduceIte, List.getElem?_toArray, List.getElem?_cons_zero, List.getElem?_cons_succ, Option.isSome_none, List.length_map]
  exact hk _ ((u1.trans u2).fresh u3 (Fresh.one (u1.none hr2)))
theorem SlR.wItem {h : PH} {v : Value} {l : List It} (S : SlR h 5 v (l.map It.cells)) {j : Nat} {x : It} (hx : l[j]? = some x) :
    ∃ a, SemP PG (Instr.indexAt T_sl_api_Item v (.int .i64 (j : Int))) = some (.pointer (some a)) ∧ SemE PG h (Instr.loadAt T_api_Item (.pointer (some a))) = some (.agg x.cells.toArray) :=
  S.loadAgg (k := .i64) (j := (j : Int)) T_sl_api_Item.und T_api_Item.info T_api_Item.size T_api_Item.und rfl (by omega) (by rw [Int.toNat_natCast, List.getElem?_map, hx]; rfl)
theorem PutItems_w {h0 h : PH} {a : Nat} {st : Stt} {F : List Nat} (S : WN h0 h a st F) (hl : st.2.length ≤ 100000000) {v : Value} {l : List It} (V : SlR h0 5 v (l.map It.cells)) (hn : l.length ≤ 1000) (hw : ∀ x ∈ l, x.p.wf) {k : Value → PH → Prop} (hk : ∀ h' F', WN h0 h' a (wList st (l.map It.x)) F' → Keep h F h' F' → k (.tuple #[]) h') :
    CallsH PG id_note_PutItems #[.pointer (some ⟨a, 0, none⟩), v] h k := by
  apply note_PutItems.call
  unfold note_PutItems
  apply note_put_api_Item.call
  unfold note_put_api_Item
  have lv := V.len (t' := T_int) T_sl_api_Item.und
  rw [List.length_map] at lv
  simp only [lv, popO_some, bindH_eq, condV_bool, condV_true, condV_false, yV_bool, gopV_tt, gopV_ff, gopV_tf, gopV_ft, pickV_t, pickV_f, pickV_bool, nilS_ptr, add_eq, sub_eq, mul_eq, lss_eq, leq_eq, gtr_eq, geq_eq, not_eq, minI_eq, maxI_eq, extract_0, extract_1, extract_2, eqlI, neqI, makeFunc_eq, decide_true, decide_false, if_true, if_false, Bool.false_eq_true, Bool.not_true, Bool.not_false, reduceIte, List.getElem?_toArray, List.getElem?_cons_zero, List.getElem?_cons_succ, Option.isSome_none, List.length_map]
  refine Byte_w S (by omega) l.length fun h1 F1 x1 e1 S1 K1 => ?_
  have b1 := wByte_len st l.length
  rw [← e1] at b1
  refine ⟨fun vs h' => ∃ (i : Nat) (st' : Stt) (F' : List Nat), i ≤ l.length ∧ vs = [.pointer (some ⟨a, 0, none⟩), .func (.func id_note_PutItems_1) #[] #[], v, .int .i64 (l.length : Int), .int .i64 (i : Int)] ∧ WN h0 h' a st' F' ∧ Keep h F h' F' ∧ st' = ((l.map It.x).take i).foldl wOne (wByte st l.length), upTo l.length 4, ⟨0, x1, F1, by omega, rfl, S1, K1, e1⟩, ?_⟩
  rintro ρ h' ⟨i, st', F', hi, hvs, S', K', e'⟩
  simp only [List.map_cons, List.map_nil, List.cons.injEq, and_true] at hvs
  obtain ⟨v0, v1, v14, v15, v16⟩ := hvs
  simp only [v0, v1, v14, v15, v16, List.map_cons, List.map_nil]
  unfold note_put_api_Item_b6
  by_cases hlt : i < l.length
  · have g1 : ((i : Int) < (l.length : Int)) = True := eq_true (by omega)
    have gi : IntKind.i64.wrap ((i : Int) + 1) = ((i + 1 : Nat) : Int) := by rw [i64_wrap (by omega) (by omega)]; omega
    have hx : l[i]? = some l[i] := List.getElem?_eq_getElem hlt
    have hwx := hw _ (List.getElem_mem hlt)
    obtain ⟨pa, p1, p2⟩ := (V.ext S'.upd).wItem hx
    have htk : ((l.map It.x).take (i + 1)).foldl wOne (wByte st l.length) = wOne (((l.map It.x).take i).foldl wOne (wByte st l.length)) (l[i]).x := by
      rw [List.take_succ_eq_append_getElem (by simpa using hlt), List.foldl_append, List.getElem_map]; rfl
    have hlen' : st'.2.length ≤ st.2.length + 1 + 65601 * l.length := by
      have h1 := wFold_len ((l.map It.x).take i) (wByte st l.length)
      have h2 := wByte_len st l.length
      have h3 : ((l.map It.x).take i).length ≤ l.length := by simp; omega
      have h4 := Nat.mul_le_mul_left 65601 h3
      rw [e']; omega
    rw [← e'] at htk
    generalize l[i] = x at *
    have hmul := Nat.mul_le_mul_left 65601 hn
    simp only [g1, p1, p2, popO_some, bindH_eq, condV_bool, condV_true, condV_false, yV_bool, gopV_tt, gopV_ff, gopV_tf, gopV_ft, pickV_t, pickV_f, pickV_bool, nilS_ptr, add_eq, sub_eq, mul_eq, lss_eq, leq_eq, gtr_eq, geq_eq, not_eq, minI_eq, maxI_eq, extract_0, extract_1, extract_2, eqlI, neqI, makeFunc_eq, decide_true, decide_false, if_true, if_false, Bool.false_eq_true, Bool.not_true, Bool.not_false, reduceIte, List.getElem?_toArray, List.getElem?_cons_zero, List.getElem?_cons_succ, Option.isSome_none, List.length_map]
    intro r hr
    try rw [bindH_eq]
    refine T_api_Item.fill hr rfl (by simp [It.cells, isCell]) fun h2 B2 u2 => ?_
    have l2 : SemE PG h2 (Instr.loadAt T_api_Item (.pointer (some ⟨r, 0, none⟩))) = some (.agg x.cells.toArray) := T_api_Item.agg B2 (by show 0 + 5 ≤ 5; decide)
    simp only [l2, popO_some, bindH_eq, condV_bool, condV_true, condV_false, yV_bool, gopV_tt, gopV_ff, gopV_tf, gopV_ft, pickV_t, pickV_f, pickV_bool, nilS_ptr, add_eq, sub_eq, mul_eq, lss_eq, leq_eq, gtr_eq, geq_eq, not_eq, minI_eq, maxI_eq, extract_0, extract_1, extract_2, eqlI, neqI, makeFunc_eq, decide_true, decide_false, if_true, if_false, Bool.false_eq_true, Bool.not_true, Bool.not_false, reduceIte, List.getElem?_toArray, List.getElem?_cons_zero, List.getElem?_cons_succ, Option.isSome_none, List.length_map]
    show CallsH PG id_note_PutItems_1 #[.agg x.cells.toArray] h2 _
    refine PutItem_1_ok x fun h3 u3 => ?_
    simp only [popO_some, bindH_eq, condV_bool, condV_true, condV_false, yV_bool, gopV_tt, gopV_ff, gopV_tf, gopV_ft, pickV_t, pickV_f, pickV_bool, nilS_ptr, add_eq, sub_eq, mul_eq, lss_eq, leq_eq, gtr_eq, geq_eq, not_eq, minI_eq, maxI_eq, extract_0, extract_1, extract_2, eqlI, neqI, makeFunc_eq, decide_true, decide_false, if_true, if_false, Bool.false_eq_true, Bool.not_true, Bool.not_false, reduceIte, List.getElem?_toArray, List.getElem?_cons_zero, List.getElem?_cons_succ, Option.isSome_none, List.length_map]
    intro r4 hr4
    try rw [bindH_eq]
    refine T_api_Packet.fill hr4 rfl (by simp [Pk.cells, isCell]) fun h4 B4 u4 => ?_
    have u := (u2.trans u3).trans u4
    have S4 := WS.ext S' u
    have hr4' : r4 ∉ F' := fun hm => S'.at_.known r4 hm ((u2.trans u3).none hr4)
    have BK4 : BK h4 F' r4 x.x.2.cells := ⟨B4, hr4'⟩
    refine Byte_w S4 (by omega) x.x.1 fun h5 F5 x5 e5 S5 K5 => ?_
    have BK5 := BK4.keep K5
    have l5 : SemE PG h5 (Instr.loadAt T_api_Packet (.pointer (some ⟨r4, 0, none⟩))) = some (.agg x.x.2.cells.toArray) := T_api_Packet.agg BK5.bx (by show 0 + 4 ≤ 4; decide)
    have b5 := wByte_len st' x.x.1
    rw [← e5] at b5
    simp only [l5, popO_some, bindH_eq, condV_bool, condV_true, condV_false, yV_bool, gopV_tt, gopV_ff, gopV_tf, gopV_ft, pickV_t, pickV_f, pickV_bool, nilS_ptr, add_eq, sub_eq, mul_eq, lss_eq, leq_eq, gtr_eq, geq_eq, not_eq, minI_eq, maxI_eq, extract_0, extract_1, extract_2, eqlI, neqI, makeFunc_eq, decide_true, decide_false, if_true, if_false, Bool.false_eq_true, Bool.not_true, Bool.not_false, reduceIte, List.getElem?_toArray, List.getElem?_cons_zero, List.getElem?_cons_succ, Option.isSome_none, List.length_map]
    refine Put_w S5 (by omega) x.x.2 hwx fun h6 F6 S6 K6 => ?_
    simp only [gi, popO_some, bindH_eq, condV_bool, condV_true, condV_false, yV_bool, gopV_tt, gopV_ff, gopV_tf, gopV_ft, pickV_t, pickV_f, pickV_bool, nilS_ptr, add_eq, sub_eq, mul_eq, lss_eq, leq_eq, gtr_eq, geq_eq, not_eq, minI_eq, maxI_eq, extract_0, extract_1, extract_2, eqlI, neqI, makeFunc_eq, decide_true, decide_false, if_true, if_false, Bool.false_eq_true, Bool.not_true, Bool.not_false, reduceIte, List.getElem?_toArray, List.getElem?_cons_zero, List.getElem?_cons_succ, Option.isSome_none, List.length_map]
    refine ⟨⟨i + 1, _, F6, by omega, rfl, S6, ((K'.trans (Keep.ext u)).trans K5).trans K6, ?_⟩, ?_⟩
    · rw [htk, e5]; rfl
    · simp only [upTo, List.getElem?_cons_succ, List.getElem?_cons_zero]
      omega
  · have g1 : ((i : Int) < (l.length : Int)) = False := eq_false (by omega)
    simp only [g1, popO_some, bindH_eq, condV_bool, condV_true, condV_false, yV_bool, gopV_tt, gopV_ff, gopV_tf, gopV_ft, pickV_t, pickV_f, pickV_bool, nilS_ptr, add_eq, sub_eq, mul_eq, lss_eq, leq_eq, gtr_eq, geq_eq, not_eq, minI_eq, maxI_eq, extract_0, extract_1, extract_2, eqlI, neqI, makeFunc_eq, decide_true, decide_false, if_true, if_false, Bool.false_eq_true, Bool.not_true, Bool.not_false, reduceIte, List.getElem?_toArray, List.getElem?_cons_zero, List.getElem?_cons_succ, Option.isSome_none, List.length_map]
    rw [List.take_of_length_le (by simp; omega)] at e'
    refine hk h' F' ?_ K'
    unfold wList
    rw [List.length_map, ← e']
    exact S'
end Go.Proofs.YtlkjippiaghbmaaGreat
