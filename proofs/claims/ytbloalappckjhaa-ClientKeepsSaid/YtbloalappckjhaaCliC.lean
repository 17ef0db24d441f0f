/- client: what its functions do, as rules for their calls. -/
import Derived.Test.YtbloalappckjhaaNetM
import Derived.Test.YtbloalappckjhaaHCut
set_option linter.unusedSimpArgs false
set_option linter.unusedVariables false
namespace Go.Proofs.Ytbloalappckjhaa
open Go

theorem conv_int_uint (x : Int) : SemP PG (convert T_int T_uint (.int .i64 x)) = some (.int .u64 (IntKind.u64.wrap x)) := by kernel_rfl
theorem conv_uint_int (x : Int) : SemP PG (convert T_uint T_int (.int .u64 x)) = some (.int .i64 (IntKind.i64.wrap x)) := by kernel_rfl

/-- sort.Search over a pure, rising question. -/
theorem Search_ok {h : PH} {n : Nat} {fid : FuncId} {cap : Array Value} {f : Nat → Bool} (hn : n ≤ 1000000000) (hm : ∀ i j, i ≤ j → j < n → f i = true → f j = true)
    (hf : ∀ i, i < n → ∀ k', k' (.bool (f i)) h → CallsH PG fid (#[] ++ #[.int .i64 i] ++ cap) h k') {k : Value → PH → Prop}
    (hk : ∀ m, m ≤ n → (∀ i, i < m → f i = false) → (∀ i, m ≤ i → i < n → f i = true) → k (.int .i64 m) h) :
    CallsH PG id_sort_Search #[.int .i64 n, .func (.func fid) #[] cap] h k := by
  apply sort_Search.call
  unfold sort_Search
  refine ⟨fun vs h' => ∃ i j : Nat, i ≤ j ∧ j ≤ n ∧ vs = [.func (.func fid) #[] cap, .int .i64 i, .int .i64 j] ∧ h' = h ∧ (∀ x, x < i → f x = false) ∧ (∀ x, j ≤ x → x < n → f x = true), fun vs _ => match vs with | [_, .int _ i, .int _ j] => (j - i).toNat | _ => 0, ⟨0, n, by omega, by omega, rfl, rfl, by omega, by omega⟩, ?_⟩
  rintro ρ h' ⟨i, j, hij, hj, hvs, rfl, h1, h2⟩
  simp only [List.map_cons, List.map_nil, List.cons.injEq, and_true] at hvs
  obtain ⟨e0, e1, e2⟩ := hvs
  rw [e0, e1, e2]
  unfold sort_Search_b2
  by_cases hc : i < j
  · have hd : ((i : Int) < (j : Int)) = True := by simp only [eq_iff_iff, iff_true]; omega
    have a1 : IntKind.i64.wrap ((i : Int) + (j : Int)) = ((i + j : Nat) : Int) := by rw [i64_wrap (by omega) (by omega)]; omega
    have a2 : IntKind.u64.wrap ((i + j : Nat) : Int) = ((i + j : Nat) : Int) := by
      unfold IntKind.wrap
      simp [IntKind.signed, IntKind.bits]
      omega
    have a3 : ((i + j : Nat) : Int).fdiv (2 ^ (min (1 : Int).toNat IntKind.u64.bits)) = (((i + j) / 2 : Nat) : Int) := by
      have : min (1 : Int).toNat IntKind.u64.bits = 1 := by decide
      rw [this, Int.fdiv_eq_ediv_of_nonneg _ (by decide)]
      omega
    have a4 : IntKind.i64.wrap (((i + j) / 2 : Nat) : Int) = (((i + j) / 2 : Nat) : Int) := by rw [i64_wrap (by omega) (by omega)]
    have a5 : IntKind.i64.wrap ((((i + j) / 2 : Nat) : Int) + 1) = (((i + j) / 2 + 1 : Nat) : Int) := by rw [i64_wrap (by omega) (by omega)]; omega
    simp only [hd, a1, conv_int_uint, a2, shr_eq (show (0 : Int) ≤ 1 by decide), a3, conv_uint_int, a4, popO_some, bindH_eq, condV_bool, condV_true, condV_false, yV_bool, gopV_tt, gopV_ff, gopV_tf, gopV_ft, pickV_t, pickV_f, pickV_bool, nilS_ptr, add_eq, sub_eq, mul_eq, lss_eq, leq_eq, gtr_eq, geq_eq, not_eq, minI_eq, maxI_eq, extract_0, extract_1, extract_2, eqlI, neqI, makeFunc_eq, decide_true, decide_false, if_true, if_false, Bool.false_eq_true, Bool.not_true, Bool.not_false, reduceIte, List.getElem?_toArray, List.getElem?_cons_zero, List.getElem?_cons_succ, Option.isSome_none, List.length_map]
    refine hf ((i + j) / 2) (by omega) _ ?_
    cases e : f ((i + j) / 2) with
    | false =>
      simp only [a5, popO_some, bindH_eq, condV_bool, condV_true, condV_false, yV_bool, gopV_tt, gopV_ff, gopV_tf, gopV_ft, pickV_t, pickV_f, pickV_bool, nilS_ptr, add_eq, sub_eq, mul_eq, lss_eq, leq_eq, gtr_eq, geq_eq, not_eq, minI_eq, maxI_eq, extract_0, extract_1, extract_2, eqlI, neqI, makeFunc_eq, decide_true, decide_false, if_true, if_false, Bool.false_eq_true, Bool.not_true, Bool.not_false, reduceIte, List.getElem?_toArray, List.getElem?_cons_zero, List.getElem?_cons_succ, Option.isSome_none, List.length_map]
      refine ⟨⟨(i + j) / 2 + 1, j, by omega, hj, rfl, rfl, fun x hx => ?_, h2⟩, by simp [e1, e2]; omega⟩
      cases e' : f x with
      | false => rfl
      | true => rw [hm x ((i + j) / 2) (by omega) (by omega) e'] at e; cases e
    | true =>
      simp only [popO_some, bindH_eq, condV_bool, condV_true, condV_false, yV_bool, gopV_tt, gopV_ff, gopV_tf, gopV_ft, pickV_t, pickV_f, pickV_bool, nilS_ptr, add_eq, sub_eq, mul_eq, lss_eq, leq_eq, gtr_eq, geq_eq, not_eq, minI_eq, maxI_eq, extract_0, extract_1, extract_2, eqlI, neqI, makeFunc_eq, decide_true, decide_false, if_true, if_false, Bool.false_eq_true, Bool.not_true, Bool.not_false, reduceIte, List.getElem?_toArray, List.getElem?_cons_zero, List.getElem?_cons_succ, Option.isSome_none, List.length_map]
      exact ⟨⟨i, (i + j) / 2, by omega, by omega, rfl, rfl, h1, fun x hx hx2 => hm _ _ hx hx2 e⟩, by simp [e1, e2]; omega⟩
  · have hd : ((i : Int) < (j : Int)) = False := by apply eq_false; omega
    simp only [hd, popO_some, bindH_eq, condV_bool, condV_true, condV_false, yV_bool, gopV_tt, gopV_ff, gopV_tf, gopV_ft, pickV_t, pickV_f, pickV_bool, nilS_ptr, add_eq, sub_eq, mul_eq, lss_eq, leq_eq, gtr_eq, geq_eq, not_eq, minI_eq, maxI_eq, extract_0, extract_1, extract_2, eqlI, neqI, makeFunc_eq, decide_true, decide_false, if_true, if_false, Bool.false_eq_true, Bool.not_true, Bool.not_false, reduceIte, List.getElem?_toArray, List.getElem?_cons_zero, List.getElem?_cons_succ, Option.isSome_none, List.length_map]
    have : i = j := by omega
    subst this
    exact hk i hj h1 h2
/-! ### what is known, by plain lists -/
structure Known where
  height : Int
  root : ByteArray
  deriving DecidableEq
def Known.cells (m : Known) : List Value := [.int .u64 m.height, .string m.root]
theorem Known.rows (l : List Known) : Rows 2 (l.map Known.cells) := fun r hr => by
  obtain ⟨m, _, rfl⟩ := List.mem_map.1 hr; rfl
theorem Known.isCell (l : List Known) : ∀ r ∈ l.map Known.cells, ∀ u ∈ r, isCell u = true := fun r hr u hu => by
  obtain ⟨m, _, rfl⟩ := List.mem_map.1 hr
  simp only [Known.cells, List.mem_cons, List.not_mem_nil, or_false] at hu
  rcases hu with rfl | rfl <;> rfl
def ucell (x : Int) : List Value := [.int .u64 x]
theorem ucell.rows (l : List Int) : Rows 1 (l.map ucell) := fun r hr => by
  obtain ⟨m, _, rfl⟩ := List.mem_map.1 hr; rfl
theorem ucell.isCell (l : List Int) : ∀ r ∈ l.map ucell, ∀ u ∈ r, isCell u = true := fun r hr u hu => by
  obtain ⟨m, _, rfl⟩ := List.mem_map.1 hr
  simp only [ucell, List.mem_cons, List.not_mem_nil, or_false] at hu
  subst hu; rfl
def hts (l : List Known) : List Int := l.map Known.height
def fromS (hs : List Int) (x : Int) : Option Int := hs.find? fun y => decide (x ≤ y)
def latS (hs : List Int) : Int := hs.getLast?.getD 0
def rootL (l : List Known) (x : Int) : Option ByteArray := (l.find? fun p => decide (x = p.height)).map Known.root
def setK (l : List Known) (x : Known) : Int × List Known := if x.root.size ≠ 32 then (1, l) else if x.height ∈ hts l then (4, l) else if 4096 ≤ l.length then (2, l) else (0, l ++ [x])
structure Ranked (hs : List Int) (l : List Known) : Prop where
  perm : hs.Perm (hts l)
  up : hs.Pairwise (· < ·)
theorem Ranked.mem {hs : List Int} {l : List Known} (H : Ranked hs l) {x : Int} : x ∈ hs ↔ x ∈ hts l := H.perm.mem_iff
theorem Ranked.len {hs : List Int} {l : List Known} (H : Ranked hs l) : hs.length = l.length := by rw [H.perm.length_eq]; simp [hts]
theorem rootL_some (l : List Known) (x : Int) : (rootL l x).isSome = decide (x ∈ hts l) := by
  unfold rootL hts
  induction l with
  | nil => rfl
  | cons p ps ih =>
    simp only [List.find?_cons, List.map_cons, List.mem_cons]
    by_cases e : x = p.height
    · simp [e]
    · simp only [e, decide_false, false_or]; exact ih
def Known.ent (p : Known) : Int × Value := (p.height, .string p.root)
theorem getM_ent (l : List Known) (x : Int) : getM (l.map Known.ent) x = (rootL l x).map Value.string := by
  unfold rootL getM
  induction l with
  | nil => rfl
  | cons p ps ih =>
    simp only [List.find?_cons, List.map_cons, Known.ent]
    by_cases e : x = p.height
    · simp [e]
    · simp only [e, decide_false]; exact ih
theorem keys_ent (l : List Known) : keysM (l.map Known.ent) = hts l := by simp [keysM, hts, Known.ent]
theorem Ranked.cut {hs : List Int} {l : List Known} (H : Ranked hs l) {x : Known} (hx : x.height ∉ hts l) {m : Nat} (h1 : ∀ y ∈ hs.take m, y < x.height) (h2 : ∀ y ∈ hs.drop m, x.height ≤ y) : Ranked (hs.take m ++ [x.height] ++ hs.drop m) (l ++ [x]) where
  perm := by
    have : hts (l ++ [x]) = hts l ++ [x.height] := by simp [hts]
    rw [this]
    refine ((List.perm_append_comm (l₁ := hs.take m) (l₂ := [x.height])).append_right _).trans ?_
    rw [List.append_assoc, List.take_append_drop]
    exact List.perm_append_comm.trans (H.perm.append_right _)
  up := by
    have hs' := H.up
    rw [← List.take_append_drop m hs, List.pairwise_append] at hs'
    have h2' : ∀ y ∈ hs.drop m, x.height < y := fun y hy => by
      have h3 := h2 y hy
      have : y ≠ x.height := by rintro rfl; exact hx (H.mem.1 (List.mem_of_mem_drop hy))
      omega
    rw [List.append_assoc, List.pairwise_append]
    refine ⟨hs'.1, ?_, ?_⟩
    · rw [List.singleton_append, List.pairwise_cons]
      exact ⟨h2', hs'.2.1⟩
    · intro a ha b hb
      rcases List.mem_cons.1 (by simpa using hb) with rfl | hb
      · exact h1 a ha
      · exact hs'.2.2 a ha b hb
theorem fromS_cut {hs : List Int} {x : Int} {m : Nat} (h1 : ∀ y ∈ hs.take m, y < x) (h2 : ∀ y ∈ hs.drop m, x ≤ y) : fromS hs x = hs[m]? := by
  unfold fromS
  rw [← List.take_append_drop m hs, List.find?_append]
  have : (hs.take m).find? (fun y => decide (x ≤ y)) = none := by
    rw [List.find?_eq_none]
    intro y hy
    have := h1 y hy
    simp; omega
  rw [this, Option.none_or]
  rw [List.take_append_drop]
  cases hd : hs.drop m with
  | nil =>
    have := List.drop_eq_nil_iff.1 hd
    simp [this]
  | cons y ys =>
    have hm : y ∈ hs.drop m := by rw [hd]; simp
    have hle := h2 y hm
    have : hs[m]? = some y := by
      have := List.getElem?_drop (xs := hs) (i := m) (j := 0)
      rw [hd] at this
      simpa using this.symm
    simp [hle, this]

/-! ### the client -/
structure ClientAt (h : PH) (a : Nat) (l : List Known) (hs : List Int) (F : List Nat) : Prop where
  here : ∃ r v G, h a = some (.cells #[.map (some r), v] T_client_Client (0, 0)) ∧ MapAt ukey h r (l.map Known.ent) ∧ OwnR h T_uint64 1 v (hs.map ucell) G ∧ F = a :: r :: G ∧ a ≠ r ∧ a ∉ G ∧ r ∉ G
  rank : Ranked hs l
  few : l.length ≤ 4096
theorem ClientAt.known {h : PH} {a : Nat} {l : List Known} {hs : List Int} {F : List Nat} (H : ClientAt h a l hs F) : ∀ b ∈ F, h b ≠ none := by
  obtain ⟨r, v, G, ha, hM, hO, rfl, -⟩ := H.here
  intro b hb
  simp only [List.mem_cons] at hb
  rcases hb with rfl | rfl | hb
  · rw [ha]; simp
  · exact hM.known
  · exact hO.known b hb
theorem ClientAt.upd {h h' : PH} {a : Nat} {l : List Known} {hs : List Int} {F G : List Nat} (H : ClientAt h a l hs F) (u : Upd G h h') (hd : ∀ b ∈ F, b ∉ G) : ClientAt h' a l hs F := by
  obtain ⟨r, v, G', ha, hM, hO, rfl, hn⟩ := H.here
  exact ⟨⟨r, v, G', u.get ha (hd a (by simp)), hM.upd u (hd r (by simp)), hO.upd u (fun b hb => hd b (by simp [hb])), rfl, hn⟩, H.rank, H.few⟩
theorem ClientAt.ext {h h' : PH} {a : Nat} {l : List Known} {hs : List Int} {F : List Nat} (H : ClientAt h a l hs F) (u : Ext h h') : ClientAt h' a l hs F := H.upd u (by simp)

theorem CNew_ok {h : PH} {k : Value → PH → Prop} (hk : ∀ a h' F, ClientAt h' a [] [] F → Ext h h' → Fresh h F → k (.pointer (some ⟨a, 0, none⟩)) h') : CallsH PG id_client_New #[] h k := by
  apply client_New.call
  unfold client_New
  simp only [makeMap_eq, popO_some, bindH_eq, condV_bool, condV_true, condV_false, yV_bool, gopV_tt, gopV_ff, gopV_tf, gopV_ft, pickV_t, pickV_f, pickV_bool, nilS_ptr, add_eq, sub_eq, mul_eq, lss_eq, leq_eq, gtr_eq, geq_eq, not_eq, minI_eq, maxI_eq, extract_0, extract_1, extract_2, eqlI, neqI, makeFunc_eq, decide_true, decide_false, if_true, if_false, Bool.false_eq_true, Bool.not_true, Bool.not_false, reduceIte, List.getElem?_toArray, List.getElem?_cons_zero, List.getElem?_cons_succ, Option.isSome_none, List.length_map]
  intro r hr
  refine popO_pure ?_
  have e1 : SemP PG (Instr.build T_client_Client #[(0, Value.map (some r))]) = some (.agg #[.map (some r), .slice none 0 0]) := by kernel_rfl
  simp only [e1, popO_some, bindH_eq, condV_bool, condV_true, condV_false, yV_bool, gopV_tt, gopV_ff, gopV_tf, gopV_ft, pickV_t, pickV_f, pickV_bool, nilS_ptr, add_eq, sub_eq, mul_eq, lss_eq, leq_eq, gtr_eq, geq_eq, not_eq, minI_eq, maxI_eq, extract_0, extract_1, extract_2, eqlI, neqI, makeFunc_eq, decide_true, decide_false, if_true, if_false, Bool.false_eq_true, Bool.not_true, Bool.not_false, reduceIte, List.getElem?_toArray, List.getElem?_cons_zero, List.getElem?_cons_succ, Option.isSome_none, List.length_map]
  intro a ha
  have hne : a ≠ r := by rintro rfl; rw [set_same] at ha; cases ha
  have ha0 : h a = none := by rwa [set_other hne] at ha
  refine hk a _ [a, r] ⟨⟨r, .slice none 0 0, [], set_same, MapAt.new.ext (Upd.new ha), OwnR.nil, rfl, hne, by simp, by simp⟩, ⟨by simp [hts], by simp⟩, by simp⟩ ((Upd.new hr).trans (Upd.new ha)) ?_
  intro b hb
  simp only [List.mem_cons, List.not_mem_nil, or_false] at hb
  rcases hb with rfl | rfl
  · exact ha0
  · exact hr

theorem SlR.u64 {h : PH} {x : Value} {xs : List Int} (H : SlR h 1 x (xs.map ucell)) {k : IntKind} {j : Nat} {m : Int} (hm : xs[j]? = some m) :
    ∃ a, SemP PG (Instr.indexAt T_sl_uint64 x (.int k j)) = some (.pointer (some a)) ∧ SemE PG h (Instr.loadAt T_uint64 (.pointer (some a))) = some (.int .u64 m) :=
  H.loadCell T_sl_uint64.und T_uint64.info T_uint64.size T_uint64.und rfl (by omega) (by simp [List.getElem?_map, hm, ucell])

theorem place_at {h : PH} {a : Nat} {mv v : Value} {hs : List Int} {G : List Nat} (ha0 : h a = some (.cells #[mv, v] T_client_Client (0, 0))) (hO0 : OwnR h T_uint64 1 v (hs.map ucell) G) (hup : hs.Pairwise (· < ·)) (hfew : hs.length ≤ 4096) (x : Int) {k : Value → PH → Prop}
    (hk : ∀ m h', m ≤ hs.length → (∀ y ∈ hs.take m, y < x) → (∀ y ∈ hs.drop m, x ≤ y) → Ext h h' → k (.int .i64 (m : Nat)) h') : CallsH PG id_client_Client_place #[.pointer (some ⟨a, 0, none⟩), .int .u64 x] h k := by
  apply client_Client_place.call
  unfold client_Client_place
  intro r1 hr1
  simp only [popO_some, bindH_eq, condV_bool, condV_true, condV_false, yV_bool, gopV_tt, gopV_ff, gopV_tf, gopV_ft, pickV_t, pickV_f, pickV_bool, nilS_ptr, add_eq, sub_eq, mul_eq, lss_eq, leq_eq, gtr_eq, geq_eq, not_eq, minI_eq, maxI_eq, extract_0, extract_1, extract_2, eqlI, neqI, makeFunc_eq, decide_true, decide_false, if_true, if_false, Bool.false_eq_true, Bool.not_true, Bool.not_false, reduceIte, List.getElem?_toArray, List.getElem?_cons_zero, List.getElem?_cons_succ, Option.isSome_none, List.length_map]
  intro r3 hr3
  have u1 : Ext h (h.set r1 (.cells (Value.cells (.pointer (some ⟨a, 0, none⟩))) T_p_client_Client)) := Upd.new hr1
  have hne : r1 ≠ r3 := ne_new set_same hr3
  have e1 : (h.set r1 (.cells (Value.cells (.pointer (some ⟨a, 0, none⟩))) T_p_client_Client)) r1 = some (.cells #[.pointer (some ⟨a, 0, none⟩)] T_p_client_Client) := set_same
  generalize h.set r1 (.cells (Value.cells (.pointer (some ⟨a, 0, none⟩))) T_p_client_Client) = h1 at *
  have u2 : Ext h1 (h1.set r3 (.cells (Value.cells (.int .u64 x)) T_uint64)) := Upd.new hr3
  have e2 : (h1.set r3 (.cells (Value.cells (.int .u64 x)) T_uint64)) r3 = some (.cells #[.int .u64 x] T_uint64) := set_same
  have e3 := u2.get e1
  generalize h1.set r3 (.cells (Value.cells (.int .u64 x)) T_uint64) = h2 at *
  have w := u1.trans u2
  have ha := w.get ha0
  have hO := hO0.ext w
  have hlv := hO.slR.len (t' := T_int) T_sl_uint64.und
  rw [List.length_map] at hlv
  simp only [T_p_client_Client.load, cellH, e3, T_client_Client.f1, Nat.zero_add, T_sl_uint64.load, ha, hlv, popO_some, bindH_eq, condV_bool, condV_true, condV_false, yV_bool, gopV_tt, gopV_ff, gopV_tf, gopV_ft, pickV_t, pickV_f, pickV_bool, nilS_ptr, add_eq, sub_eq, mul_eq, lss_eq, leq_eq, gtr_eq, geq_eq, not_eq, minI_eq, maxI_eq, extract_0, extract_1, extract_2, eqlI, neqI, makeFunc_eq, decide_true, decide_false, if_true, if_false, Bool.false_eq_true, Bool.not_true, Bool.not_false, reduceIte, List.getElem?_toArray, List.getElem?_cons_zero, List.getElem?_cons_succ, Option.isSome_none, List.length_map]
  refine Search_ok (f := fun i => decide (x ≤ hs.getD i 0)) (by omega) ?_ ?_ ?_
  · intro i j hij hj hfi
    simp only [decide_eq_true_eq] at hfi ⊢
    by_cases e : i = j
    · subst e; exact hfi
    · have := List.pairwise_iff_getElem.1 hup i j (by omega) hj (by omega)
      rw [List.getD_eq_getElem?_getD, List.getElem?_eq_getElem (by omega)] at hfi ⊢
      simp only [Option.getD_some] at hfi ⊢
      omega
  · intro i hi k' hk'
    show CallsH PG id_client_Client_place_1 #[.int .i64 i, .pointer (some ⟨r1, 0, none⟩), .pointer (some ⟨r3, 0, none⟩)] h2 k'
    apply client_Client_place_1.call
    unfold client_Client_place_1
    obtain ⟨p, p1, p2⟩ := hO.slR.u64 (k := .i64) (j := i) (m := hs.getD i 0) (by rw [List.getD_eq_getElem?_getD, List.getElem?_eq_getElem hi]; rfl)
    have p3 : SemE PG h2 (Instr.loadAt T_uint64 (.pointer (some ⟨r3, 0, none⟩))) = some (.int .u64 x) := by rw [T_uint64.load]; simp [cellH, e2]
    simp only [T_p_client_Client.load, cellH, e3, T_client_Client.f1, Nat.zero_add, T_sl_uint64.load, ha, p1, p2, p3, popO_some, bindH_eq, condV_bool, condV_true, condV_false, yV_bool, gopV_tt, gopV_ff, gopV_tf, gopV_ft, pickV_t, pickV_f, pickV_bool, nilS_ptr, add_eq, sub_eq, mul_eq, lss_eq, leq_eq, gtr_eq, geq_eq, not_eq, minI_eq, maxI_eq, extract_0, extract_1, extract_2, eqlI, neqI, makeFunc_eq, decide_true, decide_false, if_true, if_false, Bool.false_eq_true, Bool.not_true, Bool.not_false, reduceIte, List.getElem?_toArray, List.getElem?_cons_zero, List.getElem?_cons_succ, Option.isSome_none, List.length_map]
    exact hk'
  · intro m hm h1 h2
    refine hk m _ hm ?_ ?_ w
    · intro y hy
      obtain ⟨i, hi, rfl⟩ := List.mem_iff_getElem.1 hy
      rw [List.length_take] at hi
      have := h1 i (by omega)
      rw [List.getD_eq_getElem?_getD, List.getElem?_eq_getElem (by omega)] at this
      simp only [Option.getD_some, decide_eq_false_iff_not] at this
      rw [List.getElem_take]
      omega
    · intro y hy
      obtain ⟨i, hi, rfl⟩ := List.mem_iff_getElem.1 hy
      rw [List.length_drop] at hi
      have := h2 (m + i) (by omega) (by omega)
      rw [List.getD_eq_getElem?_getD, List.getElem?_eq_getElem (by omega)] at this
      simp only [Option.getD_some, decide_eq_true_eq] at this
      rw [List.getElem_drop]
      exact this
theorem place_ok {h : PH} {a : Nat} {l : List Known} {hs : List Int} {F : List Nat} (hC : ClientAt h a l hs F) (x : Int) {k : Value → PH → Prop}
    (hk : ∀ m h', m ≤ hs.length → (∀ y ∈ hs.take m, y < x) → (∀ y ∈ hs.drop m, x ≤ y) → Ext h h' → k (.int .i64 (m : Nat)) h') : CallsH PG id_client_Client_place #[.pointer (some ⟨a, 0, none⟩), .int .u64 x] h k := by
  obtain ⟨r, v, G, ha, hM, hO, rfl, hn⟩ := hC.here
  exact place_at ha hO hC.rank.up (by have := hC.rank.len; have := hC.few; omega) x hk
theorem From_ok {h : PH} {a : Nat} {l : List Known} {hs : List Int} {F : List Nat} (hC : ClientAt h a l hs F) (x : Int) {k : Value → PH → Prop}
    (hk : ∀ h', Ext h h' → k (.tuple #[.int .u64 ((fromS hs x).getD 0), .bool (fromS hs x).isSome]) h') : CallsH PG id_client_Client_From #[.pointer (some ⟨a, 0, none⟩), .int .u64 x] h k := by
  apply client_Client_From.call
  unfold client_Client_From
  refine place_ok hC x fun m h1 hm h2 h3 u => ?_
  have hC2 := hC.ext u
  obtain ⟨r, v, G, ha, hM, hO, rfl, hn⟩ := hC2.here
  have hlv := hO.slR.len (t' := T_int) T_sl_uint64.und
  rw [List.length_map] at hlv
  have hf := fromS_cut h2 h3
  simp only [cellH, T_client_Client.f1, Nat.zero_add, T_sl_uint64.load, ha, hlv, popO_some, bindH_eq, condV_bool, condV_true, condV_false, yV_bool, gopV_tt, gopV_ff, gopV_tf, gopV_ft, pickV_t, pickV_f, pickV_bool, nilS_ptr, add_eq, sub_eq, mul_eq, lss_eq, leq_eq, gtr_eq, geq_eq, not_eq, minI_eq, maxI_eq, extract_0, extract_1, extract_2, eqlI, neqI, makeFunc_eq, decide_true, decide_false, if_true, if_false, Bool.false_eq_true, Bool.not_true, Bool.not_false, reduceIte, List.getElem?_toArray, List.getElem?_cons_zero, List.getElem?_cons_succ, Option.isSome_none, List.length_map]
  by_cases hc : m = hs.length
  · have e : ((m : Int) == (hs.length : Int)) = true := by simp [hc]
    have e2 : hs[m]? = none := by simp [hc]
    simp only [e, popO_some, bindH_eq, condV_bool, condV_true, condV_false, yV_bool, gopV_tt, gopV_ff, gopV_tf, gopV_ft, pickV_t, pickV_f, pickV_bool, nilS_ptr, add_eq, sub_eq, mul_eq, lss_eq, leq_eq, gtr_eq, geq_eq, not_eq, minI_eq, maxI_eq, extract_0, extract_1, extract_2, eqlI, neqI, makeFunc_eq, decide_true, decide_false, if_true, if_false, Bool.false_eq_true, Bool.not_true, Bool.not_false, reduceIte, List.getElem?_toArray, List.getElem?_cons_zero, List.getElem?_cons_succ, Option.isSome_none, List.length_map]
    rw [e2] at hf
    have := hk h1 u
    rwa [hf] at this
  · have e : ((m : Int) == (hs.length : Int)) = false := by simp; omega
    obtain ⟨y, hy⟩ : ∃ y, hs[m]? = some y := ⟨_, List.getElem?_eq_getElem (by omega)⟩
    obtain ⟨p, p1, p2⟩ := hO.slR.u64 (k := .i64) hy
    simp only [e, p1, p2, popO_some, bindH_eq, condV_bool, condV_true, condV_false, yV_bool, gopV_tt, gopV_ff, gopV_tf, gopV_ft, pickV_t, pickV_f, pickV_bool, nilS_ptr, add_eq, sub_eq, mul_eq, lss_eq, leq_eq, gtr_eq, geq_eq, not_eq, minI_eq, maxI_eq, extract_0, extract_1, extract_2, eqlI, neqI, makeFunc_eq, decide_true, decide_false, if_true, if_false, Bool.false_eq_true, Bool.not_true, Bool.not_false, reduceIte, List.getElem?_toArray, List.getElem?_cons_zero, List.getElem?_cons_succ, Option.isSome_none, List.length_map]
    rw [hy] at hf
    have := hk h1 u
    rwa [hf] at this
theorem Root_ok {h : PH} {a : Nat} {l : List Known} {hs : List Int} {F : List Nat} (hC : ClientAt h a l hs F) (x : Int) {k : Value → PH → Prop}
    (hk : k (.tuple #[.string ((rootL l x).getD ⟨#[]⟩), .bool (rootL l x).isSome]) h) : CallsH PG id_client_Client_Root #[.pointer (some ⟨a, 0, none⟩), .int .u64 x] h k := by
  apply client_Client_Root.call
  unfold client_Client_Root
  obtain ⟨r, v, G, ha, hM, hO, rfl, hn⟩ := hC.here
  have hl := look_found (ukeyed T_uint64.und) T_map_uint64_string.und T_string.info T_string.zero hM x true
  rw [getM_ent] at hl
  have hl' : SemE PG h (Instr.lookup T_map_uint64_string (.map (some r)) (.int .u64 x) true) = some (.tuple #[.string ((rootL l x).getD ⟨#[]⟩), .bool (rootL l x).isSome]) := by
    rw [show (Value.int .u64 x) = ukey x from rfl, hl]
    cases rootL l x <;> rfl
  simp only [cellH, T_client_Client.f0, T_map_uint64_string.load, ha, hl', popO_some, bindH_eq, condV_bool, condV_true, condV_false, yV_bool, gopV_tt, gopV_ff, gopV_tf, gopV_ft, pickV_t, pickV_f, pickV_bool, nilS_ptr, add_eq, sub_eq, mul_eq, lss_eq, leq_eq, gtr_eq, geq_eq, not_eq, minI_eq, maxI_eq, extract_0, extract_1, extract_2, eqlI, neqI, makeFunc_eq, decide_true, decide_false, if_true, if_false, Bool.false_eq_true, Bool.not_true, Bool.not_false, reduceIte, List.getElem?_toArray, List.getElem?_cons_zero, List.getElem?_cons_succ, Option.isSome_none, List.length_map]
  exact hk
theorem Latest_ok {h : PH} {a : Nat} {l : List Known} {hs : List Int} {F : List Nat} (hC : ClientAt h a l hs F) {k : Value → PH → Prop}
    (hk : k (.int .u64 (latS hs)) h) : CallsH PG id_client_Client_Latest #[.pointer (some ⟨a, 0, none⟩)] h k := by
  have hlen := hC.rank.len
  have hfew := hC.few
  apply client_Client_Latest.call
  unfold client_Client_Latest
  obtain ⟨r, v, G, ha, hM, hO, rfl, hn⟩ := hC.here
  have hlv := hO.slR.len (t' := T_int) T_sl_uint64.und
  rw [List.length_map] at hlv
  simp only [cellH, T_client_Client.f1, Nat.zero_add, T_sl_uint64.load, ha, hlv, popO_some, bindH_eq, condV_bool, condV_true, condV_false, yV_bool, gopV_tt, gopV_ff, gopV_tf, gopV_ft, pickV_t, pickV_f, pickV_bool, nilS_ptr, add_eq, sub_eq, mul_eq, lss_eq, leq_eq, gtr_eq, geq_eq, not_eq, minI_eq, maxI_eq, extract_0, extract_1, extract_2, eqlI, neqI, makeFunc_eq, decide_true, decide_false, if_true, if_false, Bool.false_eq_true, Bool.not_true, Bool.not_false, reduceIte, List.getElem?_toArray, List.getElem?_cons_zero, List.getElem?_cons_succ, Option.isSome_none, List.length_map]
  unfold latS at hk
  rw [List.getLast?_eq_getElem?] at hk
  by_cases hc : hs.length = 0
  · have e : ((hs.length : Int) == 0) = true := by simp [hc]
    have e2 : hs = [] := List.eq_nil_of_length_eq_zero hc
    simp only [e, popO_some, bindH_eq, condV_bool, condV_true, condV_false, yV_bool, gopV_tt, gopV_ff, gopV_tf, gopV_ft, pickV_t, pickV_f, pickV_bool, nilS_ptr, add_eq, sub_eq, mul_eq, lss_eq, leq_eq, gtr_eq, geq_eq, not_eq, minI_eq, maxI_eq, extract_0, extract_1, extract_2, eqlI, neqI, makeFunc_eq, decide_true, decide_false, if_true, if_false, Bool.false_eq_true, Bool.not_true, Bool.not_false, reduceIte, List.getElem?_toArray, List.getElem?_cons_zero, List.getElem?_cons_succ, Option.isSome_none, List.length_map]
    rw [e2] at hk
    exact hk
  · have e : ((hs.length : Int) == 0) = false := by simpa using hc
    have e2 : IntKind.i64.wrap ((hs.length : Int) - 1) = ((hs.length - 1 : Nat) : Int) := by rw [i64_wrap (by omega) (by omega)]; omega
    obtain ⟨y, hy⟩ : ∃ y, hs[hs.length - 1]? = some y := ⟨_, List.getElem?_eq_getElem (by omega)⟩
    obtain ⟨p, p1, p2⟩ := hO.slR.u64 (k := .i64) hy
    simp only [e, e2, p1, p2, popO_some, bindH_eq, condV_bool, condV_true, condV_false, yV_bool, gopV_tt, gopV_ff, gopV_tf, gopV_ft, pickV_t, pickV_f, pickV_bool, nilS_ptr, add_eq, sub_eq, mul_eq, lss_eq, leq_eq, gtr_eq, geq_eq, not_eq, minI_eq, maxI_eq, extract_0, extract_1, extract_2, eqlI, neqI, makeFunc_eq, decide_true, decide_false, if_true, if_false, Bool.false_eq_true, Bool.not_true, Bool.not_false, reduceIte, List.getElem?_toArray, List.getElem?_cons_zero, List.getElem?_cons_succ, Option.isSome_none, List.length_map]
    rw [hy] at hk
    exact hk
theorem CloneU_ok {h : PH} {xs : List Int} {x : Value} (hx : SlR h 1 x (xs.map ucell)) (hl : xs.length ≤ 1000000) {k : Value → PH → Prop}
    (hk : ∀ v' h' F', OwnR h' T_uint64 1 v' (xs.map ucell) F' → Ext h h' → (∀ b ∈ F', h b = none) → k v' h') : CallsH PG id_slices_Clone_sl_uint64_uint64 #[x] h k := by
  obtain ⟨xa, xc, rfl, hx1, hx2, hx3, hx4⟩ := hx.here
  apply slices_Clone_sl_uint64_uint64.call
  unfold slices_Clone_sl_uint64_uint64
  simp only [eqlNil T_sl_uint64.und, popO_some, bindH_eq, condV_bool, condV_true, condV_false, yV_bool, gopV_tt, gopV_ff, gopV_tf, gopV_ft, pickV_t, pickV_f, pickV_bool, nilS_ptr, add_eq, sub_eq, mul_eq, lss_eq, leq_eq, gtr_eq, geq_eq, not_eq, minI_eq, maxI_eq, extract_0, extract_1, extract_2, eqlI, neqI, makeFunc_eq, decide_true, decide_false, if_true, if_false, Bool.false_eq_true, Bool.not_true, Bool.not_false, reduceIte, List.getElem?_toArray, List.getElem?_cons_zero, List.getElem?_cons_succ, Option.isSome_none, List.length_map]
  cases xa with
  | none =>
    have : xs = [] := by
      by_cases h0 : xs = []
      · exact h0
      · obtain ⟨b, o, cs, e, fr, h1, _⟩ := hx3 (by simpa using h0); cases h1
    subst this
    simp only [Option.isNone_none, popO_some, bindH_eq, condV_bool, condV_true, condV_false, yV_bool, gopV_tt, gopV_ff, gopV_tf, gopV_ft, pickV_t, pickV_f, pickV_bool, nilS_ptr, add_eq, sub_eq, mul_eq, lss_eq, leq_eq, gtr_eq, geq_eq, not_eq, minI_eq, maxI_eq, extract_0, extract_1, extract_2, eqlI, neqI, makeFunc_eq, decide_true, decide_false, if_true, if_false, Bool.false_eq_true, Bool.not_true, Bool.not_false, reduceIte, List.getElem?_toArray, List.getElem?_cons_zero, List.getElem?_cons_succ, Option.isSome_none, List.length_map]
    exact hk _ _ [] OwnR.nil Upd.refl (by simp)
  | some a =>
    simp only [Option.isNone_some, popO_some, bindH_eq, condV_bool, condV_true, condV_false, yV_bool, gopV_tt, gopV_ff, gopV_tf, gopV_ft, pickV_t, pickV_f, pickV_bool, nilS_ptr, add_eq, sub_eq, mul_eq, lss_eq, leq_eq, gtr_eq, geq_eq, not_eq, minI_eq, maxI_eq, extract_0, extract_1, extract_2, eqlI, neqI, makeFunc_eq, decide_true, decide_false, if_true, if_false, Bool.false_eq_true, Bool.not_true, Bool.not_false, reduceIte, List.getElem?_toArray, List.getElem?_cons_zero, List.getElem?_cons_succ, Option.isSome_none, List.length_map]
    have e1 : SemA PG (Instr.buildSlice T_sl_uint64 0 #[]) = some (.cells #[] T_uint64, fun r => pure (.slice (some ⟨r, 0, none⟩) 0 0)) := by kernel_rfl
    rw [e1]
    simp only [popO_some, bindH_eq, condV_bool, condV_true, condV_false, yV_bool, gopV_tt, gopV_ff, gopV_tf, gopV_ft, pickV_t, pickV_f, pickV_bool, nilS_ptr, add_eq, sub_eq, mul_eq, lss_eq, leq_eq, gtr_eq, geq_eq, not_eq, minI_eq, maxI_eq, extract_0, extract_1, extract_2, eqlI, neqI, makeFunc_eq, decide_true, decide_false, if_true, if_false, Bool.false_eq_true, Bool.not_true, Bool.not_false, reduceIte, List.getElem?_toArray, List.getElem?_cons_zero, List.getElem?_cons_succ, Option.isSome_none, List.length_map]
    intro r hr
    refine popO_pure ?_
    have hO : OwnR (h.set r (.cells #[] T_uint64)) T_uint64 1 (.slice (some ⟨r, 0, none⟩) 0 0) [] [r] := OwnR.lit (by intro r hr; cases hr) set_same rfl (by simp) rfl
    refine append_own T_sl_uint64.und T_sl_uint64.und T_uint64.info T_uint64.size T_uint64.bytes T_uint64.zero rfl (by decide) hO (by simpa only [List.length_map] using hx.ext (Upd.new hr)) (ucell.isCell _) (by simp; omega) ?_
    intro v' h' F' hO' hU hF' hC
    refine hk v' h' F' (by simpa using hO') (fun b o hb _ => hU b o (set_old hr hb) (by simp; exact ne_new hb hr)) (fun b hb => ?_)
    rcases hF' b hb with h1 | h1
    · simp at h1; subst h1; exact hr
    · by_cases e : b = r
      · subst e; exact hr
      · rwa [set_other e] at h1
theorem Heights_ok {h : PH} {a : Nat} {l : List Known} {hs : List Int} {F : List Nat} (hC : ClientAt h a l hs F) {k : Value → PH → Prop}
    (hk : ∀ v' h' F', OwnR h' T_uint64 1 v' (hs.map ucell) F' → Ext h h' → Fresh h F' → k v' h') : CallsH PG id_client_Client_Heights #[.pointer (some ⟨a, 0, none⟩)] h k := by
  have hlen := hC.rank.len
  have hfew := hC.few
  apply client_Client_Heights.call
  unfold client_Client_Heights
  obtain ⟨r, v, G, ha, hM, hO, rfl, hn⟩ := hC.here
  simp only [cellH, T_client_Client.f1, Nat.zero_add, T_sl_uint64.load, ha, popO_some, bindH_eq, condV_bool, condV_true, condV_false, yV_bool, gopV_tt, gopV_ff, gopV_tf, gopV_ft, pickV_t, pickV_f, pickV_bool, nilS_ptr, add_eq, sub_eq, mul_eq, lss_eq, leq_eq, gtr_eq, geq_eq, not_eq, minI_eq, maxI_eq, extract_0, extract_1, extract_2, eqlI, neqI, makeFunc_eq, decide_true, decide_false, if_true, if_false, Bool.false_eq_true, Bool.not_true, Bool.not_false, reduceIte, List.getElem?_toArray, List.getElem?_cons_zero, List.getElem?_cons_succ, Option.isSome_none, List.length_map]
  exact CloneU_ok hO.slR (by omega) hk

theorem ubuild (x : Int) : SemA PG (Instr.buildSlice T_sl_uint64 1 #[(0, .int .u64 x)]) = some (.cells #[.int .u64 x] T_uint64, fun r => pure (.slice (some ⟨r, 0, none⟩) 1 1)) := by kernel_rfl
set_option maxRecDepth 20000 in
theorem Set_ok {h : PH} {a : Nat} {l : List Known} {hs : List Int} {F : List Nat} (hC : ClientAt h a l hs F) (x : Known) {k : Value → PH → Prop}
    (hk : ∀ h' hs' F', ClientAt h' a (setK l x).2 hs' F' → Upd F h h' → (∀ b ∈ F', b ∈ F ∨ h b = none) → k (.int .i64 (setK l x).1) h') : CallsH PG id_client_Client_Set #[.pointer (some ⟨a, 0, none⟩), .int .u64 x.height, .string x.root] h k := by
  have hlen := hC.rank.len
  have hfew := hC.few
  apply client_Client_Set.call
  unfold client_Client_Set
  unfold setK at hk
  have hsame := hk
  simp only [T_string.len, popO_some, bindH_eq, condV_bool, condV_true, condV_false, yV_bool, gopV_tt, gopV_ff, gopV_tf, gopV_ft, pickV_t, pickV_f, pickV_bool, nilS_ptr, add_eq, sub_eq, mul_eq, lss_eq, leq_eq, gtr_eq, geq_eq, not_eq, minI_eq, maxI_eq, extract_0, extract_1, extract_2, eqlI, neqI, makeFunc_eq, decide_true, decide_false, if_true, if_false, Bool.false_eq_true, Bool.not_true, Bool.not_false, reduceIte, List.getElem?_toArray, List.getElem?_cons_zero, List.getElem?_cons_succ, Option.isSome_none, List.length_map]
  by_cases c1 : x.root.size = 32
  · have e1 : ((x.root.size : Int) != 32) = false := by simp [c1]
    rw [if_neg (by simpa using c1)] at hk
    obtain ⟨r, v, G, ha, hM, hO, hF, n1, n2, n3⟩ := hC.here
    have hl := look_found (ukeyed T_uint64.und) T_map_uint64_string.und T_string.info T_string.zero hM x.height true
    rw [getM_ent] at hl
    have hl' : SemE PG h (Instr.lookup T_map_uint64_string (.map (some r)) (.int .u64 x.height) true) = some (.tuple #[.string ((rootL l x.height).getD ⟨#[]⟩), .bool (rootL l x.height).isSome]) := by
      rw [show (Value.int .u64 x.height) = ukey x.height from rfl, hl]
      cases rootL l x.height <;> rfl
    simp only [e1, cellH, T_client_Client.f0, T_map_uint64_string.load, ha, hl', rootL_some, popO_some, bindH_eq, condV_bool, condV_true, condV_false, yV_bool, gopV_tt, gopV_ff, gopV_tf, gopV_ft, pickV_t, pickV_f, pickV_bool, nilS_ptr, add_eq, sub_eq, mul_eq, lss_eq, leq_eq, gtr_eq, geq_eq, not_eq, minI_eq, maxI_eq, extract_0, extract_1, extract_2, eqlI, neqI, makeFunc_eq, decide_true, decide_false, if_true, if_false, Bool.false_eq_true, Bool.not_true, Bool.not_false, reduceIte, List.getElem?_toArray, List.getElem?_cons_zero, List.getElem?_cons_succ, Option.isSome_none, List.length_map]
    by_cases c2 : x.height ∈ hts l
    · simp only [c2, popO_some, bindH_eq, condV_bool, condV_true, condV_false, yV_bool, gopV_tt, gopV_ff, gopV_tf, gopV_ft, pickV_t, pickV_f, pickV_bool, nilS_ptr, add_eq, sub_eq, mul_eq, lss_eq, leq_eq, gtr_eq, geq_eq, not_eq, minI_eq, maxI_eq, extract_0, extract_1, extract_2, eqlI, neqI, makeFunc_eq, decide_true, decide_false, if_true, if_false, Bool.false_eq_true, Bool.not_true, Bool.not_false, reduceIte, List.getElem?_toArray, List.getElem?_cons_zero, List.getElem?_cons_succ, Option.isSome_none, List.length_map]
      rw [if_pos c2] at hk
      exact hk _ _ _ hC Upd.refl (fun b hb => .inl hb)
    · rw [if_neg c2] at hk
      have hml := hM.len (t' := T_int) T_map_uint64_string.und
      rw [List.length_map] at hml
      simp only [c2, hml, popO_some, bindH_eq, condV_bool, condV_true, condV_false, yV_bool, gopV_tt, gopV_ff, gopV_tf, gopV_ft, pickV_t, pickV_f, pickV_bool, nilS_ptr, add_eq, sub_eq, mul_eq, lss_eq, leq_eq, gtr_eq, geq_eq, not_eq, minI_eq, maxI_eq, extract_0, extract_1, extract_2, eqlI, neqI, makeFunc_eq, decide_true, decide_false, if_true, if_false, Bool.false_eq_true, Bool.not_true, Bool.not_false, reduceIte, List.getElem?_toArray, List.getElem?_cons_zero, List.getElem?_cons_succ, Option.isSome_none, List.length_map]
      by_cases c3 : 4096 ≤ l.length
      · have e3 : ((4096 : Int) ≤ (l.length : Int)) = True := by apply eq_true; omega
        simp only [e3, popO_some, bindH_eq, condV_bool, condV_true, condV_false, yV_bool, gopV_tt, gopV_ff, gopV_tf, gopV_ft, pickV_t, pickV_f, pickV_bool, nilS_ptr, add_eq, sub_eq, mul_eq, lss_eq, leq_eq, gtr_eq, geq_eq, not_eq, minI_eq, maxI_eq, extract_0, extract_1, extract_2, eqlI, neqI, makeFunc_eq, decide_true, decide_false, if_true, if_false, Bool.false_eq_true, Bool.not_true, Bool.not_false, reduceIte, List.getElem?_toArray, List.getElem?_cons_zero, List.getElem?_cons_succ, Option.isSome_none, List.length_map]
        rw [if_pos c3] at hk
        exact hk _ _ _ hC Upd.refl (fun b hb => .inl hb)
      · have e3 : ((4096 : Int) ≤ (l.length : Int)) = False := by apply eq_false; omega
        rw [if_neg c3] at hk
        simp only [e3, popO_some, bindH_eq, condV_bool, condV_true, condV_false, yV_bool, gopV_tt, gopV_ff, gopV_tf, gopV_ft, pickV_t, pickV_f, pickV_bool, nilS_ptr, add_eq, sub_eq, mul_eq, lss_eq, leq_eq, gtr_eq, geq_eq, not_eq, minI_eq, maxI_eq, extract_0, extract_1, extract_2, eqlI, neqI, makeFunc_eq, decide_true, decide_false, if_true, if_false, Bool.false_eq_true, Bool.not_true, Bool.not_false, reduceIte, List.getElem?_toArray, List.getElem?_cons_zero, List.getElem?_cons_succ, Option.isSome_none, List.length_map]
        refine map_put (enc := ukey) (ukeyed T_uint64.und) T_map_uint64_string.und hM x.height (.string x.root) fun h1 hM1 u1 => ?_
        have hput : putM (l.map Known.ent) x.height (.string x.root) = (l ++ [x]).map Known.ent := by
          unfold putM
          rw [keys_ent, if_neg c2]
          simp [Known.ent]
        rw [hput] at hM1
        have ha1 := u1.get ha (by simp [n1])
        have hO1 := hO.upd u1 (fun b hb hf => by simp at hf; subst hf; exact n3 hb)
        refine place_at ha1 hO1 hC.rank.up (by omega) x.height fun m h2 hm p1 p2 u2 => ?_
        have ha2 := u2.get ha1
        have hO2 := hO1.ext u2
        have hM2 := hM1.ext u2
        obtain ⟨va, w1, w2⟩ := hO2.slR.full T_sl_uint64.und T_uint64.info (m := m) (k2 := .i64) (k3 := .i64) (by simpa using hm)
        obtain ⟨y, y1, y2, -⟩ := hO2.slR.cut T_sl_uint64.und T_uint64.info T_uint64.size (hi := none) (.inr ⟨.i64, rfl⟩) (.inl ⟨rfl, rfl⟩) (show m ≤ _ by simpa using hm) (Nat.le_refl _)
        rw [List.take_of_length_le (Nat.le_refl _)] at y2
        simp only [cellH, T_client_Client.f1, Nat.zero_add, T_sl_uint64.load, ha2, w1, y1, ubuild, popO_some, bindH_eq, condV_bool, condV_true, condV_false, yV_bool, gopV_tt, gopV_ff, gopV_tf, gopV_ft, pickV_t, pickV_f, pickV_bool, nilS_ptr, add_eq, sub_eq, mul_eq, lss_eq, leq_eq, gtr_eq, geq_eq, not_eq, minI_eq, maxI_eq, extract_0, extract_1, extract_2, eqlI, neqI, makeFunc_eq, decide_true, decide_false, if_true, if_false, Bool.false_eq_true, Bool.not_true, Bool.not_false, reduceIte, List.getElem?_toArray, List.getElem?_cons_zero, List.getElem?_cons_succ, Option.isSome_none, List.length_map]
        intro r3 hr3
        refine popO_pure ?_
        have u3 : Ext h2 (h2.set r3 (.cells #[.int .u64 x.height] T_uint64)) := Upd.new hr3
        have hx3 : SlR (h2.set r3 (.cells #[.int .u64 x.height] T_uint64)) 1 (.slice (some ⟨r3, 0, none⟩) 1 1) ([x.height].map ucell) := (OwnR.lit (ucell.rows _) set_same (by simp) (by decide) (by simp [ucell])).slR
        generalize h2.set r3 (.cells #[.int .u64 x.height] T_uint64) = h3 at *
        refine append_grow T_sl_uint64.und T_sl_uint64.und T_uint64.info T_uint64.size T_uint64.bytes T_uint64.zero rfl (by decide) (w2.ext u3) rfl hx3 (by simp; omega) (by simp) fun v4 h4 F4 hO4 u4 k4 => ?_
        have ha4 := (u3.trans u4).get ha2
        refine ⟨by simp [ha4], ?_⟩
        rw [← List.map_take, ← List.map_append] at hO4
        have y4 := (y2.ext u3).ext u4
        rw [← List.map_drop] at y4
        refine append_own T_sl_uint64.und T_sl_uint64.und T_uint64.info T_uint64.size T_uint64.bytes T_uint64.zero rfl (by decide) hO4 y4 (ucell.isCell _) (by simp; omega) ?_
        intro v5 h5 F5 hO5 u5 k5 _
        rw [← List.map_append] at hO5
        have na4 : a ∉ F4 := fun hm' => by have := k4 a hm'; rw [u3.get ha2] at this; cases this
        have nr4 : r ∉ F4 := fun hm' => (hM2.ext u3).known (k4 r hm')
        have ha5 := u5.get ha4 na4
        have hM5 := ((hM2.ext u3).ext u4).upd u5 nr4
        have na5 : a ∉ F5 := fun hm' => by
          rcases k5 a hm' with h | h
          · exact na4 h
          · rw [ha4] at h; cases h
        have nr5 : r ∉ F5 := fun hm' => by
          rcases k5 r hm' with h | h
          · exact nr4 h
          · exact (((hM2.ext u3).ext u4)).known h
        refine store_cell T_sl_uint64.und rfl ha5 (by simp) ?_ T_sl_uint64.info T_sl_uint64.size ?_
        · obtain ⟨_, _, rfl, -⟩ := hO5.slR.here; rfl
        have u6 : Upd [a] h5 (h5.set a (.cells ((#[.map (some r), v] : Array Value).setIfInBounds 1 v5) T_client_Client (0, 0))) := Upd.set (by simp)
        have ua : Upd F h h4 := by
          have : Upd [r] h h4 := (u1.trans u2.upd).trans (u3.trans u4).upd
          exact this.mono fun b hb => .inl (by simp at hb; subst hb; rw [hF]; simp)
        have g4 : ∀ b ∈ F4, h b = none := fun b hb => by
          have hb3 : h2 b = none := u3.none (k4 b hb)
          have hb1 : h1 b = none := u2.none hb3
          cases e : h b with
          | none => rfl
          | some o =>
            by_cases hbr : b = r
            · subst hbr; exact absurd hb1 hM1.known
            · have := u1.get e (by simp [hbr]); rw [hb1] at this; cases this
        have g5 : ∀ b ∈ F5, h b = none := fun b hb => by
          rcases k5 b hb with h' | h'
          · exact g4 b h'
          · cases e : h b with
            | none => rfl
            | some o =>
              by_cases hbF : b ∈ F
              · rw [hF] at hbF
                simp only [List.mem_cons] at hbF
                rcases hbF with rfl | rfl | hbG
                · rw [ha4] at h'; cases h'
                · exact absurd h' ((hM2.ext u3).ext u4).known
                · exact absurd h' (((hO2.ext u3).ext u4).known b hbG)
              · have := ua.get e hbF; rw [h'] at this; cases this
        refine hk _ (hs.take m ++ [x.height] ++ hs.drop m) (a :: r :: F5) ⟨⟨r, v5, F5, set_same, hM5.upd u6 (by simp; exact n1.symm), hO5.upd u6 (fun b hb hf => by simp at hf; subst hf; exact na5 hb), rfl, n1, na5, nr5⟩, hC.rank.cut c2 p1 p2, by simp; omega⟩ ?_ ?_
        · exact (ua.then u5 (fun b hb => .inr (g4 b hb))).then u6 (fun b hb => .inl (by simp at hb; subst hb; rw [hF]; simp))
        · intro b hb
          simp only [List.mem_cons] at hb
          rcases hb with rfl | rfl | hb
          · exact .inl (by rw [hF]; simp)
          · exact .inl (by rw [hF]; simp)
          · exact .inr (g5 b hb)
  · have e1 : ((x.root.size : Int) != 32) = true := by simp; omega
    rw [if_pos (by simpa using c1)] at hk
    simp only [e1, popO_some, bindH_eq, condV_bool, condV_true, condV_false, yV_bool, gopV_tt, gopV_ff, gopV_tf, gopV_ft, pickV_t, pickV_f, pickV_bool, nilS_ptr, add_eq, sub_eq, mul_eq, lss_eq, leq_eq, gtr_eq, geq_eq, not_eq, minI_eq, maxI_eq, extract_0, extract_1, extract_2, eqlI, neqI, makeFunc_eq, decide_true, decide_false, if_true, if_false, Bool.false_eq_true, Bool.not_true, Bool.not_false, reduceIte, List.getElem?_toArray, List.getElem?_cons_zero, List.getElem?_cons_succ, Option.isSome_none, List.length_map]
    exact hk _ _ _ hC Upd.refl (fun b hb => .inl hb)
end Go.Proofs.Ytbloalappckjhaa
