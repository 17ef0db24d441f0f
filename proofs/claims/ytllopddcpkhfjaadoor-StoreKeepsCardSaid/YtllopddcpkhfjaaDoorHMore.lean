/- Boxes, clearing, copying, literals, nil. -/
import Derived.Test.YtllopddcpkhfjaaDoorHAppend
set_option linter.unusedSimpArgs false
set_option linter.unusedVariables false
namespace Go.Proofs.YtllopddcpkhfjaaDoor
open Go
section
variable {P : Program} {h : PH} {t t' t2 e : TypeId}

/-- A whole variable is written. -/
theorem store_box {b : Nat} {c : Array Value} {cs : Array Value} {k : Value → PH → Prop} (hb : h b = some (.cells c e (0, 0))) {i : TypeInfo} (hi : P.info? t = some i) (hn : i.size = cs.size) (h0 : 0 < cs.size) (ho : c.size = cs.size) (hv : ∀ v ∈ cs.toList, isCell v = true)
    (hk : k undef (h.set b (.cells cs e (0, 0)))) : SemH P (storeS t (.pointer (some ⟨b, 0, none⟩)) (.agg cs)) h k := by
  refine store_agg hb hi hn h0 (by omega) hv ?_
  rw [writeA_all (by simp [ho])]
  simpa using hk
theorem load_box {d : TypeDesc} {b n : Nat} {c : Array Value} {fr : Nat × Nat} {i : TypeInfo} (hu : P.underlying t = some d) (hd : flatD d = false) (hi : P.info? t = some i) (hn : i.size = n)
    (hb : h b = some (.cells c e fr)) (hc : c.size = n) : SemE P h (Instr.loadAt t (.pointer (some ⟨b, 0, none⟩))) = some (.agg c) := by
  rw [loadAt_agg hu hd hi hn hb (by omega)]
  congr 2
  apply Array.ext'
  simp [← hc]

theorem eqlNil {x y : Operand} {a : Option Addr} {n c : Nat} (hu : P.underlying t = some (.slice e)) : SemE P h (binS .eql t x y (.slice a n c) (.slice none 0 0)) = some (.bool a.isNone) := by
  show SemE P h (binOp .eql t (.slice a n c) (.slice none 0 0)) = _
  show SemE P h (Op.equalIn Op.maxDepth t (.slice a n c) (.slice none 0 0) >>= fun b => (pure (Value.bool b) : Sem Value)) = _
  rw [show Op.maxDepth = 9999 + 1 from rfl]
  rw [semE_bind]
  have : SemE P h (Op.equalIn (9999 + 1) t (.slice a n c) (.slice none 0 0)) = some a.isNone := by
    rw [Op.equalIn]
    rw [semE_und hu]
    cases a <;> rfl
  rw [this]; rfl
theorem neqNil {x y : Operand} {a : Option Addr} {n c : Nat} (hu : P.underlying t = some (.slice e)) : SemE P h (binS .neq t x y (.slice a n c) (.slice none 0 0)) = some (.bool (!a.isNone)) := by
  show SemE P h (binOp .neq t (.slice a n c) (.slice none 0 0)) = _
  show SemE P h (Op.equalIn Op.maxDepth t (.slice a n c) (.slice none 0 0) >>= fun b => (pure (Value.bool (!b)) : Sem Value)) = _
  rw [show Op.maxDepth = 9999 + 1 from rfl]
  rw [semE_bind]
  have : SemE P h (Op.equalIn (9999 + 1) t (.slice a n c) (.slice none 0 0)) = some a.isNone := by
    rw [Op.equalIn]
    rw [semE_und hu]
    cases a <;> rfl
  rw [this]; rfl
theorem eqlPtrNil {x y : Operand} {a : Option Addr} (hu : P.underlying t = some (.pointer e)) : SemE P h (binS .eql t x y (.pointer a) (.pointer none)) = some (.bool a.isNone) := by
  show SemE P h (binOp .eql t (.pointer a) (.pointer none)) = _
  have : SemE P h (Op.equalIn (9999 + 1) t (.pointer a) (.pointer none)) = some a.isNone := by
    rw [Op.equalIn]
    rw [semE_und hu]
    cases a <;> rfl
  show SemE P h (Op.equalIn Op.maxDepth t (.pointer a) (.pointer none) >>= fun b => (pure (Value.bool b) : Sem Value)) = _
  rw [show Op.maxDepth = 9999 + 1 from rfl, semE_bind, this]; rfl
theorem neqPtrNil {x y : Operand} {a : Option Addr} (hu : P.underlying t = some (.pointer e)) : SemE P h (binS .neq t x y (.pointer a) (.pointer none)) = some (.bool (!a.isNone)) := by
  show SemE P h (binOp .neq t (.pointer a) (.pointer none)) = _
  have : SemE P h (Op.equalIn (9999 + 1) t (.pointer a) (.pointer none)) = some a.isNone := by
    rw [Op.equalIn]
    rw [semE_und hu]
    cases a <;> rfl
  show SemE P h (Op.equalIn Op.maxDepth t (.pointer a) (.pointer none) >>= fun b => (pure (Value.bool (!b)) : Sem Value)) = _
  rw [show Op.maxDepth = 9999 + 1 from rfl, semE_bind, this]; rfl

/-- One's own, at a block. -/
theorem OwnR.mk' {b cap : Nat} {size : Nat} {rows : List (List Value)} {cs : Array Value} (hr : Rows size rows) (hb : h b = some (.cells cs e (0, 0))) (hle : rows.length ≤ cap) (hm : cap ≤ maxL) (hs : cs.size = cap * size) (ht : cs.toList.take (rows.length * size) = rows.flatten) :
    OwnR h e size (.slice (some ⟨b, 0, none⟩) rows.length cap) rows [b] := ⟨hr, .inr ⟨b, cap, cs, rfl, rfl, hb, hle, hm, hs, ht⟩⟩
theorem OwnR.lit {r n : Nat} {size : Nat} {rows : List (List Value)} {cs : Array Value} (hr : Rows size rows) (hb : h r = some (.cells cs e (0, 0))) (hn : n = rows.length) (hm : n ≤ maxL) (hcs : cs.toList = rows.flatten) : OwnR h e size (.slice (some ⟨r, 0, none⟩) n n) rows [r] := by
  subst hn
  have hsz : cs.size = rows.length * size := by rw [← hr.flat, ← hcs]; simp
  refine OwnR.mk' hr hb (Nat.le_refl _) hm hsz ?_
  rw [← hsz, hcs, List.take_of_length_le]
  rw [← hcs]; simp

/-- Into the midst of one's own: rows from l on are written. -/
theorem OwnR.write {size l : Nat} {v : Value} {rows ys : List (List Value)} {F : List Nat} (H : OwnR h e size v rows F) (hy : Rows size ys) (hle : l + ys.length ≤ rows.length) {b n cap : Nat} {c : Array Value} (hv : v = .slice (some ⟨b, 0, none⟩) n cap) (hb : h b = some (.cells c e (0, 0))) :
    OwnR (h.set b (.cells (writeA c (l * size) ys.flatten) e (0, 0))) e size v (rows.take l ++ ys ++ rows.drop (l + ys.length)) F := by
  have hlen : (rows.take l ++ ys ++ rows.drop (l + ys.length)).length = rows.length := by simp; omega
  refine ⟨((H.ok.take l).append hy).append (H.ok.drop _), ?_⟩
  rcases H.here with ⟨rfl, _, _⟩ | ⟨b', cap', cs, rfl, rfl, hb', h1, h2, h3, h4⟩
  · cases hv
  · simp only [Value.slice.injEq, Option.some.injEq, Addr.mk.injEq, and_true] at hv
    obtain ⟨rfl, rfl, rfl⟩ := hv
    rw [hb] at hb'
    cases hb'
    refine .inr ⟨b', cap', _, by rw [hlen], rfl, set_same, by rw [hlen]; exact h1, h2, by rw [writeA_size]; exact h3, ?_⟩
    have m1 : (l + ys.length) * size ≤ rows.length * size := Nat.mul_le_mul_right _ hle
    have m2 : rows.length * size ≤ cap' * size := Nat.mul_le_mul_right _ h1
    rw [Nat.add_mul] at m1
    rw [hlen, writeA_list _ _ _ (by rw [hy.flat, h3]; omega)]
    rw [List.flatten_append, List.flatten_append, H.ok.flat_take, H.ok.flat_drop, ← h4, hy.flat]
    rw [List.take_take, Nat.min_eq_left (by omega)]
    rw [List.take_append]
    have e1 : (List.take (l * size) c.toList ++ ys.flatten).length = l * size + ys.length * size := by
      rw [List.length_append, hy.flat, List.length_take, Nat.min_eq_left (by simp [h3]; omega)]
    rw [e1, List.take_of_length_le (by omega), List.drop_take, Nat.add_mul]

/-- An element of one's own is written. -/
theorem OwnR.storeAgg {size j : Nat} {v : Value} {rows : List (List Value)} {F : List Nat} (H : OwnR h e size v rows F) {i : TypeInfo} (hu : P.underlying t = some (.slice e)) (hi : P.info? e = some i) (hn : i.size = size) (h0 : 0 < size) {k : IntKind} (hj : j < rows.length)
    {row : List Value} (hrow : row.length = size) (hc : ∀ u ∈ row, isCell u = true) :
    ∃ a, SemP P (Instr.indexAt t v (.int k j)) = some (.pointer (some a)) ∧ ∀ K : Value → PH → Prop, (∀ h', OwnR h' e size v (rows.take j ++ [row] ++ rows.drop (j + 1)) F → Upd F h h' → K undef h') → SemH P (storeS e (.pointer (some a)) (.agg row.toArray)) h K := by
  rcases H.here with ⟨rfl, rfl, _⟩ | ⟨b, cap, cs, rfl, rfl, hb, h1, h2, h3, h4⟩
  · simp at hj
  · refine ⟨_, indexAt_slice hu hi hn (by omega) (by omega), fun K hK => ?_⟩
    have m1 : (j + 1) * size ≤ rows.length * size := Nat.mul_le_mul_right _ hj
    have m2 : rows.length * size ≤ cap * size := Nat.mul_le_mul_right _ h1
    rw [Nat.add_mul, Nat.one_mul] at m1
    have hw := H.write (l := j) (ys := [row]) (by intro r hr; simp at hr; subst hr; exact hrow) (by simp only [List.length_cons, List.length_nil]; omega) rfl hb
    have e1 : (0 + (j : Int).toNat * size) = j * size := by simp
    rw [e1]
    refine store_agg hb hi (by simp [hn, hrow]) (by simp [hrow, h0]) (by simp [hrow, h3]; omega) (by simpa using hc) ?_
    have e2 : ([row] : List (List Value)).flatten = row := by simp
    rw [e2] at hw
    exact hK _ hw (Upd.set (by simp))
theorem OwnR.storeCell {j : Nat} {v : Value} {rows : List (List Value)} {F : List Nat} (H : OwnR h e 1 v rows F) {i : TypeInfo} {d : TypeDesc} (hu : P.underlying t = some (.slice e)) (hi : P.info? e = some i) (hn : i.size = 1) (he : P.underlying e = some d) (hd : flatD d = true) {k : IntKind} (hj : j < rows.length)
    {x : Value} (hc : isCell x = true) :
    ∃ a, SemP P (Instr.indexAt t v (.int k j)) = some (.pointer (some a)) ∧ ∀ K : Value → PH → Prop, (∀ h', OwnR h' e 1 v (rows.take j ++ [[x]] ++ rows.drop (j + 1)) F → Upd F h h' → K undef h') → SemH P (storeS e (.pointer (some a)) x) h K := by
  rcases H.here with ⟨rfl, rfl, _⟩ | ⟨b, cap, cs, rfl, rfl, hb, h1, h2, h3, h4⟩
  · simp at hj
  · refine ⟨_, indexAt_slice hu hi hn (by omega) (by omega), fun K hK => ?_⟩
    have hw := H.write (l := j) (ys := [[x]]) (by intro r hr; simp at hr; subst hr; rfl) (by simp only [List.length_cons, List.length_nil]; omega) rfl hb
    have e1 : (0 + (j : Int).toNat * 1) = j := by simp
    rw [e1]
    refine store_cell he hd hb (by rw [h3]; omega) hc hi hn ?_
    have e2 : ([[x]] : List (List Value)).flatten = [x] := by simp
    rw [e2, Nat.mul_one] at hw
    exact hK _ hw (Upd.set (by simp))

theorem semH_unit {α : Type} {u : Unit} {f : Unit → Sem α} {Q : α → PH → Prop} : SemH P (pure u >>= f) h Q = SemH P (f u) h Q := rfl
/-- copy into a cut of one's own. -/
theorem copy_own {size l m n : Nat} {v d x : Value} {rows ys : List (List Value)} {F : List Nat} {i : TypeInfo} {k : Value → PH → Prop}
    (hu : P.underlying t = some (.slice e)) (hi : P.info? e = some i) (hn : i.size = size)
    (H : OwnR h e size v rows F) (hd : ∃ k k', SemP P (Instr.sliceAt t v (some (.int k l)) (some (.int k' m)) none) = some d) (hlm : l ≤ m) (hm : m ≤ rows.length) (S : SlR h size x ys) (hcell : ∀ r ∈ ys, ∀ u ∈ r, isCell u = true) (hnn : n = min ys.length (m - l))
    (hk : ∀ h', OwnR h' e size v (rows.take l ++ ys.take n ++ rows.drop (l + n)) F → Upd F h h' → k (.int .i64 n) h') : SemH P (Builtin.copy_ #[t, t2] t' #[d, x]) h k := by
  obtain ⟨kk, kk', hd⟩ := hd
  obtain ⟨xa, xc, hx, hx1, hx2, hx3, hx4⟩ := S.here
  obtain ⟨va, vc, hv, hv1, hv2, hv3, hv4⟩ := H.slR.here
  rw [hv, sliceAt_eq hu hi (.inr ⟨kk, rfl⟩) (.inr ⟨kk', rfl⟩) hlm (by omega)] at hd
  simp only [Option.some.injEq] at hd
  subst hd
  have hS : SlR h size (.slice xa n xc) (ys.take n) := by
    have hl : (ys.take n).length = n := by simp; omega
    refine ⟨S.ok.take n, xa, xc, by rw [hl], by omega, hx2, fun hne => ?_, hx4⟩
    have hne' : ys ≠ [] := by rintro rfl; simp at hne
    obtain ⟨b, o, cs, e', fr, ha, hb, hle, hex⟩ := hx3 hne'
    have hmul : n * size ≤ ys.length * size := Nat.mul_le_mul_right _ (by omega)
    refine ⟨b, o, cs, e', fr, ha, hb, by rw [hl]; omega, ?_⟩
    rw [hl, S.ok.flat_take, ← hex]
    simp only [Array.toList_extract, List.extract_eq_take_drop, Nat.add_sub_cancel_left]
    rw [List.take_take, Nat.min_eq_left hmul]
  have hfirst := hS.first (P := P)
  have hlen : (ys.take n).length = n := by simp; omega
  rw [hlen] at hfirst
  subst hx
  have hmin : Nat.min ys.length (m - l) = n := hnn.symm
  simp only [Builtin.copy_, List.getElem?_toArray, List.getElem?_cons_zero, List.getElem?_cons_succ, semH_und hu, sizeOf_bind, semH_info hi, pure_bind, Builtin.lenOf, hn, hmin]
  refine semH_of_semE (s := Builtin.firstCells size n (.slice xa ys.length xc)) (a := (ys.take n).flatten.toArray) ?_ ?_
  · cases xa <;> exact hfirst
  · by_cases hn0 : n = 0
    · have hz : (ys.take n) = [] := by rw [hn0]; rfl
      have hsame : rows.take l ++ ys.take n ++ rows.drop (l + n) = rows := by rw [hz, hn0]; simp
      have fin := hk h (by rw [hsame]; exact H) Upd.refl
      rw [hz]
      split
      · exact fin
      · exact fin
    · have hne : rows ≠ [] := by rintro rfl; simp at hm; omega
      obtain ⟨b, o, cs, e', fr, rfl, hb, hle, hex⟩ := hv3 hne
      rcases H.here with ⟨hv', _, _⟩ | ⟨b', cap', cs', hv', hF, hb', h1, h2, h3, h4⟩
      · rw [hv] at hv'; cases hv'
      · rw [hv] at hv'
        simp only [Value.slice.injEq, Option.some.injEq, Addr.mk.injEq, and_true, true_and] at hv'
        obtain ⟨⟨rfl, rfl⟩, rfl⟩ := hv'
        rw [if_neg (by omega), Option.map_some, plain_add]
        have hcells : ∀ u ∈ (ys.take n).flatten, isCell u = true := fun u hu => by
          obtain ⟨r, hr, hur⟩ := List.mem_flatten.1 hu; exact hcell r (List.mem_of_mem_take hr) u hur
        have m1 : (l + n) * size ≤ rows.length * size := Nat.mul_le_mul_right _ (by omega)
        have m2 : rows.length * size ≤ vc * size := Nat.mul_le_mul_right _ h1
        rw [Nat.add_mul] at m1
        have hflen : (ys.take n).flatten.length = n * size := by rw [hS.ok.flat, hlen]
        refine SemH.bind (P := P) (s := storeCells _ _) ?_
        refine semH_storeCells _ 0 h cs' hb' (by rw [hflen, h3]; omega) hcells ?_
        show k _ _
        have hw := H.write (l := l) hS.ok (by rw [hlen]; omega) hv hb'
        rw [hlen] at hw
        split
        · rename_i hys
          have hys' : (ys.take n).flatten = [] := hys
          rw [hys'] at hw
          have hid : h.set b (.cells (writeA cs' (l * size) []) e (0, 0)) = h := by
            funext x; unfold PH.set writeA
            split
            · rename_i e1; subst e1; exact hb'.symm
            · rfl
          rw [hid] at hw
          exact hk h hw Upd.refl
        · simp only [Nat.zero_add, Nat.add_zero, hn]
          exact hk _ hw (Upd.set (by rw [hF]; simp))
/-- Behind one's own rows is cleared. -/
theorem clear_tail {size m : Nat} {v d : Value} {rows : List (List Value)} {F : List Nat} {i : TypeInfo} {z : Value} {k : Value → PH → Prop}
    (hu : P.underlying t = some (.slice e)) (hi : P.info? e = some i) (hn : i.size = size) (hz : i.zero = some z) (hzs : z.cells.size = size) (hzc : ∀ u ∈ z.cells.toList, isCell u = true)
    (H : OwnR h e size v rows F) (hd : ∃ k k', SemP P (Instr.sliceAt t v (some (.int k rows.length)) (some (.int k' m)) none) = some d) (hle : rows.length ≤ m) (hcap : ∀ a n c, v = .slice a n c → m ≤ c)
    (hk : ∀ h', OwnR h' e size v rows F → Upd F h h' → k (.tuple #[]) h') : SemH P (Builtin.clear_ #[t] t' #[d]) h k := by
  obtain ⟨kk, kk', hd⟩ := hd
  obtain ⟨va, vc, hv, hv1, hv2, hv3, hv4⟩ := H.slR.here
  have hmc := hcap va _ vc hv
  rw [hv, sliceAt_eq hu hi (.inr ⟨kk, rfl⟩) (.inr ⟨kk', rfl⟩) hle hmc] at hd
  simp only [Option.some.injEq] at hd
  subst hd
  by_cases h0 : m - rows.length = 0
  · rw [h0]
    simp only [Builtin.clear_, List.getElem?_toArray, List.getElem?_cons_zero, semH_und hu]
    have fin := hk h H Upd.refl
    generalize (if vc = rows.length then va else Option.map (fun x => x.add (rows.length * i.size)) va) = q
    cases q <;> exact fin
  · have hne : vc ≠ rows.length := by omega
    rcases H.here with ⟨hv', hr, _⟩ | ⟨b', cap', cs', hv', hF, hb', h1, h2, h3, h4⟩
    · rw [hv] at hv'
      simp only [Value.slice.injEq] at hv'
      omega
    · rw [hv] at hv'
      simp only [Value.slice.injEq, true_and] at hv'
      obtain ⟨rfl, rfl⟩ := hv'
      rw [if_neg hne, Option.map_some, plain_add]
      obtain ⟨j, hj⟩ : ∃ j, m - rows.length = j + 1 := ⟨m - rows.length - 1, by omega⟩
      have hzv : zeroValue e = (typeInfo e >>= fun i => match i.zero with | some v => pure v | none => unsupported (.resourceLimit "a value of more than 2^22 cells")) := rfl
      simp only [Builtin.clear_, List.getElem?_toArray, List.getElem?_cons_zero, semH_und hu, hj]
      rw [hzv, bind_assoc, semH_info hi, hz, pure_bind]
      have m1 : (rows.length + (j + 1)) * size ≤ vc * size := Nat.mul_le_mul_right _ (by omega)
      rw [Nat.add_mul] at m1
      have hzl : (Builtin.zeroCells z.cells (j + 1)).toList.length = (j + 1) * size := by simp [Builtin.zeroCells, hzs]
      refine SemH.bind (P := P) (s := storeCells _ _) ?_
      refine semH_storeCells _ 0 h cs' hb' (by rw [hzl, h3, hn]; omega) (fun u hu' => ?_) ?_
      · simp only [Builtin.zeroCells, Array.toList_map, List.mem_map] at hu'
        obtain ⟨x, hx, rfl⟩ := hu'
        rw [hzs] at hx ⊢
        have hx' : x < (j + 1) * size := by simpa using hx
        have hs0 : 0 < size := Nat.pos_of_ne_zero (fun h => by rw [h] at hx'; simp at hx')
        have hlt : x % size < z.cells.size := by rw [hzs]; exact Nat.mod_lt _ hs0
        rw [getElem!_pos z.cells _ hlt]
        exact hzc _ (by simp)
      · show k _ _
        split
        · exact hk h H Upd.refl
        · refine hk _ ?_ (Upd.set (by rw [hF]; simp))
          refine ⟨H.ok, .inr ⟨b', vc, _, by rw [hv], hF, set_same, h1, h2, by rw [writeA_size]; exact h3, ?_⟩⟩
          rw [writeA_list _ _ _ (by rw [hzl, h3, hn]; omega), Nat.zero_add, Nat.add_zero, hn]
          rw [List.append_assoc, List.take_append_of_le_length (by
            rw [List.length_take, Nat.min_eq_left (by simp only [Array.length_toList, h3]; exact Nat.mul_le_mul_right _ h1)]; exact Nat.le_refl _), List.take_take, Nat.min_self]
          exact h4
end
end Go.Proofs.YtllopddcpkhfjaaDoor
