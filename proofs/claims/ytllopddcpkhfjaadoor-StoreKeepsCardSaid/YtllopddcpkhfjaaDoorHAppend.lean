/- Cutting, storing, appending. -/
import Derived.Test.YtllopddcpkhfjaaDoorHSlice
set_option linter.unusedSimpArgs false
set_option linter.unusedVariables false
namespace Go.Proofs.YtllopddcpkhfjaaDoor
open Go

def writeA : Array Value → Nat → List Value → Array Value
  | c, _, [] => c
  | c, o, v :: vs => writeA (c.setIfInBounds o v) (o + 1) vs
theorem writeA_size : ∀ (vs : List Value) (c : Array Value) (o : Nat), (writeA c o vs).size = c.size
  | [], c, o => rfl
  | v :: vs, c, o => by rw [writeA, writeA_size vs]; simp
theorem writeA_list : ∀ (vs : List Value) (c : Array Value) (o : Nat), o + vs.length ≤ c.size → (writeA c o vs).toList = c.toList.take o ++ vs ++ c.toList.drop (o + vs.length)
  | [], c, o, _ => by simp [writeA]
  | v :: vs, c, o, h => by
    simp only [List.length_cons] at h
    rw [writeA, writeA_list vs _ _ (by simp; omega)]
    have hlt : o < c.toList.length := by simp; omega
    have hlt' : o < c.size := by omega
    simp only [Array.toList_setIfInBounds, List.length_cons]
    rw [List.set_eq_take_append_cons_drop, if_pos hlt]
    have h1 : (c.toList.take o ++ v :: c.toList.drop (o + 1)).take (o + 1) = c.toList.take o ++ [v] := by
      rw [List.take_append, List.length_take, Nat.min_eq_left (by omega), Nat.add_sub_cancel_left, List.take_of_length_le (by simp; omega)]
      simp
    rw [h1]
    have : (c.toList.take o ++ v :: c.toList.drop (o + 1)).drop (o + 1 + vs.length) = c.toList.drop (o + (vs.length + 1)) := by
      rw [List.drop_append, List.length_take, Nat.min_eq_left (by omega), List.drop_of_length_le (by simp; omega), List.nil_append,
        show o + 1 + vs.length - o = vs.length + 1 from by omega, List.drop_succ_cons, List.drop_drop]
      congr 1; omega
    rw [this]
    simp

section
variable {P : Program} {h : PH} {t t' t2 e : TypeId}
theorem semH_storeCells {b o : Nat} {e : TypeId} {Q : Unit → PH → Prop} : ∀ (vs : List Value) (i : Nat) (h : PH) (c : Array Value), h b = some (.cells c e (0, 0)) → o + i + vs.length ≤ c.size → (∀ v ∈ vs, isCell v = true) →
    Q () (if vs = [] then h else h.set b (.cells (writeA c (o + i) vs) e (0, 0))) → SemH P (storeCells ⟨b, o, none⟩ vs i) h Q
  | [], i, h, c, _, _, _, hq => by
    show Q () h
    simpa using hq
  | v :: vs, i, h, c, hb, hle, hv, hq => by
    simp only [List.length_cons] at hle
    have hlt : o + i < c.size := by omega
    have ha : (⟨b, o, none⟩ : Addr).add i = ⟨b, o + i, none⟩ := plain_add ..
    show isCell v = true ∧ frozenH h ((⟨b, o, none⟩ : Addr).add i) = false ∧ (∃ u, cellH h ((⟨b, o, none⟩ : Addr).add i) = some u) ∧ SemH P (storeCells ⟨b, o, none⟩ vs (i + 1)) (setCellH h ((⟨b, o, none⟩ : Addr).add i) v) Q
    rw [ha]
    refine ⟨hv v (by simp), by simp [frozenH, hb], ⟨c[o + i], by simp [cellH, hb, hlt]⟩, ?_⟩
    have hset : setCellH h ⟨b, o + i, none⟩ v = h.set b (.cells (c.setIfInBounds (o + i) v) e (0, 0)) := by
      funext x
      unfold setCellH PH.set
      by_cases hx : x = b
      · subst hx; simp [hb]
      · simp [hx]
    rw [hset]
    refine semH_storeCells vs (i + 1) _ _ set_same (by simp; omega) (fun u hu => hv u (by simp [hu])) ?_
    have h2 : ∀ o1 o2 : Obj, (h.set b o1).set b o2 = h.set b o2 := fun o1 o2 => by funext x; unfold PH.set; split <;> rfl
    simp only [List.cons_ne_nil, if_false] at hq
    split
    · rename_i hvs; subst hvs; simpa [writeA] using hq
    · rw [h2]; simpa [writeA, Nat.add_assoc] using hq

theorem set_set_same {h : PH} {b : Nat} {o1 o2 : Obj} : (h.set b o1).set b o2 = h.set b o2 := by funext x; unfold PH.set; split <;> rfl

theorem store_cell {d : TypeDesc} {b o : Nat} {c : Array Value} {v : Value} {k : Value → PH → Prop} (hu : P.underlying t = some d) (hd : flatD d = true) (hb : h b = some (.cells c e (0, 0))) (ho : o < c.size) (hv : isCell v = true) {i : TypeInfo} (hi : P.info? t = some i) (hn : i.size = 1)
    (hk : k undef (h.set b (.cells (c.setIfInBounds o v) e (0, 0)))) : SemH P (storeS t (.pointer (some ⟨b, o, none⟩)) v) h k := by
  have hc : v.cells = #[v] := by cases v <;> first | rfl | cases hv
  show SemH P (storeVar t ⟨b, o, none⟩ v >>= fun _ => pure undef) h k
  unfold storeVar
  rw [sizeOf_bind, bind_assoc, semH_info hi, hn, hc]
  simp only [List.size_toArray, List.length_cons, List.length_nil, Nat.zero_add, ne_eq, not_true_eq_false, if_false]
  refine SemH.bind (P := P) (s := storeCells ⟨b, o, none⟩ [v]) ?_
  refine semH_storeCells [v] 0 h c hb (by simp; omega) (by simp [hv]) ?_
  show k undef (if [v] = [] then h else _)
  simpa [writeA] using hk
theorem store_agg {b o : Nat} {c : Array Value} {cs : Array Value} {k : Value → PH → Prop} (hb : h b = some (.cells c e (0, 0))) {i : TypeInfo} (hi : P.info? t = some i) (hn : i.size = cs.size) (h0 : 0 < cs.size) (ho : o + cs.size ≤ c.size) (hv : ∀ v ∈ cs.toList, isCell v = true)
    (hk : k undef (h.set b (.cells (writeA c o cs.toList) e (0, 0)))) : SemH P (storeS t (.pointer (some ⟨b, o, none⟩)) (.agg cs)) h k := by
  show SemH P (storeVar t ⟨b, o, none⟩ (.agg cs) >>= fun _ => pure undef) h k
  unfold storeVar
  rw [sizeOf_bind, bind_assoc, semH_info hi, hn]
  simp only [Value.cells, ne_eq, not_true_eq_false, if_false]
  refine SemH.bind (P := P) (s := storeCells ⟨b, o, none⟩ cs.toList) ?_
  refine semH_storeCells cs.toList 0 h c hb (by simpa using ho) hv ?_
  have : cs.toList ≠ [] := by intro h; simp at h; subst h; simp at h0
  show k undef (if cs.toList = [] then h else _)
  simpa [this] using hk
theorem writeA_all {c : Array Value} {vs : List Value} (h : vs.length = c.size) : writeA c 0 vs = vs.toArray := by
  apply Array.ext'
  rw [writeA_list vs c 0 (by omega)]
  simp [h]

/-- A cut. -/
theorem sliceAt_eq {a : Option Addr} {len cap l hh : Nat} {lo hi : Option Value} {i : TypeInfo} (hu : P.underlying t = some (.slice e)) (hi' : P.info? e = some i)
    (hlo : lo = none ∧ l = 0 ∨ ∃ k, lo = some (.int k l)) (hhi : hi = none ∧ hh = len ∨ ∃ k, hi = some (.int k hh)) (h1 : l ≤ hh) (h2 : hh ≤ cap) :
    SemP P (Instr.sliceAt t (.slice a len cap) lo hi none) = some (.slice (if cap = l then a else a.map (·.add (l * i.size))) (hh - l) (cap - l)) := by
  show SemP P (underlying t >>= _) = _
  rw [semP_und hu]
  show SemP P (underlying t >>= _) = _
  rw [semP_und hu]
  have hb : Instr.sliceBounds true len cap lo hi none = pure (l, hh, cap) := by
    have hcast : ∀ n m : Nat, n ≤ m → (0 ≤ (n : Int) ∧ (n : Int) ≤ (m : Int)) := fun n m h => by omega
    rcases hlo with ⟨rfl, rfl⟩ | ⟨k, rfl⟩ <;> rcases hhi with ⟨rfl, rfl⟩ | ⟨k', rfl⟩ <;>
      simp [Instr.sliceBounds, Instr.sliceBound, asIntOf, hcast, h1, h2]
  simp only [hb, pure_bind]
  rw [sizeOf_bind, semP_info hi']
  rfl
theorem SlR.first {size : Nat} {v : Value} {rows : List (List Value)} (S : SlR h size v rows) : SemE P h (Builtin.firstCells size rows.length v) = some rows.flatten.toArray := by
  obtain ⟨a, c, rfl, h1, h2, h3, _⟩ := S.here
  by_cases hr : rows = []
  · subst hr
    cases a with
    | none => rfl
    | some a => simp [Builtin.firstCells, loadCells, loadCellsFrom, SemE, pure]
  · obtain ⟨b, o, cs, e', fr, rfl, hb, hle, hex⟩ := h3 hr
    show SemE P h (loadCells ⟨b, o, none⟩ (rows.length * size)) = _
    rw [semE_loadCells hb hle]
    congr 1
    exact Array.ext' (by simpa using hex)
theorem semH_of_semE {α β : Type} {s : Sem α} {f : α → Sem β} {a : α} {Q : β → PH → Prop} (hs : SemE P h s = some a) (hq : SemH P (f a) h Q) : SemH P (s >>= f) h Q :=
  SemH.bind (P := P) (s := s) (f := f) (SemE.semH hs hq)

theorem semH_choose {α : Type} {q : Question} {f : Nat → Sem α} {Q : α → PH → Prop} : SemH P (choose q >>= f) h Q = ∀ t, SemH P (f (if q.forced then 0 else q.cut t)) h Q := rfl
theorem semH_askRoom {α : Type} {n : Nat} {f : Unit → Sem α} {Q : α → PH → Prop} : SemH P (askRoom n >>= f) h Q = SemH P (f ()) h Q := by
  unfold askRoom
  split <;> rfl

def capOf : Value → Nat
  | .slice _ _ c => c
  | _ => 0
/-- append(v, x...): v one's own; x is read (it may lie in v's own block). -/
theorem append_own {size bytes : Nat} {v x : Value} {rows ys : List (List Value)} {F : List Nat} {i : TypeInfo} {z : Value} {e2 : TypeId} {k : Value → PH → Prop}
    (hu : P.underlying t = some (.slice e)) (hu2 : P.underlying t2 = some (.slice e2)) (hi : P.info? e = some i) (hn : i.size = size) (hby : i.bytes = bytes) (hz : i.zero = some z) (hzs : z.cells.size = size) (hb0 : 0 < bytes)
    (H : OwnR h e size v rows F) (S : SlR h size x ys) (hcell : ∀ r ∈ ys, ∀ u ∈ r, isCell u = true) (hl : (rows.length + ys.length) * bytes ≤ 140737488355328)
    (hk : ∀ v' h' F', OwnR h' e size v' (rows ++ ys) F' → Upd F h h' → (∀ b ∈ F', b ∈ F ∨ h b = none) → capOf v ≤ capOf v' → k v' h') : SemH P (Builtin.append_ #[t, t2] t' #[v, x]) h k := by
  have hbig : rows.length + ys.length ≤ 140737488355328 := Nat.le_trans (Nat.le_mul_of_pos_right _ hb0) hl
  obtain ⟨xa, xc, hx, hx1, hx2, hx3, hx4⟩ := S.here
  have hfirst := S.first (P := P)
  have hrows : Rows size (rows ++ ys) := H.ok.append S.ok
  have hflat : ∀ u ∈ ys.flatten, isCell u = true := fun u hu => by
    obtain ⟨r, hr, hur⟩ := List.mem_flatten.1 hu; exact hcell r hr u hur
  -- a new block
  have grown : ∀ (m : Nat), rows.length + ys.length ≤ m → m ≤ maxL → capOf v ≤ m → ∀ r, h r = none →
      k (.slice (some ⟨r, 0, none⟩) (rows.length + ys.length) m) (h.set r (.cells (rows.flatten.toArray ++ ys.flatten.toArray ++ Builtin.zeroCells z.cells (m - (rows.length + ys.length))) e (0, 0))) := by
    intro m hm hmax hcapv r hr
    refine hk _ _ [r] ⟨hrows, .inr ⟨r, m, _, by rw [List.length_append], rfl, set_same, by simpa using hm, hmax, ?_, ?_⟩⟩ (Upd.new hr) (fun b hb => .inr (by simp at hb; subst hb; exact hr)) hcapv
    · simp only [Array.size_append, List.size_toArray, H.ok.flat, S.ok.flat, Builtin.zeroCells, Array.size_map, Array.size_range, hzs]
      rw [← Nat.add_mul, ← Nat.add_mul]; congr 1; omega
    · have hlen : (rows ++ ys).length * size = (rows.flatten ++ ys.flatten).length := by rw [List.length_append, List.length_append, H.ok.flat, S.ok.flat, Nat.add_mul]
      simp only [Array.toList_append, hlen, List.flatten_append]
      rw [List.take_append_of_le_length (Nat.le_refl _), List.take_length]
  obtain ⟨va, vc, hv, hv1, hv2, _, _⟩ := H.slR.here
  have hvfirst := H.slR.first (P := P)
  subst hx; subst hv
  simp only [Builtin.append_, List.getElem?_toArray, List.getElem?_cons_zero, List.getElem?_cons_succ, semH_und hu, semH_und hu2, sizeOf_bind, semH_info hi, pure_bind, Bool.false_eq_true, if_false, Builtin.lenOf, Bool.not_false, if_true, hn]
  by_cases hfit : rows.length + ys.length ≤ vc
  · rw [if_pos hfit]
    refine semH_of_semE hfirst ?_
    rcases H.here with ⟨hv', hr, hF⟩ | ⟨b, cap, cs, hv', hF, hb, hle, hcap, hcs, htake⟩
    · subst hr
      simp only [List.length_nil, Value.slice.injEq, true_and] at hv'
      obtain ⟨rfl, rfl⟩ := hv'
      have hy : ys = [] := List.eq_nil_of_length_eq_zero (by omega)
      subst hy
      exact hk _ _ [] (by simpa using OwnR.nil) Upd.refl (by simp) (Nat.le_refl _)
    · simp only [Value.slice.injEq, true_and] at hv'
      obtain ⟨rfl, rfl⟩ := hv'
      have hmul : (rows.length + ys.length) * size ≤ vc * size := Nat.mul_le_mul_right _ hfit
      have hadd : (⟨b, 0, none⟩ : Addr).add (rows.length * size) = ⟨b, 0 + rows.length * size, none⟩ := plain_add ..
      show SemH P (storeCells ((⟨b, 0, none⟩ : Addr).add (rows.length * size)) ys.flatten.toArray.toList >>= fun _ => pure _) h k
      rw [hadd]
      refine SemH.bind (P := P) (s := storeCells _ _) ?_
      refine semH_storeCells _ 0 h cs hb (by simp only [S.ok.flat, hcs]; rw [Nat.add_mul] at hmul; omega) (by simpa using hflat) ?_
      show k _ _
      simp only [Nat.zero_add, Nat.add_zero]
      have fin : ∀ cs' : Array Value, cs'.size = cs.size → cs'.toList.take ((rows.length + ys.length) * size) = rows.flatten ++ ys.flatten → ∀ h' : PH, h' b = some (.cells cs' e (0, 0)) → Upd F h h' →
          k (.slice (some ⟨b, 0, none⟩) (rows.length + ys.length) vc) h' := by
        intro cs' hsz htk h' hb' hu'
        refine hk _ _ [b] ⟨hrows, .inr ⟨b, vc, cs', by rw [List.length_append], rfl, hb', by simpa using hfit, hcap, by rw [hsz, hcs], by rw [List.length_append, htk, List.flatten_append]⟩⟩ hu' (fun b' hb' => .inl (hF ▸ hb')) (Nat.le_refl _)
      split
      · rename_i hys
        refine fin cs rfl ?_ h hb Upd.refl
        have : ys.length * size = 0 := by rw [← S.ok.flat, hys]; rfl
        rw [Nat.add_mul, this, hys, List.append_nil, Nat.add_zero]; exact htake
      · refine fin _ (writeA_size _ _ _) ?_ _ set_same (Upd.set (by rw [hF]; simp))
        have hlen : rows.length * size + ys.flatten.length ≤ cs.size := by rw [S.ok.flat, ← Nat.add_mul, hcs]; exact hmul
        rw [writeA_list _ _ _ hlen, htake]
        have hlen2 : (rows.length + ys.length) * size = (rows.flatten ++ ys.flatten).length := by rw [List.length_append, H.ok.flat, S.ok.flat, Nat.add_mul]
        rw [hlen2, List.take_append_of_le_length (Nat.le_refl _), List.take_length]
  · rw [if_neg hfit]
    have hlt : vc < rows.length + ys.length := by omega
    have h63 : ¬ (((rows.length + ys.length : Nat) : Int) > IntKind.i64.max ∧ (False ∨ i.bytes = 0)) := by
      rintro ⟨_, hh⟩
      rcases hh with hh | hh
      · exact hh
      · omega
    have hfits : ¬ (Builtin.nextslicecap (rows.length + ys.length) vc * i.bytes > 2 ^ 48) := by
      rw [hby]
      have := growslice_fits hlt hl
      omega
    rw [semH_info hi, if_neg h63, semH_info hi, if_neg hfits, semH_choose]
    intro tt
    rw [semH_info hi, semH_askRoom]
    refine semH_of_semE hvfirst (semH_of_semE hfirst ?_)
    have hzv : zeroValue e = (typeInfo e >>= fun i => match i.zero with | some v => pure v | none => unsupported (.resourceLimit "a value of more than 2^22 cells")) := rfl
    rw [hzv, bind_assoc, semH_info hi, hz, pure_bind]
    have hcut : ∀ n m : Nat, n ≤ 140737488355328 → n ≤ (Question.appendCap n m e).cut tt ∧ (Question.appendCap n m e).cut tt ≤ maxL := by
      intro n m hn
      have hpos : 0 < 2 ^ 63 - n := by omega
      have := Nat.mod_lt tt hpos
      simp only [Question.cut, maxL]
      omega
    have hforced : (Question.appendCap (rows.length + ys.length) vc e).forced = false := rfl
    rw [hforced]
    obtain ⟨hc1, hc2⟩ := hcut (rows.length + ys.length) vc hbig
    intro r hr
    exact grown _ hc1 hc2 (show vc ≤ _ by omega) r hr

theorem sliceAt_eq3 {a : Option Addr} {len cap l hh m : Nat} {k1 k2 k3 : IntKind} {i : TypeInfo} (hu : P.underlying t = some (.slice e)) (hi' : P.info? e = some i) (h1 : l ≤ hh) (h2 : hh ≤ m) (h3 : m ≤ cap) :
    SemP P (Instr.sliceAt t (.slice a len cap) (some (.int k1 l)) (some (.int k2 hh)) (some (.int k3 m))) = some (.slice (if m = l then a else a.map (·.add (l * i.size))) (hh - l) (m - l)) := by
  show SemP P (underlying t >>= _) = _
  rw [semP_und hu]
  show SemP P (underlying t >>= _) = _
  rw [semP_und hu]
  have hb : Instr.sliceBounds true len cap (some (.int k1 l)) (some (.int k2 hh)) (some (.int k3 m)) = pure (l, hh, m) := by
    have hcast : ∀ n m : Nat, n ≤ m → (0 ≤ (n : Int) ∧ (n : Int) ≤ (m : Int)) := fun n m h => by omega
    simp [Instr.sliceBounds, Instr.sliceBound, asIntOf, hcast, h1, h2, h3]
  simp only [hb, pure_bind]
  rw [sizeOf_bind, semP_info hi']
  rfl
theorem addr_block {a : Addr} {n : Nat} : (a.add n).block = a.block := by unfold Addr.add; split <;> rfl
/-- A cut of what can be read. -/
theorem SlR.cut {size : Nat} {v : Value} {rows : List (List Value)} (H : SlR h size v rows) {i : TypeInfo} (hu : P.underlying t = some (.slice e)) (hi' : P.info? e = some i) (hn : i.size = size) {lo hi : Option Value} {l m : Nat}
    (hlo : lo = none ∧ l = 0 ∨ ∃ k, lo = some (.int k l)) (hhi : hi = none ∧ m = rows.length ∨ ∃ k, hi = some (.int k m)) (h1 : l ≤ m) (h2 : m ≤ rows.length) :
    ∃ v', SemP P (Instr.sliceAt t v lo hi none) = some v' ∧ SlR h size v' ((rows.take m).drop l) ∧ ∀ x n c, v' = .slice (some x) n c → ∃ x0 n0 c0, v = .slice (some x0) n0 c0 ∧ x.block = x0.block := by
  obtain ⟨a, c, rfl, hc1, hc2, hc3, hc4⟩ := H.here
  refine ⟨_, sliceAt_eq hu hi' hlo hhi h1 (by omega), ⟨(H.ok.take m).drop l, ?_⟩, ?_⟩
  · have hlen : ((rows.take m).drop l).length = m - l := by simp; omega
    refine ⟨_, _, by rw [hlen], by omega, by omega, fun hne => ?_, trivial⟩
    · have hpos : 0 < m - l := by rw [← hlen]; exact List.length_pos_iff.2 hne
      have hne' : rows ≠ [] := fun h => by subst h; simp at hlen; omega
      obtain ⟨b, o, cs, e', fr, rfl, hb, hle, hex⟩ := hc3 hne'
      have hm1 : m * size ≤ rows.length * size := Nat.mul_le_mul_right _ h2
      have hm2 : m * size = l * size + (m - l) * size := by rw [← Nat.add_mul]; congr 1; omega
      refine ⟨b, o + l * size, cs, e', fr, ?_, hb, by rw [hlen]; omega, ?_⟩
      · rw [if_neg (by omega), Option.map_some, hn, plain_add]
      · rw [hlen, (H.ok.take m).flat_drop, H.ok.flat_take, ← hex]
        simp only [Array.toList_extract, List.extract_eq_take_drop]
        rw [List.take_take, Nat.min_eq_left (by omega), List.drop_take, List.drop_drop]
        congr 1
        omega
  · intro x n c' hv
    simp only [Value.slice.injEq] at hv
    have hx := hv.1
    split at hx
    · exact ⟨x, _, _, by rw [hx], rfl⟩
    · obtain ⟨y, hy, rfl⟩ := Option.map_eq_some_iff.1 hx
      exact ⟨y, _, _, by rw [hy], addr_block⟩
/-- The front of one's own is one's own. -/
theorem OwnR.front {size : Nat} {v : Value} {rows : List (List Value)} {F : List Nat} (H : OwnR h e size v rows F) {i : TypeInfo} (hu : P.underlying t = some (.slice e)) (hi' : P.info? e = some i) (hn : i.size = size) {lo : Option Value} {k : IntKind} {m : Nat}
    (hlo : lo = none ∨ ∃ k, lo = some (.int k 0)) (h2 : m ≤ rows.length) : ∃ v', SemP P (Instr.sliceAt t v lo (some (.int k m)) none) = some v' ∧ OwnR h e size v' (rows.take m) F := by
  have hlo' : lo = none ∧ 0 = 0 ∨ ∃ k, lo = some (.int k ((0 : Nat) : Int)) := by
    rcases hlo with rfl | ⟨k, rfl⟩
    · exact .inl ⟨rfl, rfl⟩
    · exact .inr ⟨k, rfl⟩
  have hlen : (rows.take m).length = m := by simp; omega
  rcases H.here with ⟨rfl, rfl, rfl⟩ | ⟨b, cap, cs, rfl, rfl, hb, hle, hm, hs, ht⟩
  · have : m = 0 := by simpa using h2
    subst this
    exact ⟨_, sliceAt_eq hu hi' hlo' (.inr ⟨k, rfl⟩) (Nat.zero_le _) (Nat.zero_le _), by simpa using OwnR.nil⟩
  · refine ⟨_, sliceAt_eq hu hi' hlo' (.inr ⟨k, rfl⟩) (Nat.zero_le _) (by omega), H.ok.take m, .inr ⟨b, cap, cs, ?_, rfl, hb, by omega, hm, hs, ?_⟩⟩
    · rw [hlen]
      simp only [Nat.sub_zero, Nat.zero_mul, Option.map_some, plain_add, Nat.add_zero, ite_self]
    · rw [hlen, H.ok.flat_take, ← ht, List.take_take, Nat.min_eq_left (Nat.mul_le_mul_right _ h2)]
end
end Go.Proofs.YtllopddcpkhfjaaDoor
