/- client: the law ClientOrder. -/
import Derived.Test.YtbloalappckjhaaCliF
set_option linter.unusedSimpArgs false
set_option linter.unusedVariables false
namespace Go.Proofs.Ytbloalappckjhaa
open Go
/-- Those of them that are taken, where none is told twice. -/
def goods (l : List Known) : List Known := l.filter fun p => decide (p.root.size = 32)
theorem goods_hts {l : List Known} {y : Int} (h : y ∈ hts (goods l)) : y ∈ hts l := by
  obtain ⟨p, hp, rfl⟩ := List.mem_map.1 h
  exact List.mem_map_of_mem (List.mem_filter.1 hp).1
theorem goods_len (l : List Known) : (goods l).length ≤ l.length := List.length_filter_le ..
theorem goods_set {l : List Known} {y : Known} (hn : y.height ∉ hts l) (hl : l.length < 4096) : (setK (goods l) y).2 = goods (l ++ [y]) := by
  unfold setK
  have h1 : y.height ∉ hts (goods l) := fun h => hn (goods_hts h)
  have h2 := goods_len l
  have h3 : ¬ 4096 ≤ (goods l).length := by omega
  by_cases c : y.root.size = 32
  · rw [if_neg (by simpa using c), if_neg h1, if_neg h3]
    simp [c, goods]
  · rw [if_pos c]
    simp [c, goods]
theorem rootL_iff {l : List Known} (hn : (hts l).Nodup) (x : Int) (r : ByteArray) : rootL l x = some r ↔ (⟨x, r⟩ : Known) ∈ l := by
  unfold rootL
  induction l with
  | nil => simp
  | cons p ps ih =>
    have hn' : p.height ∉ hts ps ∧ (hts ps).Nodup := by simpa [hts] using hn
    simp only [List.find?_cons, List.mem_cons]
    by_cases e : x = p.height
    · subst e
      simp only [decide_true, Option.map_some, Option.some.injEq]
      constructor
      · rintro rfl; exact .inl rfl
      · rintro (h | h)
        · cases p; simp only [Known.mk.injEq] at h; exact h.2.symm
        · exact absurd (List.mem_map_of_mem (f := Known.height) h) hn'.1
    · simp only [e, decide_false]
      rw [ih hn'.2]
      constructor
      · exact .inr
      · rintro (h | h)
        · subst h; exact absurd rfl e
        · exact h
theorem rootL_perm {l l' : List Known} (hn : (hts l).Nodup) (hp : l.Perm l') (x : Int) : rootL l x = rootL l' x := by
  have hn' : (hts l').Nodup := (hp.map Known.height).nodup_iff.1 hn
  apply Option.ext
  intro r
  rw [rootL_iff hn, rootL_iff hn', hp.mem_iff]
theorem ranked_same {hs hs' : List Int} {l l' : List Known} (R : Ranked hs l) (R' : Ranked hs' l') (hp : l.Perm l') : hs = hs' :=
  List.Perm.eq_of_pairwise (fun a b _ _ h1 h2 => by omega) R.up R'.up (R.perm.trans ((hp.map Known.height).trans R'.perm.symm))
def entb (p : Known) : Int × Value := (p.height, .bool true)
theorem getM_entb (l : List Known) (x : Int) : (getM (l.map entb) x).getD (.bool false) = .bool (decide (x ∈ hts l)) := by
  unfold getM hts
  induction l with
  | nil => rfl
  | cons p ps ih =>
    simp only [List.find?_cons, List.map_cons, entb, List.mem_cons]
    by_cases e : x = p.height
    · simp [e]
    · simp only [e, decide_false, false_or]; exact ih
theorem look_b {h : PH} {r : Nat} {l : List Known} (H : MapAt ukey h r (l.map entb)) (y : Int) : SemE PG h (Instr.lookup T_map_uint64_bool (.map (some r)) (.int .u64 y) false) = some (.bool (decide (y ∈ hts l))) := by
  have hl := look_found (ukeyed T_uint64.und) T_map_uint64_bool.und T_bool.info T_bool.zero H y false
  rw [show (Value.int .u64 y) = ukey y from rfl, hl, getM_entb]; rfl
def turned (xs : List Known) (t : Nat) : List Known := xs.drop (t % xs.length) ++ xs.take (t % xs.length)
theorem turned_perm (xs : List Known) (t : Nat) : xs.Perm (turned xs t) := by
  have := List.perm_append_comm (l₁ := xs.take (t % xs.length)) (l₂ := xs.drop (t % xs.length))
  rwa [List.take_append_drop] at this
theorem turned_get {xs : List Known} {t i : Nat} (hi : i < xs.length) (ht : t ≤ xs.length) : (turned xs t)[i]? = xs[(i + t) % xs.length]? := by
  unfold turned
  have e1 : t % xs.length = if t = xs.length then 0 else t := by
    split
    · rename_i h; rw [h, Nat.mod_self]
    · exact Nat.mod_eq_of_lt (by omega)
  have e2 : (i + t) % xs.length = if i + t < xs.length then i + t else if i + t - xs.length < xs.length then i + t - xs.length else 0 := by
    split
    · exact Nat.mod_eq_of_lt (by omega)
    · rw [Nat.mod_eq_sub_mod (by omega)]
      split
      · exact Nat.mod_eq_of_lt (by omega)
      · omega
  rw [e1, e2, List.getElem?_append, List.length_drop]
  simp only [List.getElem?_drop, List.getElem?_take]
  repeat' split
  all_goals first | omega | rfl | (congr 1; omega)

structure Ord1 (h0 h : PH) (c d r : Nat) (l : List Known) (hs : List Int) (FC FD : List Nat) : Prop where
  ext : Ext h0 h
  cl : ClientAt h c (goods l) hs FC
  dl : ClientAt h d [] [] FD
  map : MapAt ukey h r (l.map entb)
  fc : Fresh h0 FC
  fd : Fresh h0 FD
  fr : h0 r = none
  d1 : r ∉ FC
  d2 : r ∉ FD
  d3 : ∀ b ∈ FD, b ∉ FC
  nd : (hts l).Nodup
structure Ord2 (h0 h : PH) (c d : Nat) (l l' : List Known) (hs hs' : List Int) (FC FD : List Nat) : Prop where
  ext : Ext h0 h
  cl : ClientAt h c l hs FC
  dl : ClientAt h d l' hs' FD
  fc : Fresh h0 FC
  fd : Fresh h0 FD
  d3 : ∀ b ∈ FC, b ∉ FD
theorem Ord2.step {h0 h h' : PH} {c d : Nat} {l l' : List Known} {hs hs' : List Int} {FC FD : List Nat} (T : Ord2 h0 h c d l l' hs hs' FC FD) (u : Ext h h') : Ord2 h0 h' c d l l' hs hs' FC FD :=
  ⟨T.ext.trans u, T.cl.ext u, T.dl.ext u, T.fc, T.fd, T.d3⟩
set_option maxRecDepth 20000 in
theorem ClientOrder_ok {h : PH} {x : Value} {xs : List Known} (hx : SlR h 2 x (xs.map Known.cells)) (turn q : Int) {k : Value → PH → Prop} (hk : ∀ h', Ext h h' → k (.bool true) h') :
    CallsH PG id_carracklaw12_ClientOrder #[x, .int .i64 turn, .int .u64 q] h k := by
  have lx := hx.len (t' := T_int) T_sl_carrackref12_Known.und
  rw [List.length_map] at lx
  apply carracklaw12_ClientOrder.call
  unfold carracklaw12_ClientOrder
  refine awake12_ok fun h1 u1 => ?_
  simp only [lx, popO_some, bindH_eq, condV_bool, condV_true, condV_false, yV_bool, gopV_tt, gopV_ff, gopV_tf, gopV_ft, pickV_t, pickV_f, pickV_bool, nilS_ptr, add_eq, sub_eq, mul_eq, lss_eq, leq_eq, gtr_eq, geq_eq, not_eq, minI_eq, maxI_eq, extract_0, extract_1, extract_2, eqlI, neqI, makeFunc_eq, decide_true, decide_false, if_true, if_false, Bool.false_eq_true, Bool.not_true, Bool.not_false, reduceIte, List.getElem?_toArray, List.getElem?_cons_zero, List.getElem?_cons_succ, Option.isSome_none, List.length_map]
  by_cases hc : (100 : Int) < xs.length
  · simp only [hc, popO_some, bindH_eq, condV_bool, condV_true, condV_false, yV_bool, gopV_tt, gopV_ff, gopV_tf, gopV_ft, pickV_t, pickV_f, pickV_bool, nilS_ptr, add_eq, sub_eq, mul_eq, lss_eq, leq_eq, gtr_eq, geq_eq, not_eq, minI_eq, maxI_eq, extract_0, extract_1, extract_2, eqlI, neqI, makeFunc_eq, decide_true, decide_false, if_true, if_false, Bool.false_eq_true, Bool.not_true, Bool.not_false, reduceIte, List.getElem?_toArray, List.getElem?_cons_zero, List.getElem?_cons_succ, Option.isSome_none, List.length_map]
    exact hk _ u1
  by_cases ht0 : turn < 0
  · simp only [hc, ht0, popO_some, bindH_eq, condV_bool, condV_true, condV_false, yV_bool, gopV_tt, gopV_ff, gopV_tf, gopV_ft, pickV_t, pickV_f, pickV_bool, nilS_ptr, add_eq, sub_eq, mul_eq, lss_eq, leq_eq, gtr_eq, geq_eq, not_eq, minI_eq, maxI_eq, extract_0, extract_1, extract_2, eqlI, neqI, makeFunc_eq, decide_true, decide_false, if_true, if_false, Bool.false_eq_true, Bool.not_true, Bool.not_false, reduceIte, List.getElem?_toArray, List.getElem?_cons_zero, List.getElem?_cons_succ, Option.isSome_none, List.length_map]
    exact hk _ u1
  by_cases ht1 : (xs.length : Int) < turn
  · simp only [hc, ht0, lx, ht1, popO_some, bindH_eq, condV_bool, condV_true, condV_false, yV_bool, gopV_tt, gopV_ff, gopV_tf, gopV_ft, pickV_t, pickV_f, pickV_bool, nilS_ptr, add_eq, sub_eq, mul_eq, lss_eq, leq_eq, gtr_eq, geq_eq, not_eq, minI_eq, maxI_eq, extract_0, extract_1, extract_2, eqlI, neqI, makeFunc_eq, decide_true, decide_false, if_true, if_false, Bool.false_eq_true, Bool.not_true, Bool.not_false, reduceIte, List.getElem?_toArray, List.getElem?_cons_zero, List.getElem?_cons_succ, Option.isSome_none, List.length_map]
    exact hk _ u1
  simp only [hc, ht0, lx, ht1, popO_some, bindH_eq, condV_bool, condV_true, condV_false, yV_bool, gopV_tt, gopV_ff, gopV_tf, gopV_ft, pickV_t, pickV_f, pickV_bool, nilS_ptr, add_eq, sub_eq, mul_eq, lss_eq, leq_eq, gtr_eq, geq_eq, not_eq, minI_eq, maxI_eq, extract_0, extract_1, extract_2, eqlI, neqI, makeFunc_eq, decide_true, decide_false, if_true, if_false, Bool.false_eq_true, Bool.not_true, Bool.not_false, reduceIte, List.getElem?_toArray, List.getElem?_cons_zero, List.getElem?_cons_succ, Option.isSome_none, List.length_map]
  obtain ⟨t, rfl⟩ := Int.eq_ofNat_of_zero_le (a := turn) (by omega)
  refine CNew_ok fun c h2 FC hC2 u2 f2 => ?_
  refine CNew_ok fun d h3 FD hD3 u3 f3 => ?_
  simp only [eqlPtrNil T_p_client_Client.und, Option.isNone_some, makeMap_eq, popO_some, bindH_eq, condV_bool, condV_true, condV_false, yV_bool, gopV_tt, gopV_ff, gopV_tf, gopV_ft, pickV_t, pickV_f, pickV_bool, nilS_ptr, add_eq, sub_eq, mul_eq, lss_eq, leq_eq, gtr_eq, geq_eq, not_eq, minI_eq, maxI_eq, extract_0, extract_1, extract_2, eqlI, neqI, makeFunc_eq, decide_true, decide_false, if_true, if_false, Bool.false_eq_true, Bool.not_true, Bool.not_false, reduceIte, List.getElem?_toArray, List.getElem?_cons_zero, List.getElem?_cons_succ, Option.isSome_none, List.length_map]
  intro r hr
  refine popO_pure ?_
  have u4 : Ext h3 (h3.set r (.map #[] 0)) := Upd.new hr
  have w2 := u1.trans u2
  have w3 := w2.trans u3
  have T0 : Ord1 h (h3.set r (.map #[] 0)) c d r [] [] FC FD := ⟨w3.trans u4, (hC2.ext u3).ext u4, hD3.ext u4, MapAt.new, f2.of u1, f3.of w2, w3.none hr, fun hf => (hC2.ext u3).known _ hf hr, fun hf => hD3.known _ hf hr, fun b hb hf => hC2.known b hf (f3 b hb), by simp [hts]⟩
  show LoopL _ _ _ (h3.set r (.map #[] 0))
  generalize h3.set r (.map #[] 0) = h4 at *
  refine ⟨fun vs h' => ∃ (i : Nat) (hs : List Int) (FC : List Nat), i ≤ xs.length ∧ vs = [x, .int .i64 t, .int .u64 q, .pointer (some ⟨c, 0, none⟩), .pointer (some ⟨d, 0, none⟩), .map (some r), .int .i64 i] ∧ Ord1 h h' c d r (xs.take i) hs FC FD, upTo xs.length 6, ⟨0, [], FC, by omega, rfl, T0⟩, ?_⟩
  rintro ρ h' ⟨i, hs, FC, hi, hvs, T⟩
  simp only [List.map_cons, List.map_nil, List.cons.injEq, and_true] at hvs
  obtain ⟨e0, e1, e2, e3, e4, e5, e6⟩ := hvs
  rw [e0, e1, e2, e3, e4, e5, e6]
  unfold carracklaw12_ClientOrder_b47
  by_cases hlt : i < xs.length
  · have hd : ((i : Int) < (xs.length : Int)) = True := by apply eq_true; omega
    obtain ⟨y, hy⟩ : ∃ y, xs[i]? = some y := ⟨_, List.getElem?_eq_getElem hlt⟩
    have ei : IntKind.i64.wrap ((i : Int) + 1) = ((i + 1 : Nat) : Int) := by rw [i64_wrap (by omega) (by omega)]; omega
    obtain ⟨b, o, a1, a2, a3, -⟩ := (hx.ext T.ext).kn (k := .i64) hy
    have htk : xs.take (i + 1) = xs.take i ++ [y] := by rw [List.take_add_one, hy]; rfl
    simp only [lx, hd, a1, T_carrackref12_Known.f0, T_carrackref12_Known.f1, T_uint64.load, T_string.load, a2, a3, look_b T.map, popO_some, bindH_eq, condV_bool, condV_true, condV_false, yV_bool, gopV_tt, gopV_ff, gopV_tf, gopV_ft, pickV_t, pickV_f, pickV_bool, nilS_ptr, add_eq, sub_eq, mul_eq, lss_eq, leq_eq, gtr_eq, geq_eq, not_eq, minI_eq, maxI_eq, extract_0, extract_1, extract_2, eqlI, neqI, makeFunc_eq, decide_true, decide_false, if_true, if_false, Bool.false_eq_true, Bool.not_true, Bool.not_false, reduceIte, List.getElem?_toArray, List.getElem?_cons_zero, List.getElem?_cons_succ, Option.isSome_none, List.length_map]
    by_cases c2 : y.height ∈ hts (xs.take i)
    · simp only [c2, popO_some, bindH_eq, condV_bool, condV_true, condV_false, yV_bool, gopV_tt, gopV_ff, gopV_tf, gopV_ft, pickV_t, pickV_f, pickV_bool, nilS_ptr, add_eq, sub_eq, mul_eq, lss_eq, leq_eq, gtr_eq, geq_eq, not_eq, minI_eq, maxI_eq, extract_0, extract_1, extract_2, eqlI, neqI, makeFunc_eq, decide_true, decide_false, if_true, if_false, Bool.false_eq_true, Bool.not_true, Bool.not_false, reduceIte, List.getElem?_toArray, List.getElem?_cons_zero, List.getElem?_cons_succ, Option.isSome_none, List.length_map]
      exact hk _ T.ext
    · simp only [c2, popO_some, bindH_eq, condV_bool, condV_true, condV_false, yV_bool, gopV_tt, gopV_ff, gopV_tf, gopV_ft, pickV_t, pickV_f, pickV_bool, nilS_ptr, add_eq, sub_eq, mul_eq, lss_eq, leq_eq, gtr_eq, geq_eq, not_eq, minI_eq, maxI_eq, extract_0, extract_1, extract_2, eqlI, neqI, makeFunc_eq, decide_true, decide_false, if_true, if_false, Bool.false_eq_true, Bool.not_true, Bool.not_false, reduceIte, List.getElem?_toArray, List.getElem?_cons_zero, List.getElem?_cons_succ, Option.isSome_none, List.length_map]
      refine map_put (enc := ukey) (ukeyed T_uint64.und) T_map_uint64_bool.und T.map y.height (.bool true) fun h5 hM5 u5 => ?_
      have hput : putM ((xs.take i).map entb) y.height (.bool true) = (xs.take (i + 1)).map entb := by
        unfold putM
        rw [if_neg (by simpa [keysM, entb, hts, Function.comp_def] using c2), htk]
        simp [entb]
      rw [hput] at hM5
      have w5 := T.ext.fresh u5 (Fresh.one T.fr)
      have hC5 := T.cl.upd u5 (fun b hb hf => by simp at hf; subst hf; exact T.d1 hb)
      have hD5 := T.dl.upd u5 (fun b hb hf => by simp at hf; subst hf; exact T.d2 hb)
      obtain ⟨b', o', a1', a2', a3', -⟩ := (hx.ext w5).kn (k := .i64) hy
      rw [a1'] at a1
      simp only [Option.some.injEq, Value.pointer.injEq, Addr.mk.injEq, and_true] at a1
      obtain ⟨rfl, rfl⟩ := a1
      simp only [a2', a3', popO_some, bindH_eq, condV_bool, condV_true, condV_false, yV_bool, gopV_tt, gopV_ff, gopV_tf, gopV_ft, pickV_t, pickV_f, pickV_bool, nilS_ptr, add_eq, sub_eq, mul_eq, lss_eq, leq_eq, gtr_eq, geq_eq, not_eq, minI_eq, maxI_eq, extract_0, extract_1, extract_2, eqlI, neqI, makeFunc_eq, decide_true, decide_false, if_true, if_false, Bool.false_eq_true, Bool.not_true, Bool.not_false, reduceIte, List.getElem?_toArray, List.getElem?_cons_zero, List.getElem?_cons_succ, Option.isSome_none, List.length_map]
      refine Set_ok hC5 y fun h6 hs6 F6 hC6 u6 k6 => ?_
      rw [goods_set c2 (by simp; omega), ← htk] at hC6
      simp only [ei, popO_some, bindH_eq, condV_bool, condV_true, condV_false, yV_bool, gopV_tt, gopV_ff, gopV_tf, gopV_ft, pickV_t, pickV_f, pickV_bool, nilS_ptr, add_eq, sub_eq, mul_eq, lss_eq, leq_eq, gtr_eq, geq_eq, not_eq, minI_eq, maxI_eq, extract_0, extract_1, extract_2, eqlI, neqI, makeFunc_eq, decide_true, decide_false, if_true, if_false, Bool.false_eq_true, Bool.not_true, Bool.not_false, reduceIte, List.getElem?_toArray, List.getElem?_cons_zero, List.getElem?_cons_succ, Option.isSome_none, List.length_map]
      refine ⟨⟨i + 1, hs6, F6, by omega, rfl, w5.fresh u6 T.fc, hC6, hD5.upd u6 T.d3, hM5.upd u6 T.d1, T.fc.grow w5 k6, T.fd, T.fr, fun hf => ?_, T.d2, fun b hb hf => ?_, ?_⟩, by simp [upTo, e6]; omega⟩
      · rcases k6 r hf with h | h
        · exact T.d1 h
        · exact hM5.known h
      · rcases k6 b hf with h | h
        · exact T.d3 b hb h
        · exact hD5.known b hb h
      · rw [htk]
        have : hts (xs.take i ++ [y]) = hts (xs.take i) ++ [y.height] := by simp [hts]
        rw [this, List.nodup_append]
        exact ⟨T.nd, by simp, fun a ha b hb => by simp at hb; subst hb; rintro rfl; exact c2 ha⟩
  · have hd : ((i : Int) < (xs.length : Int)) = False := by apply eq_false; omega
    simp only [lx, hd, popO_some, bindH_eq, condV_bool, condV_true, condV_false, yV_bool, gopV_tt, gopV_ff, gopV_tf, gopV_ft, pickV_t, pickV_f, pickV_bool, nilS_ptr, add_eq, sub_eq, mul_eq, lss_eq, leq_eq, gtr_eq, geq_eq, not_eq, minI_eq, maxI_eq, extract_0, extract_1, extract_2, eqlI, neqI, makeFunc_eq, decide_true, decide_false, if_true, if_false, Bool.false_eq_true, Bool.not_true, Bool.not_false, reduceIte, List.getElem?_toArray, List.getElem?_cons_zero, List.getElem?_cons_succ, Option.isSome_none, List.length_map]
    rw [List.take_of_length_le (by omega)] at T
    have hnd : (hts (goods xs)).Nodup := by
      have : (hts (goods xs)).Sublist (hts xs) := (List.filter_sublist).map _
      exact this.nodup T.nd
    have hnt : (hts (turned xs t)).Nodup := ((turned_perm xs t).map Known.height).nodup_iff.1 T.nd
    have hlt2 : (turned xs t).length = xs.length := (turned_perm xs t).length_eq.symm
    refine ⟨fun vs h' => ∃ (i : Nat) (hs' : List Int) (FD : List Nat), i ≤ xs.length ∧ vs = [x, .int .i64 t, .int .u64 q, .pointer (some ⟨c, 0, none⟩), .pointer (some ⟨d, 0, none⟩), .int .i64 i] ∧ Ord2 h h' c d (goods xs) (goods ((turned xs t).take i)) hs hs' FC FD, upTo xs.length 5, ⟨0, [], FD, by omega, rfl, T.ext, T.cl, T.dl, T.fc, T.fd, fun b hb hf => T.d3 b hf hb⟩, ?_⟩
    rintro ρ h' ⟨i, hs', FD, hi, hvs, T⟩
    simp only [List.map_cons, List.map_nil, List.cons.injEq, and_true] at hvs
    obtain ⟨e0, e1, e2, e3, e4, e6⟩ := hvs
    rw [e0, e1, e2, e3, e4, e6]
    unfold carracklaw12_ClientOrder_b69
    by_cases hlt : i < xs.length
    · have hd : ((i : Int) < (xs.length : Int)) = True := by apply eq_true; omega
      have hj : (i + t) % xs.length < xs.length := Nat.mod_lt _ (by omega)
      obtain ⟨y, hy⟩ : ∃ y, xs[(i + t) % xs.length]? = some y := ⟨_, List.getElem?_eq_getElem hj⟩
      have ei : IntKind.i64.wrap ((i : Int) + 1) = ((i + 1 : Nat) : Int) := by rw [i64_wrap (by omega) (by omega)]; omega
      have et : IntKind.i64.wrap ((i : Int) + (t : Int)) = ((i + t : Nat) : Int) := by rw [i64_wrap (by omega) (by omega)]; omega
      have er : SemP PG (binOp .rem T_int (.int .i64 ((i + t : Nat) : Int)) (.int .i64 (xs.length : Int))) = some (.int .i64 (((i + t) % xs.length : Nat) : Int)) := by
        rw [rem_eq (by omega), Int.ofNat_tmod]
      obtain ⟨b, o, a1, a2, a3, a4⟩ := (hx.ext T.ext).kn (k := .i64) hy
      have hty : (turned xs t)[i]? = some y := by rw [turned_get hlt (by omega), hy]
      have htk : (turned xs t).take (i + 1) = (turned xs t).take i ++ [y] := by rw [List.take_add_one, hty]; rfl
      simp only [lx, hd, et, er, a1, a4, popO_some, bindH_eq, condV_bool, condV_true, condV_false, yV_bool, gopV_tt, gopV_ff, gopV_tf, gopV_ft, pickV_t, pickV_f, pickV_bool, nilS_ptr, add_eq, sub_eq, mul_eq, lss_eq, leq_eq, gtr_eq, geq_eq, not_eq, minI_eq, maxI_eq, extract_0, extract_1, extract_2, eqlI, neqI, makeFunc_eq, decide_true, decide_false, if_true, if_false, Bool.false_eq_true, Bool.not_true, Bool.not_false, reduceIte, List.getElem?_toArray, List.getElem?_cons_zero, List.getElem?_cons_succ, Option.isSome_none, List.length_map]
      intro r7 hr7
      refine store_box set_same T_carrackref12_Known.info (by show 2 = 2; rfl) (by show 0 < 2; decide) (by rfl) (by simp [Known.cells, isCell]) ?_
      rw [set_set_same]
      have u7 : Ext h' (h'.set r7 (.cells y.cells.toArray T_carrackref12_Known)) := Upd.new hr7
      have b7 : (h'.set r7 (.cells y.cells.toArray T_carrackref12_Known)) r7 = some (.cells y.cells.toArray T_carrackref12_Known) := set_same
      generalize h'.set r7 (.cells y.cells.toArray T_carrackref12_Known) = h7 at *
      have c7 : cellH h7 ⟨r7, 0, none⟩ = some (.int .u64 y.height) := by simp [cellH, b7, Known.cells]
      have d7 : cellH h7 ⟨r7, 1, none⟩ = some (.string y.root) := by simp [cellH, b7, Known.cells]
      have T7 := T.step u7
      simp only [T_carrackref12_Known.f0, T_carrackref12_Known.f1, T_uint64.load, T_string.load, c7, Nat.zero_add, d7, popO_some, bindH_eq, condV_bool, condV_true, condV_false, yV_bool, gopV_tt, gopV_ff, gopV_tf, gopV_ft, pickV_t, pickV_f, pickV_bool, nilS_ptr, add_eq, sub_eq, mul_eq, lss_eq, leq_eq, gtr_eq, geq_eq, not_eq, minI_eq, maxI_eq, extract_0, extract_1, extract_2, eqlI, neqI, makeFunc_eq, decide_true, decide_false, if_true, if_false, Bool.false_eq_true, Bool.not_true, Bool.not_false, reduceIte, List.getElem?_toArray, List.getElem?_cons_zero, List.getElem?_cons_succ, Option.isSome_none, List.length_map]
      refine Set_ok T7.dl y fun h8 hs8 F8 hD8 u8 k8 => ?_
      have hnin : y.height ∉ hts ((turned xs t).take i) := by
        intro hm
        have hsub : (hts ((turned xs t).take (i + 1))).Nodup := (((List.take_sublist (i + 1) (turned xs t)).map Known.height)).nodup hnt
        rw [htk] at hsub
        have : hts ((turned xs t).take i ++ [y]) = hts ((turned xs t).take i) ++ [y.height] := by simp [hts]
        rw [this, List.nodup_append] at hsub
        exact hsub.2.2 _ hm _ (by simp) rfl
      rw [goods_set hnin (by simp; omega), ← htk] at hD8
      simp only [ei, popO_some, bindH_eq, condV_bool, condV_true, condV_false, yV_bool, gopV_tt, gopV_ff, gopV_tf, gopV_ft, pickV_t, pickV_f, pickV_bool, nilS_ptr, add_eq, sub_eq, mul_eq, lss_eq, leq_eq, gtr_eq, geq_eq, not_eq, minI_eq, maxI_eq, extract_0, extract_1, extract_2, eqlI, neqI, makeFunc_eq, decide_true, decide_false, if_true, if_false, Bool.false_eq_true, Bool.not_true, Bool.not_false, reduceIte, List.getElem?_toArray, List.getElem?_cons_zero, List.getElem?_cons_succ, Option.isSome_none, List.length_map]
      refine ⟨⟨i + 1, hs8, F8, by omega, rfl, T7.ext.fresh u8 T7.fd, T7.cl.upd u8 T7.d3, hD8, T7.fc, T7.fd.grow T7.ext k8, fun b hb hf => ?_⟩, by simp [upTo, e6]; omega⟩
      rcases k8 b hf with h | h
      · exact T7.d3 b hb h
      · exact T7.cl.known b hb h
    · have hd : ((i : Int) < (xs.length : Int)) = False := by apply eq_false; omega
      simp only [lx, hd, popO_some, bindH_eq, condV_bool, condV_true, condV_false, yV_bool, gopV_tt, gopV_ff, gopV_tf, gopV_ft, pickV_t, pickV_f, pickV_bool, nilS_ptr, add_eq, sub_eq, mul_eq, lss_eq, leq_eq, gtr_eq, geq_eq, not_eq, minI_eq, maxI_eq, extract_0, extract_1, extract_2, eqlI, neqI, makeFunc_eq, decide_true, decide_false, if_true, if_false, Bool.false_eq_true, Bool.not_true, Bool.not_false, reduceIte, List.getElem?_toArray, List.getElem?_cons_zero, List.getElem?_cons_succ, Option.isSome_none, List.length_map]
      rw [List.take_of_length_le (by omega)] at T
      have hp : (goods xs).Perm (goods (turned xs t)) := (turned_perm xs t).filter _
      have hss := ranked_same T.cl.rank T.dl.rank hp
      subst hss
      refine From_ok T.cl q fun h5 u5 => ?_
      have T5 := T.step u5
      simp only [popO_some, bindH_eq, condV_bool, condV_true, condV_false, yV_bool, gopV_tt, gopV_ff, gopV_tf, gopV_ft, pickV_t, pickV_f, pickV_bool, nilS_ptr, add_eq, sub_eq, mul_eq, lss_eq, leq_eq, gtr_eq, geq_eq, not_eq, minI_eq, maxI_eq, extract_0, extract_1, extract_2, eqlI, neqI, makeFunc_eq, decide_true, decide_false, if_true, if_false, Bool.false_eq_true, Bool.not_true, Bool.not_false, reduceIte, List.getElem?_toArray, List.getElem?_cons_zero, List.getElem?_cons_succ, Option.isSome_none, List.length_map]
      refine From_ok T5.dl q fun h6 u6 => ?_
      have T6 := T5.step u6
      simp only [popO_some, bindH_eq, condV_bool, condV_true, condV_false, yV_bool, gopV_tt, gopV_ff, gopV_tf, gopV_ft, pickV_t, pickV_f, pickV_bool, nilS_ptr, add_eq, sub_eq, mul_eq, lss_eq, leq_eq, gtr_eq, geq_eq, not_eq, minI_eq, maxI_eq, extract_0, extract_1, extract_2, eqlI, neqI, makeFunc_eq, decide_true, decide_false, if_true, if_false, Bool.false_eq_true, Bool.not_true, Bool.not_false, reduceIte, List.getElem?_toArray, List.getElem?_cons_zero, List.getElem?_cons_succ, Option.isSome_none, List.length_map]
      refine Root_ok T6.cl q ?_
      simp only [popO_some, bindH_eq, condV_bool, condV_true, condV_false, yV_bool, gopV_tt, gopV_ff, gopV_tf, gopV_ft, pickV_t, pickV_f, pickV_bool, nilS_ptr, add_eq, sub_eq, mul_eq, lss_eq, leq_eq, gtr_eq, geq_eq, not_eq, minI_eq, maxI_eq, extract_0, extract_1, extract_2, eqlI, neqI, makeFunc_eq, decide_true, decide_false, if_true, if_false, Bool.false_eq_true, Bool.not_true, Bool.not_false, reduceIte, List.getElem?_toArray, List.getElem?_cons_zero, List.getElem?_cons_succ, Option.isSome_none, List.length_map]
      refine Root_ok T6.dl q ?_
      rw [← rootL_perm hnd hp q]
      simp only [popO_some, bindH_eq, condV_bool, condV_true, condV_false, yV_bool, gopV_tt, gopV_ff, gopV_tf, gopV_ft, pickV_t, pickV_f, pickV_bool, nilS_ptr, add_eq, sub_eq, mul_eq, lss_eq, leq_eq, gtr_eq, geq_eq, not_eq, minI_eq, maxI_eq, extract_0, extract_1, extract_2, eqlI, neqI, makeFunc_eq, decide_true, decide_false, if_true, if_false, Bool.false_eq_true, Bool.not_true, Bool.not_false, reduceIte, List.getElem?_toArray, List.getElem?_cons_zero, List.getElem?_cons_succ, Option.isSome_none, List.length_map]
      refine Heights_ok T6.cl fun v7 h7 F7 hO7 u7 f7 => ?_
      have T7 := T6.step u7
      refine Heights_ok T7.dl fun v8 h8 F8 hO8 u8 f8 => ?_
      have T8 := T7.step u8
      refine numbers_ok (hO7.slR.ext u8) hO8.slR (by have := T7.cl.rank.len; have := T7.cl.few; omega) rfl ?_
      have eb : ∀ b : Bool, (b == b) = true := fun b => by simp
      have ez : ∀ b : Int, (b == b) = true := fun b => by simp
      simp only [eqlS, bytes_eq, eqlB, eb, ez, popO_some, bindH_eq, condV_bool, condV_true, condV_false, yV_bool, gopV_tt, gopV_ff, gopV_tf, gopV_ft, pickV_t, pickV_f, pickV_bool, nilS_ptr, add_eq, sub_eq, mul_eq, lss_eq, leq_eq, gtr_eq, geq_eq, not_eq, minI_eq, maxI_eq, extract_0, extract_1, extract_2, eqlI, neqI, makeFunc_eq, decide_true, decide_false, if_true, if_false, Bool.false_eq_true, Bool.not_true, Bool.not_false, reduceIte, List.getElem?_toArray, List.getElem?_cons_zero, List.getElem?_cons_succ, Option.isSome_none, List.length_map]
      refine Latest_ok T8.cl ?_
      refine Latest_ok T8.dl ?_
      simp only [ez, popO_some, bindH_eq, condV_bool, condV_true, condV_false, yV_bool, gopV_tt, gopV_ff, gopV_tf, gopV_ft, pickV_t, pickV_f, pickV_bool, nilS_ptr, add_eq, sub_eq, mul_eq, lss_eq, leq_eq, gtr_eq, geq_eq, not_eq, minI_eq, maxI_eq, extract_0, extract_1, extract_2, eqlI, neqI, makeFunc_eq, decide_true, decide_false, if_true, if_false, Bool.false_eq_true, Bool.not_true, Bool.not_false, reduceIte, List.getElem?_toArray, List.getElem?_cons_zero, List.getElem?_cons_succ, Option.isSome_none, List.length_map]
      exact hk _ T8.ext
end Go.Proofs.Ytbloalappckjhaa
