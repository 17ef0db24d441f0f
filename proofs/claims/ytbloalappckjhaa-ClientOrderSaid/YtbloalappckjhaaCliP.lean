/- client: the law ClientPlays. -/
import Derived.Test.YtbloalappckjhaaCliR
import Derived.Laws.Strings
set_option linter.unusedSimpArgs false
set_option linter.unusedVariables false
namespace Go.Proofs.Ytbloalappckjhaa
open Go
def okH (l : List Known) : Prop := ∀ y ∈ hts l, 0 ≤ y ∧ y < 18446744073709551616
theorem setK_sub {l : List Known} {x y : Known} (hy : y ∈ (setK l x).2) : y ∈ l ∨ y = x := by
  unfold setK at hy
  split at hy
  · exact .inl hy
  · split at hy
    · exact .inl hy
    · split at hy
      · exact .inl hy
      · simpa using hy
theorem okH.set {l : List Known} {x : Known} (H : okH l) (hx : 0 ≤ x.height ∧ x.height < 18446744073709551616) : okH (setK l x).2 := by
  intro y hy
  obtain ⟨m, hm, rfl⟩ := List.mem_map.1 hy
  rcases setK_sub hm with h | rfl
  · exact H _ (List.mem_map_of_mem h)
  · exact hx
theorem setK_len (l : List Known) (x : Known) : (setK l x).2.length ≤ l.length + 1 := by
  unfold setK
  repeat' split
  all_goals simp
theorem list_bytes (a b : ByteArray) : (a.toList == b.toList) = decide (a = b) := by
  rw [Bool.eq_iff_iff]
  simp [ByteArray.toList_eq, ByteArray.ext_iff, Array.toList_inj]
theorem neqS {h : PH} {t : TypeId} {x y : Operand} {a b : ByteArray} : SemE PG h (binS .neq t x y (.string a) (.string b)) = some (.bool (a != b)) := by
  have : SemE PG h (binS .neq t x y (.string a) (.string b)) = some (.bool (!(a.toList == b.toList))) := rfl
  rw [this, list_bytes, bne, beq_bytes]
theorem eqlS {h : PH} {t : TypeId} {x y : Operand} {a b : ByteArray} : SemE PG h (binS .eql t x y (.string a) (.string b)) = some (.bool (a == b)) := by
  have : SemE PG h (binS .eql t x y (.string a) (.string b)) = some (.bool (a.toList == b.toList)) := rfl
  rw [this, list_bytes, beq_bytes]
theorem neqB {h : PH} {x y : Operand} {a b : Bool} : SemE PG h (binS .neq T_bool x y (.bool a) (.bool b)) = some (.bool (a != b)) := by
  show SemE PG h (Op.equalIn (9999 + 1) T_bool (.bool a) (.bool b) >>= fun b => (pure (Value.bool (!b)) : Sem Value)) = _
  rw [semE_bind, eqIn_bool T_bool.und]; rfl
theorem eqlB {h : PH} {x y : Operand} {a b : Bool} : SemE PG h (binS .eql T_bool x y (.bool a) (.bool b)) = some (.bool (a == b)) := by
  show SemE PG h (Op.equalIn (9999 + 1) T_bool (.bool a) (.bool b) >>= fun b => (pure (Value.bool b) : Sem Value)) = _
  rw [semE_bind, eqIn_bool T_bool.und]; rfl
theorem bytes_ne (a : ByteArray) : (a != a) = false := by simp [bne, beq_bytes]
theorem bytes_eq (a : ByteArray) : (a == a) = true := by simp [beq_bytes]
theorem Known.kbuild0 : SemP PG (Instr.build T_carrackref12_Client #[]) = some (.agg #[.slice none 0 0]) := by kernel_rfl

structure Two (h0 h : PH) (c m : Nat) (l : List Known) (hs : List Int) (FC FR : List Nat) : Prop where
  ext : Ext h0 h
  cl : ClientAt h c l hs FC
  rf : KRefAt h m l FR
  fc : Fresh h0 FC
  fr : Fresh h0 FR
  dis : ∀ b ∈ FC, b ∉ FR
  ok : okH l
theorem Two.step {h0 h h' : PH} {c m : Nat} {l : List Known} {hs : List Int} {FC FR : List Nat} (T : Two h0 h c m l hs FC FR) (u : Ext h h') : Two h0 h' c m l hs FC FR :=
  ⟨T.ext.trans u, T.cl.ext u, T.rf.ext u, T.fc, T.fr, T.dis, T.ok⟩
set_option maxRecDepth 20000 in
theorem ClientPlays_ok {h : PH} {x : Value} {xs : List Known} (hx : SlR h 2 x (xs.map Known.cells)) (hok : okH xs) (q : Int) {k : Value → PH → Prop} (hk : ∀ h', Ext h h' → k (.bool true) h') :
    CallsH PG id_carracklaw12_ClientPlays #[x, .int .u64 q] h k := by
  have lx := hx.len (t' := T_int) T_sl_carrackref12_Known.und
  rw [List.length_map] at lx
  apply carracklaw12_ClientPlays.call
  unfold carracklaw12_ClientPlays
  refine awake12_ok fun h1 u1 => ?_
  simp only [lx, popO_some, bindH_eq, condV_bool, condV_true, condV_false, yV_bool, gopV_tt, gopV_ff, gopV_tf, gopV_ft, pickV_t, pickV_f, pickV_bool, nilS_ptr, add_eq, sub_eq, mul_eq, lss_eq, leq_eq, gtr_eq, geq_eq, not_eq, minI_eq, maxI_eq, extract_0, extract_1, extract_2, eqlI, neqI, makeFunc_eq, decide_true, decide_false, if_true, if_false, Bool.false_eq_true, Bool.not_true, Bool.not_false, reduceIte, List.getElem?_toArray, List.getElem?_cons_zero, List.getElem?_cons_succ, Option.isSome_none, List.length_map]
  by_cases hc : (100 : Int) < xs.length
  · simp only [hc, popO_some, bindH_eq, condV_bool, condV_true, condV_false, yV_bool, gopV_tt, gopV_ff, gopV_tf, gopV_ft, pickV_t, pickV_f, pickV_bool, nilS_ptr, add_eq, sub_eq, mul_eq, lss_eq, leq_eq, gtr_eq, geq_eq, not_eq, minI_eq, maxI_eq, extract_0, extract_1, extract_2, eqlI, neqI, makeFunc_eq, decide_true, decide_false, if_true, if_false, Bool.false_eq_true, Bool.not_true, Bool.not_false, reduceIte, List.getElem?_toArray, List.getElem?_cons_zero, List.getElem?_cons_succ, Option.isSome_none, List.length_map]
    exact hk _ u1
  simp only [hc, popO_some, bindH_eq, condV_bool, condV_true, condV_false, yV_bool, gopV_tt, gopV_ff, gopV_tf, gopV_ft, pickV_t, pickV_f, pickV_bool, nilS_ptr, add_eq, sub_eq, mul_eq, lss_eq, leq_eq, gtr_eq, geq_eq, not_eq, minI_eq, maxI_eq, extract_0, extract_1, extract_2, eqlI, neqI, makeFunc_eq, decide_true, decide_false, if_true, if_false, Bool.false_eq_true, Bool.not_true, Bool.not_false, reduceIte, List.getElem?_toArray, List.getElem?_cons_zero, List.getElem?_cons_succ, Option.isSome_none, List.length_map]
  refine CNew_ok fun c h2 FC hC2 u2 f2 => ?_
  simp only [Known.kbuild0, popO_some, bindH_eq, condV_bool, condV_true, condV_false, yV_bool, gopV_tt, gopV_ff, gopV_tf, gopV_ft, pickV_t, pickV_f, pickV_bool, nilS_ptr, add_eq, sub_eq, mul_eq, lss_eq, leq_eq, gtr_eq, geq_eq, not_eq, minI_eq, maxI_eq, extract_0, extract_1, extract_2, eqlI, neqI, makeFunc_eq, decide_true, decide_false, if_true, if_false, Bool.false_eq_true, Bool.not_true, Bool.not_false, reduceIte, List.getElem?_toArray, List.getElem?_cons_zero, List.getElem?_cons_succ, Option.isSome_none, List.length_map]
  intro m hm
  simp only [eqlPtrNil T_p_client_Client.und, Option.isNone_some, popO_some, bindH_eq, condV_bool, condV_true, condV_false, yV_bool, gopV_tt, gopV_ff, gopV_tf, gopV_ft, pickV_t, pickV_f, pickV_bool, nilS_ptr, add_eq, sub_eq, mul_eq, lss_eq, leq_eq, gtr_eq, geq_eq, not_eq, minI_eq, maxI_eq, extract_0, extract_1, extract_2, eqlI, neqI, makeFunc_eq, decide_true, decide_false, if_true, if_false, Bool.false_eq_true, Bool.not_true, Bool.not_false, reduceIte, List.getElem?_toArray, List.getElem?_cons_zero, List.getElem?_cons_succ, Option.isSome_none, List.length_map]
  have u3 : Ext h2 (h2.set m (.cells #[.slice none 0 0] T_carrackref12_Client)) := Upd.new hm
  have hR3 : KRefAt (h2.set m (.cells #[.slice none 0 0] T_carrackref12_Client)) m [] [m] := ⟨.slice none 0 0, [], set_same, OwnR.nil, rfl, by simp⟩
  have w2 := u1.trans u2
  have T0 : Two h (h2.set m (.cells #[.slice none 0 0] T_carrackref12_Client)) c m [] [] FC [m] :=
    ⟨w2.trans u3, hC2.ext u3, hR3, f2.of u1, (Fresh.one hm).of w2, fun b hb hf => by simp at hf; subst hf; exact hC2.known _ hb hm, by intro y hy; cases hy⟩
  show LoopL _ _ _ (h2.set m (.cells #[.slice none 0 0] T_carrackref12_Client))
  generalize h2.set m (.cells #[.slice none 0 0] T_carrackref12_Client) = h3 at *
  refine ⟨fun vs h' => ∃ (i : Nat) (l : List Known) (hs : List Int) (FC FR : List Nat), i ≤ xs.length ∧ l.length ≤ i ∧ vs = [x, .int .u64 q, .pointer (some ⟨c, 0, none⟩), .pointer (some ⟨m, 0, none⟩), .int .i64 i] ∧ Two h h' c m l hs FC FR, upTo xs.length 4, ⟨0, [], [], FC, [m], by omega, by simp, rfl, T0⟩, ?_⟩
  rintro ρ h' ⟨i, l, hs, FC, FR, hi, hli, hvs, T⟩
  simp only [List.map_cons, List.map_nil, List.cons.injEq, and_true] at hvs
  obtain ⟨e0, e1, e2, e3, e5⟩ := hvs
  rw [e0, e1, e2, e3, e5]
  unfold carracklaw12_ClientPlays_b13
  by_cases hlt : i < xs.length
  · have hd : ((i : Int) < (xs.length : Int)) = True := by apply eq_true; omega
    obtain ⟨y, hy⟩ : ∃ y, xs[i]? = some y := ⟨_, List.getElem?_eq_getElem hlt⟩
    have ei : IntKind.i64.wrap ((i : Int) + 1) = ((i + 1 : Nat) : Int) := by rw [i64_wrap (by omega) (by omega)]; omega
    obtain ⟨b, o, a1, a2, a3, -⟩ := (hx.ext T.ext).kn (k := .i64) hy
    simp only [lx, hd, a1, T_carrackref12_Known.f0, T_carrackref12_Known.f1, T_uint64.load, T_string.load, a2, a3, popO_some, bindH_eq, condV_bool, condV_true, condV_false, yV_bool, gopV_tt, gopV_ff, gopV_tf, gopV_ft, pickV_t, pickV_f, pickV_bool, nilS_ptr, add_eq, sub_eq, mul_eq, lss_eq, leq_eq, gtr_eq, geq_eq, not_eq, minI_eq, maxI_eq, extract_0, extract_1, extract_2, eqlI, neqI, makeFunc_eq, decide_true, decide_false, if_true, if_false, Bool.false_eq_true, Bool.not_true, Bool.not_false, reduceIte, List.getElem?_toArray, List.getElem?_cons_zero, List.getElem?_cons_succ, Option.isSome_none, List.length_map]
    refine Set_ok T.cl y fun h4 hs4 F4 hC4 u4 k4 => ?_
    have w4 := T.ext.fresh u4 T.fc
    have f4 := T.fc.grow T.ext k4
    have hR4 := T.rf.upd u4 (fun b hb hf => T.dis b hf hb)
    obtain ⟨b', o', a1', a2', a3', -⟩ := (hx.ext w4).kn (k := .i64) hy
    rw [a1'] at a1
    simp only [Option.some.injEq, Value.pointer.injEq, Addr.mk.injEq, and_true] at a1
    obtain ⟨rfl, rfl⟩ := a1
    refine ⟨a3', a2', ?_⟩
    refine KSet_ok hR4 (by omega) y fun h5 F5 hR5 u5 k5 => ?_
    have hm5 : ∀ b ∈ [m], b ∈ FR := fun b hb => by
      simp at hb; subst hb
      obtain ⟨_, _, _, _, rfl, _⟩ := T.rf.here; simp
    have u5' : Upd FR h4 h5 := u5.mono fun b hb => .inl (hm5 b hb)
    have d4 : ∀ b ∈ F4, b ∉ FR := fun b hb hf => by
      rcases k4 b hb with h | h
      · exact T.dis b h hf
      · exact T.rf.known b hf h
    have hC5 := hC4.upd u5' d4
    have w5 := w4.fresh u5' T.fr
    have f5 := T.fr.grow w4 k5
    have T5 : Two h h5 c m (setK l y).2 hs4 F4 F5 := ⟨w5, hC5, hR5, f4, f5, fun b hb hf => by
      rcases k5 b hf with h | h
      · exact d4 b hb h
      · exact hC4.known b hb h, T.ok.set (hok _ (List.mem_map_of_mem (List.mem_of_getElem? hy)))⟩
    have hl5 := setK_len l y
    have en : ((setK l y).1 != (setK l y).1) = false := by simp
    simp only [en, popO_some, bindH_eq, condV_bool, condV_true, condV_false, yV_bool, gopV_tt, gopV_ff, gopV_tf, gopV_ft, pickV_t, pickV_f, pickV_bool, nilS_ptr, add_eq, sub_eq, mul_eq, lss_eq, leq_eq, gtr_eq, geq_eq, not_eq, minI_eq, maxI_eq, extract_0, extract_1, extract_2, eqlI, neqI, makeFunc_eq, decide_true, decide_false, if_true, if_false, Bool.false_eq_true, Bool.not_true, Bool.not_false, reduceIte, List.getElem?_toArray, List.getElem?_cons_zero, List.getElem?_cons_succ, Option.isSome_none, List.length_map]
    generalize (setK l y).2 = l5 at *
    refine Root_ok T5.cl q ?_
    simp only [popO_some, bindH_eq, condV_bool, condV_true, condV_false, yV_bool, gopV_tt, gopV_ff, gopV_tf, gopV_ft, pickV_t, pickV_f, pickV_bool, nilS_ptr, add_eq, sub_eq, mul_eq, lss_eq, leq_eq, gtr_eq, geq_eq, not_eq, minI_eq, maxI_eq, extract_0, extract_1, extract_2, eqlI, neqI, makeFunc_eq, decide_true, decide_false, if_true, if_false, Bool.false_eq_true, Bool.not_true, Bool.not_false, reduceIte, List.getElem?_toArray, List.getElem?_cons_zero, List.getElem?_cons_succ, Option.isSome_none, List.length_map]
    refine KRoot_ok T5.rf (by omega) q ?_
    simp only [popO_some, bindH_eq, condV_bool, condV_true, condV_false, yV_bool, gopV_tt, gopV_ff, gopV_tf, gopV_ft, pickV_t, pickV_f, pickV_bool, nilS_ptr, add_eq, sub_eq, mul_eq, lss_eq, leq_eq, gtr_eq, geq_eq, not_eq, minI_eq, maxI_eq, extract_0, extract_1, extract_2, eqlI, neqI, makeFunc_eq, decide_true, decide_false, if_true, if_false, Bool.false_eq_true, Bool.not_true, Bool.not_false, reduceIte, List.getElem?_toArray, List.getElem?_cons_zero, List.getElem?_cons_succ, Option.isSome_none, List.length_map]
    refine From_ok T5.cl q fun h6 u6 => ?_
    have T6 := T5.step u6
    simp only [popO_some, bindH_eq, condV_bool, condV_true, condV_false, yV_bool, gopV_tt, gopV_ff, gopV_tf, gopV_ft, pickV_t, pickV_f, pickV_bool, nilS_ptr, add_eq, sub_eq, mul_eq, lss_eq, leq_eq, gtr_eq, geq_eq, not_eq, minI_eq, maxI_eq, extract_0, extract_1, extract_2, eqlI, neqI, makeFunc_eq, decide_true, decide_false, if_true, if_false, Bool.false_eq_true, Bool.not_true, Bool.not_false, reduceIte, List.getElem?_toArray, List.getElem?_cons_zero, List.getElem?_cons_succ, Option.isSome_none, List.length_map]
    refine KFrom_ok T6.rf (by omega) T6.cl.rank q ?_
    have eb : ∀ b : Bool, (b != b) = false := fun b => by simp
    have ez : ∀ b : Int, (b != b) = false := fun b => by simp
    simp only [neqS, bytes_ne, neqB, eb, ez, popO_some, bindH_eq, condV_bool, condV_true, condV_false, yV_bool, gopV_tt, gopV_ff, gopV_tf, gopV_ft, pickV_t, pickV_f, pickV_bool, nilS_ptr, add_eq, sub_eq, mul_eq, lss_eq, leq_eq, gtr_eq, geq_eq, not_eq, minI_eq, maxI_eq, extract_0, extract_1, extract_2, eqlI, neqI, makeFunc_eq, decide_true, decide_false, if_true, if_false, Bool.false_eq_true, Bool.not_true, Bool.not_false, reduceIte, List.getElem?_toArray, List.getElem?_cons_zero, List.getElem?_cons_succ, Option.isSome_none, List.length_map]
    refine Latest_ok T6.cl ?_
    refine KLatest_ok T6.rf (by omega) T6.cl.rank (fun y hy => (T6.ok y hy).1) ?_
    simp only [ez, popO_some, bindH_eq, condV_bool, condV_true, condV_false, yV_bool, gopV_tt, gopV_ff, gopV_tf, gopV_ft, pickV_t, pickV_f, pickV_bool, nilS_ptr, add_eq, sub_eq, mul_eq, lss_eq, leq_eq, gtr_eq, geq_eq, not_eq, minI_eq, maxI_eq, extract_0, extract_1, extract_2, eqlI, neqI, makeFunc_eq, decide_true, decide_false, if_true, if_false, Bool.false_eq_true, Bool.not_true, Bool.not_false, reduceIte, List.getElem?_toArray, List.getElem?_cons_zero, List.getElem?_cons_succ, Option.isSome_none, List.length_map]
    refine Heights_ok T6.cl fun v7 h7 F7 hO7 u7 f7 => ?_
    have T7 := T6.step u7
    refine KHeights_ok T7.rf (by omega) T7.cl.rank T7.ok fun v8 h8 F8 hO8 u8 f8 => ?_
    have T8 := T7.step u8
    refine numbers_ok (hO7.slR.ext u8) hO8.slR (by have := T7.cl.rank.len; omega) rfl ?_
    simp only [ei, popO_some, bindH_eq, condV_bool, condV_true, condV_false, yV_bool, gopV_tt, gopV_ff, gopV_tf, gopV_ft, pickV_t, pickV_f, pickV_bool, nilS_ptr, add_eq, sub_eq, mul_eq, lss_eq, leq_eq, gtr_eq, geq_eq, not_eq, minI_eq, maxI_eq, extract_0, extract_1, extract_2, eqlI, neqI, makeFunc_eq, decide_true, decide_false, if_true, if_false, Bool.false_eq_true, Bool.not_true, Bool.not_false, reduceIte, List.getElem?_toArray, List.getElem?_cons_zero, List.getElem?_cons_succ, Option.isSome_none, List.length_map]
    exact ⟨⟨i + 1, l5, hs4, F4, F5, by omega, by omega, rfl, T8⟩, by simp [upTo, e5]; omega⟩
  · have hd : ((i : Int) < (xs.length : Int)) = False := by apply eq_false; omega
    simp only [lx, hd, popO_some, bindH_eq, condV_bool, condV_true, condV_false, yV_bool, gopV_tt, gopV_ff, gopV_tf, gopV_ft, pickV_t, pickV_f, pickV_bool, nilS_ptr, add_eq, sub_eq, mul_eq, lss_eq, leq_eq, gtr_eq, geq_eq, not_eq, minI_eq, maxI_eq, extract_0, extract_1, extract_2, eqlI, neqI, makeFunc_eq, decide_true, decide_false, if_true, if_false, Bool.false_eq_true, Bool.not_true, Bool.not_false, reduceIte, List.getElem?_toArray, List.getElem?_cons_zero, List.getElem?_cons_succ, Option.isSome_none, List.length_map]
    exact hk _ T.ext
end Go.Proofs.Ytbloalappckjhaa
