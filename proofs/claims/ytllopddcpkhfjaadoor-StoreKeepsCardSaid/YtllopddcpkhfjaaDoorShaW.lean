/- sha: more of a text. -/
import Derived.Test.YtllopddcpkhfjaaDoorShaM
import Derived.Test.YtllopddcpkhfjaaDoorBldC
import Derived.Test.YtllopddcpkhfjaaDoorHMake
set_option linter.unusedSimpArgs false
set_option linter.unusedVariables false
namespace Go.Proofs.YtllopddcpkhfjaaDoor
open Go Bld
set_option maxRecDepth 20000
theorem first_str {h : PH} {l : List UInt8} : SemE PG h (Builtin.firstCells 1 l.length (.string (tx l))) = some (l.map fun b => Value.int .u8 b.toNat).toArray := by
  show some (((tx l).extract 0 l.length).data.map fun b => Value.int .u8 b.toNat) = _
  congr 1
  apply Array.ext'
  rw [ByteArray.data_extract]
  simp [tx, List.extract_eq_take_drop]
theorem copy_str {h : PH} {r : Nat} {c : Array Value} {l : List UInt8} (hb : h r = some (.cells c T_uint8 (0, 0))) (hc : c.size = l.length) (hl : l ≠ []) {k : Value → PH → Prop}
    (hk : k (.int .i64 l.length) (h.set r (.cells (l.map fun b => Value.int .u8 b.toNat).toArray T_uint8 (0, 0)))) :
    SemH PG (Builtin.copy_ #[T_sl_uint8, T_string] T_int #[.slice (some ⟨r, 0, none⟩) l.length l.length, .string (tx l)]) h k := by
  have hmin : Nat.min l.length l.length = l.length := Nat.min_self _
  simp only [Builtin.copy_, List.getElem?_toArray, List.getElem?_cons_zero, List.getElem?_cons_succ, semH_und T_sl_uint8.und, sizeOf_bind, semH_info T_uint8.info, pure_bind, Builtin.lenOf, T_uint8.size, tx_size, hmin]
  refine semH_of_semE (s := Builtin.firstCells 1 l.length (.string (tx l))) first_str ?_
  refine SemH.bind (P := PG) (s := storeCells _ _) ?_
  refine semH_storeCells (b := r) (o := 0) (l.map fun b => Value.int .u8 b.toNat) 0 h c hb (by simp [hc]) (fun v hv => by obtain ⟨b, -, rfl⟩ := List.mem_map.1 hv; rfl) ?_
  rw [if_neg (by simpa using hl), writeA_all (by simp [hc])]
  exact hk
theorem Clone_ok {h : PH} {l : List UInt8} (hl : l.length ≤ 1000000000) {k : Value → PH → Prop} (hk : ∀ h', Ext h h' → k (.string (tx l)) h') : CallsH PG id_strings_Clone #[.string (tx l)] h k := by
  apply strings_Clone.call
  unfold strings_Clone
  apply internal_stringslite_Clone.call
  unfold internal_stringslite_Clone
  simp only [T_string.len, tx_size, eqlI, popO_some, bindH_eq, condV_bool, condV_true, condV_false, yV_bool, gopV_tt, gopV_ff, gopV_tf, gopV_ft, pickV_t, pickV_f, pickV_bool, nilS_ptr, add_eq, sub_eq, mul_eq, lss_eq, leq_eq, gtr_eq, geq_eq, not_eq, minI_eq, maxI_eq, extract_0, extract_1, extract_2, eqlI, neqI, makeFunc_eq, decide_true, decide_false, if_true, if_false, Bool.false_eq_true, Bool.not_true, Bool.not_false, reduceIte, List.getElem?_toArray, List.getElem?_cons_zero, List.getElem?_cons_succ, Option.isSome_none, List.length_map]
  by_cases h0 : l = []
  · subst h0
    simp only [List.length_nil, show (((0 : Nat) : Int) == 0) = true from rfl, popO_some, bindH_eq, condV_bool, condV_true, condV_false, yV_bool, gopV_tt, gopV_ff, gopV_tf, gopV_ft, pickV_t, pickV_f, pickV_bool, nilS_ptr, add_eq, sub_eq, mul_eq, lss_eq, leq_eq, gtr_eq, geq_eq, not_eq, minI_eq, maxI_eq, extract_0, extract_1, extract_2, eqlI, neqI, makeFunc_eq, decide_true, decide_false, if_true, if_false, Bool.false_eq_true, Bool.not_true, Bool.not_false, reduceIte, List.getElem?_toArray, List.getElem?_cons_zero, List.getElem?_cons_succ, Option.isSome_none, List.length_map]
    exact hk _ Upd.refl
  · have hpos : l.length ≠ 0 := by simpa using h0
    have e0 : (((l.length : Nat) : Int) == 0) = false := by simpa using h0
    obtain ⟨zs', hm, hz⟩ := makeSlice_eq (P := PG) (n := l.length) T_sl_uint8.und T_uint8.info T_uint8.size T_uint8.bytes T_uint8.zero rfl (by decide) (by omega) hl
    have hsz : zs'.size = l.length := by
      rw [← Array.length_toList, hz]
      simp [Value.cells]
    simp only [e0, hm, popO_some, bindH_eq, condV_bool, condV_true, condV_false, yV_bool, gopV_tt, gopV_ff, gopV_tf, gopV_ft, pickV_t, pickV_f, pickV_bool, nilS_ptr, add_eq, sub_eq, mul_eq, lss_eq, leq_eq, gtr_eq, geq_eq, not_eq, minI_eq, maxI_eq, extract_0, extract_1, extract_2, eqlI, neqI, makeFunc_eq, decide_true, decide_false, if_true, if_false, Bool.false_eq_true, Bool.not_true, Bool.not_false, reduceIte, List.getElem?_toArray, List.getElem?_cons_zero, List.getElem?_cons_succ, Option.isSome_none, List.length_map]
    intro r hr
    refine popO_pure ?_
    try rw [bindH_eq]
    have u1 : Ext h (h.set r (.cells zs' T_uint8 (0, 0))) := Upd.new hr
    have a1 : (h.set r (.cells zs' T_uint8 (0, 0))) r = some (.cells zs' T_uint8 (0, 0)) := set_same
    generalize h.set r (.cells zs' T_uint8 (0, 0)) = h1 at *
    refine copy_str a1 hsz h0 ?_
    have u2 : Ext h (h1.set r (.cells (l.map fun b => Value.int .u8 b.toNat).toArray T_uint8 (0, 0))) := u1.fresh (Upd.set (F := [r]) (by simp)) (Fresh.one hr)
    have a2 : (h1.set r (.cells (l.map fun b => Value.int .u8 b.toNat).toArray T_uint8 (0, 0))) r = some (.cells (l.map fun b => Value.int .u8 b.toNat).toArray T_uint8 (0, 0)) := set_same
    generalize h1.set r (.cells (l.map fun b => Value.int .u8 b.toNat).toArray T_uint8 (0, 0)) = h2 at *
    have ea : SemP PG (Instr.indexAt T_sl_uint8 (.slice (some ⟨r, 0, none⟩) l.length l.length) (.int .i64 0)) = some (.pointer (some ⟨r, 0, none⟩)) := by
      have := indexAt_slice (P := PG) (t := T_sl_uint8) (b := r) (o := 0) (len := l.length) (cap := l.length) (k := .i64) (j := 0) T_sl_uint8.und T_uint8.info T_uint8.size (by decide) (by omega)
      simpa using this
    simp only [ea, T_sl_uint8.len, popO_some, bindH_eq, condV_bool, condV_true, condV_false, yV_bool, gopV_tt, gopV_ff, gopV_tf, gopV_ft, pickV_t, pickV_f, pickV_bool, nilS_ptr, add_eq, sub_eq, mul_eq, lss_eq, leq_eq, gtr_eq, geq_eq, not_eq, minI_eq, maxI_eq, extract_0, extract_1, extract_2, eqlI, neqI, makeFunc_eq, decide_true, decide_false, if_true, if_false, Bool.false_eq_true, Bool.not_true, Bool.not_false, reduceIte, List.getElem?_toArray, List.getElem?_cons_zero, List.getElem?_cons_succ, Option.isSome_none, List.length_map]
    refine unsafeStr a2 (by simp) (by rw [List.toList_toArray]; exact List.take_of_length_le (by simp)) h0 (by unfold maxL; omega) fun h' u => ?_
    exact hk _ (u2.fresh u (Fresh.one hr))
/-! ### a hash -/
def HAt (h : PH) (a : Nat) (s : S8) (r : List UInt8) (n : Nat) : Prop := h a = some (.cells (hcells s (.string (tx r)) (.int .i64 n)) T_sha_Hash (0, 0))
def restLen (a : Nat) : List Value → PH → Nat := fun _ h => match h a with
  | some (Obj.cells c _ _) => match c[8]? with
    | some (Value.string t) => t.size
    | _ => 0
  | _ => 0
theorem HAt.len {h : PH} {a : Nat} {s : S8} {r : List UInt8} {n : Nat} (H : HAt h a s r n) {vs : List Value} : restLen a vs h = r.length := by
  unfold HAt at H
  simp [restLen, H, hcells, tx_size]
theorem KAt.ne {h : PH} (H : KAt h) {a : Nat} {s : S8} {x y : Value} {t : TypeId} (ha : h a = some (.cells (hcells s x y) t (0, 0))) : a ≠ 0 := by
  rintro rfl
  obtain ⟨t, fr, hb⟩ := H
  rw [hb] at ha
  have := congrArg Array.size (Obj.cells.inj (Option.some.inj ha)).1
  rw [List.size_toArray, List.length_map, kT_len] at this
  simp [hcells] at this
theorem KAt.upd {h h' : PH} (H : KAt h) {F : List Nat} (u : Upd F h h') (hF : 0 ∉ F) : KAt h' := by
  obtain ⟨t, fr, hb⟩ := H
  exact ⟨t, fr, u.get hb hF⟩
theorem set9 {s : S8} {x y v : Value} : (hcells s x y).setIfInBounds 9 v = hcells s x v := rfl
theorem set8 {s : S8} {x y v : Value} : (hcells s x y).setIfInBounds 8 v = hcells s v y := rfl
theorem Write_ok {h : PH} {a : Nat} {s : S8} {r p : List UInt8} {n : Nat} (hK : KAt h) (ha : HAt h a s r n) (hl : r.length + p.length ≤ 1000000000) (hn : n + p.length ≤ 1000000000000) {k : Value → PH → Prop}
    (hk : ∀ h', Upd [a] h h' → HAt h' a (absorb s (r ++ p)).1 (absorb s (r ++ p)).2 (n + p.length) → k (.tuple #[]) h') : CallsH PG id_sha_Hash_Write #[.pointer (some ⟨a, 0, none⟩), .string (tx p)] h k := by
  apply sha_Hash_Write.call
  unfold sha_Hash_Write
  have hne := hK.ne ha
  have c9 : cellH h ⟨a, 0 + 9, none⟩ = some (.int .i64 n) := by unfold HAt at ha; simp [cellH, ha, hcells]
  have e1 : IntKind.i64.wrap ((n : Int) + (p.length : Int)) = ((n + p.length : Nat) : Int) := by rw [i64_wrap (by omega) (by omega)]; omega
  simp only [T_sha_Hash.f2, T_int.load, c9, T_string.len, tx_size, e1, popO_some, bindH_eq, condV_bool, condV_true, condV_false, yV_bool, gopV_tt, gopV_ff, gopV_tf, gopV_ft, pickV_t, pickV_f, pickV_bool, nilS_ptr, add_eq, sub_eq, mul_eq, lss_eq, leq_eq, gtr_eq, geq_eq, not_eq, minI_eq, maxI_eq, extract_0, extract_1, extract_2, eqlI, neqI, makeFunc_eq, decide_true, decide_false, if_true, if_false, Bool.false_eq_true, Bool.not_true, Bool.not_false, reduceIte, List.getElem?_toArray, List.getElem?_cons_zero, List.getElem?_cons_succ, Option.isSome_none, List.length_map]
  refine store_cell T_int.und rfl ha (by simp [hcells]) rfl T_int.info T_int.size ?_
  rw [show 0 + 9 = 9 from rfl, set9]
  have u1 : Upd [a] h (h.set a (.cells (hcells s (.string (tx r)) (.int .i64 ((n + p.length : Nat) : Int))) T_sha_Hash (0, 0))) := Upd.set (by simp)
  have a1 : HAt (h.set a (.cells (hcells s (.string (tx r)) (.int .i64 ((n + p.length : Nat) : Int))) T_sha_Hash (0, 0))) a s r (n + p.length) := set_same
  generalize h.set a (.cells (hcells s (.string (tx r)) (.int .i64 ((n + p.length : Nat) : Int))) T_sha_Hash (0, 0)) = h1 at *
  have c8 : cellH h1 ⟨a, 0 + 8, none⟩ = some (.string (tx r)) := by unfold HAt at a1; simp [cellH, a1, hcells]
  simp only [T_sha_Hash.f1, T_string.load, c8, add_tx (show r.length + p.length ≤ 9223372036854775807 by omega), popO_some, bindH_eq, condV_bool, condV_true, condV_false, yV_bool, gopV_tt, gopV_ff, gopV_tf, gopV_ft, pickV_t, pickV_f, pickV_bool, nilS_ptr, add_eq, sub_eq, mul_eq, lss_eq, leq_eq, gtr_eq, geq_eq, not_eq, minI_eq, maxI_eq, extract_0, extract_1, extract_2, eqlI, neqI, makeFunc_eq, decide_true, decide_false, if_true, if_false, Bool.false_eq_true, Bool.not_true, Bool.not_false, reduceIte, List.getElem?_toArray, List.getElem?_cons_zero, List.getElem?_cons_succ, Option.isSome_none, List.length_map]
  refine Clone_ok (by simpa using hl) fun h2 u2 => ?_
  have a2 : HAt h2 a s r (n + p.length) := u2.get a1
  refine store_cell T_string.und rfl a2 (by simp [hcells]) rfl T_string.info T_string.size ?_
  rw [show 0 + 8 = 8 from rfl, set8]
  have u3 : Upd [a] h (h2.set a (.cells (hcells s (.string (tx (r ++ p))) (.int .i64 ((n + p.length : Nat) : Int))) T_sha_Hash (0, 0))) := (u1.trans u2.upd).trans (Upd.set (by simp))
  have a3 : HAt (h2.set a (.cells (hcells s (.string (tx (r ++ p))) (.int .i64 ((n + p.length : Nat) : Int))) T_sha_Hash (0, 0))) a s (r ++ p) (n + p.length) := set_same
  generalize h2.set a (.cells (hcells s (.string (tx (r ++ p))) (.int .i64 ((n + p.length : Nat) : Int))) T_sha_Hash (0, 0)) = h3 at *
  generalize n + p.length = m at *
  have hrl : (r ++ p).length ≤ 1000000000 := by simpa using hl
  generalize hrp : r ++ p = q at *
  refine ⟨fun vs h' => ∃ s' r', vs = [.pointer (some ⟨a, 0, none⟩)] ∧ r'.length ≤ 1000000000 ∧ absorb s' r' = absorb s q ∧ Upd [a] h h' ∧ HAt h' a s' r' m, restLen a, ⟨s, q, rfl, hrl, rfl, u3, a3⟩, ?_⟩
  rintro ρ h' ⟨s', r', hvs, hr', hab, u', a'⟩
  simp only [List.map_cons, List.map_nil, List.cons.injEq, and_true] at hvs
  have hlen := a'.len (vs := [ρ 0])
  simp only [hvs, List.map_cons, List.map_nil] at hlen ⊢
  unfold sha_Hash_Write_b21
  have c8 : cellH h' ⟨a, 0 + 8, none⟩ = some (.string (tx r')) := by unfold HAt at a'; simp [cellH, a', hcells]
  simp only [T_sha_Hash.f1, T_string.load, c8, T_string.len, tx_size, popO_some, bindH_eq, condV_bool, condV_true, condV_false, yV_bool, gopV_tt, gopV_ff, gopV_tf, gopV_ft, pickV_t, pickV_f, pickV_bool, nilS_ptr, add_eq, sub_eq, mul_eq, lss_eq, leq_eq, gtr_eq, geq_eq, not_eq, minI_eq, maxI_eq, extract_0, extract_1, extract_2, eqlI, neqI, makeFunc_eq, decide_true, decide_false, if_true, if_false, Bool.false_eq_true, Bool.not_true, Bool.not_false, reduceIte, List.getElem?_toArray, List.getElem?_cons_zero, List.getElem?_cons_succ, Option.isSome_none, List.length_map]
  by_cases h64 : 64 ≤ r'.length
  · have e2 : ((64 : Int) ≤ (r'.length : Int)) = True := eq_true (by omega)
    have ec : SemP PG (Instr.sliceAt T_string (.string (tx r')) none (some (.int .i64 64)) none) = some (.string (tx (r'.take 64))) := cut_tx (i := 0) (j := 64) T_string.und (.inl ⟨rfl, rfl⟩) (.inr ⟨_, rfl⟩) (by omega) h64
    have ed : SemP PG (Instr.sliceAt T_string (.string (tx r')) (some (.int .i64 64)) none none) = some (.string (tx (r'.drop 64))) := by
      have := cut_tx (P := PG) (t := T_string) (l := r') (i := 64) (j := r'.length) (lo := some (.int .i64 64)) T_string.und (.inr ⟨_, rfl⟩) (.inl ⟨rfl, rfl⟩) h64 (Nat.le_refl _)
      rw [List.take_length] at this
      exact this
    simp only [e2, T_sha_Hash.f0, ec, popO_some, bindH_eq, condV_bool, condV_true, condV_false, yV_bool, gopV_tt, gopV_ff, gopV_tf, gopV_ft, pickV_t, pickV_f, pickV_bool, nilS_ptr, add_eq, sub_eq, mul_eq, lss_eq, leq_eq, gtr_eq, geq_eq, not_eq, minI_eq, maxI_eq, extract_0, extract_1, extract_2, eqlI, neqI, makeFunc_eq, decide_true, decide_false, if_true, if_false, Bool.false_eq_true, Bool.not_true, Bool.not_false, reduceIte, List.getElem?_toArray, List.getElem?_cons_zero, List.getElem?_cons_succ, Option.isSome_none, List.length_map]
    refine mix_ok (hK.upd u' (by simpa using fun h => hne h.symm)) (by simp; omega) a' fun h4 u4 a4 => ?_
    have c8' : cellH h4 ⟨a, 0 + 8, none⟩ = some (.string (tx r')) := by simp [cellH, a4, hcells]
    simp only [T_sha_Hash.f1, T_string.load, c8', ed, popO_some, bindH_eq, condV_bool, condV_true, condV_false, yV_bool, gopV_tt, gopV_ff, gopV_tf, gopV_ft, pickV_t, pickV_f, pickV_bool, nilS_ptr, add_eq, sub_eq, mul_eq, lss_eq, leq_eq, gtr_eq, geq_eq, not_eq, minI_eq, maxI_eq, extract_0, extract_1, extract_2, eqlI, neqI, makeFunc_eq, decide_true, decide_false, if_true, if_false, Bool.false_eq_true, Bool.not_true, Bool.not_false, reduceIte, List.getElem?_toArray, List.getElem?_cons_zero, List.getElem?_cons_succ, Option.isSome_none, List.length_map]
    refine store_cell T_string.und rfl a4 (by simp [hcells]) rfl T_string.info T_string.size ?_
    rw [show 0 + 8 = 8 from rfl, set8]
    have a5 : HAt (h4.set a (.cells (hcells (mixP s' (r'.take 64)) (.string (tx (r'.drop 64))) (.int .i64 (m : Int))) T_sha_Hash (0, 0))) a (mixP s' (r'.take 64)) (r'.drop 64) m := set_same
    refine ⟨⟨_, _, (by trivial), (by simp; omega), by rw [← absorb_ge h64]; exact hab, (u'.trans u4).trans (Upd.set (by simp)), a5⟩, ?_⟩
    rw [a5.len, hlen]
    simp
    omega
  · have e2 : ((64 : Int) ≤ (r'.length : Int)) = False := eq_false (by omega)
    simp only [e2, popO_some, bindH_eq, condV_bool, condV_true, condV_false, yV_bool, gopV_tt, gopV_ff, gopV_tf, gopV_ft, pickV_t, pickV_f, pickV_bool, nilS_ptr, add_eq, sub_eq, mul_eq, lss_eq, leq_eq, gtr_eq, geq_eq, not_eq, minI_eq, maxI_eq, extract_0, extract_1, extract_2, eqlI, neqI, makeFunc_eq, decide_true, decide_false, if_true, if_false, Bool.false_eq_true, Bool.not_true, Bool.not_false, reduceIte, List.getElem?_toArray, List.getElem?_cons_zero, List.getElem?_cons_succ, Option.isSome_none, List.length_map]
    refine hk _ u' ?_
    rw [← hab, absorb_lt (by omega)]
    exact a'
end Go.Proofs.YtllopddcpkhfjaaDoor
