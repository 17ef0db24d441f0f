/- script: the bytes of replies. -/
import Derived.Test.YtflgnfiebgcegaaScrXP
set_option linter.unusedSimpArgs false
set_option linter.unusedVariables false
namespace Go.Proofs.Ytflgnfiebgcegaa
open Go
set_option maxRecDepth 20000
def ccell (x : Int) : List Value := [.int .i64 x]
theorem ccell.rows (l : List Int) : Rows 1 (l.map ccell) := fun r hr => by
  obtain ⟨m, _, rfl⟩ := List.mem_map.1 hr; rfl
abbrev RpV := Rep × Value
def rrow (p : RpV) : List Value := [.int .i64 p.1.err, .int .u64 p.1.seq, .int .i64 p.1.count, p.2]
def RpS (h : PH) (l : List RpV) : Prop := ∀ p ∈ l, SlR h 1 p.2 (p.1.codes.map ccell) ∧ p.1.seq < 18446744073709551616
theorem SlR.code {h : PH} {x : Value} {xs : List Int} (H : SlR h 1 x (xs.map ccell)) {k : IntKind} {j : Nat} {m : Int} (hm : xs[j]? = some m) :
    ∃ a, SemP PG (Instr.indexAt T_sl_api_Errno x (.int k j)) = some (.pointer (some a)) ∧ SemE PG h (Instr.loadAt T_api_Errno (.pointer (some a))) = some (.int .i64 m) :=
  H.loadCell T_sl_api_Errno.und T_api_Errno.info T_api_Errno.size T_api_Errno.und rfl (by omega) (by simp [List.getElem?_map, hm, ccell])
theorem SlR.reply {h : PH} {x : Value} {l : List RpV} (H : SlR h 4 x (l.map rrow)) {k : IntKind} {j : Nat} {p : RpV} (hp : l[j]? = some p) :
    ∃ b o, SemP PG (Instr.indexAt T_sl_api_Reply x (.int k j)) = some (.pointer (some ⟨b, o, none⟩)) ∧ cellH h ⟨b, o, none⟩ = some (.int .i64 p.1.err) ∧ cellH h ⟨b, o + 1, none⟩ = some (.int .u64 p.1.seq) ∧ cellH h ⟨b, o + 2, none⟩ = some (.int .i64 p.1.count) ∧ cellH h ⟨b, o + 3, none⟩ = some p.2 ∧ SemE PG h (Instr.loadAt T_api_Reply (.pointer (some ⟨b, o, none⟩))) = some (.agg (rrow p).toArray) := by
  obtain ⟨b, o, h1, h2, h3⟩ := H.fields T_sl_api_Reply.und T_api_Reply.info T_api_Reply.size (k := k) (j := j) (r := rrow p) (by rw [List.getElem?_map, hp]; rfl)
  exact ⟨b, o, h1, h2 0 _ rfl, h2 1 _ rfl, h2 2 _ rfl, h2 3 _ rfl, h3 _ T_api_Reply.und rfl⟩
theorem wCodes_len : ∀ (l : List Int) (st : Stt), (wCodes l st).2.length ≤ st.2.length + l.length
  | [], st => by simp [wCodes]
  | c :: l, st => by
    have h1 := wCodes_len l (wByte st (c % 256))
    have h2 := wByte_len st (c % 256)
    simp only [wCodes, List.length_cons]; omega
theorem wReps_len : ∀ (l : List Rep) (st : Stt), (wReps l st).2.length ≤ st.2.length + 300 * l.length
  | [], st => by simp [wReps]
  | r :: l, st => by
    have h1 := wReps_len l (wRep r st)
    have a1 := wCodes_len (r.codes.take 255) (wByte (wTwo (wNum (wByte st (r.err % 256)) r.seq) (r.count % 65536)) (min r.codes.length 255 : Nat))
    have a2 := wByte_len (wTwo (wNum (wByte st (r.err % 256)) r.seq) (r.count % 65536)) (min r.codes.length 255 : Nat)
    have a3 := wTwo_len (wNum (wByte st (r.err % 256)) r.seq) (r.count % 65536)
    have a4 := wNum_len (wByte st (r.err % 256)) r.seq
    have a5 := wByte_len st (r.err % 256)
    have a6 : (r.codes.take 255).length ≤ 255 := by rw [List.length_take]; omega
    simp only [wReps, List.length_cons]
    have e : wRep r st = wCodes (r.codes.take 255) (wByte (wTwo (wNum (wByte st (r.err % 256)) r.seq) (r.count % 65536)) (min r.codes.length 255 : Nat)) := rfl
    rw [← e] at a1
    omega
theorem take_255 (l : List Int) : (l.map ccell).take (min l.length 255) = (l.take 255).map ccell := by
  rw [← List.map_take]
  congr 1
  apply List.take_eq_take_iff.2
  omega
set_option maxHeartbeats 4000000 in
theorem SBytes_ok {h : PH} {x : Value} {l : List RpV} (hx : SlR h 4 x (l.map rrow)) (hl : RpS h l) (h40 : l.length ≤ 40) {k : Value → PH → Prop} (hk : ∀ h', Ext h h' → k (.string (tx (repsOut (l.map Prod.fst)))) h') : CallsH PG id_script_Bytes #[x] h k := by
  have lx := hx.len (t' := T_int) T_sl_api_Reply.und
  rw [List.length_map] at lx
  apply script_Bytes.call
  unfold script_Bytes
  intro r1 hr1
  try rw [bindH_eq]
  have S1 : WN h (h.set r1 (.cells (zcells PG T_wire_Writer) T_wire_Writer)) r1 (0, []) [r1] := w_start hr1
  generalize h.set r1 (.cells (zcells PG T_wire_Writer) T_wire_Writer) = h1 at *
  simp only [lx, popO_some, bindH_eq, condV_bool, condV_true, condV_false, yV_bool, gopV_tt, gopV_ff, gopV_tf, gopV_ft, pickV_t, pickV_f, pickV_bool, nilS_ptr, add_eq, sub_eq, mul_eq, lss_eq, leq_eq, gtr_eq, geq_eq, not_eq, minI_eq, maxI_eq, extract_0, extract_1, extract_2, eqlI, neqI, makeFunc_eq, decide_true, decide_false, if_true, if_false, Bool.false_eq_true, Bool.not_true, Bool.not_false, reduceIte, List.getElem?_toArray, List.getElem?_cons_zero, List.getElem?_cons_succ, Option.isSome_none, List.length_map]
  refine ⟨fun vs h' => ∃ (i : Nat) (st : Stt) (F : List Nat), i ≤ l.length ∧ vs = [.pointer (some ⟨r1, 0, none⟩), x, .int .i64 l.length, .int .i64 i] ∧ WN h h' r1 st F ∧ wReps ((l.map Prod.fst).drop i) st = wReps (l.map Prod.fst) (0, []) ∧ st.2.length ≤ 300 * i, upTo l.length 3, ⟨0, _, _, by omega, rfl, S1, rfl, by simp⟩, ?_⟩
  rintro ρ h' ⟨i, st, F, hi, hvs, S, hr, hlen⟩
  simp only [List.map_cons, List.map_nil, List.cons.injEq, and_true] at hvs
  obtain ⟨e3, e11, e12, e13⟩ := hvs
  simp only [e3, e11, e12, e13]
  unfold script_Bytes_b5
  have m8 : ∀ y : Int, SemP PG (binOp .and T_int (.int .i64 y) (.int .i64 255)) = some (.int .i64 (y % 256)) := fun y => and_mask T_int y 8 (by decide)
  have m16 : ∀ y : Int, SemP PG (binOp .and T_int (.int .i64 y) (.int .i64 65535)) = some (.int .i64 (y % 65536)) := fun y => and_mask T_int y 16 (by decide)
  by_cases hlt : i < l.length
  · have hd : ((i : Int) < (l.length : Int)) = True := by apply eq_true; omega
    obtain ⟨p, hp⟩ : ∃ p, l[i]? = some p := ⟨_, List.getElem?_eq_getElem hlt⟩
    obtain ⟨hpv, hps⟩ := hl p (List.mem_of_getElem? hp)
    obtain ⟨b, o, a1, c0, c1, c2, c3, a2⟩ := (hx.ext S.upd).reply (k := .i64) hp
    simp only [hd, a1, a2, popO_some, bindH_eq, condV_bool, condV_true, condV_false, yV_bool, gopV_tt, gopV_ff, gopV_tf, gopV_ft, pickV_t, pickV_f, pickV_bool, nilS_ptr, add_eq, sub_eq, mul_eq, lss_eq, leq_eq, gtr_eq, geq_eq, not_eq, minI_eq, maxI_eq, extract_0, extract_1, extract_2, eqlI, neqI, makeFunc_eq, decide_true, decide_false, if_true, if_false, Bool.false_eq_true, Bool.not_true, Bool.not_false, reduceIte, List.getElem?_toArray, List.getElem?_cons_zero, List.getElem?_cons_succ, Option.isSome_none, List.length_map]
    intro r9 hr9
    try rw [bindH_eq]
    refine store_box set_same T_api_Reply.info (by show 4 = 4; rfl) (by show 0 < 4; decide) (by rw [T_api_Reply.zc]; rfl) (by intro v hv; simp [rrow] at hv; rcases hv with rfl | rfl | rfl | rfl <;> first | rfl | exact hpv.cell) ?_
    rw [set_set_same]
    have S5 : WN h (h'.set r9 (.cells (rrow p).toArray T_api_Reply)) r1 st F := S.new hr9 _
    have b5 : (h'.set r9 (.cells (rrow p).toArray T_api_Reply)) r9 = some (.cells (rrow p).toArray T_api_Reply (0, 0)) := set_same
    have n5 : r9 ∉ F := S.box hr9
    generalize h'.set r9 (.cells (rrow p).toArray T_api_Reply) = h5 at *
    have d0 : cellH h5 ⟨r9, 0, none⟩ = some (.int .i64 p.1.err) := by simp [cellH, b5, rrow]
    simp only [T_api_Reply.f0, Nat.zero_add, T_api_Errno.load, d0, m8, popO_some, bindH_eq, condV_bool, condV_true, condV_false, yV_bool, gopV_tt, gopV_ff, gopV_tf, gopV_ft, pickV_t, pickV_f, pickV_bool, nilS_ptr, add_eq, sub_eq, mul_eq, lss_eq, leq_eq, gtr_eq, geq_eq, not_eq, minI_eq, maxI_eq, extract_0, extract_1, extract_2, eqlI, neqI, makeFunc_eq, decide_true, decide_false, if_true, if_false, Bool.false_eq_true, Bool.not_true, Bool.not_false, reduceIte, List.getElem?_toArray, List.getElem?_cons_zero, List.getElem?_cons_succ, Option.isSome_none, List.length_map]
    refine Byte_w S5 (by omega) _ fun h6 F6 x6 e6 S6 K6 => ?_
    obtain ⟨b6, n6⟩ := K6 _ _ b5 n5
    have l6 := wByte_len st (p.1.err % 256)
    rw [← e6] at l6
    have d1 : cellH h6 ⟨r9, 1, none⟩ = some (.int .u64 p.1.seq) := by simp [cellH, b6, rrow]
    simp only [T_api_Reply.f1, Nat.zero_add, T_uint64.load, d1, popO_some, bindH_eq, condV_bool, condV_true, condV_false, yV_bool, gopV_tt, gopV_ff, gopV_tf, gopV_ft, pickV_t, pickV_f, pickV_bool, nilS_ptr, add_eq, sub_eq, mul_eq, lss_eq, leq_eq, gtr_eq, geq_eq, not_eq, minI_eq, maxI_eq, extract_0, extract_1, extract_2, eqlI, neqI, makeFunc_eq, decide_true, decide_false, if_true, if_false, Bool.false_eq_true, Bool.not_true, Bool.not_false, reduceIte, List.getElem?_toArray, List.getElem?_cons_zero, List.getElem?_cons_succ, Option.isSome_none, List.length_map]
    refine Number_w S6 (by omega) hps fun h7 F7 x7 e7 S7 K7 => ?_
    obtain ⟨b7, n7⟩ := K7 _ _ b6 n6
    have l7 := wNum_len x6 p.1.seq
    rw [← e7] at l7
    have d2 : cellH h7 ⟨r9, 2, none⟩ = some (.int .i64 p.1.count) := by simp [cellH, b7, rrow]
    simp only [T_api_Reply.f2, Nat.zero_add, T_int.load, d2, m16, popO_some, bindH_eq, condV_bool, condV_true, condV_false, yV_bool, gopV_tt, gopV_ff, gopV_tf, gopV_ft, pickV_t, pickV_f, pickV_bool, nilS_ptr, add_eq, sub_eq, mul_eq, lss_eq, leq_eq, gtr_eq, geq_eq, not_eq, minI_eq, maxI_eq, extract_0, extract_1, extract_2, eqlI, neqI, makeFunc_eq, decide_true, decide_false, if_true, if_false, Bool.false_eq_true, Bool.not_true, Bool.not_false, reduceIte, List.getElem?_toArray, List.getElem?_cons_zero, List.getElem?_cons_succ, Option.isSome_none, List.length_map]
    refine two_w S7 (by omega) _ fun h8 F8 x8 e8 S8 K8 => ?_
    obtain ⟨b8, n8⟩ := K8 _ _ b7 n7
    have l8 := wTwo_len x7 (p.1.count % 65536)
    rw [← e8] at l8
    have d3 : cellH h8 ⟨r9, 3, none⟩ = some p.2 := by simp [cellH, b8, rrow]
    have lv := hpv.len (t' := T_int) T_sl_api_Errno.und
    rw [List.length_map] at lv
    have emin : (if (255 : Int) < (p.1.codes.length : Int) then (255 : Int) else (p.1.codes.length : Int)) = ((min p.1.codes.length 255 : Nat) : Int) := by split <;> omega
    simp only [T_api_Reply.f3, Nat.zero_add, T_sl_api_Errno.load, d3, lv, minI_eq, emin, popO_some, bindH_eq, condV_bool, condV_true, condV_false, yV_bool, gopV_tt, gopV_ff, gopV_tf, gopV_ft, pickV_t, pickV_f, pickV_bool, nilS_ptr, add_eq, sub_eq, mul_eq, lss_eq, leq_eq, gtr_eq, geq_eq, not_eq, minI_eq, maxI_eq, extract_0, extract_1, extract_2, eqlI, neqI, makeFunc_eq, decide_true, decide_false, if_true, if_false, Bool.false_eq_true, Bool.not_true, Bool.not_false, reduceIte, List.getElem?_toArray, List.getElem?_cons_zero, List.getElem?_cons_succ, Option.isSome_none, List.length_map]
    refine Byte_w S8 (by omega) _ fun h9 F9 x9 e9 S9 K9 => ?_
    obtain ⟨b9, n9⟩ := K9 _ _ b8 n8
    have l9 := wByte_len x8 (min p.1.codes.length 255 : Nat)
    rw [← e9] at l9
    have d3 : cellH h9 ⟨r9, 3, none⟩ = some p.2 := by simp [cellH, b9, rrow]
    obtain ⟨v', q1, q2, -⟩ := hpv.cut T_sl_api_Errno.und T_api_Errno.info T_api_Errno.size (lo := none) (hi := some (.int .i64 (min p.1.codes.length 255 : Nat))) (.inl ⟨rfl, rfl⟩) (.inr ⟨.i64, rfl⟩) (Nat.zero_le _) (show min p.1.codes.length 255 ≤ _ by rw [List.length_map]; omega)
    rw [List.drop_zero, take_255] at q2
    have lv' := q2.len (t' := T_int) T_sl_api_Errno.und
    rw [List.length_map] at lv'
    simp only [T_api_Reply.f3, Nat.zero_add, T_sl_api_Errno.load, d3, q1, lv', popO_some, bindH_eq, condV_bool, condV_true, condV_false, yV_bool, gopV_tt, gopV_ff, gopV_tf, gopV_ft, pickV_t, pickV_f, pickV_bool, nilS_ptr, add_eq, sub_eq, mul_eq, lss_eq, leq_eq, gtr_eq, geq_eq, not_eq, minI_eq, maxI_eq, extract_0, extract_1, extract_2, eqlI, neqI, makeFunc_eq, decide_true, decide_false, if_true, if_false, Bool.false_eq_true, Bool.not_true, Bool.not_false, reduceIte, List.getElem?_toArray, List.getElem?_cons_zero, List.getElem?_cons_succ, Option.isSome_none, List.length_map]
    have a6 : (p.1.codes.take 255).length ≤ 255 := by rw [List.length_take]; omega
    generalize hcs : p.1.codes.take 255 = cs at *
    refine ⟨fun vs h' => ∃ (j : Nat) (st' : Stt) (F' : List Nat), j ≤ cs.length ∧ vs = [.pointer (some ⟨r1, 0, none⟩), x, .int .i64 l.length, .int .i64 i, v', .int .i64 cs.length, .int .i64 j] ∧ WN h h' r1 st' F' ∧ wCodes (cs.drop j) st' = wRep p.1 st ∧ st'.2.length ≤ 300 * i + 12 + j, upTo cs.length 6, ⟨0, x9, F9, by omega, rfl, S9, by rw [e9, e8, e7, e6, ← hcs]; rfl, by omega⟩, ?_⟩
    rintro ρ' h'' ⟨j, st', F', hj, hvs, S', hst, hlen'⟩
    simp only [List.map_cons, List.map_nil, List.cons.injEq, and_true] at hvs
    obtain ⟨g3, g11, g12, g13, g37, g38, g39⟩ := hvs
    simp only [g3, g11, g12, g13, g37, g38, g39]
    unfold script_Bytes_b38
    by_cases hjt : j < cs.length
    · have hd' : ((j : Int) < (cs.length : Int)) = True := by apply eq_true; omega
      obtain ⟨m, hm⟩ : ∃ m, cs[j]? = some m := ⟨_, List.getElem?_eq_getElem hjt⟩
      obtain ⟨ad, p1, p2⟩ := (q2.ext S'.upd).code (k := .i64) hm
      simp only [hd', p1, p2, m8, popO_some, bindH_eq, condV_bool, condV_true, condV_false, yV_bool, gopV_tt, gopV_ff, gopV_tf, gopV_ft, pickV_t, pickV_f, pickV_bool, nilS_ptr, add_eq, sub_eq, mul_eq, lss_eq, leq_eq, gtr_eq, geq_eq, not_eq, minI_eq, maxI_eq, extract_0, extract_1, extract_2, eqlI, neqI, makeFunc_eq, decide_true, decide_false, if_true, if_false, Bool.false_eq_true, Bool.not_true, Bool.not_false, reduceIte, List.getElem?_toArray, List.getElem?_cons_zero, List.getElem?_cons_succ, Option.isSome_none, List.length_map]
      refine Byte_w S' (by omega) _ fun h10 F10 x10 e10 S10 K10 => ?_
      have l10 := wByte_len st' (m % 256)
      rw [← e10] at l10
      have ei : IntKind.i64.wrap ((j : Int) + 1) = ((j + 1 : Nat) : Int) := by rw [i64_wrap (by omega) (by omega)]; omega
      simp only [ei, popO_some, bindH_eq, condV_bool, condV_true, condV_false, yV_bool, gopV_tt, gopV_ff, gopV_tf, gopV_ft, pickV_t, pickV_f, pickV_bool, nilS_ptr, add_eq, sub_eq, mul_eq, lss_eq, leq_eq, gtr_eq, geq_eq, not_eq, minI_eq, maxI_eq, extract_0, extract_1, extract_2, eqlI, neqI, makeFunc_eq, decide_true, decide_false, if_true, if_false, Bool.false_eq_true, Bool.not_true, Bool.not_false, reduceIte, List.getElem?_toArray, List.getElem?_cons_zero, List.getElem?_cons_succ, Option.isSome_none, List.length_map]
      refine ⟨⟨j + 1, x10, F10, by omega, rfl, S10, ?_, by omega⟩, by simp [upTo, g39]; omega⟩
      rw [← hst, List.drop_eq_getElem_cons hjt, e10]
      have : cs[j] = m := by rw [List.getElem?_eq_getElem hjt] at hm; exact Option.some.inj hm
      rw [this]; rfl
    · have hd' : ((j : Int) < (cs.length : Int)) = False := by apply eq_false; omega
      have hdr : cs.drop j = [] := List.drop_eq_nil_of_le (by omega)
      rw [hdr] at hst
      have hst : st' = wRep p.1 st := hst
      have ei : IntKind.i64.wrap ((i : Int) + 1) = ((i + 1 : Nat) : Int) := by rw [i64_wrap (by omega) (by omega)]; omega
      simp only [hd', ei, popO_some, bindH_eq, condV_bool, condV_true, condV_false, yV_bool, gopV_tt, gopV_ff, gopV_tf, gopV_ft, pickV_t, pickV_f, pickV_bool, nilS_ptr, add_eq, sub_eq, mul_eq, lss_eq, leq_eq, gtr_eq, geq_eq, not_eq, minI_eq, maxI_eq, extract_0, extract_1, extract_2, eqlI, neqI, makeFunc_eq, decide_true, decide_false, if_true, if_false, Bool.false_eq_true, Bool.not_true, Bool.not_false, reduceIte, List.getElem?_toArray, List.getElem?_cons_zero, List.getElem?_cons_succ, Option.isSome_none, List.length_map]
      refine ⟨⟨i + 1, st', F', by omega, rfl, S', ?_, by omega⟩, by simp [upTo, e13]; omega⟩
      have hlt' : i < (l.map Prod.fst).length := by rw [List.length_map]; exact hlt
      rw [← hr, List.drop_eq_getElem_cons hlt', hst]
      have : (l.map Prod.fst)[i] = p.1 := by
        rw [List.getElem_map]
        rw [List.getElem?_eq_getElem hlt] at hp
        rw [Option.some.inj hp]
      rw [this]; rfl
  · have hd : ((i : Int) < (l.length : Int)) = False := by apply eq_false; omega
    have hdr : (l.map Prod.fst).drop i = [] := List.drop_eq_nil_of_le (by rw [List.length_map]; omega)
    rw [hdr] at hr
    have hr : st = wReps (l.map Prod.fst) (0, []) := hr
    have hout := (Writes.reps (l.map Prod.fst)).yes [] trivial
    rw [List.nil_append] at hout
    rw [hout] at hr
    subst hr
    simp only [hd, popO_some, bindH_eq, condV_bool, condV_true, condV_false, yV_bool, gopV_tt, gopV_ff, gopV_tf, gopV_ft, pickV_t, pickV_f, pickV_bool, nilS_ptr, add_eq, sub_eq, mul_eq, lss_eq, leq_eq, gtr_eq, geq_eq, not_eq, minI_eq, maxI_eq, extract_0, extract_1, extract_2, eqlI, neqI, makeFunc_eq, decide_true, decide_false, if_true, if_false, Bool.false_eq_true, Bool.not_true, Bool.not_false, reduceIte, List.getElem?_toArray, List.getElem?_cons_zero, List.getElem?_cons_succ, Option.isSome_none, List.length_map]
    refine Bytes_ok S.at_ fun h8 u8 => ?_
    simp only [popO_some, bindH_eq, condV_bool, condV_true, condV_false, yV_bool, gopV_tt, gopV_ff, gopV_tf, gopV_ft, pickV_t, pickV_f, pickV_bool, nilS_ptr, add_eq, sub_eq, mul_eq, lss_eq, leq_eq, gtr_eq, geq_eq, not_eq, minI_eq, maxI_eq, extract_0, extract_1, extract_2, eqlI, neqI, makeFunc_eq, decide_true, decide_false, if_true, if_false, Bool.false_eq_true, Bool.not_true, Bool.not_false, reduceIte, List.getElem?_toArray, List.getElem?_cons_zero, List.getElem?_cons_succ, Option.isSome_none, List.length_map]
    exact hk h8 (S.upd.fresh u8 (fun b hb => S.fresh b hb))
theorem codesOut_len (l : List Int) : (codesOut l).length = l.length := by
  induction l with
  | nil => rfl
  | cons c l ih =>
    have : codesOut (c :: l) = nb c 1 ++ codesOut l := rfl
    rw [this, List.length_append, ih, nb_len, List.length_cons]; omega
theorem codesOut_take {l : List Int} {i : Nat} {m : Int} (hm : l[i]? = some m) : codesOut (l.take (i + 1)) = codesOut (l.take i) ++ nb m 1 := by
  rw [List.take_add_one, hm]; simp [codesOut]
theorem repsOut_take {l : List RpV} {i : Nat} {p : RpV} (hp : l[i]? = some p) : repsOut ((l.take (i + 1)).map Prod.fst) = repsOut ((l.take i).map Prod.fst) ++ repOut p.1 := by
  rw [List.take_add_one, hp]; simp [repsOut]
theorem repOut_len (r : Rep) : (repOut r).length ≤ 300 := by
  unfold repOut
  simp only [List.length_append, nb_len, be_len, codesOut_len, List.length_take]; omega
set_option maxHeartbeats 4000000 in
theorem RBytes23_ok {h : PH} {x : Value} {l : List RpV} (hx : SlR h 4 x (l.map rrow)) (hl : RpS h l) (h40 : l.length ≤ 40) {k : Value → PH → Prop} (hk : ∀ h', Ext h h' → k (.string (tx (repsOut (l.map Prod.fst)))) h') : CallsH PG id_carrackref23_Bytes #[x] h k := by
  have lx := hx.len (t' := T_int) T_sl_api_Reply.und
  rw [List.length_map] at lx
  apply carrackref23_Bytes.call
  unfold carrackref23_Bytes
  refine ⟨fun vs h' => ∃ i : Nat, i ≤ l.length ∧ vs = [x, .string (tx (repsOut ((l.take i).map Prod.fst))), .int .i64 i] ∧ Ext h h' ∧ (repsOut ((l.take i).map Prod.fst)).length ≤ 300 * i, upTo l.length 2, ⟨0, by omega, rfl, Upd.refl, by simp [repsOut]⟩, ?_⟩
  rintro ρ h' ⟨i, hi, hvs, w, hlen⟩
  simp only [List.map_cons, List.map_nil, List.cons.injEq, and_true] at hvs
  obtain ⟨e0, e3, e4⟩ := hvs
  simp only [e0, e3, e4]
  unfold carrackref23_Bytes_b2
  by_cases hlt : i < l.length
  · have hd : ((i : Int) < (l.length : Int)) = True := by apply eq_true; omega
    obtain ⟨p, hp⟩ : ∃ p, l[i]? = some p := ⟨_, List.getElem?_eq_getElem hlt⟩
    obtain ⟨hpv, hps⟩ := hl p (List.mem_of_getElem? hp)
    obtain ⟨b, o, a1, c0, c1, c2, c3, a2⟩ := (hx.ext w).reply (k := .i64) hp
    have lv := hpv.len (t' := T_int) T_sl_api_Errno.und
    rw [List.length_map] at lv
    simp only [lx, hd, a1, T_api_Reply.f3, T_sl_api_Errno.load, c3, lv, popO_some, bindH_eq, condV_bool, condV_true, condV_false, yV_bool, gopV_tt, gopV_ff, gopV_tf, gopV_ft, pickV_t, pickV_f, pickV_bool, nilS_ptr, add_eq, sub_eq, mul_eq, lss_eq, leq_eq, gtr_eq, geq_eq, not_eq, minI_eq, maxI_eq, extract_0, extract_1, extract_2, eqlI, neqI, makeFunc_eq, decide_true, decide_false, if_true, if_false, Bool.false_eq_true, Bool.not_true, Bool.not_false, reduceIte, List.getElem?_toArray, List.getElem?_cons_zero, List.getElem?_cons_succ, Option.isSome_none, List.length_map]
    have go : ∀ n : Nat, n = min p.1.codes.length 255 → carrackref23_Bytes_k10 k (fun vs' h'_1 => (∃ i : Nat, i ≤ l.length ∧ vs' = [x, .string (tx (repsOut ((l.take i).map Prod.fst))), .int .i64 i] ∧ Ext h h'_1 ∧ (repsOut ((l.take i).map Prod.fst)).length ≤ 300 * i) ∧ upTo l.length 2 vs' h'_1 < upTo l.length 2 (List.map ρ [0, 3, 4]) h') x (.string (tx (repsOut ((l.take i).map Prod.fst)))) (.int .i64 i) (.int .i64 n) h' := by
      intro n hn
      unfold carrackref23_Bytes_k10
      simp only [a1, T_api_Reply.f0, T_api_Reply.f1, T_api_Reply.f2, T_api_Errno.load, T_uint64.load, T_int.load, c0, c1, c2, popO_some, bindH_eq, condV_bool, condV_true, condV_false, yV_bool, gopV_tt, gopV_ff, gopV_tf, gopV_ft, pickV_t, pickV_f, pickV_bool, nilS_ptr, add_eq, sub_eq, mul_eq, lss_eq, leq_eq, gtr_eq, geq_eq, not_eq, minI_eq, maxI_eq, extract_0, extract_1, extract_2, eqlI, neqI, makeFunc_eq, decide_true, decide_false, if_true, if_false, Bool.false_eq_true, Bool.not_true, Bool.not_false, reduceIte, List.getElem?_toArray, List.getElem?_cons_zero, List.getElem?_cons_succ, Option.isSome_none, List.length_map]
      generalize hout : repsOut ((l.take i).map Prod.fst) = out at *
      refine nb1_ok fun h2 u2 => ?_
      obtain ⟨b', o', a1', c0', c1', c2', c3', -⟩ := (hx.ext (w.trans u2)).reply (k := .i64) hp
      rw [a1] at a1'; cases a1'
      refine ⟨by simp only [T_int.load, c2'], by simp only [T_uint64.load, c1'], ?_⟩
      simp only [cat_tx (a := out) (b := nb p.1.err 1) (by omega) (by rw [nb_len]; omega), popO_some, bindH_eq, condV_bool, condV_true, condV_false, yV_bool, gopV_tt, gopV_ff, gopV_tf, gopV_ft, pickV_t, pickV_f, pickV_bool, nilS_ptr, add_eq, sub_eq, mul_eq, lss_eq, leq_eq, gtr_eq, geq_eq, not_eq, minI_eq, maxI_eq, extract_0, extract_1, extract_2, eqlI, neqI, makeFunc_eq, decide_true, decide_false, if_true, if_false, Bool.false_eq_true, Bool.not_true, Bool.not_false, reduceIte, List.getElem?_toArray, List.getElem?_cons_zero, List.getElem?_cons_succ, Option.isSome_none, List.length_map]
      refine be8_ok hps fun h3 u3 => ?_
      obtain ⟨b', o', a1', c0', c1', c2', c3', -⟩ := (hx.ext ((w.trans u2).trans u3)).reply (k := .i64) hp
      rw [a1] at a1'; cases a1'
      refine ⟨by simp only [T_int.load, c2'], ?_⟩
      simp only [cat_tx (a := out ++ nb p.1.err 1) (b := be p.1.seq 8) (by simp only [List.length_append, nb_len]; omega) (by rw [be_len]; omega), popO_some, bindH_eq, condV_bool, condV_true, condV_false, yV_bool, gopV_tt, gopV_ff, gopV_tf, gopV_ft, pickV_t, pickV_f, pickV_bool, nilS_ptr, add_eq, sub_eq, mul_eq, lss_eq, leq_eq, gtr_eq, geq_eq, not_eq, minI_eq, maxI_eq, extract_0, extract_1, extract_2, eqlI, neqI, makeFunc_eq, decide_true, decide_false, if_true, if_false, Bool.false_eq_true, Bool.not_true, Bool.not_false, reduceIte, List.getElem?_toArray, List.getElem?_cons_zero, List.getElem?_cons_succ, Option.isSome_none, List.length_map]
      refine nb2_ok fun h4 u4 => ?_
      simp only [cat_tx (a := out ++ nb p.1.err 1 ++ be p.1.seq 8) (b := nb p.1.count 2) (by simp only [List.length_append, nb_len, be_len]; omega) (by rw [nb_len]; omega), popO_some, bindH_eq, condV_bool, condV_true, condV_false, yV_bool, gopV_tt, gopV_ff, gopV_tf, gopV_ft, pickV_t, pickV_f, pickV_bool, nilS_ptr, add_eq, sub_eq, mul_eq, lss_eq, leq_eq, gtr_eq, geq_eq, not_eq, minI_eq, maxI_eq, extract_0, extract_1, extract_2, eqlI, neqI, makeFunc_eq, decide_true, decide_false, if_true, if_false, Bool.false_eq_true, Bool.not_true, Bool.not_false, reduceIte, List.getElem?_toArray, List.getElem?_cons_zero, List.getElem?_cons_succ, Option.isSome_none, List.length_map]
      refine num_nat (n := n) (c := 1) (by omega) (by decide) fun h5 u5 => ?_
      simp only [cat_tx (a := out ++ nb p.1.err 1 ++ be p.1.seq 8 ++ nb p.1.count 2) (b := be n 1) (by simp only [List.length_append, nb_len, be_len]; omega) (by rw [be_len]; omega), popO_some, bindH_eq, condV_bool, condV_true, condV_false, yV_bool, gopV_tt, gopV_ff, gopV_tf, gopV_ft, pickV_t, pickV_f, pickV_bool, nilS_ptr, add_eq, sub_eq, mul_eq, lss_eq, leq_eq, gtr_eq, geq_eq, not_eq, minI_eq, maxI_eq, extract_0, extract_1, extract_2, eqlI, neqI, makeFunc_eq, decide_true, decide_false, if_true, if_false, Bool.false_eq_true, Bool.not_true, Bool.not_false, reduceIte, List.getElem?_toArray, List.getElem?_cons_zero, List.getElem?_cons_succ, Option.isSome_none, List.length_map]
      have w5 := (((w.trans u2).trans u3).trans u4).trans u5
      generalize hhd : out ++ nb p.1.err 1 ++ be p.1.seq 8 ++ nb p.1.count 2 ++ be n 1 = hdr at *
      have hdl : hdr.length ≤ out.length + 12 := by rw [← hhd]; simp only [List.length_append, nb_len, be_len]; omega
      refine ⟨fun vs h' => ∃ j : Nat, j ≤ n ∧ vs = [x, .string (tx (hdr ++ codesOut (p.1.codes.take j))), .int .i64 i, .int .i64 n, .int .i64 j] ∧ Ext h h', upTo n 4, ⟨0, by omega, by simp [codesOut], w5⟩, ?_⟩
      rintro ρ' h'' ⟨j, hj, hvs, w'⟩
      simp only [List.map_cons, List.map_nil, List.cons.injEq, and_true] at hvs
      obtain ⟨g0, g3, g4, g5, g6⟩ := hvs
      simp only [g0, g3, g4, g5, g6]
      unfold carrackref23_Bytes_b33
      by_cases hjt : j < n
      · have hd' : ((j : Int) < (n : Int)) = True := by apply eq_true; omega
        obtain ⟨m, hm⟩ : ∃ m, p.1.codes[j]? = some m := ⟨_, List.getElem?_eq_getElem (by omega)⟩
        obtain ⟨b', o', a1', c0', c1', c2', c3', -⟩ := (hx.ext w').reply (k := .i64) hp
        rw [a1] at a1'; cases a1'
        obtain ⟨ad, p1, p2⟩ := (hpv.ext w').code (k := .i64) hm
        simp only [hd', a1, T_api_Reply.f3, T_sl_api_Errno.load, c3', p1, p2, popO_some, bindH_eq, condV_bool, condV_true, condV_false, yV_bool, gopV_tt, gopV_ff, gopV_tf, gopV_ft, pickV_t, pickV_f, pickV_bool, nilS_ptr, add_eq, sub_eq, mul_eq, lss_eq, leq_eq, gtr_eq, geq_eq, not_eq, minI_eq, maxI_eq, extract_0, extract_1, extract_2, eqlI, neqI, makeFunc_eq, decide_true, decide_false, if_true, if_false, Bool.false_eq_true, Bool.not_true, Bool.not_false, reduceIte, List.getElem?_toArray, List.getElem?_cons_zero, List.getElem?_cons_succ, Option.isSome_none, List.length_map]
        refine nb1_ok fun h6 u6 => ?_
        have ei : IntKind.i64.wrap ((j : Int) + 1) = ((j + 1 : Nat) : Int) := by rw [i64_wrap (by omega) (by omega)]; omega
        simp only [cat_tx (a := hdr ++ codesOut (p.1.codes.take j)) (b := nb m 1) (by simp only [List.length_append, codesOut_len, List.length_take]; omega) (by rw [nb_len]; omega), ei, popO_some, bindH_eq, condV_bool, condV_true, condV_false, yV_bool, gopV_tt, gopV_ff, gopV_tf, gopV_ft, pickV_t, pickV_f, pickV_bool, nilS_ptr, add_eq, sub_eq, mul_eq, lss_eq, leq_eq, gtr_eq, geq_eq, not_eq, minI_eq, maxI_eq, extract_0, extract_1, extract_2, eqlI, neqI, makeFunc_eq, decide_true, decide_false, if_true, if_false, Bool.false_eq_true, Bool.not_true, Bool.not_false, reduceIte, List.getElem?_toArray, List.getElem?_cons_zero, List.getElem?_cons_succ, Option.isSome_none, List.length_map]
        refine ⟨⟨j + 1, by omega, ?_, w'.trans u6⟩, by simp [upTo, g6]; omega⟩
        rw [codesOut_take hm, List.append_assoc]
      · have hd' : ((j : Int) < (n : Int)) = False := by apply eq_false; omega
        have hjn : j = n := by omega
        have ei : IntKind.i64.wrap ((i : Int) + 1) = ((i + 1 : Nat) : Int) := by rw [i64_wrap (by omega) (by omega)]; omega
        have e : hdr ++ codesOut (p.1.codes.take j) = repsOut ((l.take (i + 1)).map Prod.fst) := by
          have ht : p.1.codes.take j = p.1.codes.take 255 := by
            apply List.take_eq_take_iff.2; omega
          rw [repsOut_take hp, ← hhd, hout, ht, hn]
          simp only [repOut, List.append_assoc]
        simp only [hd', ei, popO_some, bindH_eq, condV_bool, condV_true, condV_false, yV_bool, gopV_tt, gopV_ff, gopV_tf, gopV_ft, pickV_t, pickV_f, pickV_bool, nilS_ptr, add_eq, sub_eq, mul_eq, lss_eq, leq_eq, gtr_eq, geq_eq, not_eq, minI_eq, maxI_eq, extract_0, extract_1, extract_2, eqlI, neqI, makeFunc_eq, decide_true, decide_false, if_true, if_false, Bool.false_eq_true, Bool.not_true, Bool.not_false, reduceIte, List.getElem?_toArray, List.getElem?_cons_zero, List.getElem?_cons_succ, Option.isSome_none, List.length_map]
        refine ⟨⟨i + 1, by omega, by rw [e], w', ?_⟩, by simp [upTo, e4]; omega⟩
        rw [← e, List.length_append, codesOut_len, List.length_take]
        omega
    by_cases hbig : 255 < p.1.codes.length
    · have q : ((255 : Int) < (p.1.codes.length : Int)) = True := by apply eq_true; omega
      simp only [q, popO_some, bindH_eq, condV_bool, condV_true, condV_false, yV_bool, gopV_tt, gopV_ff, gopV_tf, gopV_ft, pickV_t, pickV_f, pickV_bool, nilS_ptr, add_eq, sub_eq, mul_eq, lss_eq, leq_eq, gtr_eq, geq_eq, not_eq, minI_eq, maxI_eq, extract_0, extract_1, extract_2, eqlI, neqI, makeFunc_eq, decide_true, decide_false, if_true, if_false, Bool.false_eq_true, Bool.not_true, Bool.not_false, reduceIte, List.getElem?_toArray, List.getElem?_cons_zero, List.getElem?_cons_succ, Option.isSome_none, List.length_map]
      exact go 255 (by omega)
    · have q : ((255 : Int) < (p.1.codes.length : Int)) = False := by apply eq_false; omega
      simp only [q, popO_some, bindH_eq, condV_bool, condV_true, condV_false, yV_bool, gopV_tt, gopV_ff, gopV_tf, gopV_ft, pickV_t, pickV_f, pickV_bool, nilS_ptr, add_eq, sub_eq, mul_eq, lss_eq, leq_eq, gtr_eq, geq_eq, not_eq, minI_eq, maxI_eq, extract_0, extract_1, extract_2, eqlI, neqI, makeFunc_eq, decide_true, decide_false, if_true, if_false, Bool.false_eq_true, Bool.not_true, Bool.not_false, reduceIte, List.getElem?_toArray, List.getElem?_cons_zero, List.getElem?_cons_succ, Option.isSome_none, List.length_map]
      exact go p.1.codes.length (by omega)
  · have hd : ((i : Int) < (l.length : Int)) = False := by apply eq_false; omega
    have ht : l.take i = l := List.take_of_length_le (by omega)
    simp only [lx, hd, popO_some, bindH_eq, condV_bool, condV_true, condV_false, yV_bool, gopV_tt, gopV_ff, gopV_tf, gopV_ft, pickV_t, pickV_f, pickV_bool, nilS_ptr, add_eq, sub_eq, mul_eq, lss_eq, leq_eq, gtr_eq, geq_eq, not_eq, minI_eq, maxI_eq, extract_0, extract_1, extract_2, eqlI, neqI, makeFunc_eq, decide_true, decide_false, if_true, if_false, Bool.false_eq_true, Bool.not_true, Bool.not_false, reduceIte, List.getElem?_toArray, List.getElem?_cons_zero, List.getElem?_cons_succ, Option.isSome_none, List.length_map]
    rw [ht]
    exact hk _ w
end Go.Proofs.Ytflgnfiebgcegaa
