/- model: entries; whether they step, how many, which are open. -/
import Derived.Test.YtbloalappckjhaaDoorModC
set_option linter.unusedSimpArgs false
set_option linter.unusedVariables false
namespace Go.Proofs.YtbloalappckjhaaDoor
open Go
structure Pkt where
  pfrom : Int
  pseq : Int
  ptimeout : Int
  pdata : ByteArray
  deriving DecidableEq
def Pkt.cells (m : Pkt) : List Value := [.int .i64 m.pfrom, .int .u64 m.pseq, .int .u64 m.ptimeout, .string m.pdata]
theorem Pkt.rows (l : List Pkt) : Rows 4 (l.map Pkt.cells) := fun r hr => by
  obtain ⟨m, _, rfl⟩ := List.mem_map.1 hr; rfl
theorem Pkt.isCell (l : List Pkt) : ∀ r ∈ l.map Pkt.cells, ∀ u ∈ r, isCell u = true := fun r hr u hu => by
  obtain ⟨m, _, rfl⟩ := List.mem_map.1 hr
  simp only [Pkt.cells, List.mem_cons, List.not_mem_nil, or_false] at hu
  rcases hu with rfl | rfl | rfl | rfl <;> rfl
structure Ent where
  pkt : Pkt
  state : Int
  deriving DecidableEq
def Ent.cells (m : Ent) : List Value := [.int .i64 m.pkt.pfrom, .int .u64 m.pkt.pseq, .int .u64 m.pkt.ptimeout, .string m.pkt.pdata, .int .i64 m.state]
theorem Ent.rows (l : List Ent) : Rows 5 (l.map Ent.cells) := fun r hr => by
  obtain ⟨m, _, rfl⟩ := List.mem_map.1 hr; rfl
theorem Ent.isCell (l : List Ent) : ∀ r ∈ l.map Ent.cells, ∀ u ∈ r, isCell u = true := fun r hr u hu => by
  obtain ⟨m, _, rfl⟩ := List.mem_map.1 hr
  simp only [Ent.cells, List.mem_cons, List.not_mem_nil, or_false] at hu
  rcases hu with rfl | rfl | rfl | rfl | rfl <;> rfl
theorem Ent.allCell (m : Ent) : ∀ v ∈ m.cells.toArray.toList, Go.Proofs.YtbloalappckjhaaDoor.isCell v = true := fun v hv => by
  simp only [Ent.cells, List.mem_cons, List.not_mem_nil, or_false] at hv
  rcases hv with rfl | rfl | rfl | rfl | rfl <;> rfl
theorem Pkt.eqIn {h : PH} {d : Nat} (m m' : Pkt) : SemE PG h (Op.equalIn (d + 1 + 1) T_api_Packet (.agg m.cells.toArray) (.agg m'.cells.toArray)) = some (decide (m = m')) := by
  have hp : SemE PG h (Op.equalIn (d + 1 + 1) T_api_Packet (.agg m.cells.toArray) (.agg m'.cells.toArray)) =
      some (m.pfrom == m'.pfrom && (m.pseq == m'.pseq && (m.ptimeout == m'.ptimeout && (m.pdata == m'.pdata && true)))) := by
    refine (eqIn_struct T_api_Packet.und (by kernel_rfl) (fun f => match f.offset with | 0 => m.pfrom == m'.pfrom | 1 => m.pseq == m'.pseq | 2 => m.ptimeout == m'.ptimeout | _ => m.pdata == m'.pdata) ?_)
    intro f hf
    simp only [List.mem_cons, List.not_mem_nil, or_false] at hf
    rcases hf with rfl | rfl | rfl | rfl
    · exact ⟨by decide, _, _, part_cell T_int.und rfl rfl, part_cell T_int.und rfl rfl, eqIn_int T_int.und⟩
    · exact ⟨by decide, _, _, part_cell T_uint64.und rfl rfl, part_cell T_uint64.und rfl rfl, eqIn_int T_uint64.und⟩
    · exact ⟨by decide, _, _, part_cell T_uint64.und rfl rfl, part_cell T_uint64.und rfl rfl, eqIn_int T_uint64.und⟩
    · exact ⟨by decide, _, _, part_cell T_string.und rfl rfl, part_cell T_string.und rfl rfl, eqIn_string T_string.und⟩
  rw [hp]
  congr 1
  simp only [beq_bytes]
  rw [Bool.eq_iff_iff]
  cases m; cases m'
  simp [Pkt.mk.injEq]
theorem Pkt.neq {h : PH} {x y : Operand} (m m' : Pkt) : SemE PG h (binS .neq T_api_Packet x y (.agg m.cells.toArray) (.agg m'.cells.toArray)) = some (.bool (!decide (m = m'))) := neqStruct (by kernel_rfl) (Pkt.eqIn (d := 9998) m m')
def Pkt.key (m : Pkt) : Value := .agg m.cells.toArray
theorem Pkt.keyed : Keyed PG T_api_Packet Pkt.key where
  chk := fun h b a => by unfold Pkt.key Pkt.cells; cases b <;> kernel_rfl
  eq := fun h a b => Pkt.eqIn (d := 9998) a b
  bits := fun a => by
    show Instr.sameBits (9999 + 1) (.agg a.cells.toArray) (.agg a.cells.toArray) = true
    simp [Instr.sameBits, Pkt.cells, beq_bytes]
  now := ⟨_, T_api_Packet.und, .inl fun a b => rfl⟩

/-! ### plain -/
def firstE (l : List Ent) (p : Pkt) : Option Int := (l.find? fun e => decide (e.pkt = p)).map Ent.state
def stepL (was now : List Ent) : Bool := was.all fun e => match firstE now e.pkt with
  | none => false
  | some s => reach e.state s
def openE (e : Ent) : Bool := e.state == 1 || e.state == 2
def openL (l : List Ent) : List Pkt := (l.filter openE).map Ent.pkt
def cntL (l : List Ent) (s : Int) : Nat := (l.filter fun e => e.state == s).length

/-! ### rules -/
theorem SlR.ent {h : PH} {x : Value} {xs : List Ent} (H : SlR h 5 x (xs.map Ent.cells)) {k : IntKind} {j : Nat} {m : Ent} (hm : xs[j]? = some m) :
    ∃ a, SemP PG (Instr.indexAt T_sl_model_Entry x (.int k j)) = some (.pointer (some a)) ∧ SemE PG h (Instr.loadAt T_model_Entry (.pointer (some a))) = some (.agg m.cells.toArray) :=
  H.loadAgg T_sl_model_Entry.und T_model_Entry.info T_model_Entry.size T_model_Entry.und rfl (by omega) (by rw [List.getElem?_map, Int.toNat_natCast, hm]; rfl)
/-- An entry in a box of its own. -/
structure EBox (h : PH) (r : Nat) (m : Ent) : Prop where
  here : ∃ e, h r = some (.cells m.cells.toArray e (0, 0))
theorem EBox.ext {h h' : PH} {r : Nat} {m : Ent} (H : EBox h r m) (u : Ext h h') : EBox h' r m := by
  obtain ⟨e, h1⟩ := H; exact ⟨e, u.get h1⟩
theorem EBox.state {h : PH} {r : Nat} {m : Ent} (H : EBox h r m) : cellH h ⟨r, 4, none⟩ = some (.int .i64 m.state) := by
  obtain ⟨e, h1⟩ := H; simp [cellH, h1, Ent.cells]
theorem EBox.pkt {h : PH} {r : Nat} {m : Ent} (H : EBox h r m) : SemE PG h (Instr.loadAt T_api_Packet (.pointer (some ⟨r, 0, none⟩))) = some (.agg m.pkt.cells.toArray) := by
  obtain ⟨e, h1⟩ := H
  rw [T_api_Packet.loadAgg h1 (by show 0 + 4 ≤ 5; decide)]
  rfl
theorem put_box {h : PH} {r : Nat} (hr : h r = none) (m : Ent) {k : Value → PH → Prop} (hk : ∀ h', EBox h' r m → Ext h h' → k undef h') :
    SemH PG (storeS T_model_Entry (.pointer (some ⟨r, 0, none⟩)) (.agg m.cells.toArray)) (h.set r (.cells (zcells PG T_model_Entry) T_model_Entry)) k := by
  refine store_box set_same T_model_Entry.info (by show 5 = 5; rfl) (by show 0 < 5; decide) (by rw [T_model_Entry.zc]; rfl) m.allCell ?_
  rw [set_set_same]
  exact hk _ ⟨_, set_same⟩ (Upd.new hr)
theorem ContainsE_ok {h : PH} {x fv : Value} {xs : List Ent} {f : Ent → Bool} (hx : SlR h 5 x (xs.map Ent.cells)) (hl : xs.length ≤ 1000000)
    (hf : ∀ p ∈ xs, ∀ h', Ext h h' → ∀ k' : Value → PH → Prop, (∀ h'', Ext h' h'' → k' (.bool (f p)) h'') → callC PG fv #[.agg p.cells.toArray] h' k') {k : Value → PH → Prop}
    (hk : ∀ h', Ext h h' → k (.bool (xs.any f)) h') : CallsH PG id_slices_ContainsFunc_sl_model_Entry_model_Entry #[x, fv] h k := by
  have lx := hx.len (t' := T_int) T_sl_model_Entry.und
  rw [List.length_map] at lx
  apply slices_ContainsFunc_sl_model_Entry_model_Entry.call
  unfold slices_ContainsFunc_sl_model_Entry_model_Entry
  apply slices_IndexFunc_sl_model_Entry_model_Entry.call
  unfold slices_IndexFunc_sl_model_Entry_model_Entry
  simp only [lx, popO_some, bindH_eq, condV_bool, condV_true, condV_false, yV_bool, gopV_tt, gopV_ff, gopV_tf, gopV_ft, pickV_t, pickV_f, pickV_bool, nilS_ptr, add_eq, sub_eq, mul_eq, lss_eq, leq_eq, gtr_eq, geq_eq, not_eq, minI_eq, maxI_eq, extract_0, extract_1, extract_2, eqlI, neqI, makeFunc_eq, decide_true, decide_false, if_true, if_false, Bool.false_eq_true, Bool.not_true, Bool.not_false, reduceIte, List.getElem?_toArray, List.getElem?_cons_zero, List.getElem?_cons_succ, Option.isSome_none, List.length_map]
  refine ⟨fun vs h' => ∃ i : Nat, i ≤ xs.length ∧ vs = [x, fv, .int .i64 xs.length, .int .i64 i] ∧ Ext h h' ∧ ∀ p ∈ xs.take i, f p = false, upTo xs.length 3, ⟨0, by omega, rfl, Upd.refl, by simp⟩, ?_⟩
  rintro ρ h' ⟨i, hi, hvs, w, hq⟩
  simp only [List.map_cons, List.map_nil, List.cons.injEq, and_true] at hvs
  obtain ⟨e0, e1, e2, e5⟩ := hvs
  rw [e0, e1, e2, e5]
  unfold slices_IndexFunc_sl_model_Entry_model_Entry_b3
  by_cases hlt : i < xs.length
  · have hd : ((i : Int) < (xs.length : Int)) = True := by apply eq_true; omega
    obtain ⟨m, hm⟩ : ∃ m, xs[i]? = some m := ⟨_, List.getElem?_eq_getElem hlt⟩
    obtain ⟨a, a1, a2⟩ := (hx.ext w).ent (k := .i64) hm
    have ei : IntKind.i64.wrap ((i : Int) + 1) = ((i + 1 : Nat) : Int) := by rw [i64_wrap (by omega) (by omega)]; omega
    simp only [hd, a1, a2, popO_some, bindH_eq, condV_bool, condV_true, condV_false, yV_bool, gopV_tt, gopV_ff, gopV_tf, gopV_ft, pickV_t, pickV_f, pickV_bool, nilS_ptr, add_eq, sub_eq, mul_eq, lss_eq, leq_eq, gtr_eq, geq_eq, not_eq, minI_eq, maxI_eq, extract_0, extract_1, extract_2, eqlI, neqI, makeFunc_eq, decide_true, decide_false, if_true, if_false, Bool.false_eq_true, Bool.not_true, Bool.not_false, reduceIte, List.getElem?_toArray, List.getElem?_cons_zero, List.getElem?_cons_succ, Option.isSome_none, List.length_map]
    refine hf m (List.mem_of_getElem? hm) _ w _ fun h2 u2 => ?_
    cases c : f m with
    | true =>
      have h0 : (0 ≤ (i : Int)) = True := by apply eq_true; omega
      have hin : xs.any f = true := List.any_eq_true.2 ⟨m, List.mem_of_getElem? hm, c⟩
      have := hk _ (w.trans u2)
      rw [hin] at this
      simp only [h0, popO_some, bindH_eq, condV_bool, condV_true, condV_false, yV_bool, gopV_tt, gopV_ff, gopV_tf, gopV_ft, pickV_t, pickV_f, pickV_bool, nilS_ptr, add_eq, sub_eq, mul_eq, lss_eq, leq_eq, gtr_eq, geq_eq, not_eq, minI_eq, maxI_eq, extract_0, extract_1, extract_2, eqlI, neqI, makeFunc_eq, decide_true, decide_false, if_true, if_false, Bool.false_eq_true, Bool.not_true, Bool.not_false, reduceIte, List.getElem?_toArray, List.getElem?_cons_zero, List.getElem?_cons_succ, Option.isSome_none, List.length_map]
      exact this
    | false =>
      simp only [ei, popO_some, bindH_eq, condV_bool, condV_true, condV_false, yV_bool, gopV_tt, gopV_ff, gopV_tf, gopV_ft, pickV_t, pickV_f, pickV_bool, nilS_ptr, add_eq, sub_eq, mul_eq, lss_eq, leq_eq, gtr_eq, geq_eq, not_eq, minI_eq, maxI_eq, extract_0, extract_1, extract_2, eqlI, neqI, makeFunc_eq, decide_true, decide_false, if_true, if_false, Bool.false_eq_true, Bool.not_true, Bool.not_false, reduceIte, List.getElem?_toArray, List.getElem?_cons_zero, List.getElem?_cons_succ, Option.isSome_none, List.length_map]
      refine ⟨⟨i + 1, by omega, rfl, w.trans u2, ?_⟩, by simp [upTo, e5]; omega⟩
      intro p hp
      rw [List.take_add_one, hm] at hp
      rcases List.mem_append.1 hp with hp | hp
      · exact hq p hp
      · simp at hp; subst hp; exact c
  · have hd : ((i : Int) < (xs.length : Int)) = False := by apply eq_false; omega
    have h0 : (0 ≤ (-1 : Int)) = False := by apply eq_false; omega
    rw [List.take_of_length_le (by omega)] at hq
    have hin : xs.any f = false := by
      rw [List.any_eq_false]
      intro p hp
      simp [hq p hp]
    have := hk _ w
    rw [hin] at this
    simp only [hd, h0, popO_some, bindH_eq, condV_bool, condV_true, condV_false, yV_bool, gopV_tt, gopV_ff, gopV_tf, gopV_ft, pickV_t, pickV_f, pickV_bool, nilS_ptr, add_eq, sub_eq, mul_eq, lss_eq, leq_eq, gtr_eq, geq_eq, not_eq, minI_eq, maxI_eq, extract_0, extract_1, extract_2, eqlI, neqI, makeFunc_eq, decide_true, decide_false, if_true, if_false, Bool.false_eq_true, Bool.not_true, Bool.not_false, reduceIte, List.getElem?_toArray, List.getElem?_cons_zero, List.getElem?_cons_succ, Option.isSome_none, List.length_map]
    exact this
theorem firstE_take {l : List Ent} {i : Nat} {m : Ent} (hm : l[i]? = some m) (p : Pkt) : firstE (l.take (i + 1)) p = match firstE (l.take i) p with | some s => some s | none => if m.pkt = p then some m.state else none := by
  unfold firstE
  rw [List.take_add_one, hm, List.find?_append]
  cases hf : (l.take i).find? fun e => decide (e.pkt = p) with
  | some x => simp
  | none =>
    by_cases c : m.pkt = p
    · simp [c]
    · simp [c]
theorem look_p {h : PH} {r : Nat} {M : List (Pkt × Value)} (H : MapAt Pkt.key h r M) (p : Pkt) : SemE PG h (Instr.lookup T_map_api_Packet_int (.map (some r)) (.agg p.cells.toArray) true) = some (.tuple #[(getM M p).getD (.int .i64 0), .bool (getM M p).isSome]) :=
  look_found Pkt.keyed T_map_api_Packet_int.und T_int.info T_int.zero H p true
set_option maxRecDepth 20000 in
theorem Step_ok {h : PH} (hF : Fol h) {x y : Value} {was now : List Ent} (hx : SlR h 5 x (was.map Ent.cells)) (hy : SlR h 5 y (now.map Ent.cells)) (hl : was.length ≤ 1000000) (hl2 : now.length ≤ 1000000) {k : Value → PH → Prop}
    (hk : ∀ h', Ext h h' → k (.bool (stepL was now)) h') : CallsH PG id_model_Step #[x, y] h k := by
  have ly := hy.len (t' := T_int) T_sl_model_Entry.und
  rw [List.length_map] at ly
  apply model_Step.call
  unfold model_Step
  simp only [makeMap_eq, popO_some, bindH_eq, condV_bool, condV_true, condV_false, yV_bool, gopV_tt, gopV_ff, gopV_tf, gopV_ft, pickV_t, pickV_f, pickV_bool, nilS_ptr, add_eq, sub_eq, mul_eq, lss_eq, leq_eq, gtr_eq, geq_eq, not_eq, minI_eq, maxI_eq, extract_0, extract_1, extract_2, eqlI, neqI, makeFunc_eq, decide_true, decide_false, if_true, if_false, Bool.false_eq_true, Bool.not_true, Bool.not_false, reduceIte, List.getElem?_toArray, List.getElem?_cons_zero, List.getElem?_cons_succ, Option.isSome_none, List.length_map]
  intro r1 hr1
  refine popO_pure ?_
  intro r5 hr5
  have u1 : Ext h (h.set r1 (.map #[] 0)) := Upd.new hr1
  have hM : MapAt Pkt.key (h.set r1 (.map #[] 0)) r1 [] := MapAt.new
  generalize h.set r1 (.map #[] 0) = h1 at *
  have hne : r1 ≠ r5 := fun e => by subst e; exact hM.known hr5
  have u2 : Ext h1 (h1.set r5 (.cells #[.map (some r1)] T_map_api_Packet_int)) := Upd.new hr5
  have b2 : (h1.set r5 (.cells #[.map (some r1)] T_map_api_Packet_int)) r5 = some (.cells #[.map (some r1)] T_map_api_Packet_int) := set_same
  refine store_cell T_map_api_Packet_int.und rfl set_same (by rw [T_map_api_Packet_int.zc]; decide) rfl T_map_api_Packet_int.info T_map_api_Packet_int.size ?_
  rw [set_set_same]
  have ez : (zcells PG T_map_api_Packet_int).setIfInBounds 0 (.map (some r1)) = #[.map (some r1)] := by rw [T_map_api_Packet_int.zc]; rfl
  rw [ez]
  have hM2 := hM.ext u2
  have fr1 : h r1 = none := hr1
  simp only [ly, popO_some, bindH_eq, condV_bool, condV_true, condV_false, yV_bool, gopV_tt, gopV_ff, gopV_tf, gopV_ft, pickV_t, pickV_f, pickV_bool, nilS_ptr, add_eq, sub_eq, mul_eq, lss_eq, leq_eq, gtr_eq, geq_eq, not_eq, minI_eq, maxI_eq, extract_0, extract_1, extract_2, eqlI, neqI, makeFunc_eq, decide_true, decide_false, if_true, if_false, Bool.false_eq_true, Bool.not_true, Bool.not_false, reduceIte, List.getElem?_toArray, List.getElem?_cons_zero, List.getElem?_cons_succ, Option.isSome_none, List.length_map]
  show LoopL _ _ _ (h1.set r5 (.cells #[.map (some r1)] T_map_api_Packet_int))
  generalize h1.set r5 (.cells #[.map (some r1)] T_map_api_Packet_int) = h2 at *
  have w := u1.trans u2
  refine ⟨fun vs h' => ∃ (i : Nat) (M : List (Pkt × Value)), i ≤ now.length ∧ vs = [x, .pointer (some ⟨r5, 0, none⟩), y, .int .i64 now.length, .int .i64 i] ∧ Ext h h' ∧ MapAt Pkt.key h' r1 M ∧ h' r5 = some (.cells #[.map (some r1)] T_map_api_Packet_int) ∧ (∀ p, getM M p = (firstE (now.take i) p).map (.int .i64)), upTo now.length 4, ⟨0, [], by omega, rfl, w, hM2, b2, fun p => rfl⟩, ?_⟩
  rintro ρ h' ⟨i, M, hi, hvs, w, hM', hb, hg⟩
  simp only [List.map_cons, List.map_nil, List.cons.injEq, and_true] at hvs
  obtain ⟨e0, e1, e2, e3, e5⟩ := hvs
  rw [e0, e1, e2, e3, e5]
  unfold model_Step_b11
  by_cases hlt : i < now.length
  · have hd : ((i : Int) < (now.length : Int)) = True := by apply eq_true; omega
    obtain ⟨m, hm⟩ : ∃ m, now[i]? = some m := ⟨_, List.getElem?_eq_getElem hlt⟩
    obtain ⟨a, a1, a2⟩ := (hy.ext w).ent (k := .i64) hm
    have ei : IntKind.i64.wrap ((i : Int) + 1) = ((i + 1 : Nat) : Int) := by rw [i64_wrap (by omega) (by omega)]; omega
    simp only [hd, a1, a2, popO_some, bindH_eq, condV_bool, condV_true, condV_false, yV_bool, gopV_tt, gopV_ff, gopV_tf, gopV_ft, pickV_t, pickV_f, pickV_bool, nilS_ptr, add_eq, sub_eq, mul_eq, lss_eq, leq_eq, gtr_eq, geq_eq, not_eq, minI_eq, maxI_eq, extract_0, extract_1, extract_2, eqlI, neqI, makeFunc_eq, decide_true, decide_false, if_true, if_false, Bool.false_eq_true, Bool.not_true, Bool.not_false, reduceIte, List.getElem?_toArray, List.getElem?_cons_zero, List.getElem?_cons_succ, Option.isSome_none, List.length_map]
    intro r6 hr6
    refine put_box hr6 m fun h3 B3 u3 => ?_
    have hM3 := hM'.ext u3
    have c5 : cellH h3 ⟨r5, 0, none⟩ = some (.map (some r1)) := by simp [cellH, u3.get hb]
    simp only [T_map_api_Packet_int.load, c5, T_model_Entry.f0, T_model_Entry.f1, B3.pkt, look_p hM3, Nat.zero_add, popO_some, bindH_eq, condV_bool, condV_true, condV_false, yV_bool, gopV_tt, gopV_ff, gopV_tf, gopV_ft, pickV_t, pickV_f, pickV_bool, nilS_ptr, add_eq, sub_eq, mul_eq, lss_eq, leq_eq, gtr_eq, geq_eq, not_eq, minI_eq, maxI_eq, extract_0, extract_1, extract_2, eqlI, neqI, makeFunc_eq, decide_true, decide_false, if_true, if_false, Bool.false_eq_true, Bool.not_true, Bool.not_false, reduceIte, List.getElem?_toArray, List.getElem?_cons_zero, List.getElem?_cons_succ, Option.isSome_none, List.length_map]
    cases hfe : firstE (now.take i) m.pkt with
    | some s =>
      simp only [hg, hfe, Option.map_some, Option.isSome_some, popO_some, bindH_eq, condV_bool, condV_true, condV_false, yV_bool, gopV_tt, gopV_ff, gopV_tf, gopV_ft, pickV_t, pickV_f, pickV_bool, nilS_ptr, add_eq, sub_eq, mul_eq, lss_eq, leq_eq, gtr_eq, geq_eq, not_eq, minI_eq, maxI_eq, extract_0, extract_1, extract_2, eqlI, neqI, makeFunc_eq, decide_true, decide_false, if_true, if_false, Bool.false_eq_true, Bool.not_true, Bool.not_false, reduceIte, List.getElem?_toArray, List.getElem?_cons_zero, List.getElem?_cons_succ, Option.isSome_none, List.length_map]
      unfold model_Step_k33 model_Step_k34
      simp only [ei, popO_some, bindH_eq, condV_bool, condV_true, condV_false, yV_bool, gopV_tt, gopV_ff, gopV_tf, gopV_ft, pickV_t, pickV_f, pickV_bool, nilS_ptr, add_eq, sub_eq, mul_eq, lss_eq, leq_eq, gtr_eq, geq_eq, not_eq, minI_eq, maxI_eq, extract_0, extract_1, extract_2, eqlI, neqI, makeFunc_eq, decide_true, decide_false, if_true, if_false, Bool.false_eq_true, Bool.not_true, Bool.not_false, reduceIte, List.getElem?_toArray, List.getElem?_cons_zero, List.getElem?_cons_succ, Option.isSome_none, List.length_map]
      refine ⟨⟨i + 1, M, by omega, rfl, w.trans u3, hM3, u3.get hb, fun p => ?_⟩, by simp [upTo, e5]; omega⟩
      rw [firstE_take hm, hg]
      cases hfp : firstE (now.take i) p with
      | some s' => rfl
      | none =>
        have : m.pkt ≠ p := by rintro rfl; rw [hfe] at hfp; cases hfp
        simp [this]
    | none =>
      simp only [hg, hfe, Option.map_none, Option.isSome_none, T_int.load, B3.state, popO_some, bindH_eq, condV_bool, condV_true, condV_false, yV_bool, gopV_tt, gopV_ff, gopV_tf, gopV_ft, pickV_t, pickV_f, pickV_bool, nilS_ptr, add_eq, sub_eq, mul_eq, lss_eq, leq_eq, gtr_eq, geq_eq, not_eq, minI_eq, maxI_eq, extract_0, extract_1, extract_2, eqlI, neqI, makeFunc_eq, decide_true, decide_false, if_true, if_false, Bool.false_eq_true, Bool.not_true, Bool.not_false, reduceIte, List.getElem?_toArray, List.getElem?_cons_zero, List.getElem?_cons_succ, Option.isSome_none, List.length_map]
      refine map_put (enc := Pkt.key) Pkt.keyed T_map_api_Packet_int.und hM3 m.pkt (.int .i64 m.state) fun h4 hM4 u4 => ?_
      unfold model_Step_k33 model_Step_k34
      simp only [ei, popO_some, bindH_eq, condV_bool, condV_true, condV_false, yV_bool, gopV_tt, gopV_ff, gopV_tf, gopV_ft, pickV_t, pickV_f, pickV_bool, nilS_ptr, add_eq, sub_eq, mul_eq, lss_eq, leq_eq, gtr_eq, geq_eq, not_eq, minI_eq, maxI_eq, extract_0, extract_1, extract_2, eqlI, neqI, makeFunc_eq, decide_true, decide_false, if_true, if_false, Bool.false_eq_true, Bool.not_true, Bool.not_false, reduceIte, List.getElem?_toArray, List.getElem?_cons_zero, List.getElem?_cons_succ, Option.isSome_none, List.length_map]
      refine ⟨⟨i + 1, _, by omega, rfl, (w.trans u3).fresh u4 (Fresh.one fr1), hM4, u4.get (u3.get hb) (by simp; exact hne.symm), fun p => ?_⟩, by simp [upTo, e5]; omega⟩
      rw [getM_put, firstE_take hm, hg]
      by_cases c : p = m.pkt
      · subst c; simp [hfe]
      · rw [if_neg c]
        cases hfp : firstE (now.take i) p with
        | some s' => rfl
        | none =>
          have : m.pkt ≠ p := fun e => c e.symm
          simp [this]
  · have hd : ((i : Int) < (now.length : Int)) = False := by apply eq_false; omega
    rw [List.take_of_length_le (by omega)] at hg
    simp only [hd, popO_some, bindH_eq, condV_bool, condV_true, condV_false, yV_bool, gopV_tt, gopV_ff, gopV_tf, gopV_ft, pickV_t, pickV_f, pickV_bool, nilS_ptr, add_eq, sub_eq, mul_eq, lss_eq, leq_eq, gtr_eq, geq_eq, not_eq, minI_eq, maxI_eq, extract_0, extract_1, extract_2, eqlI, neqI, makeFunc_eq, decide_true, decide_false, if_true, if_false, Bool.false_eq_true, Bool.not_true, Bool.not_false, reduceIte, List.getElem?_toArray, List.getElem?_cons_zero, List.getElem?_cons_succ, Option.isSome_none, List.length_map]
    refine ContainsE_ok (f := fun e => match firstE now e.pkt with | none => true | some s => !reach e.state s) (hx.ext w) hl ?_ (fun h3 u3 => ?_)
    · intro p hp h3 u3 k' hk'
      show CallsH PG id_model_Step_1 #[.agg p.cells.toArray, .pointer (some ⟨r5, 0, none⟩)] h3 k'
      apply model_Step_1.call
      unfold model_Step_1
      intro r4 hr4
      have u4 : Ext h3 (h3.set r4 (.cells (Value.agg p.cells.toArray).cells T_model_Entry)) := Upd.new hr4
      have B4 : EBox (h3.set r4 (.cells (Value.agg p.cells.toArray).cells T_model_Entry)) r4 p := ⟨_, set_same⟩
      rw [bindH_eq]
      generalize h3.set r4 (.cells (Value.agg p.cells.toArray).cells T_model_Entry) = h4 at *
      have hM4 := (hM'.ext u3).ext u4
      have c5 : cellH h4 ⟨r5, 0, none⟩ = some (.map (some r1)) := by simp [cellH, (u3.trans u4).get hb]
      simp only [T_map_api_Packet_int.load, c5, T_model_Entry.f0, T_model_Entry.f1, B4.pkt, look_p hM4, Nat.zero_add, popO_some, bindH_eq, condV_bool, condV_true, condV_false, yV_bool, gopV_tt, gopV_ff, gopV_tf, gopV_ft, pickV_t, pickV_f, pickV_bool, nilS_ptr, add_eq, sub_eq, mul_eq, lss_eq, leq_eq, gtr_eq, geq_eq, not_eq, minI_eq, maxI_eq, extract_0, extract_1, extract_2, eqlI, neqI, makeFunc_eq, decide_true, decide_false, if_true, if_false, Bool.false_eq_true, Bool.not_true, Bool.not_false, reduceIte, List.getElem?_toArray, List.getElem?_cons_zero, List.getElem?_cons_succ, Option.isSome_none, List.length_map]
      cases hfe : firstE now p.pkt with
      | none =>
        simp only [hg, hfe, Option.map_none, Option.isSome_none, popO_some, bindH_eq, condV_bool, condV_true, condV_false, yV_bool, gopV_tt, gopV_ff, gopV_tf, gopV_ft, pickV_t, pickV_f, pickV_bool, nilS_ptr, add_eq, sub_eq, mul_eq, lss_eq, leq_eq, gtr_eq, geq_eq, not_eq, minI_eq, maxI_eq, extract_0, extract_1, extract_2, eqlI, neqI, makeFunc_eq, decide_true, decide_false, if_true, if_false, Bool.false_eq_true, Bool.not_true, Bool.not_false, reduceIte, List.getElem?_toArray, List.getElem?_cons_zero, List.getElem?_cons_succ, Option.isSome_none, List.length_map]
        have := hk' _ u4
        rw [hfe] at this
        exact this
      | some s =>
        simp only [hg, hfe, Option.map_some, Option.isSome_some, Option.getD_some, T_int.load, B4.state, popO_some, bindH_eq, condV_bool, condV_true, condV_false, yV_bool, gopV_tt, gopV_ff, gopV_tf, gopV_ft, pickV_t, pickV_f, pickV_bool, nilS_ptr, add_eq, sub_eq, mul_eq, lss_eq, leq_eq, gtr_eq, geq_eq, not_eq, minI_eq, maxI_eq, extract_0, extract_1, extract_2, eqlI, neqI, makeFunc_eq, decide_true, decide_false, if_true, if_false, Bool.false_eq_true, Bool.not_true, Bool.not_false, reduceIte, List.getElem?_toArray, List.getElem?_cons_zero, List.getElem?_cons_succ, Option.isSome_none, List.length_map]
        refine Reached_ok (hF.ext ((w.trans u3).trans u4)) p.state s fun h5 u5 => ?_
        simp only [popO_some, bindH_eq, condV_bool, condV_true, condV_false, yV_bool, gopV_tt, gopV_ff, gopV_tf, gopV_ft, pickV_t, pickV_f, pickV_bool, nilS_ptr, add_eq, sub_eq, mul_eq, lss_eq, leq_eq, gtr_eq, geq_eq, not_eq, minI_eq, maxI_eq, extract_0, extract_1, extract_2, eqlI, neqI, makeFunc_eq, decide_true, decide_false, if_true, if_false, Bool.false_eq_true, Bool.not_true, Bool.not_false, reduceIte, List.getElem?_toArray, List.getElem?_cons_zero, List.getElem?_cons_succ, Option.isSome_none, List.length_map]
        have := hk' _ (u4.trans u5)
        rw [hfe] at this
        exact this
    · have e : (!was.any (fun e => match firstE now e.pkt with | none => true | some s => !reach e.state s)) = stepL was now := by
        unfold stepL
        rw [List.not_any_eq_all_not]
        congr 1
        funext e
        cases firstE now e.pkt <;> simp
      simp only [popO_some, bindH_eq, condV_bool, condV_true, condV_false, yV_bool, gopV_tt, gopV_ff, gopV_tf, gopV_ft, pickV_t, pickV_f, pickV_bool, nilS_ptr, add_eq, sub_eq, mul_eq, lss_eq, leq_eq, gtr_eq, geq_eq, not_eq, minI_eq, maxI_eq, extract_0, extract_1, extract_2, eqlI, neqI, makeFunc_eq, decide_true, decide_false, if_true, if_false, Bool.false_eq_true, Bool.not_true, Bool.not_false, reduceIte, List.getElem?_toArray, List.getElem?_cons_zero, List.getElem?_cons_succ, Option.isSome_none, List.length_map]
      rw [e]
      exact hk _ (w.trans u3)
end Go.Proofs.YtbloalappckjhaaDoor
