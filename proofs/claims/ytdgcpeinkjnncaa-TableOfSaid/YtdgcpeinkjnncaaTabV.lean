/- table: Items, Fit; lists held against each other; the document's example. -/
import Derived.Test.YtdgcpeinkjnncaaTabU
set_option maxRecDepth 20000
set_option linter.unusedSimpArgs false
set_option linter.unusedVariables false
namespace Go.Proofs.Ytdgcpeinkjnncaa
open Go

theorem ltI_kl (a b : It) : ltI a b = decide (kl a.key b.key) := by
  unfold ltI
  rw [Bool.eq_iff_iff]
  simp only [Bool.or_eq_true, Bool.and_eq_true, decide_eq_true_eq]
  rfl
theorem srt_of {l L : List It} (hp : l.Perm L) (hs : Srt L) (ho : l.Pairwise fun a b => ltI b a = false) : l = L := by
  have hn : (l.map It.key).Nodup := (hp.map It.key).nodup_iff.2 hs.nodup
  refine Srt.unique ?_ hs hp
  unfold List.Nodup at hn
  rw [List.pairwise_map] at hn
  refine ho.imp₂ (fun a b h1 h2 => ?_) hn
  rw [ltI_kl] at h1
  have h1 := of_decide_eq_false h1
  rcases kl_total h2 with h3 | h3
  · exact h3
  · exact absurd h3 h1

theorem Items_ok {h : PH} {a : Nat} {L : List It} {room : Int} {F : List Nat} (H : TAt h a L room F) (hL : L.length ≤ 1000000) {k : Value → PH → Prop}
    (hk : ∀ v h' G, OwnR h' T_api_Item 5 v (L.map It.cells) G → Fresh h G → Ext h h' → k v h') : CallsH PG id_table_Table_Items #[.pointer (some ⟨a, 0, none⟩)] h k := by
  apply table_Table_Items.call
  unfold table_Table_Items
  have hs := H.srt
  obtain ⟨m, l, ha, hm, hp, rfl, ham⟩ := H.here
  have hll : l.length ≤ 1000000 := by rw [hp.length_eq]; exact hL
  have c0 : cellH h ⟨a, 0, none⟩ = some (.map (some m)) := by simp [cellH, ha]
  simp only [T_table_Table.f0, T_map_table_id_api_Item.load, c0, popO_some, bindH_eq, condV_bool, condV_true, condV_false, yV_bool, gopV_tt, gopV_ff, gopV_tf, gopV_ft, pickV_t, pickV_f, pickV_bool, nilS_ptr, add_eq, sub_eq, mul_eq, lss_eq, leq_eq, gtr_eq, geq_eq, not_eq, minI_eq, maxI_eq, extract_0, extract_1, extract_2, eqlI, neqI, makeFunc_eq, decide_true, decide_false, if_true, if_false, Bool.false_eq_true, Bool.not_true, Bool.not_false, reduceIte, List.getElem?_toArray, List.getElem?_cons_zero, List.getElem?_cons_succ, Option.isSome_none, List.length_map]
  refine Values_ok fun bx h1 hbx hb u1 => ?_
  refine Collect_ok hb (MapAt.ext hm u1) hll fun v l1 h2 F2 hp2 hO f2 u2 => ?_
  refine Sort_ok hO (by rw [hp2.length_eq]; exact hll) fun l2 h3 hp3 ho hO3 u3 => ?_
  have hl2 : l2 = L := srt_of ((hp3.trans hp2).trans hp) hs ho
  subst hl2
  have uu := (u1.trans u2).fresh u3 (f2.of u1)
  have lv := hO3.slR.len (t' := T_int) T_sl_api_Item.und
  rw [List.length_map] at lv
  obtain ⟨zs, hz1, hz2⟩ := makeSlice_eq (P := PG) (n := l2.length) T_sl_api_Item.und T_api_Item.info T_api_Item.size T_api_Item.bytes T_api_Item.zero rfl (by decide) (by omega) (by omega)
  simp only [lv, hz1, popO_some, bindH_eq, condV_bool, condV_true, condV_false, yV_bool, gopV_tt, gopV_ff, gopV_tf, gopV_ft, pickV_t, pickV_f, pickV_bool, nilS_ptr, add_eq, sub_eq, mul_eq, lss_eq, leq_eq, gtr_eq, geq_eq, not_eq, minI_eq, maxI_eq, extract_0, extract_1, extract_2, eqlI, neqI, makeFunc_eq, decide_true, decide_false, if_true, if_false, Bool.false_eq_true, Bool.not_true, Bool.not_false, reduceIte, List.getElem?_toArray, List.getElem?_cons_zero, List.getElem?_cons_succ, Option.isSome_none, List.length_map]
  intro r hr
  refine popO_pure ?_
  try rw [bindH_eq]
  have u4 : Ext h3 (h3.set r (.cells zs T_api_Item)) := Upd.new hr
  have hR : OwnR (h3.set r (.cells zs T_api_Item)) T_api_Item 5 (.slice (some ⟨r, 0, none⟩) l2.length l2.length) (List.replicate l2.length [.int .i64 0, .int .u64 0, .int .u64 0, .string ⟨#[]⟩, .int .i64 0]) [r] :=
    OwnR.lit (fun x hx => by rw [List.eq_of_mem_replicate hx]; rfl) set_same (by simp) (by simp [maxL]; omega) (by rw [hz2]; rfl)
  have hO4 := hO3.ext u4
  have fr : h r = none := uu.none hr
  generalize h3.set r (.cells zs T_api_Item) = h4 at *
  have hsl := sliceAt_eq (P := PG) (t := T_sl_api_Item) (a := some ⟨r, 0, none⟩) (len := l2.length) (cap := l2.length) (l := 0) (hh := l2.length) (lo := some (.int .i64 (0 : Nat))) (hi := some (.int .i64 l2.length)) T_sl_api_Item.und T_api_Item.info (.inr ⟨.i64, rfl⟩) (.inr ⟨.i64, rfl⟩) (Nat.zero_le _) (Nat.le_refl _)
  have e1 : (if l2.length = 0 then some (⟨r, 0, none⟩ : Addr) else (some (⟨r, 0, none⟩ : Addr)).map (·.add (0 * Try.t44.size))) = some ⟨r, 0, none⟩ := by
    split
    · rfl
    · simp [plain_add]
  rw [e1] at hsl
  refine copy_own (n := l2.length) (l := 0) (m := l2.length) T_sl_api_Item.und T_api_Item.info T_api_Item.size hR ⟨.i64, .i64, by simpa using hsl⟩ (Nat.zero_le _) (by simp) hO4.slR (It.isCell _) (by simp) ?_
  intro h5 hR5 u5
  have e2 : List.take 0 (List.replicate l2.length ([.int .i64 0, .int .u64 0, .int .u64 0, .string ⟨#[]⟩, .int .i64 0] : List Value)) ++ List.take l2.length (l2.map It.cells) ++ List.drop (0 + l2.length) (List.replicate l2.length [.int .i64 0, .int .u64 0, .int .u64 0, .string ⟨#[]⟩, .int .i64 0]) = l2.map It.cells := by
    simp [List.take_of_length_le]
  rw [e2] at hR5
  exact hk _ h5 [r] hR5 (Fresh.one fr) ((uu.trans u4).fresh u5 (Fresh.one fr))

/-! ### items held against each other -/
theorem Pk.eqIn {h : PH} {d : Nat} (m m' : Pk) : SemE PG h (Op.equalIn (d + 1 + 1) T_api_Packet (.agg m.cells.toArray) (.agg m'.cells.toArray)) = some (m.f == m'.f && (m.s == m'.s && (m.t == m'.t && (m.d == m'.d && true)))) := by
  refine (eqIn_struct T_api_Packet.und (by kernel_rfl) (fun f => match f.offset with | 0 => m.f == m'.f | 1 => m.s == m'.s | 2 => m.t == m'.t | _ => m.d == m'.d) ?_)
  intro f hf
  simp only [List.mem_cons, List.not_mem_nil, or_false] at hf
  rcases hf with rfl | rfl | rfl | rfl
  · exact ⟨by decide, _, _, part_cell T_int.und rfl rfl, part_cell T_int.und rfl rfl, eqIn_int T_int.und⟩
  · exact ⟨by decide, _, _, part_cell T_uint64.und rfl rfl, part_cell T_uint64.und rfl rfl, eqIn_int T_uint64.und⟩
  · exact ⟨by decide, _, _, part_cell T_uint64.und rfl rfl, part_cell T_uint64.und rfl rfl, eqIn_int T_uint64.und⟩
  · exact ⟨by decide, _, _, part_cell T_string.und rfl rfl, part_cell T_string.und rfl rfl, eqIn_string T_string.und⟩
theorem It.eqIn {h : PH} (m m' : It) : SemE PG h (Op.equalIn (9999 + 1) T_api_Item m.val m'.val) = some (decide (m = m')) := by
  have hm : SemE PG h (Op.equalIn (9999 + 1) T_api_Item (.agg m.cells.toArray) (.agg m'.cells.toArray)) = some ((m.p.f == m'.p.f && (m.p.s == m'.p.s && (m.p.t == m'.p.t && (m.p.d == m'.p.d && true)))) && (m.g == m'.g && true)) := by
    refine (eqIn_struct T_api_Item.und (by kernel_rfl) (fun f => match f.offset with | 0 => (m.p.f == m'.p.f && (m.p.s == m'.p.s && (m.p.t == m'.p.t && (m.p.d == m'.p.d && true)))) | _ => m.g == m'.g) ?_)
    intro f hf
    simp only [List.mem_cons, List.not_mem_nil, or_false] at hf
    rcases hf with rfl | rfl
    · exact ⟨by decide, _, _, part_agg T_api_Packet.und rfl T_api_Packet.info T_api_Packet.size, part_agg T_api_Packet.und rfl T_api_Packet.info T_api_Packet.size, Pk.eqIn (d := 9997) m.p m'.p⟩
    · exact ⟨by decide, _, _, part_cell T_int.und rfl rfl, part_cell T_int.und rfl rfl, eqIn_int T_int.und⟩
  show SemE PG h (Op.equalIn (9999 + 1) T_api_Item (.agg m.cells.toArray) (.agg m'.cells.toArray)) = _
  rw [hm]
  congr 1
  simp only [beq_bytes]
  rw [Bool.eq_iff_iff]
  obtain ⟨⟨a, b, c, d⟩, g⟩ := m
  obtain ⟨⟨a', b', c', d'⟩, g'⟩ := m'
  simp [and_assoc]
theorem It.neq {h : PH} {x y : Operand} (m m' : It) : SemE PG h (binS .neq T_api_Item x y m.val m'.val) = some (.bool (!decide (m = m'))) := neqStruct (by kernel_rfl) (It.eqIn m m')
theorem SlR.it {h : PH} {x : Value} {xs : List It} (H : SlR h 5 x (xs.map It.cells)) {k : IntKind} {j : Nat} {m : It} (hm : xs[j]? = some m) :
    ∃ a, SemP PG (Instr.indexAt T_sl_api_Item x (.int k j)) = some (.pointer (some a)) ∧ SemE PG h (Instr.loadAt T_api_Item (.pointer (some a))) = some m.val :=
  H.loadAgg T_sl_api_Item.und T_api_Item.info T_api_Item.size T_api_Item.und rfl (by omega) (by rw [List.getElem?_map, Int.toNat_natCast, hm]; rfl)
theorem SlR.nt {h : PH} {x : Value} {xs : List Nt} (H : SlR h 5 x (xs.map Nt.cells)) {k : IntKind} {j : Nat} {m : Nt} (hm : xs[j]? = some m) :
    ∃ a, SemP PG (Instr.indexAt T_sl_api_Note x (.int k j)) = some (.pointer (some a)) ∧ SemE PG h (Instr.loadAt T_api_Note (.pointer (some a))) = some (.agg m.cells.toArray) :=
  H.loadAgg T_sl_api_Note.und T_api_Note.info T_api_Note.size T_api_Note.und rfl (by omega) (by rw [List.getElem?_map, Int.toNat_natCast, hm]; rfl)
theorem SlR.ac {h : PH} {x : Value} {xs : List Ac} (H : SlR h 6 x (xs.map Ac.cells)) {k : IntKind} {j : Nat} {m : Ac} (hm : xs[j]? = some m) :
    ∃ a, SemP PG (Instr.indexAt T_sl_carrackref15_Act x (.int k j)) = some (.pointer (some a)) ∧ SemE PG h (Instr.loadAt T_carrackref15_Act (.pointer (some a))) = some (.agg m.cells.toArray) :=
  H.loadAgg T_sl_carrackref15_Act.und T_carrackref15_Act.info T_carrackref15_Act.size T_carrackref15_Act.und rfl (by omega) (by rw [List.getElem?_map, Int.toNat_natCast, hm]; rfl)
theorem Same_ok {h : PH} {x y : Value} {xs ys : List It} (hx : SlR h 5 x (xs.map It.cells)) (hy : SlR h 5 y (ys.map It.cells)) (hl : xs.length ≤ 1000000) {k : Value → PH → Prop}
    (hk : k (.bool (decide (xs = ys))) h) : CallsH PG id_carrackref14_SameItems #[x, y] h k := by
  have lx := hx.len (t' := T_int) T_sl_api_Item.und
  have ly := hy.len (t' := T_int) T_sl_api_Item.und
  rw [List.length_map] at lx ly
  apply carrackref14_SameItems.call
  unfold carrackref14_SameItems
  by_cases hlen : xs.length = ys.length
  · have e1 : ((xs.length : Int) != (ys.length : Int)) = false := by simp [hlen]
    simp only [lx, ly, e1, popO_some, bindH_eq, condV_bool, condV_true, condV_false, yV_bool, gopV_tt, gopV_ff, gopV_tf, gopV_ft, pickV_t, pickV_f, pickV_bool, nilS_ptr, add_eq, sub_eq, mul_eq, lss_eq, leq_eq, gtr_eq, geq_eq, not_eq, minI_eq, maxI_eq, extract_0, extract_1, extract_2, eqlI, neqI, makeFunc_eq, decide_true, decide_false, if_true, if_false, Bool.false_eq_true, Bool.not_true, Bool.not_false, reduceIte, List.getElem?_toArray, List.getElem?_cons_zero, List.getElem?_cons_succ, Option.isSome_none, List.length_map]
    refine ⟨fun vs h' => ∃ i : Nat, i ≤ xs.length ∧ vs = [x, y, .int .i64 i] ∧ h' = h ∧ xs.take i = ys.take i, upTo xs.length 2, ⟨0, by omega, rfl, rfl, by simp⟩, ?_⟩
    rintro ρ h' ⟨i, hi, hvs, rfl, he⟩
    simp only [List.map_cons, List.map_nil, List.cons.injEq, and_true] at hvs
    obtain ⟨e0, e1, e5⟩ := hvs
    rw [e0, e1, e5]
    unfold carrackref14_SameItems_b5
    by_cases hlt : i < xs.length
    · have hd : ((i : Int) < (xs.length : Int)) = True := by apply eq_true; omega
      obtain ⟨m, hm⟩ : ∃ m, xs[i]? = some m := ⟨_, List.getElem?_eq_getElem hlt⟩
      obtain ⟨m', hm'⟩ : ∃ m, ys[i]? = some m := ⟨_, List.getElem?_eq_getElem (by omega)⟩
      obtain ⟨a, a1, a2⟩ := hx.it (k := .i64) hm
      obtain ⟨b, b1, b2⟩ := hy.it (k := .i64) hm'
      have e2 : IntKind.i64.wrap ((i : Int) + 1) = ((i + 1 : Nat) : Int) := by rw [i64_wrap (by omega) (by omega)]; omega
      by_cases hc : m = m'
      · have e3 : (!decide (m = m')) = false := by simp [hc]
        simp only [lx, hd, a1, a2, b1, b2, e2, It.neq, e3, popO_some, bindH_eq, condV_bool, condV_true, condV_false, yV_bool, gopV_tt, gopV_ff, gopV_tf, gopV_ft, pickV_t, pickV_f, pickV_bool, nilS_ptr, add_eq, sub_eq, mul_eq, lss_eq, leq_eq, gtr_eq, geq_eq, not_eq, minI_eq, maxI_eq, extract_0, extract_1, extract_2, eqlI, neqI, makeFunc_eq, decide_true, decide_false, if_true, if_false, Bool.false_eq_true, Bool.not_true, Bool.not_false, reduceIte, List.getElem?_toArray, List.getElem?_cons_zero, List.getElem?_cons_succ, Option.isSome_none, List.length_map]
        exact ⟨⟨i + 1, by omega, rfl, by trivial, by rw [List.take_add_one, List.take_add_one, he, hm, hm', hc]⟩, by simp [upTo, e5]; omega⟩
      · have e3 : (!decide (m = m')) = true := by simp [hc]
        simp only [lx, hd, a1, a2, b1, b2, It.neq, e3, popO_some, bindH_eq, condV_bool, condV_true, condV_false, yV_bool, gopV_tt, gopV_ff, gopV_tf, gopV_ft, pickV_t, pickV_f, pickV_bool, nilS_ptr, add_eq, sub_eq, mul_eq, lss_eq, leq_eq, gtr_eq, geq_eq, not_eq, minI_eq, maxI_eq, extract_0, extract_1, extract_2, eqlI, neqI, makeFunc_eq, decide_true, decide_false, if_true, if_false, Bool.false_eq_true, Bool.not_true, Bool.not_false, reduceIte, List.getElem?_toArray, List.getElem?_cons_zero, List.getElem?_cons_succ, Option.isSome_none, List.length_map]
        have : decide (xs = ys) = false := by
          simp only [decide_eq_false_iff_not]
          rintro rfl
          rw [hm] at hm'; cases hm'; exact hc rfl
        rw [this] at hk; exact hk
    · have hd : ((i : Int) < (xs.length : Int)) = False := by apply eq_false; omega
      simp only [lx, hd, popO_some, bindH_eq, condV_bool, condV_true, condV_false, yV_bool, gopV_tt, gopV_ff, gopV_tf, gopV_ft, pickV_t, pickV_f, pickV_bool, nilS_ptr, add_eq, sub_eq, mul_eq, lss_eq, leq_eq, gtr_eq, geq_eq, not_eq, minI_eq, maxI_eq, extract_0, extract_1, extract_2, eqlI, neqI, makeFunc_eq, decide_true, decide_false, if_true, if_false, Bool.false_eq_true, Bool.not_true, Bool.not_false, reduceIte, List.getElem?_toArray, List.getElem?_cons_zero, List.getElem?_cons_succ, Option.isSome_none, List.length_map]
      rw [List.take_of_length_le (by omega), List.take_of_length_le (by omega)] at he
      rw [he] at hk
      simpa using hk
  · have e1 : ((xs.length : Int) != (ys.length : Int)) = true := by simp; omega
    simp only [lx, ly, e1, popO_some, bindH_eq, condV_bool, condV_true, condV_false, yV_bool, gopV_tt, gopV_ff, gopV_tf, gopV_ft, pickV_t, pickV_f, pickV_bool, nilS_ptr, add_eq, sub_eq, mul_eq, lss_eq, leq_eq, gtr_eq, geq_eq, not_eq, minI_eq, maxI_eq, extract_0, extract_1, extract_2, eqlI, neqI, makeFunc_eq, decide_true, decide_false, if_true, if_false, Bool.false_eq_true, Bool.not_true, Bool.not_false, reduceIte, List.getElem?_toArray, List.getElem?_cons_zero, List.getElem?_cons_succ, Option.isSome_none, List.length_map]
    have : decide (xs = ys) = false := by
      simp only [decide_eq_false_iff_not]
      rintro rfl; exact hlen rfl
    rw [this] at hk; exact hk

/-! ### how many fit -/
theorem put_nt {h : PH} {r : Nat} (hr : h r = none) (n : Nt) {k : Value → PH → Prop} (hk : ∀ h', Bx h' r n.cells → h' r = some (.cells n.cells.toArray T_api_Note (0, 0)) → Ext h h' → k undef h') :
    SemH PG (storeS T_api_Note (.pointer (some ⟨r, 0, none⟩)) (.agg n.cells.toArray)) (h.set r (.cells (zcells PG T_api_Note) T_api_Note)) k := by
  refine store_box set_same T_api_Note.info (by show 5 = 5; rfl) (by show 0 < 5; decide) (by rw [T_api_Note.zc]; rfl) (by simp [Nt.cells, isCell]) ?_
  rw [set_set_same]
  exact hk _ ⟨_, set_same⟩ set_same (Upd.new hr)
theorem Fit_ok {h : PH} {a : Nat} {L : List It} {room : Int} {F : List Nat} (H : TAt h a L room F) {x : Value} {ns : List Nt} (hx : SlR h 5 x (ns.map Nt.cells)) (hn : ns.length ≤ 1000000) {k : Value → PH → Prop}
    (hk : ∀ h', Ext h h' → k (.int .i64 (fitL room L ns)) h') : CallsH PG id_table_Table_Fit #[.pointer (some ⟨a, 0, none⟩), x] h k := by
  have lx := hx.len (t' := T_int) T_sl_api_Note.und
  rw [List.length_map] at lx
  apply table_Table_Fit.call
  unfold table_Table_Fit
  refine Copy_ok H fun c h1 G H1 f1 u1 => ?_
  simp only [lx, popO_some, bindH_eq, condV_bool, condV_true, condV_false, yV_bool, gopV_tt, gopV_ff, gopV_tf, gopV_ft, pickV_t, pickV_f, pickV_bool, nilS_ptr, add_eq, sub_eq, mul_eq, lss_eq, leq_eq, gtr_eq, geq_eq, not_eq, minI_eq, maxI_eq, extract_0, extract_1, extract_2, eqlI, neqI, makeFunc_eq, decide_true, decide_false, if_true, if_false, Bool.false_eq_true, Bool.not_true, Bool.not_false, reduceIte, List.getElem?_toArray, List.getElem?_cons_zero, List.getElem?_cons_succ, Option.isSome_none, List.length_map]
  refine ⟨fun vs h' => ∃ (i : Nat) (L' : List It), i ≤ ns.length ∧ vs = [x, .pointer (some ⟨c, 0, none⟩), x, .int .i64 ns.length, .int .i64 i] ∧ TAt h' c L' room G ∧ Ext h h' ∧ fitL room L ns = i + fitL room L' (ns.drop i), upTo ns.length 4, ⟨0, L, by omega, rfl, H1, u1, by simp⟩, ?_⟩
  rintro ρ h' ⟨i, L', hi, hvs, HC, w, hf⟩
  simp only [List.map_cons, List.map_nil, List.cons.injEq, and_true] at hvs
  obtain ⟨e0, e1, e2, e3, e4⟩ := hvs
  rw [e0, e1, e2, e3, e4]
  unfold table_Table_Fit_b5
  by_cases hlt : i < ns.length
  · have hd : ((i : Int) < (ns.length : Int)) = True := by apply eq_true; omega
    obtain ⟨n, hm⟩ : ∃ m, ns[i]? = some m := ⟨_, List.getElem?_eq_getElem hlt⟩
    obtain ⟨y, y1, y2⟩ := (hx.ext w).nt (k := .i64) hm
    have e5 : IntKind.i64.wrap ((i : Int) + 1) = ((i + 1 : Nat) : Int) := by rw [i64_wrap (by omega) (by omega)]; omega
    have hdrop : ns.drop i = n :: ns.drop (i + 1) := by
      rw [List.drop_eq_getElem_cons hlt]
      have : ns[i] = n := by rw [List.getElem?_eq_getElem hlt] at hm; simpa using hm
      rw [this]
    simp only [hd, y1, y2, popO_some, bindH_eq, condV_bool, condV_true, condV_false, yV_bool, gopV_tt, gopV_ff, gopV_tf, gopV_ft, pickV_t, pickV_f, pickV_bool, nilS_ptr, add_eq, sub_eq, mul_eq, lss_eq, leq_eq, gtr_eq, geq_eq, not_eq, minI_eq, maxI_eq, extract_0, extract_1, extract_2, eqlI, neqI, makeFunc_eq, decide_true, decide_false, if_true, if_false, Bool.false_eq_true, Bool.not_true, Bool.not_false, reduceIte, List.getElem?_toArray, List.getElem?_cons_zero, List.getElem?_cons_succ, Option.isSome_none, List.length_map]
    intro r hr
    try rw [bindH_eq]
    refine put_nt hr n fun h2 b2 _ u2 => ?_
    simp only [b2.nt, popO_some, bindH_eq, condV_bool, condV_true, condV_false, yV_bool, gopV_tt, gopV_ff, gopV_tf, gopV_ft, pickV_t, pickV_f, pickV_bool, nilS_ptr, add_eq, sub_eq, mul_eq, lss_eq, leq_eq, gtr_eq, geq_eq, not_eq, minI_eq, maxI_eq, extract_0, extract_1, extract_2, eqlI, neqI, makeFunc_eq, decide_true, decide_false, if_true, if_false, Bool.false_eq_true, Bool.not_true, Bool.not_false, reduceIte, List.getElem?_toArray, List.getElem?_cons_zero, List.getElem?_cons_succ, Option.isSome_none, List.length_map]
    refine Apply_ok (HC.ext u2) n fun h3 H3 u3 => ?_
    have w3 : Ext h h3 := (w.trans u2).fresh u3 f1
    by_cases hz : appE L' room n = 0
    · have e6 : (appE L' room n != 0) = false := by simp [hz]
      simp only [e6, e5, popO_some, bindH_eq, condV_bool, condV_true, condV_false, yV_bool, gopV_tt, gopV_ff, gopV_tf, gopV_ft, pickV_t, pickV_f, pickV_bool, nilS_ptr, add_eq, sub_eq, mul_eq, lss_eq, leq_eq, gtr_eq, geq_eq, not_eq, minI_eq, maxI_eq, extract_0, extract_1, extract_2, eqlI, neqI, makeFunc_eq, decide_true, decide_false, if_true, if_false, Bool.false_eq_true, Bool.not_true, Bool.not_false, reduceIte, List.getElem?_toArray, List.getElem?_cons_zero, List.getElem?_cons_succ, Option.isSome_none, List.length_map]
      refine ⟨⟨i + 1, appL L' room n, by omega, rfl, H3, w3, ?_⟩, by simp [upTo, e4]; omega⟩
      rw [hf, hdrop]
      show i + (if appE L' room n = 0 then _ else _) = _
      rw [if_pos hz]; omega
    · have e6 : (appE L' room n != 0) = true := by simp [hz]
      simp only [e6, popO_some, bindH_eq, condV_bool, condV_true, condV_false, yV_bool, gopV_tt, gopV_ff, gopV_tf, gopV_ft, pickV_t, pickV_f, pickV_bool, nilS_ptr, add_eq, sub_eq, mul_eq, lss_eq, leq_eq, gtr_eq, geq_eq, not_eq, minI_eq, maxI_eq, extract_0, extract_1, extract_2, eqlI, neqI, makeFunc_eq, decide_true, decide_false, if_true, if_false, Bool.false_eq_true, Bool.not_true, Bool.not_false, reduceIte, List.getElem?_toArray, List.getElem?_cons_zero, List.getElem?_cons_succ, Option.isSome_none, List.length_map]
      have : fitL room L ns = i := by
        rw [hf, hdrop]
        show i + (if appE L' room n = 0 then _ else _) = _
        rw [if_neg hz]; rfl
      rw [this] at hk
      exact hk h3 w3
  · have hd : ((i : Int) < (ns.length : Int)) = False := by apply eq_false; omega
    simp only [hd, lx, popO_some, bindH_eq, condV_bool, condV_true, condV_false, yV_bool, gopV_tt, gopV_ff, gopV_tf, gopV_ft, pickV_t, pickV_f, pickV_bool, nilS_ptr, add_eq, sub_eq, mul_eq, lss_eq, leq_eq, gtr_eq, geq_eq, not_eq, minI_eq, maxI_eq, extract_0, extract_1, extract_2, eqlI, neqI, makeFunc_eq, decide_true, decide_false, if_true, if_false, Bool.false_eq_true, Bool.not_true, Bool.not_false, reduceIte, List.getElem?_toArray, List.getElem?_cons_zero, List.getElem?_cons_succ, Option.isSome_none, List.length_map]
    have hil : i = ns.length := by omega
    rw [hil] at hf
    rw [List.drop_length] at hf
    have : fitL room L ns = ns.length := hf
    rw [this] at hk
    exact hk h' w
end Go.Proofs.Ytdgcpeinkjnncaa
