/- the document's table: a row of items. -/
import Derived.Test.YtdgcpeinkjnncaaTabV
import Derived.Test.YtdgcpeinkjnncaaHByt
set_option maxRecDepth 20000
set_option linter.unusedSimpArgs false
set_option linter.unusedVariables false
namespace Go.Proofs.Ytdgcpeinkjnncaa
open Go

def pA (L : List It) (k : Ky) : List It := L.filter fun j => decide (kl j.key k)
def pC (L : List It) (k : Ky) : List It := L.filter fun j => decide (kl k j.key)
theorem split3 : ∀ {L : List It}, Srt L → ∀ k, L = pA L k ++ ((getL L k).toList ++ pC L k)
  | [], _, k => rfl
  | x :: L, hs, k => by
    unfold Srt at hs
    rw [List.pairwise_cons] at hs
    have ih := split3 (L := L) hs.2 k
    by_cases h1 : kl x.key k
    · have e1 : pA (x :: L) k = x :: pA L k := by unfold pA; simp [List.filter_cons, h1]
      have e2 : pC (x :: L) k = pC L k := by unfold pC; simp [List.filter_cons, kl_asymm h1]
      have e3 : getL (x :: L) k = getL L k := by unfold getL; simp [List.find?_cons, (kl_ne h1).symm]
      rw [e1, e2, e3, List.cons_append, ← ih]
    · have hnA : pA L k = [] := by
        unfold pA
        rw [List.filter_eq_nil_iff]
        intro y hy hk
        exact h1 (kl_trans (hs.1 y hy) (by simpa using hk))
      by_cases h2 : x.key = k
      · have e1 : pA (x :: L) k = [] := by unfold pA at *; simp [List.filter_cons, h1]; simpa using hnA
        have e2 : pC (x :: L) k = L := by
          unfold pC
          have : ¬ kl k x.key := by rw [h2]; exact kl_irrefl _
          simp only [List.filter_cons, this, decide_false, Bool.false_eq_true, if_false]
          rw [List.filter_eq_self]
          intro y hy
          have := hs.1 y hy
          rw [h2] at this
          simpa using this
        have e3 : getL (x :: L) k = some x := by unfold getL; simp [List.find?_cons, h2]
        rw [e1, e2, e3]; rfl
      · have h3 : kl k x.key := (kl_total h2).resolve_left h1
        have hno : getL L k = none := getL_none.2 fun y hy e => by
          have := hs.1 y hy
          rw [e] at this
          exact kl_asymm this h3
        have e1 : pA (x :: L) k = [] := by unfold pA at *; simp [List.filter_cons, h1]; simpa using hnA
        have e2 : pC (x :: L) k = x :: L := by
          unfold pC
          rw [List.filter_eq_self]
          intro y hy
          rcases List.mem_cons.1 hy with rfl | hy
          · simpa using h3
          · simpa using kl_trans h3 (hs.1 y hy)
        have e3 : getL (x :: L) k = none := by
          unfold getL at *
          simp only [List.find?_cons, show (k = x.key) = False from eq_false (fun e => h2 e.symm), decide_false]
          exact hno
        rw [e1, e2, e3]; rfl
theorem pA_le (L : List It) (k : Ky) : (pA L k).length ≤ L.length := List.length_filter_le _ _
theorem at_lt {L : List It} (hs : Srt L) {k : Ky} {i : Nat} {m : It} (hi : i < (pA L k).length) (hm : L[i]? = some m) : kl m.key k := by
  rw [split3 hs k, List.getElem?_append_left hi] at hm
  have := List.mem_of_getElem? hm
  unfold pA at this
  simpa using (List.mem_filter.1 this).2
theorem at_ge {L : List It} (hs : Srt L) {k : Ky} {m : It} (hm : L[(pA L k).length]? = some m) : ¬ kl m.key k ∧ (getL L k).isSome = decide (m.key = k) ∧ (m.key = k → getL L k = some m) := by
  have h := hm
  have h : (pA L k ++ ((getL L k).toList ++ pC L k))[(pA L k).length]? = some m := by rw [← split3 hs k]; exact hm
  rw [List.getElem?_append_right (Nat.le_refl _), Nat.sub_self] at h
  cases hg : getL L k with
  | some x =>
    rw [hg] at h
    simp only [Option.toList_some, List.cons_append, List.nil_append, List.getElem?_cons_zero, Option.some.injEq] at h
    subst h
    obtain ⟨_, h2⟩ := getL_mem hg
    subst h2
    exact ⟨kl_irrefl _, by simp, fun _ => rfl⟩
  | none =>
    rw [hg] at h
    simp only [Option.toList_none, List.nil_append] at h
    have := List.mem_of_getElem? h
    unfold pC at this
    have h3 : kl k m.key := by simpa using (List.mem_filter.1 this).2
    refine ⟨kl_asymm h3, by simp [(kl_ne h3).symm], fun e => ?_⟩
    rw [e] at h3
    exact absurd h3 (kl_irrefl _)
theorem at_end {L : List It} (hs : Srt L) {k : Ky} (hm : (pA L k).length = L.length) : getL L k = none := by
  have h := congrArg List.length (split3 hs k)
  simp only [List.length_append] at h
  cases hg : getL L k with
  | none => rfl
  | some x => rw [hg] at h; simp at h; omega
theorem take_pA {L : List It} (hs : Srt L) (k : Ky) : L.take (pA L k).length = pA L k := by
  conv => lhs; arg 2; rw [split3 hs k]
  rw [List.take_left']
  rfl
theorem drop_pA {L : List It} (hs : Srt L) (k : Ky) : L.drop (pA L k).length = (getL L k).toList ++ pC L k := by
  conv => lhs; arg 2; rw [split3 hs k]
  rw [List.drop_left']
  rfl
theorem ins_cut {L : List It} (hs : Srt L) {i : It} (hg : getL L i.key = none) : L.take (pA L i.key).length ++ [i] ++ L.drop (pA L i.key).length = insL L i := by
  rw [take_pA hs, drop_pA hs, hg]
  unfold insL pA pC
  simp
theorem del_cut {L : List It} (hs : Srt L) {k : Ky} {x : It} (hg : getL L k = some x) : L.take (pA L k).length ++ L.drop ((pA L k).length + 1) = delL L k := by
  have h1 : L.drop ((pA L k).length + 1) = pC L k := by
    rw [← List.drop_drop, drop_pA hs, hg]; rfl
  rw [take_pA hs, h1]
  unfold delL
  have hp := (part_perm (fun j : It => decide (kl j.key k)) (fun j => decide (kl k j.key)) (fun a ha => by
    simp only [decide_eq_true_eq] at ha
    simp only [decide_eq_false_iff_not]
    exact kl_asymm ha) L)
  have he : (L.filter fun a => decide (kl a.key k) || decide (kl k a.key)) = L.filter fun i => decide (i.key ≠ k) := by
    apply List.filter_congr
    intro y _
    rw [Bool.eq_iff_iff]
    simp only [Bool.or_eq_true, decide_eq_true_eq]
    exact ⟨fun h => by rcases h with h | h; exact kl_ne h; exact (kl_ne h).symm, kl_total⟩
  rw [he] at hp
  refine Srt.unique ?_ (hs.filter _) hp
  unfold Srt
  rw [List.pairwise_append]
  refine ⟨hs.filter _, hs.filter _, fun a ha b hb => ?_⟩
  exact kl_trans (by simpa using (List.mem_filter.1 ha).2) (by simpa using (List.mem_filter.1 hb).2)
theorem set_cut {L : List It} (hs : Srt L) {i : It} {x : It} (hg : getL L i.key = some x) : L.take (pA L i.key).length ++ i :: L.drop ((pA L i.key).length + 1) = insL L i := by
  have h1 : L.drop ((pA L i.key).length + 1) = pC L i.key := by
    rw [← List.drop_drop, drop_pA hs, hg]; rfl
  rw [take_pA hs, h1]; rfl

/-! ### where it lies -/
structure RAt (h : PH) (a : Nat) (L : List It) (room : Int) (F : List Nat) : Prop where
  here : ∃ v G, h a = some (.cells #[v, .int .i64 room] T_carrackref15_Table (0, 0)) ∧ OwnR h T_api_Item 5 v (L.map It.cells) G ∧ F = a :: G ∧ a ∉ G
  srt : Srt L
theorem RAt.upd {h h' : PH} {a : Nat} {L : List It} {room : Int} {F G : List Nat} (H : RAt h a L room F) (u : Upd G h h') (hd : ∀ b ∈ F, b ∉ G) : RAt h' a L room F := by
  obtain ⟨v, G', ha, hO, rfl, hn⟩ := H.here
  exact ⟨⟨v, G', u.get ha (hd a (by simp)), hO.upd u (fun b hb => hd b (by simp [hb])), rfl, hn⟩, H.srt⟩
theorem RAt.ext {h h' : PH} {a : Nat} {L : List It} {room : Int} {F : List Nat} (H : RAt h a L room F) (u : Ext h h') : RAt h' a L room F := H.upd u (by simp)
theorem RAt.known {h : PH} {a : Nat} {L : List It} {room : Int} {F : List Nat} (H : RAt h a L room F) : ∀ b ∈ F, h b ≠ none := by
  obtain ⟨v, G', ha, hO, rfl, hn⟩ := H.here
  intro b hb
  rcases List.mem_cons.1 hb with rfl | hb
  · rw [ha]; simp
  · exact hO.known b hb
theorem SlR.itf {h : PH} {x : Value} {xs : List It} (H : SlR h 5 x (xs.map It.cells)) {k : IntKind} {j : Nat} {m : It} (hm : xs[j]? = some m) :
    ∃ b o, SemP PG (Instr.indexAt T_sl_api_Item x (.int k j)) = some (.pointer (some ⟨b, o, none⟩)) ∧ cellH h ⟨b, o, none⟩ = some (.int .i64 m.p.f) ∧ cellH h ⟨b, o + 1, none⟩ = some (.int .u64 m.p.s) ∧ cellH h ⟨b, o + 3, none⟩ = some (.string m.p.d) ∧
      SemE PG h (Instr.loadAt T_api_Item (.pointer (some ⟨b, o, none⟩))) = some m.val := by
  obtain ⟨b, o, h1, h2, h3⟩ := H.fields T_sl_api_Item.und T_api_Item.info T_api_Item.size (k := k) (j := j) (r := m.cells) (by rw [List.getElem?_map, hm]; rfl)
  exact ⟨b, o, h1, h2 0 _ rfl, h2 1 _ rfl, h2 3 _ rfl, h3 _ T_api_Item.und rfl⟩

theorem yV_undef : yV undef = none := (rfl)
theorem gopV_none {X : (Value → PH → Prop) → Prop} {h : PH} {kv : Value → PH → Prop} {w : Bool} : gopV none w X h kv = kv undef h := by cases w <;> rfl
theorem Place_ok {h : PH} {a : Nat} {L : List It} {room : Int} {F : List Nat} (H : RAt h a L room F) (hL : L.length ≤ 1000000) (key : Ky) {k : Value → PH → Prop}
    (hk : k (.tuple #[.int .i64 (pA L key).length, .bool (getL L key).isSome]) h) : CallsH PG id_carrackref15_Table_place #[.pointer (some ⟨a, 0, none⟩), .int .i64 key.1, .int .u64 key.2] h k := by
  have hs := H.srt
  obtain ⟨v, G, ha, hO, rfl, hn⟩ := H.here
  have lv := hO.slR.len (t' := T_int) T_sl_api_Item.und
  rw [List.length_map] at lv
  have c0 : cellH h ⟨a, 0, none⟩ = some v := by simp [cellH, ha]
  apply carrackref15_Table_place.call
  unfold carrackref15_Table_place
  refine ⟨fun vs h' => ∃ i : Nat, i ≤ (pA L key).length ∧ vs = [.pointer (some ⟨a, 0, none⟩), .int .i64 key.1, .int .u64 key.2, .int .i64 i] ∧ h' = h, upTo (pA L key).length 3, ⟨0, by omega, rfl, rfl⟩, ?_⟩
  rintro ρ h' ⟨i, hi, hvs, rfl⟩
  simp only [List.map_cons, List.map_nil, List.cons.injEq, and_true] at hvs
  obtain ⟨e0, e1, e2, e3⟩ := hvs
  rw [e0, e1, e2, e3]
  unfold carrackref15_Table_place_b2
  have hpl := pA_le L key
  by_cases hlt : i < (pA L key).length
  · have hd : ((i : Int) < (L.length : Int)) = True := by apply eq_true; omega
    obtain ⟨m, hm⟩ : ∃ m, L[i]? = some m := ⟨_, List.getElem?_eq_getElem (by omega)⟩
    obtain ⟨b, o, a1, a2, a3, _, _⟩ := hO.slR.itf (k := .i64) hm
    have hkl := at_lt hs hlt hm
    have e5 : IntKind.i64.wrap ((i : Int) + 1) = ((i + 1 : Nat) : Int) := by rw [i64_wrap (by omega) (by omega)]; omega
    rcases hkl with h1 | ⟨h1, h2⟩
    · have d1 : (m.p.f < key.1) = True := eq_true h1
      simp only [T_carrackref15_Table.f0, T_sl_api_Item.load, c0, lv, hd, a1, T_api_Item.f0, T_api_Packet.f0, T_api_Packet.f1, T_int.load, T_uint64.load, a2, a3, d1, e5, popO_some, bindH_eq, condV_bool, condV_true, condV_false, yV_bool, gopV_tt, gopV_ff, gopV_tf, gopV_ft, pickV_t, pickV_f, pickV_bool, nilS_ptr, add_eq, sub_eq, mul_eq, lss_eq, leq_eq, gtr_eq, geq_eq, not_eq, minI_eq, maxI_eq, extract_0, extract_1, extract_2, eqlI, neqI, makeFunc_eq, decide_true, decide_false, if_true, if_false, Bool.false_eq_true, Bool.not_true, Bool.not_false, reduceIte, List.getElem?_toArray, List.getElem?_cons_zero, List.getElem?_cons_succ, Option.isSome_none, List.length_map]
      exact ⟨⟨i + 1, by omega, rfl, by trivial⟩, by simp [upTo, e3]; omega⟩
    · have h1' : m.p.f = key.1 := h1
      have h2' : m.p.s < key.2 := h2
      have d1 : (m.p.f < key.1) = False := by apply eq_false; omega
      have d2 : (m.p.f == key.1) = true := by simp [h1']
      have d3 : (m.p.s < key.2) = True := eq_true h2'
      simp only [T_carrackref15_Table.f0, T_sl_api_Item.load, c0, lv, hd, a1, T_api_Item.f0, T_api_Packet.f0, T_api_Packet.f1, T_int.load, T_uint64.load, a2, a3, d1, d2, d3, e5, popO_some, bindH_eq, condV_bool, condV_true, condV_false, yV_bool, gopV_tt, gopV_ff, gopV_tf, gopV_ft, pickV_t, pickV_f, pickV_bool, nilS_ptr, add_eq, sub_eq, mul_eq, lss_eq, leq_eq, gtr_eq, geq_eq, not_eq, minI_eq, maxI_eq, extract_0, extract_1, extract_2, eqlI, neqI, makeFunc_eq, decide_true, decide_false, if_true, if_false, Bool.false_eq_true, Bool.not_true, Bool.not_false, reduceIte, List.getElem?_toArray, List.getElem?_cons_zero, List.getElem?_cons_succ, Option.isSome_none, List.length_map]
      exact ⟨⟨i + 1, by omega, rfl, by trivial⟩, by simp [upTo, e3]; omega⟩
  · have hil : i = (pA L key).length := by omega
    subst hil
    by_cases hend : (pA L key).length < L.length
    · have hd : (((pA L key).length : Int) < (L.length : Int)) = True := by apply eq_true; omega
      obtain ⟨m, hm⟩ : ∃ m, L[(pA L key).length]? = some m := ⟨_, List.getElem?_eq_getElem hend⟩
      obtain ⟨b, o, a1, a2, a3, _, _⟩ := hO.slR.itf (k := .i64) hm
      obtain ⟨hnk, hsm, _⟩ := at_ge hs hm
      rw [hsm] at hk
      have hnf : ¬ (m.p.f < key.1 ∨ m.p.f = key.1 ∧ m.p.s < key.2) := hnk
      have d1 : (m.p.f < key.1) = False := by apply eq_false; omega
      by_cases hf : m.p.f = key.1
      · have d2 : (m.p.f == key.1) = true := by simp [hf]
        have d3 : (m.p.s < key.2) = False := by apply eq_false; omega
        by_cases hq : m.p.s = key.2
        · have d4 : (m.p.s == key.2) = true := by simp [hq]
          have : decide (m.key = key) = true := by simp only [decide_eq_true_eq]; exact Prod.ext hf hq
          rw [this] at hk
          simp only [T_carrackref15_Table.f0, T_sl_api_Item.load, c0, lv, hd, a1, T_api_Item.f0, T_api_Packet.f0, T_api_Packet.f1, T_int.load, T_uint64.load, a2, a3, d1, d2, d3, d4, popO_some, bindH_eq, condV_bool, condV_true, condV_false, yV_bool, gopV_tt, gopV_ff, gopV_tf, gopV_ft, pickV_t, pickV_f, pickV_bool, nilS_ptr, add_eq, sub_eq, mul_eq, lss_eq, leq_eq, gtr_eq, geq_eq, not_eq, minI_eq, maxI_eq, extract_0, extract_1, extract_2, eqlI, neqI, makeFunc_eq, decide_true, decide_false, if_true, if_false, Bool.false_eq_true, Bool.not_true, Bool.not_false, reduceIte, List.getElem?_toArray, List.getElem?_cons_zero, List.getElem?_cons_succ, Option.isSome_none, List.length_map]
          exact hk
        · have d4 : (m.p.s == key.2) = false := by simp [hq]
          have : decide (m.key = key) = false := by simp only [decide_eq_false_iff_not]; rintro rfl; exact hq rfl
          rw [this] at hk
          simp only [T_carrackref15_Table.f0, T_sl_api_Item.load, c0, lv, hd, a1, T_api_Item.f0, T_api_Packet.f0, T_api_Packet.f1, T_int.load, T_uint64.load, a2, a3, d1, d2, d3, d4, popO_some, bindH_eq, condV_bool, condV_true, condV_false, yV_bool, gopV_tt, gopV_ff, gopV_tf, gopV_ft, pickV_t, pickV_f, pickV_bool, nilS_ptr, add_eq, sub_eq, mul_eq, lss_eq, leq_eq, gtr_eq, geq_eq, not_eq, minI_eq, maxI_eq, extract_0, extract_1, extract_2, eqlI, neqI, makeFunc_eq, decide_true, decide_false, if_true, if_false, Bool.false_eq_true, Bool.not_true, Bool.not_false, reduceIte, List.getElem?_toArray, List.getElem?_cons_zero, List.getElem?_cons_succ, Option.isSome_none, List.length_map]
          exact hk
      · have d2 : (m.p.f == key.1) = false := by simp [hf]
        have : decide (m.key = key) = false := by simp only [decide_eq_false_iff_not]; rintro rfl; exact hf rfl
        rw [this] at hk
        simp only [T_carrackref15_Table.f0, T_sl_api_Item.load, c0, lv, hd, a1, T_api_Item.f0, T_api_Packet.f0, T_api_Packet.f1, T_int.load, T_uint64.load, a2, a3, d1, d2, popO_some, bindH_eq, condV_bool, condV_true, condV_false, yV_bool, gopV_tt, gopV_ff, gopV_tf, gopV_ft, pickV_t, pickV_f, pickV_bool, nilS_ptr, add_eq, sub_eq, mul_eq, lss_eq, leq_eq, gtr_eq, geq_eq, not_eq, minI_eq, maxI_eq, extract_0, extract_1, extract_2, eqlI, neqI, makeFunc_eq, decide_true, decide_false, if_true, if_false, Bool.false_eq_true, Bool.not_true, Bool.not_false, reduceIte, List.getElem?_toArray, List.getElem?_cons_zero, List.getElem?_cons_succ, Option.isSome_none, List.length_map]
        exact hk
    · have hd : (((pA L key).length : Int) < (L.length : Int)) = False := by apply eq_false; omega
      have hno := at_end hs (k := key) (by omega)
      rw [hno] at hk
      simp only [T_carrackref15_Table.f0, T_sl_api_Item.load, c0, lv, hd, yV_undef, gopV_none, popO_some, bindH_eq, condV_bool, condV_true, condV_false, yV_bool, gopV_tt, gopV_ff, gopV_tf, gopV_ft, pickV_t, pickV_f, pickV_bool, nilS_ptr, add_eq, sub_eq, mul_eq, lss_eq, leq_eq, gtr_eq, geq_eq, not_eq, minI_eq, maxI_eq, extract_0, extract_1, extract_2, eqlI, neqI, makeFunc_eq, decide_true, decide_false, if_true, if_false, Bool.false_eq_true, Bool.not_true, Bool.not_false, reduceIte, List.getElem?_toArray, List.getElem?_cons_zero, List.getElem?_cons_succ, Option.isSome_none, List.length_map]
      exact hk
end Go.Proofs.Ytdgcpeinkjnncaa
