/- net: what its functions do, as rules for their calls. -/
import Derived.Test.YtbloalappckjhaaSh
import Derived.Test.YtbloalappckjhaaHEq
set_option linter.unusedSimpArgs false
set_option linter.unusedVariables false
namespace Go.Proofs.Ytbloalappckjhaa
open Go

structure Msg where
  kind : Int
  dest : Int
  height : Int
  pfrom : Int
  pseq : Int
  ptimeout : Int
  pdata : ByteArray
  proof : ByteArray
  deriving DecidableEq
def Msg.cells (m : Msg) : List Value := [.int .i64 m.kind, .int .i64 m.dest, .int .u64 m.height, .int .i64 m.pfrom, .int .u64 m.pseq, .int .u64 m.ptimeout, .string m.pdata, .string m.proof]
theorem Msg.rows (l : List Msg) : Rows 8 (l.map Msg.cells) := fun r hr => by
  obtain ⟨m, _, rfl⟩ := List.mem_map.1 hr; rfl
theorem Msg.isCell (l : List Msg) : ∀ r ∈ l.map Msg.cells, ∀ u ∈ r, isCell u = true := fun r hr u hu => by
  obtain ⟨m, _, rfl⟩ := List.mem_map.1 hr
  simp only [Msg.cells, List.mem_cons, List.not_mem_nil, or_false] at hu
  rcases hu with rfl | rfl | rfl | rfl | rfl | rfl | rfl | rfl <;> rfl

/-- A net in memory: its block, and its messages' (F: both). -/
structure NetAt (h : PH) (a : Nat) (l : List Msg) (F : List Nat) : Prop where
  here : ∃ v G, h a = some (.cells #[v] T_net_Net (0, 0)) ∧ OwnR h T_api_Message 8 v (l.map Msg.cells) G ∧ F = a :: G ∧ a ∉ G

theorem New_ok {h : PH} {k : Value → PH → Prop} (hk : ∀ a h', h a = none → NetAt h' a [] [a] → Ext h h' → k (.pointer (some ⟨a, 0, none⟩)) h') : CallsH PG id_net_New #[] h k := by
  apply net_New.call
  unfold net_New
  simp only [T_net_Net.build0, popO_some, bindH_eq, condV_bool, condV_true, condV_false, yV_bool, gopV_tt, gopV_ff, gopV_tf, gopV_ft, pickV_t, pickV_f, pickV_bool, nilS_ptr, add_eq, sub_eq, mul_eq, lss_eq, leq_eq, gtr_eq, geq_eq, not_eq, minI_eq, maxI_eq, extract_0, extract_1, extract_2, eqlI, neqI, makeFunc_eq, decide_true, decide_false, if_true, if_false, Bool.false_eq_true, Bool.not_true, Bool.not_false, reduceIte, List.getElem?_toArray, List.getElem?_cons_zero, List.getElem?_cons_succ, Option.isSome_none, List.length_map]
  intro r hr
  exact hk r _ hr ⟨.slice none 0 0, [], set_same, OwnR.nil, rfl, by simp⟩ (Upd.new hr)

theorem there_ok {h : PH} {a : Nat} {l : List Msg} {F : List Nat} (hN : NetAt h a l F) (j : Int) {k : Value → PH → Prop} (hk : k (.bool (decide (0 ≤ j ∧ j < l.length))) h) :
    CallsH PG id_net_Net_there #[.pointer (some ⟨a, 0, none⟩), .int .i64 j] h k := by
  obtain ⟨v, G, ha, hO, rfl, hn⟩ := hN
  obtain ⟨va, vc, rfl, -⟩ := hO.slR.here
  apply net_Net_there.call
  unfold net_Net_there
  simp only [popO_some, bindH_eq, condV_bool, condV_true, condV_false, yV_bool, gopV_tt, gopV_ff, gopV_tf, gopV_ft, pickV_t, pickV_f, pickV_bool, nilS_ptr, add_eq, sub_eq, mul_eq, lss_eq, leq_eq, gtr_eq, geq_eq, not_eq, minI_eq, maxI_eq, extract_0, extract_1, extract_2, eqlI, neqI, makeFunc_eq, decide_true, decide_false, if_true, if_false, Bool.false_eq_true, Bool.not_true, Bool.not_false, reduceIte, List.getElem?_toArray, List.getElem?_cons_zero, List.getElem?_cons_succ, Option.isSome_none, List.length_map]
  by_cases h0 : 0 ≤ j
  · simp only [h0, T_net_Net.f0, T_sl_api_Message.load, cellH, ha, T_sl_api_Message.len, popO_some, bindH_eq, condV_bool, condV_true, condV_false, yV_bool, gopV_tt, gopV_ff, gopV_tf, gopV_ft, pickV_t, pickV_f, pickV_bool, nilS_ptr, add_eq, sub_eq, mul_eq, lss_eq, leq_eq, gtr_eq, geq_eq, not_eq, minI_eq, maxI_eq, extract_0, extract_1, extract_2, eqlI, neqI, makeFunc_eq, decide_true, decide_false, if_true, if_false, Bool.false_eq_true, Bool.not_true, Bool.not_false, reduceIte, List.getElem?_toArray, List.getElem?_cons_zero, List.getElem?_cons_succ, Option.isSome_none, List.length_map]
    simpa [h0] using hk
  · simp only [h0, popO_some, bindH_eq, condV_bool, condV_true, condV_false, yV_bool, gopV_tt, gopV_ff, gopV_tf, gopV_ft, pickV_t, pickV_f, pickV_bool, nilS_ptr, add_eq, sub_eq, mul_eq, lss_eq, leq_eq, gtr_eq, geq_eq, not_eq, minI_eq, maxI_eq, extract_0, extract_1, extract_2, eqlI, neqI, makeFunc_eq, decide_true, decide_false, if_true, if_false, Bool.false_eq_true, Bool.not_true, Bool.not_false, reduceIte, List.getElem?_toArray, List.getElem?_cons_zero, List.getElem?_cons_succ, Option.isSome_none, List.length_map]
    simpa [h0] using hk

theorem NetAt.known {h : PH} {a : Nat} {l : List Msg} {F : List Nat} (H : NetAt h a l F) : ∀ b ∈ F, h b ≠ none := by
  obtain ⟨v, G, ha, hO, rfl, hn⟩ := H
  intro b hb
  rcases List.mem_cons.1 hb with rfl | hb
  · rw [ha]; simp
  · exact hO.known b hb
theorem NetAt.upd {h h' : PH} {a : Nat} {l : List Msg} {F G : List Nat} (H : NetAt h a l F) (u : Upd G h h') (hd : ∀ b ∈ F, b ∉ G) : NetAt h' a l F := by
  obtain ⟨v, G', ha, hO, rfl, hn⟩ := H
  exact ⟨v, G', u.get ha (hd a (by simp)), hO.upd u (fun b hb => hd b (by simp [hb])), rfl, hn⟩

def cutN (n m : Nat) : Nat := min n (256 - m)
theorem i64_wrap {x : Int} (h1 : -9223372036854775808 ≤ x) (h2 : x ≤ 9223372036854775807) : IntKind.i64.wrap x = x := IntWalk.i64_in _ ⟨h1, h2⟩

/-- Send: a slice of messages that can be read, which isn't the net's own. -/
theorem Send_ok {h : PH} {a : Nat} {l xs : List Msg} {F : List Nat} {x : Value} (hN : NetAt h a l F) (hx : SlR h 8 x (xs.map Msg.cells)) (hl : l.length ≤ 256)
    {k : Value → PH → Prop} (hk : ∀ h' F', NetAt h' a (l ++ xs.take (256 - l.length)) F' → Upd F h h' → (∀ b ∈ F', b ∈ F ∨ h b = none) → k (.int .i64 (min xs.length (256 - l.length) : Nat)) h') :
    CallsH PG id_net_Net_Send #[.pointer (some ⟨a, 0, none⟩), x] h k := by
  obtain ⟨v, G, ha, hO, rfl, hn⟩ := hN
  obtain ⟨va, vc, rfl, -⟩ := hO.slR.here
  obtain ⟨xa, xc, rfl, hxc, hxm, hrest⟩ := hx.here
  apply net_Net_Send.call
  unfold net_Net_Send
  have e1 : IntKind.i64.wrap (256 - (l.length : Int)) = 256 - (l.length : Int) := i64_wrap (by omega) (by omega)
  simp only [T_net_Net.f0, T_sl_api_Message.load, cellH, ha, T_sl_api_Message.len, e1, popO_some, bindH_eq, condV_bool, condV_true, condV_false, yV_bool, gopV_tt, gopV_ff, gopV_tf, gopV_ft, pickV_t, pickV_f, pickV_bool, nilS_ptr, add_eq, sub_eq, mul_eq, lss_eq, leq_eq, gtr_eq, geq_eq, not_eq, minI_eq, maxI_eq, extract_0, extract_1, extract_2, eqlI, neqI, makeFunc_eq, decide_true, decide_false, if_true, if_false, Bool.false_eq_true, Bool.not_true, Bool.not_false, reduceIte, List.getElem?_toArray, List.getElem?_cons_zero, List.getElem?_cons_succ, Option.isSome_none, List.length_map]
  have e2 : (if 256 - (l.length : Int) < (xs.length : Int) then 256 - (l.length : Int) else (xs.length : Int)) = ((min xs.length (256 - l.length) : Nat) : Int) := by split <;> omega
  rw [e2]
  simp only [List.length_map] at hx hO
  obtain ⟨x', c1, c2, -⟩ := hx.cut T_sl_api_Message.und T_api_Message.info T_api_Message.size (lo := none) (.inl ⟨rfl, rfl⟩) (.inr ⟨.i64, rfl⟩) (Nat.zero_le _) (show min xs.length (256 - l.length) ≤ _ by simp; omega)
  rw [c1]
  simp only [popO_some, bindH_eq, condV_bool, condV_true, condV_false, yV_bool, gopV_tt, gopV_ff, gopV_tf, gopV_ft, pickV_t, pickV_f, pickV_bool, nilS_ptr, add_eq, sub_eq, mul_eq, lss_eq, leq_eq, gtr_eq, geq_eq, not_eq, minI_eq, maxI_eq, extract_0, extract_1, extract_2, eqlI, neqI, makeFunc_eq, decide_true, decide_false, if_true, if_false, Bool.false_eq_true, Bool.not_true, Bool.not_false, reduceIte, List.getElem?_toArray, List.getElem?_cons_zero, List.getElem?_cons_succ, Option.isSome_none, List.length_map]
  have e3 : List.take (min xs.length (256 - l.length)) (xs.map Msg.cells) = (xs.take (256 - l.length)).map Msg.cells := by
    rw [← List.map_take]; congr 1; rw [List.take_eq_take_iff]; omega
  rw [List.drop_zero, e3] at c2
  refine append_own T_sl_api_Message.und T_sl_api_Message.und T_api_Message.info T_api_Message.size T_api_Message.bytes T_api_Message.zero rfl (by decide) hO c2 (Msg.isCell _) (by simp; omega) ?_
  intro v' h' F' hO' hU hF' hC
  have ha' : h' a = some (.cells #[.slice va l.length vc] T_net_Net (0, 0)) := hU.get (by simpa using ha) hn
  refine store_cell T_sl_api_Message.und rfl ha' (by simp) ?_ T_sl_api_Message.info T_sl_api_Message.size ?_
  · obtain ⟨_, _, rfl, -⟩ := hO'.slR.here; rfl
  have hn' : a ∉ F' := fun hm => by
    rcases hF' a hm with h1 | h1
    · exact hn h1
    · rw [ha] at h1; cases h1
  rw [← List.map_append] at hO'
  refine hk _ (a :: F') ⟨v', F', by simpa using set_same, hO'.upd (Upd.set (F := [a]) (by simp)) (fun b hb => by simp; rintro rfl; exact hn' hb), rfl, hn'⟩ ((hU.mono fun b hb => .inl (by simp [hb])).trans (Upd.set (by simp))) (fun b hb => ?_)
  rcases List.mem_cons.1 hb with rfl | hb
  · exact .inl (by simp)
  · rcases hF' b hb with h1 | h1
    · exact .inl (by simp [h1])
    · exact .inr h1

theorem CloneMsg_ok {h : PH} {xs : List Msg} {x : Value} (hx : SlR h 8 x (xs.map Msg.cells)) (hl : xs.length ≤ 1000000) {k : Value → PH → Prop}
    (hk : ∀ v' h' F', OwnR h' T_api_Message 8 v' (xs.map Msg.cells) F' → Ext h h' → (∀ b ∈ F', h b = none) → k v' h') : CallsH PG id_slices_Clone_sl_api_Message_api_Message #[x] h k := by
  obtain ⟨xa, xc, rfl, hx1, hx2, hx3, hx4⟩ := hx.here
  apply slices_Clone_sl_api_Message_api_Message.call
  unfold slices_Clone_sl_api_Message_api_Message
  simp only [eqlNil T_sl_api_Message.und, popO_some, bindH_eq, condV_bool, condV_true, condV_false, yV_bool, gopV_tt, gopV_ff, gopV_tf, gopV_ft, pickV_t, pickV_f, pickV_bool, nilS_ptr, add_eq, sub_eq, mul_eq, lss_eq, leq_eq, gtr_eq, geq_eq, not_eq, minI_eq, maxI_eq, extract_0, extract_1, extract_2, eqlI, neqI, makeFunc_eq, decide_true, decide_false, if_true, if_false, Bool.false_eq_true, Bool.not_true, Bool.not_false, reduceIte, List.getElem?_toArray, List.getElem?_cons_zero, List.getElem?_cons_succ, Option.isSome_none, List.length_map]
  cases xa with
  | none =>
    have : xs = [] := by
      by_cases h0 : xs = []
      · exact h0
      · obtain ⟨b, o, cs, e, fr, h1, _⟩ := hx3 (by simpa using h0); cases h1
    subst this
    simp only [Option.isNone_none, popO_some, bindH_eq, condV_bool, condV_true, condV_false, yV_bool, gopV_tt, gopV_ff, gopV_tf, gopV_ft, pickV_t, pickV_f, pickV_bool, nilS_ptr, add_eq, sub_eq, mul_eq, lss_eq, leq_eq, gtr_eq, geq_eq, not_eq, minI_eq, maxI_eq, extract_0, extract_1, extract_2, eqlI, neqI, makeFunc_eq, decide_true, decide_false, if_true, if_false, Bool.false_eq_true, Bool.not_true, Bool.not_false, reduceIte, List.getElem?_toArray, List.getElem?_cons_zero, List.getElem?_cons_succ, Option.isSome_none, List.length_map]
    exact hk _ _ [] OwnR.nil Upd.refl (by simp)
  | some a =>
    simp only [Option.isNone_some, popO_some, bindH_eq, condV_bool, condV_true, condV_false, yV_bool, gopV_tt, gopV_ff, gopV_tf, gopV_ft, pickV_t, pickV_f, pickV_bool, nilS_ptr, add_eq, sub_eq, mul_eq, lss_eq, leq_eq, gtr_eq, geq_eq, not_eq, minI_eq, maxI_eq, extract_0, extract_1, extract_2, eqlI, neqI, makeFunc_eq, decide_true, decide_false, if_true, if_false, Bool.false_eq_true, Bool.not_true, Bool.not_false, reduceIte, List.getElem?_toArray, List.getElem?_cons_zero, List.getElem?_cons_succ, Option.isSome_none, List.length_map]
    have e1 : SemA PG (Instr.buildSlice T_sl_api_Message 0 #[]) = some (.cells #[] T_api_Message, fun r => pure (.slice (some ⟨r, 0, none⟩) 0 0)) := by kernel_rfl
    rw [e1]
    simp only [popO_some, bindH_eq, condV_bool, condV_true, condV_false, yV_bool, gopV_tt, gopV_ff, gopV_tf, gopV_ft, pickV_t, pickV_f, pickV_bool, nilS_ptr, add_eq, sub_eq, mul_eq, lss_eq, leq_eq, gtr_eq, geq_eq, not_eq, minI_eq, maxI_eq, extract_0, extract_1, extract_2, eqlI, neqI, makeFunc_eq, decide_true, decide_false, if_true, if_false, Bool.false_eq_true, Bool.not_true, Bool.not_false, reduceIte, List.getElem?_toArray, List.getElem?_cons_zero, List.getElem?_cons_succ, Option.isSome_none, List.length_map]
    intro r hr
    show popO (some (Value.slice (some ⟨r, 0, none⟩) 0 0)) _
    simp only [popO_some, bindH_eq, condV_bool, condV_true, condV_false, yV_bool, gopV_tt, gopV_ff, gopV_tf, gopV_ft, pickV_t, pickV_f, pickV_bool, nilS_ptr, add_eq, sub_eq, mul_eq, lss_eq, leq_eq, gtr_eq, geq_eq, not_eq, minI_eq, maxI_eq, extract_0, extract_1, extract_2, eqlI, neqI, makeFunc_eq, decide_true, decide_false, if_true, if_false, Bool.false_eq_true, Bool.not_true, Bool.not_false, reduceIte, List.getElem?_toArray, List.getElem?_cons_zero, List.getElem?_cons_succ, Option.isSome_none, List.length_map]
    have hO : OwnR (h.set r (.cells #[] T_api_Message)) T_api_Message 8 (.slice (some ⟨r, 0, none⟩) 0 0) [] [r] := OwnR.lit (by intro r hr; cases hr) set_same rfl (by simp) rfl
    refine append_own T_sl_api_Message.und T_sl_api_Message.und T_api_Message.info T_api_Message.size T_api_Message.bytes T_api_Message.zero rfl (by decide) hO (by simpa only [List.length_map] using hx.ext (Upd.new hr)) (Msg.isCell _) (by simp; omega) ?_
    intro v' h' F' hO' hU hF' hC
    refine hk v' h' F' (by simpa using hO') (fun b o hb _ => hU b o (set_old hr hb) (by simp; exact ne_new hb hr)) (fun b hb => ?_)
    rcases hF' b hb with h1 | h1
    · simp at h1; subst h1; exact hr
    · by_cases e : b = r
      · subst e; exact hr
      · rwa [set_other e] at h1

theorem List_ok {h : PH} {a : Nat} {l : List Msg} {F : List Nat} (hN : NetAt h a l F) (hl : l.length ≤ 256) {k : Value → PH → Prop}
    (hk : ∀ v' h' F', OwnR h' T_api_Message 8 v' (l.map Msg.cells) F' → Ext h h' → (∀ b ∈ F', h b = none) → k v' h') : CallsH PG id_net_Net_List #[.pointer (some ⟨a, 0, none⟩)] h k := by
  obtain ⟨v, G, ha, hO, rfl, hn⟩ := hN
  apply net_Net_List.call
  unfold net_Net_List
  simp only [T_net_Net.f0, T_sl_api_Message.load, cellH, ha, popO_some, bindH_eq, condV_bool, condV_true, condV_false, yV_bool, gopV_tt, gopV_ff, gopV_tf, gopV_ft, pickV_t, pickV_f, pickV_bool, nilS_ptr, add_eq, sub_eq, mul_eq, lss_eq, leq_eq, gtr_eq, geq_eq, not_eq, minI_eq, maxI_eq, extract_0, extract_1, extract_2, eqlI, neqI, makeFunc_eq, decide_true, decide_false, if_true, if_false, Bool.false_eq_true, Bool.not_true, Bool.not_false, reduceIte, List.getElem?_toArray, List.getElem?_cons_zero, List.getElem?_cons_succ, Option.isSome_none, List.length_map]
  exact CloneMsg_ok hO.slR (by omega) hk
theorem Len_ok {h : PH} {a : Nat} {l : List Msg} {F : List Nat} (hN : NetAt h a l F) {k : Value → PH → Prop}
    (hk : k (.int .i64 l.length) h) : CallsH PG id_net_Net_Len #[.pointer (some ⟨a, 0, none⟩)] h k := by
  obtain ⟨v, G, ha, hO, rfl, hn⟩ := hN
  obtain ⟨va, vc, rfl, -⟩ := hO.slR.here
  apply net_Net_Len.call
  unfold net_Net_Len
  simp only [T_net_Net.f0, T_sl_api_Message.load, cellH, ha, T_sl_api_Message.len, popO_some, bindH_eq, condV_bool, condV_true, condV_false, yV_bool, gopV_tt, gopV_ff, gopV_tf, gopV_ft, pickV_t, pickV_f, pickV_bool, nilS_ptr, add_eq, sub_eq, mul_eq, lss_eq, leq_eq, gtr_eq, geq_eq, not_eq, minI_eq, maxI_eq, extract_0, extract_1, extract_2, eqlI, neqI, makeFunc_eq, decide_true, decide_false, if_true, if_false, Bool.false_eq_true, Bool.not_true, Bool.not_false, reduceIte, List.getElem?_toArray, List.getElem?_cons_zero, List.getElem?_cons_succ, Option.isSome_none, List.length_map]
  exact hk

theorem Delete_ok {h : PH} {xs : List Msg} {v : Value} {F : List Nat} (hO : OwnR h T_api_Message 8 v (xs.map Msg.cells) F) (hl : xs.length ≤ 1000000) {i : Nat} (hi : i < xs.length) {k : Value → PH → Prop}
    (hk : ∀ v' h' F', OwnR h' T_api_Message 8 v' ((xs.eraseIdx i).map Msg.cells) F' → Upd F h h' → (∀ b ∈ F', b ∈ F ∨ h b = none) → k v' h') :
    CallsH PG id_slices_Delete_sl_api_Message_api_Message #[v, .int .i64 i, .int .i64 ((i + 1 : Nat) : Int)] h k := by
  have hR := hO.slR
  obtain ⟨va, vc, rfl, hv1, hv2, hv3, hv4⟩ := hO.slR.here
  apply slices_Delete_sl_api_Message_api_Message.call
  unfold slices_Delete_sl_api_Message_api_Message
  simp only [List.length_map] at hv1 hR hO
  have hne : ((i : Int) == ((i + 1 : Nat) : Int)) = false := by rw [beq_eq_false_iff_ne]; omega
  simp only [T_sl_api_Message.len, sliceAt_eq3 T_sl_api_Message.und T_api_Message.info (show i ≤ i + 1 by omega) (show i + 1 ≤ xs.length by omega) hv1, hne, popO_some, bindH_eq, condV_bool, condV_true, condV_false, yV_bool, gopV_tt, gopV_ff, gopV_tf, gopV_ft, pickV_t, pickV_f, pickV_bool, nilS_ptr, add_eq, sub_eq, mul_eq, lss_eq, leq_eq, gtr_eq, geq_eq, not_eq, minI_eq, maxI_eq, extract_0, extract_1, extract_2, eqlI, neqI, makeFunc_eq, decide_true, decide_false, if_true, if_false, Bool.false_eq_true, Bool.not_true, Bool.not_false, reduceIte, List.getElem?_toArray, List.getElem?_cons_zero, List.getElem?_cons_succ, Option.isSome_none, List.length_map]
  obtain ⟨d, d1, d2⟩ := hO.front T_sl_api_Message.und T_api_Message.info T_api_Message.size (k := .i64) (m := i) (.inl rfl) (by simp; omega)
  obtain ⟨s, s1, s2, -⟩ := hR.cut T_sl_api_Message.und T_api_Message.info T_api_Message.size (hi := none) (.inr ⟨.i64, rfl⟩) (.inl ⟨rfl, rfl⟩) (show i + 1 ≤ _ by simp; omega) (Nat.le_refl _)
  rw [d1]; simp only [popO_some, bindH_eq, condV_bool, condV_true, condV_false, yV_bool, gopV_tt, gopV_ff, gopV_tf, gopV_ft, pickV_t, pickV_f, pickV_bool, nilS_ptr, add_eq, sub_eq, mul_eq, lss_eq, leq_eq, gtr_eq, geq_eq, not_eq, minI_eq, maxI_eq, extract_0, extract_1, extract_2, eqlI, neqI, makeFunc_eq, decide_true, decide_false, if_true, if_false, Bool.false_eq_true, Bool.not_true, Bool.not_false, reduceIte, List.getElem?_toArray, List.getElem?_cons_zero, List.getElem?_cons_succ, Option.isSome_none, List.length_map]
  rw [s1]; simp only [popO_some, bindH_eq, condV_bool, condV_true, condV_false, yV_bool, gopV_tt, gopV_ff, gopV_tf, gopV_ft, pickV_t, pickV_f, pickV_bool, nilS_ptr, add_eq, sub_eq, mul_eq, lss_eq, leq_eq, gtr_eq, geq_eq, not_eq, minI_eq, maxI_eq, extract_0, extract_1, extract_2, eqlI, neqI, makeFunc_eq, decide_true, decide_false, if_true, if_false, Bool.false_eq_true, Bool.not_true, Bool.not_false, reduceIte, List.getElem?_toArray, List.getElem?_cons_zero, List.getElem?_cons_succ, Option.isSome_none, List.length_map]
  have e1 : (xs.map Msg.cells).take i = (xs.take i).map Msg.cells := by rw [List.map_take]
  have e2 : ((xs.map Msg.cells).take (xs.map Msg.cells).length).drop (i + 1) = (xs.drop (i + 1)).map Msg.cells := by rw [List.take_length, List.map_drop]
  rw [e1] at d2; rw [e2] at s2
  refine append_own T_sl_api_Message.und T_sl_api_Message.und T_api_Message.info T_api_Message.size T_api_Message.bytes T_api_Message.zero rfl (by decide) d2 s2 (Msg.isCell _) (by simp; omega) ?_
  intro v' h' F' hO' hU hF' hC
  have e3 : (xs.take i).map Msg.cells ++ (xs.drop (i + 1)).map Msg.cells = (xs.eraseIdx i).map Msg.cells := by rw [← List.map_append, List.eraseIdx_eq_take_drop_succ]
  rw [e3] at hO'
  have hlen : (xs.eraseIdx i).length = xs.length - 1 := by rw [List.length_eraseIdx]; simp [hi]
  have hdc : capOf d = vc := by
    have := sliceAt_eq (P := PG) (a := va) (len := xs.length) (cap := vc) (lo := none) T_sl_api_Message.und T_api_Message.info (.inl ⟨rfl, rfl⟩) (.inr ⟨.i64, rfl⟩) (Nat.zero_le i) (by omega)
    rw [this] at d1; cases d1; simp [capOf]
  rw [hdc] at hC
  obtain ⟨va', vc', rfl, hw1, hw2, hw3, hw4⟩ := hO'.slR.here
  simp only [capOf] at hC
  simp only [List.length_map, T_sl_api_Message.len, popO_some, bindH_eq, condV_bool, condV_true, condV_false, yV_bool, gopV_tt, gopV_ff, gopV_tf, gopV_ft, pickV_t, pickV_f, pickV_bool, nilS_ptr, add_eq, sub_eq, mul_eq, lss_eq, leq_eq, gtr_eq, geq_eq, not_eq, minI_eq, maxI_eq, extract_0, extract_1, extract_2, eqlI, neqI, makeFunc_eq, decide_true, decide_false, if_true, if_false, Bool.false_eq_true, Bool.not_true, Bool.not_false, reduceIte, List.getElem?_toArray, List.getElem?_cons_zero, List.getElem?_cons_succ, Option.isSome_none, List.length_map]
  simp only [List.length_map] at hw1
  have hs := sliceAt_eq (P := PG) (a := va') (len := (xs.eraseIdx i).length) (cap := vc') T_sl_api_Message.und T_api_Message.info (.inr ⟨.i64, rfl⟩) (.inr ⟨.i64, rfl⟩) (show (xs.eraseIdx i).length ≤ xs.length by omega) (by omega)
  rw [hs]
  simp only [popO_some, bindH_eq, condV_bool, condV_true, condV_false, yV_bool, gopV_tt, gopV_ff, gopV_tf, gopV_ft, pickV_t, pickV_f, pickV_bool, nilS_ptr, add_eq, sub_eq, mul_eq, lss_eq, leq_eq, gtr_eq, geq_eq, not_eq, minI_eq, maxI_eq, extract_0, extract_1, extract_2, eqlI, neqI, makeFunc_eq, decide_true, decide_false, if_true, if_false, Bool.false_eq_true, Bool.not_true, Bool.not_false, reduceIte, List.getElem?_toArray, List.getElem?_cons_zero, List.getElem?_cons_succ, Option.isSome_none, List.length_map]
  simp only [List.length_map] at hO'
  refine clear_tail T_sl_api_Message.und T_api_Message.info T_api_Message.size T_api_Message.zero rfl (by decide) hO' ⟨.i64, .i64, by rw [List.length_map]; exact hs⟩ (by simp; omega) (fun a n c hv => ?_) ?_
  · cases hv; omega
  · intro h2 hO2 hU2
    exact hk _ h2 F' hO2 (hU.then hU2 hF') hF'

theorem beq_dec {α : Type} [DecidableEq α] (a b : α) : (a == b) = decide (a = b) := by rw [Bool.eq_iff_iff]; simp
theorem Msg.eqIn {h : PH} (m m' : Msg) : SemE PG h (Op.equalIn (9999 + 1) T_api_Message (.agg m.cells.toArray) (.agg m'.cells.toArray)) = some (decide (m = m')) := by
  have hp : SemE PG h (Op.equalIn (9998 + 1) T_api_Packet (.agg #[.int .i64 m.pfrom, .int .u64 m.pseq, .int .u64 m.ptimeout, .string m.pdata]) (.agg #[.int .i64 m'.pfrom, .int .u64 m'.pseq, .int .u64 m'.ptimeout, .string m'.pdata])) =
      some (m.pfrom == m'.pfrom && (m.pseq == m'.pseq && (m.ptimeout == m'.ptimeout && (m.pdata == m'.pdata && true)))) := by
    refine (eqIn_struct T_api_Packet.und (by kernel_rfl) (fun f => match f.offset with | 0 => m.pfrom == m'.pfrom | 1 => m.pseq == m'.pseq | 2 => m.ptimeout == m'.ptimeout | _ => m.pdata == m'.pdata) ?_)
    intro f hf
    simp only [List.mem_cons, List.not_mem_nil, or_false] at hf
    rcases hf with rfl | rfl | rfl | rfl
    · exact ⟨by decide, _, _, part_cell T_int.und rfl rfl, part_cell T_int.und rfl rfl, eqIn_int T_int.und⟩
    · exact ⟨by decide, _, _, part_cell T_uint64.und rfl rfl, part_cell T_uint64.und rfl rfl, eqIn_int T_uint64.und⟩
    · exact ⟨by decide, _, _, part_cell T_uint64.und rfl rfl, part_cell T_uint64.und rfl rfl, eqIn_int T_uint64.und⟩
    · exact ⟨by decide, _, _, part_cell T_string.und rfl rfl, part_cell T_string.und rfl rfl, eqIn_string T_string.und⟩
  have hm : SemE PG h (Op.equalIn (9999 + 1) T_api_Message (.agg m.cells.toArray) (.agg m'.cells.toArray)) = some (m.kind == m'.kind && (m.dest == m'.dest && (m.height == m'.height && ((m.pfrom == m'.pfrom && (m.pseq == m'.pseq && (m.ptimeout == m'.ptimeout && (m.pdata == m'.pdata && true)))) && (m.proof == m'.proof && true))))) := by
    refine (eqIn_struct T_api_Message.und (by kernel_rfl) (fun f => match f.offset with | 0 => m.kind == m'.kind | 1 => m.dest == m'.dest | 2 => m.height == m'.height | 3 => (m.pfrom == m'.pfrom && (m.pseq == m'.pseq && (m.ptimeout == m'.ptimeout && (m.pdata == m'.pdata && true)))) | _ => m.proof == m'.proof) ?_)
    intro f hf
    simp only [List.mem_cons, List.not_mem_nil, or_false] at hf
    rcases hf with rfl | rfl | rfl | rfl | rfl
    · exact ⟨by decide, _, _, part_cell T_int.und rfl rfl, part_cell T_int.und rfl rfl, eqIn_int T_int.und⟩
    · exact ⟨by decide, _, _, part_cell T_int.und rfl rfl, part_cell T_int.und rfl rfl, eqIn_int T_int.und⟩
    · exact ⟨by decide, _, _, part_cell T_uint64.und rfl rfl, part_cell T_uint64.und rfl rfl, eqIn_int T_uint64.und⟩
    · exact ⟨by decide, _, _, part_agg T_api_Packet.und rfl T_api_Packet.info T_api_Packet.size, part_agg T_api_Packet.und rfl T_api_Packet.info T_api_Packet.size, hp⟩
    · exact ⟨by decide, _, _, part_cell T_string.und rfl rfl, part_cell T_string.und rfl rfl, eqIn_string T_string.und⟩
  rw [hm]
  congr 1
  simp only [beq_bytes]
  rw [Bool.eq_iff_iff]
  cases m; cases m'
  simp [Msg.mk.injEq, and_assoc]
theorem Msg.neq {h : PH} {x y : Operand} (m m' : Msg) : SemE PG h (binS .neq T_api_Message x y (.agg m.cells.toArray) (.agg m'.cells.toArray)) = some (.bool (!decide (m = m'))) := neqStruct (by kernel_rfl) (Msg.eqIn m m')
theorem Msg.eql {h : PH} {x y : Operand} (m m' : Msg) : SemE PG h (binS .eql T_api_Message x y (.agg m.cells.toArray) (.agg m'.cells.toArray)) = some (.bool (decide (m = m'))) := eqlStruct (by kernel_rfl) (Msg.eqIn m m')

theorem Msg.len8 (m : Msg) : m.cells.length = 8 := rfl
theorem SlR.msg {h : PH} {x : Value} {xs : List Msg} (H : SlR h 8 x (xs.map Msg.cells)) {k : IntKind} {j : Int} {m : Msg} (h0 : 0 ≤ j) (hm : xs[j.toNat]? = some m) :
    ∃ a, SemP PG (Instr.indexAt T_sl_api_Message x (.int k j)) = some (.pointer (some a)) ∧ SemE PG h (Instr.loadAt T_api_Message (.pointer (some a))) = some (.agg m.cells.toArray) :=
  H.loadAgg T_sl_api_Message.und T_api_Message.info T_api_Message.size T_api_Message.und rfl h0 (by rw [List.getElem?_map, hm]; rfl)

/-- What falls from round to round where a counter rises. -/
def upTo (n : Nat) (i : Nat) : List Value → PH → Nat := fun vs _ => match vs[i]? with
  | some (.int _ j) => n - j.toNat
  | _ => 0
theorem Same_ok {h : PH} {x y : Value} {xs ys : List Msg} (hx : SlR h 8 x (xs.map Msg.cells)) (hy : SlR h 8 y (ys.map Msg.cells)) {k : Value → PH → Prop} (hk : k (.bool (decide (xs = ys))) h) :
    CallsH PG id_carrackref19_Same #[x, y] h k := by
  have hsmall := hx.small
  simp only [maxL, List.length_map] at hsmall
  apply carrackref19_Same.call
  unfold carrackref19_Same
  simp only [hx.len T_sl_api_Message.und, hy.len T_sl_api_Message.und, popO_some, bindH_eq, condV_bool, condV_true, condV_false, yV_bool, gopV_tt, gopV_ff, gopV_tf, gopV_ft, pickV_t, pickV_f, pickV_bool, nilS_ptr, add_eq, sub_eq, mul_eq, lss_eq, leq_eq, gtr_eq, geq_eq, not_eq, minI_eq, maxI_eq, extract_0, extract_1, extract_2, eqlI, neqI, makeFunc_eq, decide_true, decide_false, if_true, if_false, Bool.false_eq_true, Bool.not_true, Bool.not_false, reduceIte, List.getElem?_toArray, List.getElem?_cons_zero, List.getElem?_cons_succ, Option.isSome_none, List.length_map]
  by_cases hl : xs.length = ys.length
  · have h1 : ((xs.length : Int) != (ys.length : Int)) = false := by simp [hl]
    simp only [h1, popO_some, bindH_eq, condV_bool, condV_true, condV_false, yV_bool, gopV_tt, gopV_ff, gopV_tf, gopV_ft, pickV_t, pickV_f, pickV_bool, nilS_ptr, add_eq, sub_eq, mul_eq, lss_eq, leq_eq, gtr_eq, geq_eq, not_eq, minI_eq, maxI_eq, extract_0, extract_1, extract_2, eqlI, neqI, makeFunc_eq, decide_true, decide_false, if_true, if_false, Bool.false_eq_true, Bool.not_true, Bool.not_false, reduceIte, List.getElem?_toArray, List.getElem?_cons_zero, List.getElem?_cons_succ, Option.isSome_none, List.length_map]
    refine ⟨fun vs h' => ∃ i : Nat, i ≤ xs.length ∧ vs = [x, y, .int .i64 i] ∧ h' = h ∧ xs.take i = ys.take i, upTo xs.length 2, ⟨0, by omega, rfl, rfl, by simp⟩, ?_⟩
    rintro ρ h' ⟨i, hi, hvs, rfl, htk⟩
    simp only [List.map_cons, List.map_nil, List.cons.injEq, and_true] at hvs
    obtain ⟨e0, e1, e5⟩ := hvs
    rw [e0, e1, e5]
    unfold carrackref19_Same_b5
    simp only [hx.len T_sl_api_Message.und, popO_some, bindH_eq, condV_bool, condV_true, condV_false, yV_bool, gopV_tt, gopV_ff, gopV_tf, gopV_ft, pickV_t, pickV_f, pickV_bool, nilS_ptr, add_eq, sub_eq, mul_eq, lss_eq, leq_eq, gtr_eq, geq_eq, not_eq, minI_eq, maxI_eq, extract_0, extract_1, extract_2, eqlI, neqI, makeFunc_eq, decide_true, decide_false, if_true, if_false, Bool.false_eq_true, Bool.not_true, Bool.not_false, reduceIte, List.getElem?_toArray, List.getElem?_cons_zero, List.getElem?_cons_succ, Option.isSome_none, List.length_map]
    by_cases hlt : i < xs.length
    · have hd : decide ((i : Int) < (xs.length : Int)) = true := by simp; omega
      obtain ⟨m, hm⟩ : ∃ m, xs[i]? = some m := ⟨_, List.getElem?_eq_getElem hlt⟩
      obtain ⟨m', hm'⟩ : ∃ m', ys[i]? = some m' := ⟨_, List.getElem?_eq_getElem (by omega)⟩
      obtain ⟨a, a1, a2⟩ := hx.msg (k := .i64) (j := (i : Int)) (by omega) (by simpa using hm)
      obtain ⟨b, b1, b2⟩ := hy.msg (k := .i64) (j := (i : Int)) (by omega) (by simpa using hm')
      simp only [hd, a1, a2, b1, b2, Msg.neq, popO_some, bindH_eq, condV_bool, condV_true, condV_false, yV_bool, gopV_tt, gopV_ff, gopV_tf, gopV_ft, pickV_t, pickV_f, pickV_bool, nilS_ptr, add_eq, sub_eq, mul_eq, lss_eq, leq_eq, gtr_eq, geq_eq, not_eq, minI_eq, maxI_eq, extract_0, extract_1, extract_2, eqlI, neqI, makeFunc_eq, decide_true, decide_false, if_true, if_false, Bool.false_eq_true, Bool.not_true, Bool.not_false, reduceIte, List.getElem?_toArray, List.getElem?_cons_zero, List.getElem?_cons_succ, Option.isSome_none, List.length_map]
      by_cases hmm : m = m'
      · have e2 : IntKind.i64.wrap ((i : Int) + 1) = ((i + 1 : Nat) : Int) := by rw [i64_wrap (by omega) (by omega)]; omega
        simp only [hmm, e2, popO_some, bindH_eq, condV_bool, condV_true, condV_false, yV_bool, gopV_tt, gopV_ff, gopV_tf, gopV_ft, pickV_t, pickV_f, pickV_bool, nilS_ptr, add_eq, sub_eq, mul_eq, lss_eq, leq_eq, gtr_eq, geq_eq, not_eq, minI_eq, maxI_eq, extract_0, extract_1, extract_2, eqlI, neqI, makeFunc_eq, decide_true, decide_false, if_true, if_false, Bool.false_eq_true, Bool.not_true, Bool.not_false, reduceIte, List.getElem?_toArray, List.getElem?_cons_zero, List.getElem?_cons_succ, Option.isSome_none, List.length_map]
        refine ⟨⟨i + 1, by omega, by simp, by simp, ?_⟩, ?_⟩
        · rw [List.take_add_one, List.take_add_one, htk, hm, hm', hmm]
        · simp [upTo, e5]; omega
      · have : xs ≠ ys := fun e => hmm (by rw [e] at hm; rw [hm] at hm'; exact Option.some.inj hm')
        simp only [hmm, popO_some, bindH_eq, condV_bool, condV_true, condV_false, yV_bool, gopV_tt, gopV_ff, gopV_tf, gopV_ft, pickV_t, pickV_f, pickV_bool, nilS_ptr, add_eq, sub_eq, mul_eq, lss_eq, leq_eq, gtr_eq, geq_eq, not_eq, minI_eq, maxI_eq, extract_0, extract_1, extract_2, eqlI, neqI, makeFunc_eq, decide_true, decide_false, if_true, if_false, Bool.false_eq_true, Bool.not_true, Bool.not_false, reduceIte, List.getElem?_toArray, List.getElem?_cons_zero, List.getElem?_cons_succ, Option.isSome_none, List.length_map]
        simpa [this] using hk
    · have hd : decide ((i : Int) < (xs.length : Int)) = false := by simp; omega
      have : xs = ys := by
        have h1 := htk
        rwa [List.take_of_length_le (by omega), List.take_of_length_le (by omega)] at h1
      simp only [hd, popO_some, bindH_eq, condV_bool, condV_true, condV_false, yV_bool, gopV_tt, gopV_ff, gopV_tf, gopV_ft, pickV_t, pickV_f, pickV_bool, nilS_ptr, add_eq, sub_eq, mul_eq, lss_eq, leq_eq, gtr_eq, geq_eq, not_eq, minI_eq, maxI_eq, extract_0, extract_1, extract_2, eqlI, neqI, makeFunc_eq, decide_true, decide_false, if_true, if_false, Bool.false_eq_true, Bool.not_true, Bool.not_false, reduceIte, List.getElem?_toArray, List.getElem?_cons_zero, List.getElem?_cons_succ, Option.isSome_none, List.length_map]
      simpa [this] using hk
  · have h1 : ((xs.length : Int) != (ys.length : Int)) = true := by simp; omega
    have : xs ≠ ys := fun e => hl (by rw [e])
    simp only [h1, popO_some, bindH_eq, condV_bool, condV_true, condV_false, yV_bool, gopV_tt, gopV_ff, gopV_tf, gopV_ft, pickV_t, pickV_f, pickV_bool, nilS_ptr, add_eq, sub_eq, mul_eq, lss_eq, leq_eq, gtr_eq, geq_eq, not_eq, minI_eq, maxI_eq, extract_0, extract_1, extract_2, eqlI, neqI, makeFunc_eq, decide_true, decide_false, if_true, if_false, Bool.false_eq_true, Bool.not_true, Bool.not_false, reduceIte, List.getElem?_toArray, List.getElem?_cons_zero, List.getElem?_cons_succ, Option.isSome_none, List.length_map]
    simpa [this] using hk

def Msg.zero : Msg := ⟨0, 0, 0, 0, 0, 0, ⟨#[]⟩, ⟨#[]⟩⟩
theorem Msg.allCell (m : Msg) : ∀ v ∈ m.cells.toArray.toList, Go.Proofs.Ytbloalappckjhaa.isCell v = true := fun v hv => by
  simp only [Msg.cells, List.mem_cons, List.not_mem_nil, or_false] at hv
  rcases hv with rfl | rfl | rfl | rfl | rfl | rfl | rfl | rfl <;> rfl
theorem Msg.box {h : PH} {r : Nat} {c : Array Value} (m : Msg) {k : Value → PH → Prop} (hb : h r = some (.cells c T_api_Message (0, 0))) (hc : c.size = 8) (hk : k undef (h.set r (.cells m.cells.toArray T_api_Message (0, 0)))) :
    SemH PG (storeS T_api_Message (.pointer (some ⟨r, 0, none⟩)) (.agg m.cells.toArray)) h k :=
  store_box hb T_api_Message.info T_api_Message.size (by show 0 < 8; decide) hc (Msg.allCell m) hk
theorem Msg.unbox {h : PH} {r : Nat} (m : Msg) (hb : h r = some (.cells m.cells.toArray T_api_Message (0, 0))) : SemE PG h (Instr.loadAt T_api_Message (.pointer (some ⟨r, 0, none⟩))) = some (.agg m.cells.toArray) :=
  load_box T_api_Message.und rfl T_api_Message.info T_api_Message.size hb rfl
theorem Upd.box {F : List Nat} {h h1 : PH} {r : Nat} {o o' : Obj} (hr : h r = none) (e : h1 = (h.set r o).set r o') : Upd F h h1 := by
  subst e; rw [set_set_same]; exact Upd.new hr
theorem NetAt.ext {h h' : PH} {a : Nat} {l : List Msg} {F : List Nat} (H : NetAt h a l F) (u : Ext h h') : NetAt h' a l F := H.upd u (by simp)

theorem Take_no {h : PH} {a : Nat} {l : List Msg} {F : List Nat} (hN : NetAt h a l F) (j : Int) (hj : ¬ (0 ≤ j ∧ j < l.length)) {k : Value → PH → Prop}
    (hk : ∀ h', Ext h h' → k (.tuple #[.agg Msg.zero.cells.toArray, .int .i64 3]) h') : CallsH PG id_net_Net_Take #[.pointer (some ⟨a, 0, none⟩), .int .i64 j] h k := by
  apply net_Net_Take.call
  unfold net_Net_Take
  intro r1 hr1
  simp only [popO_some, bindH_eq, condV_bool, condV_true, condV_false, yV_bool, gopV_tt, gopV_ff, gopV_tf, gopV_ft, pickV_t, pickV_f, pickV_bool, nilS_ptr, add_eq, sub_eq, mul_eq, lss_eq, leq_eq, gtr_eq, geq_eq, not_eq, minI_eq, maxI_eq, extract_0, extract_1, extract_2, eqlI, neqI, makeFunc_eq, decide_true, decide_false, if_true, if_false, Bool.false_eq_true, Bool.not_true, Bool.not_false, reduceIte, List.getElem?_toArray, List.getElem?_cons_zero, List.getElem?_cons_succ, Option.isSome_none, List.length_map]
  refine there_ok (hN.ext (Upd.new hr1)) j ?_
  simp only [hj, T_api_Message.build0, popO_some, bindH_eq, condV_bool, condV_true, condV_false, yV_bool, gopV_tt, gopV_ff, gopV_tf, gopV_ft, pickV_t, pickV_f, pickV_bool, nilS_ptr, add_eq, sub_eq, mul_eq, lss_eq, leq_eq, gtr_eq, geq_eq, not_eq, minI_eq, maxI_eq, extract_0, extract_1, extract_2, eqlI, neqI, makeFunc_eq, decide_true, decide_false, if_true, if_false, Bool.false_eq_true, Bool.not_true, Bool.not_false, reduceIte, List.getElem?_toArray, List.getElem?_cons_zero, List.getElem?_cons_succ, Option.isSome_none, List.length_map]
  refine Msg.box Msg.zero set_same rfl ?_
  rw [Msg.unbox Msg.zero set_same]
  simp only [popO_some, bindH_eq, condV_bool, condV_true, condV_false, yV_bool, gopV_tt, gopV_ff, gopV_tf, gopV_ft, pickV_t, pickV_f, pickV_bool, nilS_ptr, add_eq, sub_eq, mul_eq, lss_eq, leq_eq, gtr_eq, geq_eq, not_eq, minI_eq, maxI_eq, extract_0, extract_1, extract_2, eqlI, neqI, makeFunc_eq, decide_true, decide_false, if_true, if_false, Bool.false_eq_true, Bool.not_true, Bool.not_false, reduceIte, List.getElem?_toArray, List.getElem?_cons_zero, List.getElem?_cons_succ, Option.isSome_none, List.length_map]
  exact hk _ (Upd.box hr1 rfl)
theorem Take_yes {h : PH} {a : Nat} {l : List Msg} {F : List Nat} (hN : NetAt h a l F) (hl : l.length ≤ 256) {j : Nat} {m : Msg} (hm : l[j]? = some m) {k : Value → PH → Prop}
    (hk : ∀ h' F', NetAt h' a (l.eraseIdx j) F' → Upd F h h' → (∀ b ∈ F', b ∈ F ∨ h b = none) → k (.tuple #[.agg m.cells.toArray, .int .i64 0]) h') : CallsH PG id_net_Net_Take #[.pointer (some ⟨a, 0, none⟩), .int .i64 j] h k := by
  have hlt : j < l.length := (List.getElem?_eq_some_iff.1 hm).1
  apply net_Net_Take.call
  unfold net_Net_Take
  intro r1 hr1
  simp only [popO_some, bindH_eq, condV_bool, condV_true, condV_false, yV_bool, gopV_tt, gopV_ff, gopV_tf, gopV_ft, pickV_t, pickV_f, pickV_bool, nilS_ptr, add_eq, sub_eq, mul_eq, lss_eq, leq_eq, gtr_eq, geq_eq, not_eq, minI_eq, maxI_eq, extract_0, extract_1, extract_2, eqlI, neqI, makeFunc_eq, decide_true, decide_false, if_true, if_false, Bool.false_eq_true, Bool.not_true, Bool.not_false, reduceIte, List.getElem?_toArray, List.getElem?_cons_zero, List.getElem?_cons_succ, Option.isSome_none, List.length_map]
  have hN1 := hN.ext (Upd.new (o := .cells (zcells PG T_api_Message) T_api_Message) hr1)
  generalize hh1 : h.set r1 (.cells (zcells PG T_api_Message) T_api_Message) = h1 at *
  have hr1' : h1 r1 = some (.cells (zcells PG T_api_Message) T_api_Message) := by rw [← hh1]; exact set_same
  have he1 : Ext h h1 := by rw [← hh1]; exact Upd.new hr1
  refine there_ok hN1 j ?_
  have ht : (0 ≤ (j : Int) ∧ (j : Int) < (l.length : Int)) = True := by simp; omega
  obtain ⟨v, G, ha, hO, rfl, hn⟩ := hN1
  simp only [ht, T_net_Net.f0, T_sl_api_Message.load, cellH, ha, popO_some, bindH_eq, condV_bool, condV_true, condV_false, yV_bool, gopV_tt, gopV_ff, gopV_tf, gopV_ft, pickV_t, pickV_f, pickV_bool, nilS_ptr, add_eq, sub_eq, mul_eq, lss_eq, leq_eq, gtr_eq, geq_eq, not_eq, minI_eq, maxI_eq, extract_0, extract_1, extract_2, eqlI, neqI, makeFunc_eq, decide_true, decide_false, if_true, if_false, Bool.false_eq_true, Bool.not_true, Bool.not_false, reduceIte, List.getElem?_toArray, List.getElem?_cons_zero, List.getElem?_cons_succ, Option.isSome_none, List.length_map]
  obtain ⟨p, p1, p2⟩ := hO.slR.msg (k := .i64) (j := (j : Int)) (by omega) (by simpa using hm)
  simp only [p1, p2, popO_some, bindH_eq, condV_bool, condV_true, condV_false, yV_bool, gopV_tt, gopV_ff, gopV_tf, gopV_ft, pickV_t, pickV_f, pickV_bool, nilS_ptr, add_eq, sub_eq, mul_eq, lss_eq, leq_eq, gtr_eq, geq_eq, not_eq, minI_eq, maxI_eq, extract_0, extract_1, extract_2, eqlI, neqI, makeFunc_eq, decide_true, decide_false, if_true, if_false, Bool.false_eq_true, Bool.not_true, Bool.not_false, reduceIte, List.getElem?_toArray, List.getElem?_cons_zero, List.getElem?_cons_succ, Option.isSome_none, List.length_map]
  intro r2 hr2
  have hne : a ≠ r2 := ne_new ha hr2
  have hne1 : r1 ≠ r2 := ne_new hr1' hr2
  refine Msg.box m set_same rfl ?_
  rw [set_set_same]
  generalize hh2 : h1.set r2 (.cells m.cells.toArray T_api_Message) = h2
  have he2 : Ext h1 h2 := by rw [← hh2]; exact Upd.new hr2
  have ha2 := he2.get ha
  have hr22 : h2 r2 = some (.cells m.cells.toArray T_api_Message) := by rw [← hh2]; exact set_same
  have ew : IntKind.i64.wrap ((j : Int) + 1) = ((j + 1 : Nat) : Int) := by rw [i64_wrap (by omega) (by omega)]; omega
  simp only [T_net_Net.f0, T_sl_api_Message.load, cellH, ha2, ew, popO_some, bindH_eq, condV_bool, condV_true, condV_false, yV_bool, gopV_tt, gopV_ff, gopV_tf, gopV_ft, pickV_t, pickV_f, pickV_bool, nilS_ptr, add_eq, sub_eq, mul_eq, lss_eq, leq_eq, gtr_eq, geq_eq, not_eq, minI_eq, maxI_eq, extract_0, extract_1, extract_2, eqlI, neqI, makeFunc_eq, decide_true, decide_false, if_true, if_false, Bool.false_eq_true, Bool.not_true, Bool.not_false, reduceIte, List.getElem?_toArray, List.getElem?_cons_zero, List.getElem?_cons_succ, Option.isSome_none, List.length_map]
  refine Delete_ok (hO.upd he2 (by simp)) (by omega) hlt ?_
  intro v' h3 F' hO3 hU3 hF3
  have n1 : r1 ∉ a :: G := fun hm' => hN.known r1 hm' hr1
  have hr2h : h r2 = none := by
    cases hx : h r2 with
    | none => rfl
    | some o => have := he1.get hx; rw [hr2] at this; cases this
  have n2 : r2 ∉ a :: G := fun hm' => hN.known r2 hm' hr2h
  simp only [List.mem_cons, not_or] at n1 n2
  have ha3 := hU3.get ha2 hn
  have h31 := hU3.get (he2.get hr1') n1.2
  have h32 := hU3.get hr22 n2.2
  have nF : ∀ b, h2 b ≠ none → b ∉ G → b ∉ F' := fun b hb hg hm' => by
    rcases hF3 b hm' with h4 | h4
    · exact hg h4
    · exact hb h4
  have nFa := nF a (by rw [ha2]; simp) hn
  have nF1 := nF r1 (by rw [he2.get hr1']; simp) n1.2
  refine store_cell T_sl_api_Message.und rfl ha3 (by simp) (by obtain ⟨_, _, rfl, -⟩ := hO3.slR.here; rfl) T_sl_api_Message.info T_sl_api_Message.size ?_
  have h42 : (h3.set a (.cells (#[v].setIfInBounds 0 v') T_net_Net (0, 0))) r2 = some (.cells m.cells.toArray T_api_Message (0, 0)) := by rw [set_other n2.1]; exact h32
  have h41 : (h3.set a (.cells (#[v].setIfInBounds 0 v') T_net_Net (0, 0))) r1 = some (.cells (zcells PG T_api_Message) T_api_Message (0, 0)) := by rw [set_other n1.1]; exact h31
  rw [Msg.unbox m h42]
  simp only [popO_some, bindH_eq, condV_bool, condV_true, condV_false, yV_bool, gopV_tt, gopV_ff, gopV_tf, gopV_ft, pickV_t, pickV_f, pickV_bool, nilS_ptr, add_eq, sub_eq, mul_eq, lss_eq, leq_eq, gtr_eq, geq_eq, not_eq, minI_eq, maxI_eq, extract_0, extract_1, extract_2, eqlI, neqI, makeFunc_eq, decide_true, decide_false, if_true, if_false, Bool.false_eq_true, Bool.not_true, Bool.not_false, reduceIte, List.getElem?_toArray, List.getElem?_cons_zero, List.getElem?_cons_succ, Option.isSome_none, List.length_map]
  refine Msg.box m h41 rfl ?_
  rw [Msg.unbox m set_same]
  simp only [popO_some, bindH_eq, condV_bool, condV_true, condV_false, yV_bool, gopV_tt, gopV_ff, gopV_tf, gopV_ft, pickV_t, pickV_f, pickV_bool, nilS_ptr, add_eq, sub_eq, mul_eq, lss_eq, leq_eq, gtr_eq, geq_eq, not_eq, minI_eq, maxI_eq, extract_0, extract_1, extract_2, eqlI, neqI, makeFunc_eq, decide_true, decide_false, if_true, if_false, Bool.false_eq_true, Bool.not_true, Bool.not_false, reduceIte, List.getElem?_toArray, List.getElem?_cons_zero, List.getElem?_cons_succ, Option.isSome_none, List.length_map]
  refine hk _ (a :: F') ⟨v', F', ?_, ?_, rfl, nFa⟩ ?_ ?_
  · rw [set_other (Ne.symm n1.1), set_same]; rfl
  · exact (hO3.upd (Upd.set (F := [a]) (by simp)) (by simp; exact fun b hb e => nFa (e ▸ hb))).upd (Upd.set (F := [r1]) (by simp)) (by simp; exact fun b hb e => nF1 (e ▸ hb))
  · intro b o hb hnb
    simp only [List.mem_cons, not_or] at hnb
    have hbr1 : b ≠ r1 := ne_new hb hr1
    rw [set_other hbr1, set_other hnb.1]
    exact hU3.get (he2.get (he1.get hb)) hnb.2
  · intro b hb
    rcases List.mem_cons.1 hb with rfl | hb
    · exact .inl (by simp)
    · rcases hF3 b hb with h4 | h4
      · exact .inl (by simp [h4])
      · refine .inr ?_
        cases hx : h b with
        | none => rfl
        | some o => have := he2.get (he1.get hx); rw [h4] at this; cases this

/-- A literal of one message. -/
theorem Msg.lit1 (m : Msg) : SemA PG (Instr.buildSlice T_sl_api_Message 1 #[(0, .agg m.cells.toArray)]) = some (.cells m.cells.toArray T_api_Message, fun r => pure (.slice (some ⟨r, 0, none⟩) 1 1)) := by kernel_rfl
theorem Twice_no {h : PH} {a : Nat} {l : List Msg} {F : List Nat} (hN : NetAt h a l F) (j : Int) (hj : ¬ (0 ≤ j ∧ j < l.length)) {k : Value → PH → Prop} (hk : k (.int .i64 3) h) :
    CallsH PG id_net_Net_Twice #[.pointer (some ⟨a, 0, none⟩), .int .i64 j] h k := by
  apply net_Net_Twice.call
  unfold net_Net_Twice
  refine there_ok hN j ?_
  simp only [hj, popO_some, bindH_eq, condV_bool, condV_true, condV_false, yV_bool, gopV_tt, gopV_ff, gopV_tf, gopV_ft, pickV_t, pickV_f, pickV_bool, nilS_ptr, add_eq, sub_eq, mul_eq, lss_eq, leq_eq, gtr_eq, geq_eq, not_eq, minI_eq, maxI_eq, extract_0, extract_1, extract_2, eqlI, neqI, makeFunc_eq, decide_true, decide_false, if_true, if_false, Bool.false_eq_true, Bool.not_true, Bool.not_false, reduceIte, List.getElem?_toArray, List.getElem?_cons_zero, List.getElem?_cons_succ, Option.isSome_none, List.length_map]
  exact hk
theorem Twice_yes {h : PH} {a : Nat} {l : List Msg} {F : List Nat} (hN : NetAt h a l F) (hl : l.length ≤ 256) {j : Nat} {m : Msg} (hm : l[j]? = some m) {k : Value → PH → Prop}
    (hk : ∀ h' F', NetAt h' a (if l.length = 256 then l else l ++ [m]) F' → Upd F h h' → (∀ b ∈ F', b ∈ F ∨ h b = none) → k (.int .i64 (if l.length = 256 then 2 else 0)) h') :
    CallsH PG id_net_Net_Twice #[.pointer (some ⟨a, 0, none⟩), .int .i64 j] h k := by
  have hlt : j < l.length := (List.getElem?_eq_some_iff.1 hm).1
  apply net_Net_Twice.call
  unfold net_Net_Twice
  refine there_ok hN j ?_
  have ht : (0 ≤ (j : Int) ∧ (j : Int) < (l.length : Int)) = True := by simp; omega
  have hN' := hN
  obtain ⟨v, G, ha, hO, rfl, hn⟩ := hN'
  simp only [ht, T_net_Net.f0, T_sl_api_Message.load, cellH, ha, popO_some, bindH_eq, condV_bool, condV_true, condV_false, yV_bool, gopV_tt, gopV_ff, gopV_tf, gopV_ft, pickV_t, pickV_f, pickV_bool, nilS_ptr, add_eq, sub_eq, mul_eq, lss_eq, leq_eq, gtr_eq, geq_eq, not_eq, minI_eq, maxI_eq, extract_0, extract_1, extract_2, eqlI, neqI, makeFunc_eq, decide_true, decide_false, if_true, if_false, Bool.false_eq_true, Bool.not_true, Bool.not_false, reduceIte, List.getElem?_toArray, List.getElem?_cons_zero, List.getElem?_cons_succ, Option.isSome_none, List.length_map]
  obtain ⟨p, p1, p2⟩ := hO.slR.msg (k := .i64) (j := (j : Int)) (by omega) (by simpa using hm)
  simp only [p1, p2, Msg.lit1, popO_some, bindH_eq, condV_bool, condV_true, condV_false, yV_bool, gopV_tt, gopV_ff, gopV_tf, gopV_ft, pickV_t, pickV_f, pickV_bool, nilS_ptr, add_eq, sub_eq, mul_eq, lss_eq, leq_eq, gtr_eq, geq_eq, not_eq, minI_eq, maxI_eq, extract_0, extract_1, extract_2, eqlI, neqI, makeFunc_eq, decide_true, decide_false, if_true, if_false, Bool.false_eq_true, Bool.not_true, Bool.not_false, reduceIte, List.getElem?_toArray, List.getElem?_cons_zero, List.getElem?_cons_succ, Option.isSome_none, List.length_map]
  intro r hr
  show popO (some (Value.slice (some ⟨r, 0, none⟩) 1 1)) _
  simp only [popO_some, bindH_eq, condV_bool, condV_true, condV_false, yV_bool, gopV_tt, gopV_ff, gopV_tf, gopV_ft, pickV_t, pickV_f, pickV_bool, nilS_ptr, add_eq, sub_eq, mul_eq, lss_eq, leq_eq, gtr_eq, geq_eq, not_eq, minI_eq, maxI_eq, extract_0, extract_1, extract_2, eqlI, neqI, makeFunc_eq, decide_true, decide_false, if_true, if_false, Bool.false_eq_true, Bool.not_true, Bool.not_false, reduceIte, List.getElem?_toArray, List.getElem?_cons_zero, List.getElem?_cons_succ, Option.isSome_none, List.length_map]
  have hS : SlR (h.set r (.cells m.cells.toArray T_api_Message)) 8 (.slice (some ⟨r, 0, none⟩) 1 1) ([m].map Msg.cells) := (OwnR.lit (Msg.rows [m]) set_same rfl (by show 1 ≤ maxL; decide) (by simp)).slR
  refine Send_ok (hN.ext (Upd.new hr)) hS hl ?_
  intro h' F' hN' hU hF'
  have eF : ∀ b ∈ F', b ∈ a :: G ∨ h b = none := fun b hb => by
    rcases hF' b hb with h1 | h1
    · exact .inl h1
    · by_cases e : b = r
      · subst e; exact .inr hr
      · rw [set_other e] at h1; exact .inr h1
  have hU' : Upd (a :: G) h h' := (Upd.new hr).trans hU
  by_cases h256 : l.length = 256
  · have e1 : (((min [m].length (256 - l.length) : Nat) : Int) == 0) = true := by simp [h256]
    simp only [e1, popO_some, bindH_eq, condV_bool, condV_true, condV_false, yV_bool, gopV_tt, gopV_ff, gopV_tf, gopV_ft, pickV_t, pickV_f, pickV_bool, nilS_ptr, add_eq, sub_eq, mul_eq, lss_eq, leq_eq, gtr_eq, geq_eq, not_eq, minI_eq, maxI_eq, extract_0, extract_1, extract_2, eqlI, neqI, makeFunc_eq, decide_true, decide_false, if_true, if_false, Bool.false_eq_true, Bool.not_true, Bool.not_false, reduceIte, List.getElem?_toArray, List.getElem?_cons_zero, List.getElem?_cons_succ, Option.isSome_none, List.length_map]
    have := hk h' F' (by simpa [h256] using hN') hU' eF
    simpa [h256] using this
  · have e1 : (((min [m].length (256 - l.length) : Nat) : Int) == 0) = false := by
      rw [beq_eq_false_iff_ne]; simp; omega
    simp only [e1, popO_some, bindH_eq, condV_bool, condV_true, condV_false, yV_bool, gopV_tt, gopV_ff, gopV_tf, gopV_ft, pickV_t, pickV_f, pickV_bool, nilS_ptr, add_eq, sub_eq, mul_eq, lss_eq, leq_eq, gtr_eq, geq_eq, not_eq, minI_eq, maxI_eq, extract_0, extract_1, extract_2, eqlI, neqI, makeFunc_eq, decide_true, decide_false, if_true, if_false, Bool.false_eq_true, Bool.not_true, Bool.not_false, reduceIte, List.getElem?_toArray, List.getElem?_cons_zero, List.getElem?_cons_succ, Option.isSome_none, List.length_map]
    have e2 : [m].take (256 - l.length) = [m] := List.take_of_length_le (by simp; omega)
    rw [e2] at hN'
    have := hk h' F' (by simpa [h256] using hN') hU' eF
    simpa [h256] using this

/-- A move. -/
def mv (l : List Msg) (k to : Nat) (m : Msg) : List Msg :=
  if k < to then l.take k ++ (l.drop (k + 1)).take (to - k) ++ [m] ++ l.drop (to + 1) else l.take to ++ [m] ++ (l.drop to).take (k - to) ++ l.drop (k + 1)
theorem mv_l (l : List Msg) (m : Msg) {j t : Nat} (hc : j < t) (hl : (l.take j ++ (l.drop (j + 1)).take (t - j)).length = t) :
    (l.take j ++ (l.drop (j + 1)).take (t - j) ++ l.drop t).take t ++ [m] ++ (l.take j ++ (l.drop (j + 1)).take (t - j) ++ l.drop t).drop (t + 1) = mv l j t m := by
  unfold mv
  rw [if_pos hc, List.take_left' hl, List.drop_append, List.drop_of_length_le (l := l.take j ++ _) (by omega), hl, List.nil_append, List.drop_drop, show t + (t + 1 - t) = t + 1 from by omega]
theorem mv_r (l : List Msg) (m : Msg) {j t : Nat} (hc : ¬ j < t) (hl : (l.take (t + 1)).length = t + 1) (hj : j < l.length) :
    (l.take (t + 1) ++ (l.drop t).take (j - t) ++ l.drop (j + 1)).take t ++ [m] ++ (l.take (t + 1) ++ (l.drop t).take (j - t) ++ l.drop (j + 1)).drop (t + 1) = mv l j t m := by
  unfold mv
  rw [if_neg hc, List.append_assoc (l.take (t + 1)), List.drop_left' hl, List.take_append_of_le_length (l₁ := l.take (t + 1)) (by omega), List.take_take, show min t (t + 1) = t from by omega]
  simp only [List.append_assoc]
theorem Move_no {h : PH} {a : Nat} {l : List Msg} {F : List Nat} (hN : NetAt h a l F) (j t : Int) (hj : ¬ ((0 ≤ j ∧ j < l.length) ∧ (0 ≤ t ∧ t < l.length))) {k : Value → PH → Prop} (hk : k (.int .i64 3) h) :
    CallsH PG id_net_Net_Move #[.pointer (some ⟨a, 0, none⟩), .int .i64 j, .int .i64 t] h k := by
  apply net_Net_Move.call
  unfold net_Net_Move
  refine there_ok hN j ?_
  by_cases h1 : 0 ≤ j ∧ j < l.length
  · have h2 : ¬ (0 ≤ t ∧ t < l.length) := fun h => hj ⟨h1, h⟩
    simp only [h1, and_self, popO_some, bindH_eq, condV_bool, condV_true, condV_false, yV_bool, gopV_tt, gopV_ff, gopV_tf, gopV_ft, pickV_t, pickV_f, pickV_bool, nilS_ptr, add_eq, sub_eq, mul_eq, lss_eq, leq_eq, gtr_eq, geq_eq, not_eq, minI_eq, maxI_eq, extract_0, extract_1, extract_2, eqlI, neqI, makeFunc_eq, decide_true, decide_false, if_true, if_false, Bool.false_eq_true, Bool.not_true, Bool.not_false, reduceIte, List.getElem?_toArray, List.getElem?_cons_zero, List.getElem?_cons_succ, Option.isSome_none, List.length_map]
    refine there_ok hN t ?_
    simp only [h2, popO_some, bindH_eq, condV_bool, condV_true, condV_false, yV_bool, gopV_tt, gopV_ff, gopV_tf, gopV_ft, pickV_t, pickV_f, pickV_bool, nilS_ptr, add_eq, sub_eq, mul_eq, lss_eq, leq_eq, gtr_eq, geq_eq, not_eq, minI_eq, maxI_eq, extract_0, extract_1, extract_2, eqlI, neqI, makeFunc_eq, decide_true, decide_false, if_true, if_false, Bool.false_eq_true, Bool.not_true, Bool.not_false, reduceIte, List.getElem?_toArray, List.getElem?_cons_zero, List.getElem?_cons_succ, Option.isSome_none, List.length_map]
    exact hk
  · simp only [h1, popO_some, bindH_eq, condV_bool, condV_true, condV_false, yV_bool, gopV_tt, gopV_ff, gopV_tf, gopV_ft, pickV_t, pickV_f, pickV_bool, nilS_ptr, add_eq, sub_eq, mul_eq, lss_eq, leq_eq, gtr_eq, geq_eq, not_eq, minI_eq, maxI_eq, extract_0, extract_1, extract_2, eqlI, neqI, makeFunc_eq, decide_true, decide_false, if_true, if_false, Bool.false_eq_true, Bool.not_true, Bool.not_false, reduceIte, List.getElem?_toArray, List.getElem?_cons_zero, List.getElem?_cons_succ, Option.isSome_none, List.length_map]
    exact hk

theorem Move_k42 {h : PH} {a r : Nat} {l : List Msg} {F : List Nat} {t : Nat} {m : Msg} (hN : NetAt h a l F) (hr : h r = some (.cells m.cells.toArray T_api_Message (0, 0))) (ht : t < l.length) {R : Value → PH → Prop}
    (hk : ∀ h', NetAt h' a (l.take t ++ [m] ++ l.drop (t + 1)) F → Upd F h h' → R (.int .i64 0) h') : net_Net_Move_k42 R (.pointer (some ⟨a, 0, none⟩)) (.int .i64 t) (.pointer (some ⟨r, 0, none⟩)) h := by
  obtain ⟨v, G, ha, hO, rfl, hn⟩ := hN
  unfold net_Net_Move_k42
  simp only [T_net_Net.f0, T_sl_api_Message.load, cellH, ha, popO_some, bindH_eq, condV_bool, condV_true, condV_false, yV_bool, gopV_tt, gopV_ff, gopV_tf, gopV_ft, pickV_t, pickV_f, pickV_bool, nilS_ptr, add_eq, sub_eq, mul_eq, lss_eq, leq_eq, gtr_eq, geq_eq, not_eq, minI_eq, maxI_eq, extract_0, extract_1, extract_2, eqlI, neqI, makeFunc_eq, decide_true, decide_false, if_true, if_false, Bool.false_eq_true, Bool.not_true, Bool.not_false, reduceIte, List.getElem?_toArray, List.getElem?_cons_zero, List.getElem?_cons_succ, Option.isSome_none, List.length_map]
  rw [Msg.unbox m hr]
  obtain ⟨p, p1, p2⟩ := hO.storeAgg (k := .i64) (j := t) T_sl_api_Message.und T_api_Message.info T_api_Message.size (by decide) (by simpa using ht) m.len8 (fun u hu => Msg.allCell m u (by simpa using hu))
  simp only [p1, popO_some, bindH_eq, condV_bool, condV_true, condV_false, yV_bool, gopV_tt, gopV_ff, gopV_tf, gopV_ft, pickV_t, pickV_f, pickV_bool, nilS_ptr, add_eq, sub_eq, mul_eq, lss_eq, leq_eq, gtr_eq, geq_eq, not_eq, minI_eq, maxI_eq, extract_0, extract_1, extract_2, eqlI, neqI, makeFunc_eq, decide_true, decide_false, if_true, if_false, Bool.false_eq_true, Bool.not_true, Bool.not_false, reduceIte, List.getElem?_toArray, List.getElem?_cons_zero, List.getElem?_cons_succ, Option.isSome_none, List.length_map]
  refine p2 _ fun h' hO' hU => ?_
  have e1 : (l.map Msg.cells).take t ++ [m.cells] ++ (l.map Msg.cells).drop (t + 1) = (l.take t ++ [m] ++ l.drop (t + 1)).map Msg.cells := by simp
  rw [e1] at hO'
  exact hk h' ⟨v, G, hU.get ha hn, hO', rfl, hn⟩ (hU.mono fun b hb => .inl (by simp [hb]))

theorem Move_yes {h : PH} {a : Nat} {l : List Msg} {F : List Nat} (hN : NetAt h a l F) (hl : l.length ≤ 256) {j t : Nat} {m : Msg} (hm : l[j]? = some m) (ht : t < l.length) {k : Value → PH → Prop}
    (hk : ∀ h', NetAt h' a (mv l j t m) F → Upd F h h' → k (.int .i64 0) h') : CallsH PG id_net_Net_Move #[.pointer (some ⟨a, 0, none⟩), .int .i64 j, .int .i64 t] h k := by
  have hlt : j < l.length := (List.getElem?_eq_some_iff.1 hm).1
  apply net_Net_Move.call
  unfold net_Net_Move
  refine there_ok hN j ?_
  have hj1 : (0 ≤ (j : Int) ∧ (j : Int) < (l.length : Int)) = True := by simp; omega
  have ht1 : (0 ≤ (t : Int) ∧ (t : Int) < (l.length : Int)) = True := by simp; omega
  simp only [hj1, popO_some, bindH_eq, condV_bool, condV_true, condV_false, yV_bool, gopV_tt, gopV_ff, gopV_tf, gopV_ft, pickV_t, pickV_f, pickV_bool, nilS_ptr, add_eq, sub_eq, mul_eq, lss_eq, leq_eq, gtr_eq, geq_eq, not_eq, minI_eq, maxI_eq, extract_0, extract_1, extract_2, eqlI, neqI, makeFunc_eq, decide_true, decide_false, if_true, if_false, Bool.false_eq_true, Bool.not_true, Bool.not_false, reduceIte, List.getElem?_toArray, List.getElem?_cons_zero, List.getElem?_cons_succ, Option.isSome_none, List.length_map]
  refine there_ok hN t ?_
  have hN' := hN
  obtain ⟨v, G, ha, hO, rfl, hn⟩ := hN'
  obtain ⟨p, p1, p2⟩ := hO.slR.msg (k := .i64) (j := (j : Int)) (by omega) (by simpa using hm)
  simp only [ht1, T_net_Net.f0, T_sl_api_Message.load, cellH, ha, p1, p2, popO_some, bindH_eq, condV_bool, condV_true, condV_false, yV_bool, gopV_tt, gopV_ff, gopV_tf, gopV_ft, pickV_t, pickV_f, pickV_bool, nilS_ptr, add_eq, sub_eq, mul_eq, lss_eq, leq_eq, gtr_eq, geq_eq, not_eq, minI_eq, maxI_eq, extract_0, extract_1, extract_2, eqlI, neqI, makeFunc_eq, decide_true, decide_false, if_true, if_false, Bool.false_eq_true, Bool.not_true, Bool.not_false, reduceIte, List.getElem?_toArray, List.getElem?_cons_zero, List.getElem?_cons_succ, Option.isSome_none, List.length_map]
  intro r hr
  refine Msg.box m set_same rfl ?_
  rw [set_set_same]
  generalize hh2 : h.set r (.cells m.cells.toArray T_api_Message) = h2
  have he2 : Ext h h2 := by rw [← hh2]; exact Upd.new hr
  have ha2 := he2.get ha
  have hr2 : h2 r = some (.cells m.cells.toArray T_api_Message) := by rw [← hh2]; exact set_same
  have hO2 := hO.upd he2 (by simp)
  have nr : r ∉ a :: G := fun hm' => hN.known r hm' hr
  simp only [List.mem_cons, not_or] at nr
  have ew : ∀ x : Nat, x < l.length → IntKind.i64.wrap ((x : Int) + 1) = ((x + 1 : Nat) : Int) := fun x hx => by rw [i64_wrap (by omega) (by omega)]; omega
  by_cases hc : j < t
  · have hd : decide ((j : Int) < (t : Int)) = true := by simp; omega
    obtain ⟨s, s1, s2, -⟩ := hO2.slR.cut T_sl_api_Message.und T_api_Message.info T_api_Message.size (.inr ⟨.i64, rfl⟩) (.inr ⟨.i64, rfl⟩) (show j + 1 ≤ t + 1 by omega) (show t + 1 ≤ _ by simp; omega)
    obtain ⟨d, d1, -, -⟩ := hO2.slR.cut T_sl_api_Message.und T_api_Message.info T_api_Message.size (.inr ⟨.i64, rfl⟩) (.inr ⟨.i64, rfl⟩) (show j ≤ t by omega) (show t ≤ _ by simp; omega)
    simp only [hd, T_net_Net.f0, T_sl_api_Message.load, cellH, ha2, ew j hlt, ew t ht, d1, s1, popO_some, bindH_eq, condV_bool, condV_true, condV_false, yV_bool, gopV_tt, gopV_ff, gopV_tf, gopV_ft, pickV_t, pickV_f, pickV_bool, nilS_ptr, add_eq, sub_eq, mul_eq, lss_eq, leq_eq, gtr_eq, geq_eq, not_eq, minI_eq, maxI_eq, extract_0, extract_1, extract_2, eqlI, neqI, makeFunc_eq, decide_true, decide_false, if_true, if_false, Bool.false_eq_true, Bool.not_true, Bool.not_false, reduceIte, List.getElem?_toArray, List.getElem?_cons_zero, List.getElem?_cons_succ, Option.isSome_none, List.length_map]
    have e1 : ((l.map Msg.cells).take (t + 1)).drop (j + 1) = ((l.take (t + 1)).drop (j + 1)).map Msg.cells := by simp
    rw [e1] at s2
    refine copy_own (n := t - j) T_sl_api_Message.und T_api_Message.info T_api_Message.size hO2 ⟨.i64, .i64, d1⟩ (by omega) (by simp; omega) s2 (Msg.isCell _) (by simp; omega) ?_
    intro h3 hO3 hU3
    have e2 : (l.map Msg.cells).take j ++ (((l.take (t + 1)).drop (j + 1)).map Msg.cells).take (t - j) ++ (l.map Msg.cells).drop (j + (t - j)) = (l.take j ++ (l.drop (j + 1)).take (t - j) ++ l.drop t).map Msg.cells := by
      rw [show j + (t - j) = t from by omega]
      simp only [List.map_append, List.map_take, List.map_drop, List.drop_take, List.take_take]
      rw [show min (t - j) (t + 1 - (j + 1)) = t - j from by omega]
    rw [e2] at hO3
    have hN3 : NetAt h3 a (l.take j ++ (l.drop (j + 1)).take (t - j) ++ l.drop t) (a :: G) := ⟨v, G, hU3.get ha2 hn, hO3, rfl, hn⟩
    refine Move_k42 hN3 (hU3.get hr2 nr.2) (by simp; omega) ?_
    intro h4 hN4 hU4
    refine hk h4 ?_ ((he2.upd.trans (hU3.mono fun b hb => .inl (by simp [hb]))).trans hU4)
    have e3 : (l.take j ++ (l.drop (j + 1)).take (t - j) ++ l.drop t).take t ++ [m] ++ (l.take j ++ (l.drop (j + 1)).take (t - j) ++ l.drop t).drop (t + 1) = mv l j t m := by
      exact mv_l _ _ hc (by simp; omega)
    rw [e3] at hN4
    exact hN4
  · have hd : decide ((j : Int) < (t : Int)) = false := by simp; omega
    obtain ⟨d, d1, -, -⟩ := hO2.slR.cut T_sl_api_Message.und T_api_Message.info T_api_Message.size (.inr ⟨.i64, rfl⟩) (.inr ⟨.i64, rfl⟩) (show t + 1 ≤ j + 1 by omega) (show j + 1 ≤ _ by simp; omega)
    obtain ⟨s, s1, s2, -⟩ := hO2.slR.cut T_sl_api_Message.und T_api_Message.info T_api_Message.size (.inr ⟨.i64, rfl⟩) (.inr ⟨.i64, rfl⟩) (show t ≤ j by omega) (show j ≤ _ by simp; omega)
    simp only [hd, T_net_Net.f0, T_sl_api_Message.load, cellH, ha2, ew j hlt, ew t ht, d1, s1, popO_some, bindH_eq, condV_bool, condV_true, condV_false, yV_bool, gopV_tt, gopV_ff, gopV_tf, gopV_ft, pickV_t, pickV_f, pickV_bool, nilS_ptr, add_eq, sub_eq, mul_eq, lss_eq, leq_eq, gtr_eq, geq_eq, not_eq, minI_eq, maxI_eq, extract_0, extract_1, extract_2, eqlI, neqI, makeFunc_eq, decide_true, decide_false, if_true, if_false, Bool.false_eq_true, Bool.not_true, Bool.not_false, reduceIte, List.getElem?_toArray, List.getElem?_cons_zero, List.getElem?_cons_succ, Option.isSome_none, List.length_map]
    have e1 : ((l.map Msg.cells).take j).drop t = ((l.take j).drop t).map Msg.cells := by simp
    rw [e1] at s2
    refine copy_own (n := j - t) T_sl_api_Message.und T_api_Message.info T_api_Message.size hO2 ⟨.i64, .i64, d1⟩ (by omega) (by simp; omega) s2 (Msg.isCell _) (by simp; omega) ?_
    intro h3 hO3 hU3
    have e2 : (l.map Msg.cells).take (t + 1) ++ (((l.take j).drop t).map Msg.cells).take (j - t) ++ (l.map Msg.cells).drop (t + 1 + (j - t)) = (l.take (t + 1) ++ (l.drop t).take (j - t) ++ l.drop (j + 1)).map Msg.cells := by
      rw [show t + 1 + (j - t) = j + 1 from by omega]
      simp only [List.map_append, List.map_take, List.map_drop, List.drop_take, List.take_take]
      rw [show min (j - t) (j - t) = j - t from by omega]
    rw [e2] at hO3
    have hN3 : NetAt h3 a (l.take (t + 1) ++ (l.drop t).take (j - t) ++ l.drop (j + 1)) (a :: G) := ⟨v, G, hU3.get ha2 hn, hO3, rfl, hn⟩
    refine Move_k42 hN3 (hU3.get hr2 nr.2) (by simp; omega) ?_
    intro h4 hN4 hU4
    refine hk h4 ?_ ((he2.upd.trans (hU3.mono fun b hb => .inl (by simp [hb]))).trans hU4)
    have e3 : (l.take (t + 1) ++ (l.drop t).take (j - t) ++ l.drop (j + 1)).take t ++ [m] ++ (l.take (t + 1) ++ (l.drop t).take (j - t) ++ l.drop (j + 1)).drop (t + 1) = mv l j t m := by
      exact mv_r _ _ hc (by simp; omega) hlt
    rw [e3] at hN4
    exact hN4
end Go.Proofs.Ytbloalappckjhaa
