/- strings.Builder in a block of its own. -/
import Derived.Test.YtllopddcpkhfjaaDoorHCom
import Derived.Lib.UnsafeStr
set_option linter.unusedSimpArgs false
set_option linter.unusedVariables false
namespace Go.Proofs.YtllopddcpkhfjaaDoor
open Go
set_option maxRecDepth 20000
namespace Bld
theorem neqPtrSelf {h : PH} {x y : Operand} (a : Addr) : SemE PG h (binS .neq T_p_strings_Builder x y (.pointer (some a)) (.pointer (some a))) = some (.bool false) := by
  show SemE PG h (Op.equalIn (9999 + 1) T_p_strings_Builder (.pointer (some a)) (.pointer (some a)) >>= fun b => (pure (Value.bool (!b)) : Sem Value)) = _
  rw [semE_bind]
  have : SemE PG h (Op.equalIn (9999 + 1) T_p_strings_Builder (.pointer (some a)) (.pointer (some a))) = some true := by
    rw [Op.equalIn, semE_und T_p_strings_Builder.und]
    simp only [sizeOf_bind]
    rw [semE_info T_strings_Builder.info]
    simp [T_strings_Builder.size, sameAddr, SemE, pure]
  rw [this]; rfl
theorem semE_viewAt {h : PH} {r : Nat} {x : TypeId × Nat} {α : Type} (hs : shapeH h r = some (some x)) (f : Option (Addr × TypeId) → Sem α) : SemE PG h (viewAt r >>= f) = SemE PG h (f none) := by
  rw [semE_bind]
  have : SemE PG h (viewAt r) = some none := by
    show (shapeH h r).bind _ = _
    rw [hs]; rfl
  rw [this]; rfl
theorem semE_seenAt {h : PH} {a : Addr} {x : TypeId × Nat} {α : Type} (hs : shapeH h a.block = some (some x)) (f : Addr → Sem α) : SemE PG h (Conv.seenAt a >>= f) = SemE PG h (f a) := by
  rw [semE_bind]
  have : SemE PG h (Conv.seenAt a) = some a := by
    unfold Conv.seenAt
    rw [semE_viewAt hs]; rfl
  rw [this]; rfl
theorem semE_cellsIn {h : PH} {r : Nat} {x : TypeId × Nat} {α : Type} (hs : shapeH h r = some (some x)) (f : Option Nat → Sem α) : SemE PG h (cellsIn r >>= f) = SemE PG h (f (some x.2)) := by
  rw [semE_bind]
  have : SemE PG h (cellsIn r) = some (some x.2) := by
    show (shapeH h r).bind _ = _
    rw [hs]; rfl
  rw [this]; rfl
theorem to_unsafe {h : PH} {a : Nat} {c : Array Value} (ha : h a = some (.cells c T_strings_Builder (0, 0))) (hc : 0 < c.size) : SemE PG h (convert T_p_strings_Builder T_unsafe_Pointer (.pointer (some ⟨a, 0, none⟩))) = some (.pointer (some ⟨a, 0, none⟩)) := by
  have hs : shapeH h a = some (some (T_strings_Builder, c.size)) := by unfold shapeH; rw [ha]
  show SemE PG h (underlying T_p_strings_Builder >>= _) = _
  rw [semE_und T_p_strings_Builder.und]
  show SemE PG h (underlying T_unsafe_Pointer >>= _) = _
  rw [semE_und T_unsafe_Pointer.und]
  show SemE PG h (underlying T_p_strings_Builder >>= _) = _
  rw [semE_und T_p_strings_Builder.und]
  show SemE PG h (underlying T_unsafe_Pointer >>= _) = _
  rw [semE_und T_unsafe_Pointer.und]
  show SemE PG h (Conv.seenAt ⟨a, 0, none⟩ >>= _) = _
  rw [semE_seenAt (a := ⟨a, 0, none⟩) hs]
  show SemE PG h (cellsIn a >>= _) = _
  rw [semE_cellsIn hs]
  have h1 : ¬ (0 ≥ c.size) := by omega
  simp only [sizeOf_bind]
  rw [semE_info T_strings_Builder.info]
  simp [T_strings_Builder.size, h1, SemE, pure]
theorem from_unsafe {h : PH} {a : Nat} {c : Array Value} (ha : h a = some (.cells c T_strings_Builder (0, 0))) (hc : c.size = 2) : SemE PG h (convert T_unsafe_Pointer T_p_strings_Builder (.pointer (some ⟨a, 0, none⟩))) = some (.pointer (some ⟨a, 0, none⟩)) := by
  have hs : shapeH h a = some (some (T_strings_Builder, c.size)) := by unfold shapeH; rw [ha]
  rw [hc] at hs
  show SemE PG h (underlying T_unsafe_Pointer >>= _) = _
  rw [semE_und T_unsafe_Pointer.und]
  show SemE PG h (underlying T_p_strings_Builder >>= _) = _
  rw [semE_und T_p_strings_Builder.und]
  show SemE PG h (underlying T_unsafe_Pointer >>= _) = _
  rw [semE_und T_unsafe_Pointer.und]
  show SemE PG h (underlying T_p_strings_Builder >>= _) = _
  rw [semE_und T_p_strings_Builder.und]
  show SemE PG h (Conv.seenAt ⟨a, 0, none⟩ >>= _) = _
  rw [semE_seenAt (a := ⟨a, 0, none⟩) hs]
  have hv : SemE PG h (variablesAt ⟨a, 0, none⟩ T_strings_Builder 1) = some true := by
    show (shapeH h a).bind _ = _
    rw [hs]
    kernel_rfl
  simp only [sizeOf_bind]
  rw [semE_info T_strings_Builder.info]
  simp only [T_strings_Builder.size]
  rw [semE_bind, hv]
  simp [SemE, pure]
theorem NoEscape_ok {h : PH} {v : Value} {k : Value → PH → Prop} (hk : k v h) : CallsH PG id_internal_abi_NoEscape #[v] h k :=
  CallsH.entry (v := v) (by kernel_rfl) hk
/-! ### a writer in memory: its error, its bytes -/
structure BAt (h : PH) (a : Nat) (bs : List UInt8) (F : List Nat) : Prop where
  here : ∃ p v G, h a = some (.cells #[p, v] T_strings_Builder (0, 0)) ∧ (p = .pointer none ∨ p = .pointer (some ⟨a, 0, none⟩)) ∧ OwnR h T_uint8 1 v (bs.map bcell) G ∧ F = a :: G ∧ a ∉ G
theorem BAt.known {h : PH} {a : Nat} {bs : List UInt8} {F : List Nat} (H : BAt h a bs F) : ∀ b ∈ F, h b ≠ none := by
  obtain ⟨p, v, G, ha, hp, hO, rfl, hn⟩ := H
  intro b hb
  rcases List.mem_cons.1 hb with rfl | hb
  · rw [ha]; simp
  · exact hO.known b hb
theorem BAt.upd {h h' : PH} {a : Nat} {bs : List UInt8} {F G : List Nat} (H : BAt h a bs F) (u : Upd G h h') (hd : ∀ b ∈ F, b ∉ G) : BAt h' a bs F := by
  obtain ⟨p, v, G', ha, hp, hO, rfl, hn⟩ := H
  exact ⟨p, v, G', u.get ha (hd a (by simp)), hp, hO.upd u (fun b hb => hd b (by simp [hb])), rfl, hn⟩
theorem BAt.ext {h h' : PH} {a : Nat} {bs : List UInt8} {F : List Nat} (H : BAt h a bs F) (u : Ext h h') : BAt h' a bs F := H.upd u (by simp)
/-- What a step of a writer leaves. -/
def BNext (h : PH) (a : Nat) (F : List Nat) (bs : List UInt8) (k : PH → Prop) : Prop := ∀ h' F', BAt h' a bs F' → Upd F h h' → (∀ b ∈ F', b ∈ F ∨ h b = none) → k h'

theorem copyCheck_ok {h : PH} {a : Nat} {p v : Value} (ha : h a = some (.cells #[p, v] T_strings_Builder (0, 0))) (hp : p = .pointer none ∨ p = .pointer (some ⟨a, 0, none⟩)) {k : Value → PH → Prop}
    (hk : ∀ h', h' a = some (.cells #[.pointer (some ⟨a, 0, none⟩), v] T_strings_Builder (0, 0)) → Upd [a] h h' → (∀ b, b ≠ a → h' b = h b) → k (.tuple #[]) h') : CallsH PG id_strings_Builder_copyCheck #[.pointer (some ⟨a, 0, none⟩)] h k := by
  apply strings_Builder_copyCheck.call
  unfold strings_Builder_copyCheck
  have hc : cellH h ⟨a, 0, none⟩ = some p := by simp [cellH, ha]
  simp only [T_strings_Builder.f0, T_p_strings_Builder.load, hc, popO_some, bindH_eq, condV_bool, condV_true, condV_false, yV_bool, gopV_tt, gopV_ff, gopV_tf, gopV_ft, pickV_t, pickV_f, pickV_bool, nilS_ptr, add_eq, sub_eq, mul_eq, lss_eq, leq_eq, gtr_eq, geq_eq, not_eq, minI_eq, maxI_eq, extract_0, extract_1, extract_2, eqlI, neqI, makeFunc_eq, decide_true, decide_false, if_true, if_false, Bool.false_eq_true, Bool.not_true, Bool.not_false, reduceIte, List.getElem?_toArray, List.getElem?_cons_zero, List.getElem?_cons_succ, Option.isSome_none, List.length_map]
  rcases hp with rfl | rfl
  · simp only [eqlPtrNil T_p_strings_Builder.und, Option.isNone_none, popO_some, bindH_eq, condV_bool, condV_true, condV_false, yV_bool, gopV_tt, gopV_ff, gopV_tf, gopV_ft, pickV_t, pickV_f, pickV_bool, nilS_ptr, add_eq, sub_eq, mul_eq, lss_eq, leq_eq, gtr_eq, geq_eq, not_eq, minI_eq, maxI_eq, extract_0, extract_1, extract_2, eqlI, neqI, makeFunc_eq, decide_true, decide_false, if_true, if_false, Bool.false_eq_true, Bool.not_true, Bool.not_false, reduceIte, List.getElem?_toArray, List.getElem?_cons_zero, List.getElem?_cons_succ, Option.isSome_none, List.length_map]
    refine SemE.semH (to_unsafe ha (by simp)) ?_
    refine NoEscape_ok ?_
    refine SemE.semH (from_unsafe ha (by simp)) ?_
    refine store_cell T_p_strings_Builder.und rfl ha (by simp) rfl T_p_strings_Builder.info T_p_strings_Builder.size ?_
    exact hk _ set_same (Upd.set (by simp)) (fun b hb => set_other hb)
  · simp only [eqlPtrNil T_p_strings_Builder.und, Option.isNone_some, neqPtrSelf, T_strings_Builder.f0, T_p_strings_Builder.load, hc, popO_some, bindH_eq, condV_bool, condV_true, condV_false, yV_bool, gopV_tt, gopV_ff, gopV_tf, gopV_ft, pickV_t, pickV_f, pickV_bool, nilS_ptr, add_eq, sub_eq, mul_eq, lss_eq, leq_eq, gtr_eq, geq_eq, not_eq, minI_eq, maxI_eq, extract_0, extract_1, extract_2, eqlI, neqI, makeFunc_eq, decide_true, decide_false, if_true, if_false, Bool.false_eq_true, Bool.not_true, Bool.not_false, reduceIte, List.getElem?_toArray, List.getElem?_cons_zero, List.getElem?_cons_succ, Option.isSome_none, List.length_map]
    exact hk _ ha Upd.refl (fun _ _ => rfl)
theorem byte_lit (x : Int) : SemA PG (Instr.buildSlice T_sl_uint8 1 #[(0, .int .u8 x)]) = some (.cells #[.int .u8 x] T_uint8, fun r => pure (.slice (some ⟨r, 0, none⟩) 1 1)) := by kernel_rfl
/-- append(b.buf, ..) and stored. -/
theorem buf_app {h : PH} {a : Nat} {p v x : Value} {bs ys : List UInt8} {G : List Nat} {t2 e2 : TypeId} (hu2 : PG.underlying t2 = some (.slice e2)) (ha : h a = some (.cells #[p, v] T_strings_Builder (0, 0))) (hp : p = .pointer none ∨ p = .pointer (some ⟨a, 0, none⟩)) (hO : OwnR h T_uint8 1 v (bs.map bcell) G) (hn : a ∉ G)
    (hx : SlR h 1 x (ys.map bcell)) (hl : bs.length + ys.length ≤ 140737488355328) {k : PH → Prop} (hk : BNext h a (a :: G) (bs ++ ys) k) :
    SemH PG (Builtin.append_ #[T_sl_uint8, t2] T_sl_uint8 #[v, x]) h fun v' h' => SemH PG (storeS T_sl_uint8 (.pointer (some ⟨a, 1, none⟩)) v') h' fun _ h'' => k h'' := by
  refine append_own T_sl_uint8.und hu2 T_uint8.info T_uint8.size T_uint8.bytes T_uint8.zero rfl (by decide) hO hx (bcell.isCell _) (by simp; omega) ?_
  intro v2 h2 F2 hO2 u2 k2 _
  rw [← List.map_append] at hO2
  have ha2 := u2.get ha hn
  have hn2 : a ∉ F2 := fun hm => by
    rcases k2 a hm with h1 | h1
    · exact hn h1
    · rw [ha] at h1; cases h1
  refine store_cell T_sl_uint8.und rfl ha2 (by simp) ?_ T_sl_uint8.info T_sl_uint8.size ?_
  · obtain ⟨_, _, rfl, -⟩ := hO2.slR.here; rfl
  · refine hk _ (a :: F2) ⟨p, v2, F2, set_same, hp, hO2.upd (Upd.set (F := [a]) (by simp)) (fun b hb => by simp; rintro rfl; exact hn2 hb), rfl, hn2⟩ ((u2.mono fun b hb => .inl (by simp [hb])).trans (Upd.set (by simp))) (fun b hb => ?_)
    rcases List.mem_cons.1 hb with rfl | hb
    · exact .inl (by simp)
    · rcases k2 b hb with h1 | h1
      · exact .inl (by simp [h1])
      · exact .inr h1
theorem WriteByte_ok {h : PH} {a : Nat} {bs : List UInt8} {F : List Nat} (hW : BAt h a bs F) (hl : bs.length + 1 ≤ 140737488355328) (x : UInt8) {k : Value → PH → Prop} (hk : BNext h a F (bs ++ [x]) (k .nilIface)) :
    CallsH PG id_strings_Builder_WriteByte #[.pointer (some ⟨a, 0, none⟩), .int .u8 x.toNat] h k := by
  obtain ⟨p, v, G, ha, hp, hO, rfl, hn⟩ := hW
  apply strings_Builder_WriteByte.call
  unfold strings_Builder_WriteByte
  refine copyCheck_ok ha hp fun h1 ha1 u1 o1 => ?_
  have hc : cellH h1 ⟨a, 1, none⟩ = some v := by simp [cellH, ha1]
  have hO1 := hO.upd u1 (fun b hb hf => by simp at hf; subst hf; exact hn hb)
  simp only [T_strings_Builder.f1, T_sl_uint8.load, hc, byte_lit, popO_some, bindH_eq, condV_bool, condV_true, condV_false, yV_bool, gopV_tt, gopV_ff, gopV_tf, gopV_ft, pickV_t, pickV_f, pickV_bool, nilS_ptr, add_eq, sub_eq, mul_eq, lss_eq, leq_eq, gtr_eq, geq_eq, not_eq, minI_eq, maxI_eq, extract_0, extract_1, extract_2, eqlI, neqI, makeFunc_eq, decide_true, decide_false, if_true, if_false, Bool.false_eq_true, Bool.not_true, Bool.not_false, reduceIte, List.getElem?_toArray, List.getElem?_cons_zero, List.getElem?_cons_succ, Option.isSome_none, List.length_map]
  intro r hr
  refine popO_pure ?_
  have u2 : Ext h1 (h1.set r (.cells #[.int .u8 x.toNat] T_uint8)) := Upd.new hr
  have s2 : SlR (h1.set r (.cells #[.int .u8 x.toNat] T_uint8)) 1 (.slice (some ⟨r, 0, none⟩) 1 1) ([x].map bcell) := (OwnR.lit (bcell.rows [x]) set_same (by simp) (by decide) (by simp [bcell])).slR
  refine buf_app T_sl_uint8.und (u2.get ha1) (.inr rfl) (hO1.ext u2) hn s2 (by simpa using hl) ?_
  intro h3 F3 hW3 u3 k3
  refine hk _ F3 hW3 ((u1.mono fun b hb => .inl (by simp at hb; simp [hb])).trans (u2.upd.trans u3)) fun b hb => ?_
  rcases k3 b hb with h' | h'
  · exact .inl h'
  · by_cases hba : b = a
    · exact .inl (by simp [hba])
    · have := u2.none h'
      rw [o1 b hba] at this
      exact .inr this
/-- append(b.buf, s...) and stored. -/
theorem buf_str {h : PH} {a : Nat} {p v : Value} {bs ys : List UInt8} {G : List Nat} (ha : h a = some (.cells #[p, v] T_strings_Builder (0, 0))) (hp : p = .pointer none ∨ p = .pointer (some ⟨a, 0, none⟩)) (hO : OwnR h T_uint8 1 v (bs.map bcell) G) (hn : a ∉ G)
    (hl : bs.length + ys.length ≤ 140737488355328) {k : PH → Prop} (hk : BNext h a (a :: G) (bs ++ ys) k) :
    SemH PG (Builtin.append_ #[T_sl_uint8, T_string] T_sl_uint8 #[v, .string (tx ys)]) h fun v' h' => SemH PG (storeS T_sl_uint8 (.pointer (some ⟨a, 1, none⟩)) v') h' fun _ h'' => k h'' := by
  refine append_str T_sl_uint8.und T_string.und T_uint8.info T_uint8.size T_uint8.bytes T_uint8.zero rfl (by decide) hO (by simp; omega) ?_
  intro v2 h2 F2 hO2 u2 k2 _
  rw [← List.map_append] at hO2
  have ha2 := u2.get ha hn
  have hn2 : a ∉ F2 := fun hm => by
    rcases k2 a hm with h1 | h1
    · exact hn h1
    · rw [ha] at h1; cases h1
  refine store_cell T_sl_uint8.und rfl ha2 (by simp) ?_ T_sl_uint8.info T_sl_uint8.size ?_
  · obtain ⟨_, _, rfl, -⟩ := hO2.slR.here; rfl
  · refine hk _ (a :: F2) ⟨p, v2, F2, set_same, hp, hO2.upd (Upd.set (F := [a]) (by simp)) (fun b hb => by simp; rintro rfl; exact hn2 hb), rfl, hn2⟩ ((u2.mono fun b hb => .inl (by simp [hb])).trans (Upd.set (by simp))) (fun b hb => ?_)
    rcases List.mem_cons.1 hb with rfl | hb
    · exact .inl (by simp)
    · rcases k2 b hb with h1 | h1
      · exact .inl (by simp [h1])
      · exact .inr h1
theorem WriteString_ok {h : PH} {a : Nat} {bs ys : List UInt8} {F : List Nat} (hW : BAt h a bs F) (hl : bs.length + ys.length ≤ 140737488355328) {k : Value → PH → Prop} (hk : BNext h a F (bs ++ ys) (k (.tuple #[.int .i64 ys.length, .nilIface]))) :
    CallsH PG id_strings_Builder_WriteString #[.pointer (some ⟨a, 0, none⟩), .string (tx ys)] h k := by
  obtain ⟨p, v, G, ha, hp, hO, rfl, hn⟩ := hW
  apply strings_Builder_WriteString.call
  unfold strings_Builder_WriteString
  refine copyCheck_ok ha hp fun h1 ha1 u1 o1 => ?_
  have hc : cellH h1 ⟨a, 1, none⟩ = some v := by simp [cellH, ha1]
  have hO1 := hO.upd u1 (fun b hb hf => by simp at hf; subst hf; exact hn hb)
  simp only [T_strings_Builder.f1, T_sl_uint8.load, hc, T_string.len, tx_size, popO_some, bindH_eq, condV_bool, condV_true, condV_false, yV_bool, gopV_tt, gopV_ff, gopV_tf, gopV_ft, pickV_t, pickV_f, pickV_bool, nilS_ptr, add_eq, sub_eq, mul_eq, lss_eq, leq_eq, gtr_eq, geq_eq, not_eq, minI_eq, maxI_eq, extract_0, extract_1, extract_2, eqlI, neqI, makeFunc_eq, decide_true, decide_false, if_true, if_false, Bool.false_eq_true, Bool.not_true, Bool.not_false, reduceIte, List.getElem?_toArray, List.getElem?_cons_zero, List.getElem?_cons_succ, Option.isSome_none, List.length_map]
  refine buf_str ha1 (.inr rfl) hO1 hn hl ?_
  intro h3 F3 hW3 u3 k3
  refine hk _ F3 hW3 ((u1.mono fun b hb => .inl (by simp at hb; simp [hb])).trans u3) fun b hb => ?_
  rcases k3 b hb with h' | h'
  · exact .inl h'
  · by_cases hba : b = a
    · exact .inl (by simp [hba])
    · rw [o1 b hba] at h'
      exact .inr h'

theorem semE_loadBytes {h : PH} : ∀ (l : List UInt8) (a : Addr) (acc : ByteArray), a.spot = none → (∀ j x, l[j]? = some x → cellH h (a.add j) = some (.int .u8 x.toNat)) → SemE PG h (loadBytes a acc l.length) = some ⟨acc.data ++ l.toArray⟩
  | [], a, acc, _, _ => by show some acc = _; simp
  | x :: xs, a, acc, hsp, hc => by
    have h0 := hc 0 x rfl
    have ha0 : a.add 0 = a := by obtain ⟨b, o, w⟩ := a; cases w <;> simp [Addr.add]
    rw [ha0] at h0
    show (cellH h a).bind _ = _
    rw [h0, Option.bind_some]
    show SemE PG h (loadBytes (a.add 1) (acc.push ((x.toNat : Int).toNat.toUInt8)) xs.length) = _
    rw [semE_loadBytes xs (a.add 1) _ (by obtain ⟨b, o, w⟩ := a; simp at hsp; subst hsp; rw [plain_add]) fun j y hy => ?_]
    · congr 1
      apply ByteArray.ext
      show (acc.push _).data ++ xs.toArray = _
      rw [ByteArray.data_push]
      apply Array.ext'
      simp
    · have := hc (j + 1) y (by simpa using hy)
      have e : (a.add 1).add j = a.add (j + 1) := by
        obtain ⟨b, o, w⟩ := a
        simp at hsp
        subst hsp
        rw [plain_add, plain_add, plain_add]; congr 1; omega
      rw [e]; exact this
theorem unsafeStr {h : PH} {g : Nat} {cs : Array Value} {bs : List UInt8} (hb : h g = some (.cells cs T_uint8 (0, 0))) (hle : bs.length ≤ cs.size) (hcs : cs.toList.take bs.length = bs.map fun b => Value.int .u8 b.toNat) (hne : bs ≠ []) (hmax : bs.length ≤ maxL) {k : Value → PH → Prop}
    (hk : ∀ h', Upd [g] h h' → k (.string (tx bs)) h') : SemH PG (Builtin.unsafeString_ #[T_p_uint8, T_int] T_string #[.pointer (some ⟨g, 0, none⟩), .int .i64 bs.length]) h k := by
  have hl : bs.length ≠ 0 := by simpa using hne
  have h63 : ¬ ((bs.length : Int) > IntKind.i64.max) := by
    have : IntKind.i64.max = 9223372036854775807 := rfl
    unfold maxL at hmax
    omega
  have hneg : ¬ (bs.length : Int) < 0 := by omega
  have hz : ¬ (bs.length : Int) = 0 := by omega
  have hdef : Builtin.unsafeString_ #[T_p_uint8, T_int] T_string #[.pointer (some ⟨g, 0, none⟩), .int .i64 bs.length] =
      (do
        let n ← asInt (.int .i64 bs.length)
        if n < 0 then runtimePanic (.error "unsafe.String: len out of range")
        if n > IntKind.i64.max then unsupported (.unsafePointer "String: a length above the largest int")
        if n = 0 then pure (.string .empty)
        else if ← variablesAt ⟨g, 0, none⟩ (← elemOf T_p_uint8) n.toNat then do
          let s ← loadBytes ⟨g, 0, none⟩ .empty n.toNat
          freeze ⟨g, 0, none⟩ n.toNat
          pure (.string s)
        else unsupported (.unsafePointer "String: not so many bytes at ptr")) := rfl
  rw [hdef]
  have hs : shapeH h g = some (some (T_uint8, cs.size)) := by unfold shapeH; rw [hb]
  have hv : SemE PG h (variablesAt ⟨g, 0, none⟩ T_uint8 bs.length) = some true := by
    show (shapeH h g).bind _ = _
    rw [hs]
    have hc1 : PG.cellsOf T_uint8 = 1 := by kernel_rfl
    have := Go.Lib.liesAt_bytes (P := PG) hc1 (cs.size / PG.cellsOf T_uint8) bs.length (by rw [hc1]; simpa using hle)
    show some (liesAt PG PG.depth T_uint8 (cs.size / PG.cellsOf T_uint8) 0 T_uint8 bs.length) = some true
    rw [this]
  have hlb := semE_loadBytes (h := h) bs ⟨g, 0, none⟩ .empty rfl (fun j x hx => by
    rw [plain_add]
    unfold cellH
    simp only [hb, Nat.zero_add]
    have hj : j < bs.length := (List.getElem?_eq_some_iff.1 hx).1
    have : (cs.toList.take bs.length)[j]? = some (.int .u8 x.toNat) := by rw [hcs, List.getElem?_map, hx]; rfl
    rw [List.getElem?_take, if_pos hj] at this
    simpa using this)
  have helem : SemE PG h (elemOf T_p_uint8) = some T_uint8 := by kernel_rfl
  simp only [asInt, asIntOf, pure_bind, map_pure, hneg, h63, hz, if_false, Int.toNat_natCast]
  refine semH_of_semE helem ?_
  refine semH_of_semE hv ?_
  simp only [if_true]
  refine semH_of_semE hlb ?_
  show (∃ o, h g = some o) ∧ _
  refine ⟨⟨_, hb⟩, ?_⟩
  have hfin := hk (freezeH h ⟨g, 0, none⟩ bs.length) (fun b o hbo hn => by
    unfold freezeH
    rw [if_neg hl, if_neg (by simpa using hn)]
    exact hbo)
  show k (.string _) _
  have e : (⟨ByteArray.empty.data ++ bs.toArray⟩ : ByteArray) = tx bs := by apply ByteArray.ext; simp [tx]
  rw [e]
  exact hfin
theorem unsafeNone {h : PH} {q : Option Addr} : SemE PG h (Builtin.unsafeString_ #[T_p_uint8, T_int] T_string #[.pointer q, .int .i64 0]) = some (.string (tx [])) := by
  cases q <;> rfl
theorem String_ok {h : PH} {a : Nat} {bs : List UInt8} {F : List Nat} (hW : BAt h a bs F) {k : Value → PH → Prop} (hk : ∀ h', Upd F h h' → k (.string (tx bs)) h') :
    CallsH PG id_strings_Builder_String #[.pointer (some ⟨a, 0, none⟩)] h k := by
  obtain ⟨p, v, G, ha, hp, hO, rfl, hn⟩ := hW
  have hc : cellH h ⟨a, 1, none⟩ = some v := by simp [cellH, ha]
  have lv := hO.slR.len (t' := T_int) T_sl_uint8.und
  rw [List.length_map] at lv
  apply strings_Builder_String.call
  unfold strings_Builder_String
  simp only [T_strings_Builder.f1, T_sl_uint8.load, hc, lv, popO_some, bindH_eq, condV_bool, condV_true, condV_false, yV_bool, gopV_tt, gopV_ff, gopV_tf, gopV_ft, pickV_t, pickV_f, pickV_bool, nilS_ptr, add_eq, sub_eq, mul_eq, lss_eq, leq_eq, gtr_eq, geq_eq, not_eq, minI_eq, maxI_eq, extract_0, extract_1, extract_2, eqlI, neqI, makeFunc_eq, decide_true, decide_false, if_true, if_false, Bool.false_eq_true, Bool.not_true, Bool.not_false, reduceIte, List.getElem?_toArray, List.getElem?_cons_zero, List.getElem?_cons_succ, Option.isSome_none, List.length_map]
  have hload : ∀ h', cellH h' ⟨a, 1, none⟩ = some v → SemE PG h' (Instr.loadAt T_sl_uint8 (.pointer (some ⟨a, 1, none⟩))) = some v := fun h' h1 => by rw [T_sl_uint8.load]; exact h1
  rcases hO.here with ⟨rfl, hr, rfl⟩ | ⟨g, cap, cs, rfl, rfl, hb, hle, hmax, hsz, htk⟩
  · have hnil : bs = [] := by simpa using hr
    subst hnil
    refine SemE.semH (a := .pointer none) rfl ?_
    refine ⟨hc, ?_⟩
    refine SemE.semH unsafeNone ?_
    exact hk _ Upd.refl
  · simp only [List.length_map] at *
    by_cases hne : bs = []
    · subst hne
      by_cases hc0 : cap = 0
      · subst hc0
        have hs : shapeH h g = some (some (T_uint8, cs.size)) := by unfold shapeH; rw [hb]
        show SemH PG (viewAt g >>= _) h _
        refine semH_of_semE (a := none) (by rw [show viewAt g = (viewAt g >>= fun x => pure x) by simp, semE_viewAt hs]; rfl) ?_
        refine semH_of_semE (a := T_uint8) (by kernel_rfl) ?_
        intro r hr
        have u : Ext h (h.set r (.view ⟨g, 0, none⟩ T_uint8)) := Upd.new hr
        refine ⟨by rw [cellH]; simp [u.get ha], ?_⟩
        refine SemE.semH unsafeNone ?_
        exact hk _ u.upd
      · refine SemE.semH (a := .pointer (some ⟨g, 0, none⟩)) ?_ ?_
        · show SemE PG h (if cap ≠ 0 then _ else _) = _
          rw [if_pos hc0]; rfl
        · refine ⟨hc, ?_⟩
          refine SemE.semH unsafeNone ?_
          exact hk _ Upd.refl
    · have hpos : 0 < bs.length := List.length_pos_iff.2 hne
      refine SemE.semH (a := .pointer (some ⟨g, 0, none⟩)) ?_ ?_
      · show SemE PG h (if cap ≠ 0 then _ else _) = _
        rw [if_pos (by omega)]; rfl
      · refine ⟨hc, ?_⟩
        rw [Nat.mul_one, bcell.flat] at htk
        refine unsafeStr hb (by omega) htk hne (by omega) fun h' u => ?_
        exact hk _ (u.mono fun b hb => .inl (by simp at hb; simp [hb]))
end Bld
end Go.Proofs.YtllopddcpkhfjaaDoor
