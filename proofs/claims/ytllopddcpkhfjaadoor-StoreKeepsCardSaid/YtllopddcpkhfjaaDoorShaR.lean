/- sha: strings.Repeat of a zero. -/
import Derived.Test.YtllopddcpkhfjaaDoorShaW
set_option linter.unusedSimpArgs false
set_option linter.unusedVariables false
namespace Go.Proofs.YtllopddcpkhfjaaDoor
open Go Bld
set_option maxRecDepth 20000
theorem digits_size : ∀ (n t : Nat) (acc : Array Value), (Extern.BytealgMakeNoZero.digits n t acc).size = acc.size + n
  | 0, _, acc => rfl
  | n + 1, t, acc => by
    show (Extern.BytealgMakeNoZero.digits n (t / 256) (acc.push _)).size = _
    rw [digits_size n]
    simp
    omega
theorem mkNoZero_eq {n : Int} {h : PH} {Q : Next → PH → Prop} : SemH PG (callFunc id_internal_bytealg_MakeNoZero #[.int .i64 n]) h Q = SemH PG (Extern.BytealgMakeNoZero.makeNoZero #[] #[T_sl_uint8] #[.int .i64 n] >>= fun v => pure (Next.value v)) h Q := by kernel_rfl
theorem MakeNoZero_ok {h : PH} {n : Nat} (hn : n ≤ 140737488355328) {k : Value → PH → Prop}
    (hk : ∀ r cap (cs : Array Value), n ≤ cap → cap ≤ maxL → cs.size = cap → h r = none → k (.slice (some ⟨r, 0, none⟩) n cap) (h.set r (.cells cs T_uint8 (0, 0)))) : CallsH PG id_internal_bytealg_MakeNoZero #[.int .i64 n] h k := by
  refine .inr ?_
  rw [mkNoZero_eq]
  refine SemH.bind (P := PG) (s := Extern.BytealgMakeNoZero.makeNoZero #[] #[T_sl_uint8] #[.int .i64 n]) ?_
  have h1 : ((decide ((n : Int) < 0) || decide ((n : Int) > 2 ^ 48)) = true) = False := by
    apply eq_false
    have : ¬ ((n : Int) > 2 ^ 48) := by
      have h2 : (2 : Int) ^ 48 = 281474976710656 := by rfl
      omega
    have h3 : ¬ ((n : Int) < 0) := by omega
    simp [h3]
    omega
  show SemH PG (underlying T_sl_uint8 >>= _) h _
  rw [semH_und T_sl_uint8.und]
  dsimp only
  simp only [h1, if_false, pure_bind, Int.toNat_natCast]
  rw [semH_choose]
  intro tt
  rw [semH_askRoom, semH_choose]
  intro bb
  have hforced : (Question.appendCap n 0 5).forced = false := rfl
  rw [hforced]
  have hcut : n ≤ (Question.appendCap n 0 5).cut tt ∧ (Question.appendCap n 0 5).cut tt ≤ maxL := by
    have hpos : 0 < 2 ^ 63 - n := by omega
    have := Nat.mod_lt tt hpos
    simp only [Question.cut, maxL]
    omega
  generalize (if (Question.extern "internal/bytealg.MakeNoZero.bytes" 0).forced = true then 0 else (Question.extern "internal/bytealg.MakeNoZero.bytes" 0).cut bb) = B
  show SemH PG (newRow 5 _ >>= _) h _
  intro r hr
  exact ⟨_, rfl, hk r _ _ hcut.1 hcut.2 (by rw [digits_size]; exact Nat.zero_add _) hr⟩
theorem zB : zcells PG T_strings_Builder = #[.pointer none, .slice none 0 0] := by rw [T_strings_Builder.zc]; rfl
theorem BAt.zero {h : PH} {a : Nat} (ha : h a = some (.cells #[.pointer none, .slice none 0 0] T_strings_Builder (0, 0))) : BAt h a [] [a] := ⟨_, _, [], ha, .inl rfl, OwnR.nil, rfl, by simp⟩
theorem cap_nil : SemP PG (Builtin.cap_ #[T_sl_uint8] T_int #[.slice none 0 0]) = some (.int .i64 0) := by kernel_rfl
theorem cutnz {r cap : Nat} {n : Nat} : SemP PG (Instr.sliceAt T_sl_uint8 (.slice (some ⟨r, 0, none⟩) n cap) none (some (.int .i64 ((0 : Nat) : Int))) none) = some (.slice (some ⟨r, 0, none⟩) 0 cap) := by
  have := sliceAt_eq (P := PG) (t := T_sl_uint8) (a := some ⟨r, 0, none⟩) (len := n) (cap := cap) (l := 0) (hh := 0) (lo := none) (hi := some (.int .i64 ((0 : Nat) : Int))) T_sl_uint8.und T_uint8.info (.inl ⟨rfl, rfl⟩) (.inr ⟨_, rfl⟩) (by omega) (by omega)
  rw [this]
  by_cases hc : cap = 0
  · subst hc; simp
  · rw [if_neg hc]; simp [plain_add]
structure FB (h : PH) (a g cap : Nat) (bs : List UInt8) : Prop where
  here : ∃ (cs : Array Value) (f : Nat), h a = some (.cells #[.pointer (some ⟨a, 0, none⟩), .slice (some ⟨g, 0, none⟩) bs.length cap] T_strings_Builder (0, 0)) ∧ h g = some (.cells cs T_uint8 (0, f)) ∧ f ≤ bs.length ∧ bs.length ≤ cap ∧ cs.size = cap ∧ cs.toList.take bs.length = (bs.map fun b => Value.int .u8 b.toNat) ∧ g ≠ a ∧ cap ≤ maxL
def bufRest (r n : Nat) : List Value → PH → Nat := fun _ h => match h r with
  | some (Obj.cells c _ _) => match c[1]? with
    | some (Value.slice _ m _) => n - m
    | _ => 0
  | _ => 0
theorem FB.mu {h : PH} {a g cap : Nat} {bs : List UInt8} (H : FB h a g cap bs) {n : Nat} {vs : List Value} : bufRest a n vs h = n - bs.length := by
  obtain ⟨cs, f, ha, -⟩ := H
  simp [bufRest, ha]
/-- A new builder grows. -/
theorem Grow_ok {h : PH} {a n : Nat} (ha : h a = some (.cells #[.pointer none, .slice none 0 0] T_strings_Builder (0, 0))) (hn : 0 < n) (hn2 : n ≤ 1000000) {k : Value → PH → Prop}
    (hk : ∀ h' g cap, FB h' a g cap [] → n ≤ cap → Upd [a] h h' → h g = none → k (.tuple #[]) h') : CallsH PG id_strings_Builder_Grow #[.pointer (some ⟨a, 0, none⟩), .int .i64 n] h k := by
  apply strings_Builder_Grow.call
  unfold strings_Builder_Grow
  refine copyCheck_ok ha (.inl rfl) fun h1 a1 u1 o1 => ?_
  have e1 : ((n : Int) < 0) = False := eq_false (by omega)
  have c1 : cellH h1 ⟨a, 0 + 1, none⟩ = some (.slice none 0 0) := by simp [cellH, a1]
  have e2 : IntKind.i64.wrap ((0 : Int) - ((0 : Nat) : Int)) = 0 := by rw [i64_wrap (by omega) (by omega)]; omega
  have e3 : ((0 : Int) < (n : Int)) = True := eq_true (by omega)
  simp only [e1, popO_some, bindH_eq, condV_bool, condV_true, condV_false, yV_bool, gopV_tt, gopV_ff, gopV_tf, gopV_ft, pickV_t, pickV_f, pickV_bool, nilS_ptr, add_eq, sub_eq, mul_eq, lss_eq, leq_eq, gtr_eq, geq_eq, not_eq, minI_eq, maxI_eq, extract_0, extract_1, extract_2, eqlI, neqI, makeFunc_eq, decide_true, decide_false, if_true, if_false, Bool.false_eq_true, Bool.not_true, Bool.not_false, reduceIte, List.getElem?_toArray, List.getElem?_cons_zero, List.getElem?_cons_succ, Option.isSome_none, List.length_map]
  unfold strings_Builder_Grow_k5
  simp only [T_strings_Builder.f1, T_sl_uint8.load, c1, cap_nil, T_sl_uint8.len, e2, e3, popO_some, bindH_eq, condV_bool, condV_true, condV_false, yV_bool, gopV_tt, gopV_ff, gopV_tf, gopV_ft, pickV_t, pickV_f, pickV_bool, nilS_ptr, add_eq, sub_eq, mul_eq, lss_eq, leq_eq, gtr_eq, geq_eq, not_eq, minI_eq, maxI_eq, extract_0, extract_1, extract_2, eqlI, neqI, makeFunc_eq, decide_true, decide_false, if_true, if_false, Bool.false_eq_true, Bool.not_true, Bool.not_false, reduceIte, List.getElem?_toArray, List.getElem?_cons_zero, List.getElem?_cons_succ, Option.isSome_none, List.length_map]
  apply strings_Builder_grow.call
  unfold strings_Builder_grow
  have e4 : IntKind.i64.wrap (2 * (0 : Int)) = 0 := by rw [i64_wrap (by omega) (by omega)]; omega
  have e5 : IntKind.i64.wrap ((0 : Int) + (n : Int)) = (n : Int) := by rw [i64_wrap (by omega) (by omega)]; omega
  simp only [T_strings_Builder.f1, T_sl_uint8.load, c1, cap_nil, T_sl_uint8.len, e4, e5, popO_some, bindH_eq, condV_bool, condV_true, condV_false, yV_bool, gopV_tt, gopV_ff, gopV_tf, gopV_ft, pickV_t, pickV_f, pickV_bool, nilS_ptr, add_eq, sub_eq, mul_eq, lss_eq, leq_eq, gtr_eq, geq_eq, not_eq, minI_eq, maxI_eq, extract_0, extract_1, extract_2, eqlI, neqI, makeFunc_eq, decide_true, decide_false, if_true, if_false, Bool.false_eq_true, Bool.not_true, Bool.not_false, reduceIte, List.getElem?_toArray, List.getElem?_cons_zero, List.getElem?_cons_succ, Option.isSome_none, List.length_map]
  refine MakeNoZero_ok (by omega) fun r cap cs h2 h3 hsz hr => ?_
  have u2 : Ext h1 (h1.set r (.cells cs T_uint8 (0, 0))) := Upd.new hr
  have b2 : (h1.set r (.cells cs T_uint8 (0, 0))) r = some (.cells cs T_uint8 (0, 0)) := set_same
  generalize h1.set r (.cells cs T_uint8 (0, 0)) = h2' at *
  have a2 := u2.get a1
  have c1' : cellH h2' ⟨a, 0 + 1, none⟩ = some (.slice none 0 0) := by simp [cellH, a2]
  have hne : r ≠ a := fun e => by subst e; rw [a1] at hr; cases hr
  refine ⟨c1', ?_⟩
  simp only [T_strings_Builder.f1, T_sl_uint8.load, c1', cutnz, popO_some, bindH_eq, condV_bool, condV_true, condV_false, yV_bool, gopV_tt, gopV_ff, gopV_tf, gopV_ft, pickV_t, pickV_f, pickV_bool, nilS_ptr, add_eq, sub_eq, mul_eq, lss_eq, leq_eq, gtr_eq, geq_eq, not_eq, minI_eq, maxI_eq, extract_0, extract_1, extract_2, eqlI, neqI, makeFunc_eq, decide_true, decide_false, if_true, if_false, Bool.false_eq_true, Bool.not_true, Bool.not_false, reduceIte, List.getElem?_toArray, List.getElem?_cons_zero, List.getElem?_cons_succ, Option.isSome_none, List.length_map]
  have hcp : SemE PG h2' (Builtin.copy_ #[T_sl_uint8, T_sl_uint8] T_int #[.slice (some ⟨r, 0, none⟩) 0 cap, .slice none 0 0]) = some (.int .i64 0) := by kernel_rfl
  refine SemE.semH hcp ?_
  refine store_cell T_sl_uint8.und rfl a2 (by simp) rfl T_sl_uint8.info T_sl_uint8.size ?_
  refine hk _ r cap ⟨cs, 0, set_same, by rw [set_other hne]; exact b2, by simp, by simp, by omega, by simp, hne, h3⟩ h2 ((u1.trans u2.upd).trans (Upd.set (by simp))) ?_
  rw [← o1 r hne]; exact hr
theorem BLen_ok {h : PH} {a : Nat} {bs : List UInt8} {F : List Nat} (H : BAt h a bs F) {k : Value → PH → Prop} (hk : k (.int .i64 bs.length) h) : CallsH PG id_strings_Builder_Len #[.pointer (some ⟨a, 0, none⟩)] h k := by
  obtain ⟨p, v, G, ha, hp, hO, rfl, hn⟩ := H
  apply strings_Builder_Len.call
  unfold strings_Builder_Len
  have c1 : cellH h ⟨a, 0 + 1, none⟩ = some v := by simp [cellH, ha]
  have lv := hO.slR.len (t' := T_int) T_sl_uint8.und
  rw [List.length_map] at lv
  simp only [T_strings_Builder.f1, T_sl_uint8.load, c1, lv, popO_some, bindH_eq, condV_bool, condV_true, condV_false, yV_bool, gopV_tt, gopV_ff, gopV_tf, gopV_ft, pickV_t, pickV_f, pickV_bool, nilS_ptr, add_eq, sub_eq, mul_eq, lss_eq, leq_eq, gtr_eq, geq_eq, not_eq, minI_eq, maxI_eq, extract_0, extract_1, extract_2, eqlI, neqI, makeFunc_eq, decide_true, decide_false, if_true, if_false, Bool.false_eq_true, Bool.not_true, Bool.not_false, reduceIte, List.getElem?_toArray, List.getElem?_cons_zero, List.getElem?_cons_succ, Option.isSome_none, List.length_map]
  exact hk
theorem and_small : SemP PG (binOp .and T_uint (.int .u64 1) (.int .u64 4294967295)) = some (.int .u64 1) := by kernel_rfl
theorem and_zero : SemP PG (binOp .and T_uint64 (.int .u64 0) (.int .u64 4294967295)) = some (.int .u64 0) := by kernel_rfl
theorem and_one : SemP PG (binOp .and T_uint64 (.int .u64 1) (.int .u64 4294967295)) = some (.int .u64 1) := by kernel_rfl
theorem and_n : ∀ n : Fin 64, (BitVec.ofInt 64 (n.val : Int) &&& BitVec.ofInt 64 4294967295).toNat = n.val := by decide
theorem and_n' {n : Nat} (hn : n < 64) : SemP PG (binOp .and T_uint64 (.int .u64 (n : Int)) (.int .u64 4294967295)) = some (.int .u64 (n : Int)) := by
  have e : SemP PG (binOp .and T_uint64 (.int .u64 (n : Int)) (.int .u64 4294967295)) = some (.int .u64 (IntKind.u64.wrap ((BitVec.ofInt 64 (n : Int) &&& BitVec.ofInt 64 4294967295).toNat : Int))) := rfl
  have := and_n ⟨n, hn⟩
  simp only at this
  rw [e, this, u64_wrap (by omega) (by omega)]
theorem shr32 {n : Nat} (hn : n < 64) : SemP PG (binOp .shr T_uint64 (.int .u64 (n : Int)) (.int .u64 32)) = some (.int .u64 0) := by
  rw [shr_eq (by decide)]
  congr 2
  show (n : Int).fdiv (2 ^ 32) = 0
  rw [Int.fdiv_eq_ediv_of_nonneg _ (by decide)]
  have : (2 : Int) ^ 32 = 4294967296 := by rfl
  omega
theorem shr32' : SemP PG (binOp .shr T_uint64 (.int .u64 0) (.int .u64 32)) = some (.int .u64 0) := shr32 (n := 0) (by decide)
theorem shr321 : SemP PG (binOp .shr T_uint64 (.int .u64 1) (.int .u64 32)) = some (.int .u64 0) := shr32 (n := 1) (by decide)
theorem Mul_ok {h : PH} {n : Nat} (hn : n < 64) {k : Value → PH → Prop} (hk : k (.tuple #[.int .u64 0, .int .u64 n]) h) : CallsH PG id_math_bits_Mul #[.int .u64 1, .int .u64 n] h k := by
  apply math_bits_Mul.call
  unfold math_bits_Mul
  simp only [popO_some, bindH_eq, condV_bool, condV_true, condV_false, yV_bool, gopV_tt, gopV_ff, gopV_tf, gopV_ft, pickV_t, pickV_f, pickV_bool, nilS_ptr, add_eq, sub_eq, mul_eq, lss_eq, leq_eq, gtr_eq, geq_eq, not_eq, minI_eq, maxI_eq, extract_0, extract_1, extract_2, eqlI, neqI, makeFunc_eq, decide_true, decide_false, if_true, if_false, Bool.false_eq_true, Bool.not_true, Bool.not_false, reduceIte, List.getElem?_toArray, List.getElem?_cons_zero, List.getElem?_cons_succ, Option.isSome_none, List.length_map]
  apply math_bits_Mul64.call
  unfold math_bits_Mul64
  have w0 : IntKind.u64.wrap 0 = 0 := rfl
  have wn : IntKind.u64.wrap (n : Int) = n := u64_wrap (by omega) (by omega)
  simp only [and_one, shr321, and_n' hn, shr32 hn, Int.one_mul, Int.zero_mul, Int.mul_zero, wn, w0, Int.add_zero, and_zero, shr32', popO_some, bindH_eq, condV_bool, condV_true, condV_false, yV_bool, gopV_tt, gopV_ff, gopV_tf, gopV_ft, pickV_t, pickV_f, pickV_bool, nilS_ptr, add_eq, sub_eq, mul_eq, lss_eq, leq_eq, gtr_eq, geq_eq, not_eq, minI_eq, maxI_eq, extract_0, extract_1, extract_2, eqlI, neqI, makeFunc_eq, decide_true, decide_false, if_true, if_false, Bool.false_eq_true, Bool.not_true, Bool.not_false, reduceIte, List.getElem?_toArray, List.getElem?_cons_zero, List.getElem?_cons_succ, Option.isSome_none, List.length_map]
  exact hk
/-! ### a builder whose front is frozen, with room -/
theorem semH_storeCellsF {b o f : Nat} {e : TypeId} {Q : Unit → PH → Prop} : ∀ (vs : List Value) (i : Nat) (h : PH) (c : Array Value), h b = some (.cells c e (0, f)) → f ≤ o + i → o + i + vs.length ≤ c.size → (∀ v ∈ vs, isCell v = true) →
    Q () (if vs = [] then h else h.set b (.cells (writeA c (o + i) vs) e (0, f))) → SemH PG (storeCells ⟨b, o, none⟩ vs i) h Q
  | [], i, h, c, _, _, _, _, hq => by
    show Q () h
    simpa using hq
  | v :: vs, i, h, c, hb, hf, hle, hv, hq => by
    simp only [List.length_cons] at hle
    have hlt : o + i < c.size := by omega
    have ha : (⟨b, o, none⟩ : Addr).add i = ⟨b, o + i, none⟩ := plain_add ..
    show isCell v = true ∧ frozenH h ((⟨b, o, none⟩ : Addr).add i) = false ∧ (∃ u, cellH h ((⟨b, o, none⟩ : Addr).add i) = some u) ∧ SemH PG (storeCells ⟨b, o, none⟩ vs (i + 1)) (setCellH h ((⟨b, o, none⟩ : Addr).add i) v) Q
    rw [ha]
    refine ⟨hv v (by simp), by simp [frozenH, hb]; omega, ⟨c[o + i], by simp [cellH, hb, hlt]⟩, ?_⟩
    have hset : setCellH h ⟨b, o + i, none⟩ v = h.set b (.cells (c.setIfInBounds (o + i) v) e (0, f)) := by
      funext x
      unfold setCellH PH.set
      by_cases hx : x = b
      · subst hx; simp [hb]
      · simp [hx]
    rw [hset]
    refine semH_storeCellsF vs (i + 1) _ _ set_same (by omega) (by simp; omega) (fun u hu => hv u (by simp [hu])) ?_
    have h2 : ∀ o1 o2 : Obj, (h.set b o1).set b o2 = h.set b o2 := fun o1 o2 => by funext x; unfold PH.set; split <;> rfl
    simp only [List.cons_ne_nil, if_false] at hq
    split
    · rename_i hvs; subst hvs; simpa [writeA] using hq
    · rw [h2]; simpa [writeA, Nat.add_assoc] using hq
theorem unsafeStrF {h : PH} {g : Nat} {cs : Array Value} {fr : Nat × Nat} {bs : List UInt8} (hb : h g = some (.cells cs T_uint8 fr)) (hle : bs.length ≤ cs.size) (hcs : cs.toList.take bs.length = bs.map fun b => Value.int .u8 b.toNat) (hne : bs ≠ []) (hmax : bs.length ≤ maxL) {k : Value → PH → Prop}
    (hk : k (.string (tx bs)) (freezeH h ⟨g, 0, none⟩ bs.length)) : SemH PG (Builtin.unsafeString_ #[T_p_uint8, T_int] T_string #[.pointer (some ⟨g, 0, none⟩), .int .i64 bs.length]) h k := by
  have hl : bs.length ≠ 0 := by simpa using hne
  have h63 : ¬ ((bs.length : Int) > IntKind.i64.max) := by
    have : IntKind.i64.max = 9223372036854775807 := rfl
    unfold maxL at hmax
    omega
  have hneg : ¬ (bs.length : Int) < 0 := by omega
  have hz : ¬ (bs.length : Int) = 0 := by omega
  have hdef : Builtin.unsafeString_ #[T_p_uint8, T_int] T_string #[.pointer (some ⟨g, 0, none⟩), .int .i64 bs.length] =
      (do
        let n ← asInt (.int .i64 bs.length)
        if n < 0 then runtimePanic (.error "unsafe.String: len out of range")
        if n > IntKind.i64.max then unsupported (.unsafePointer "String: a length above the largest int")
        if n = 0 then pure (.string .empty)
        else if ← variablesAt ⟨g, 0, none⟩ (← elemOf T_p_uint8) n.toNat then do
          let s ← loadBytes ⟨g, 0, none⟩ .empty n.toNat
          freeze ⟨g, 0, none⟩ n.toNat
          pure (.string s)
        else unsupported (.unsafePointer "String: not so many bytes at ptr")) := rfl
  rw [hdef]
  have hs : shapeH h g = some (some (T_uint8, cs.size)) := by unfold shapeH; rw [hb]
  have hv : SemE PG h (variablesAt ⟨g, 0, none⟩ T_uint8 bs.length) = some true := by
    show (shapeH h g).bind _ = _
    rw [hs]
    have hc1 : PG.cellsOf T_uint8 = 1 := by kernel_rfl
    have := Go.Lib.liesAt_bytes (P := PG) hc1 (cs.size / PG.cellsOf T_uint8) bs.length (by rw [hc1]; simpa using hle)
    show some (liesAt PG PG.depth T_uint8 (cs.size / PG.cellsOf T_uint8) 0 T_uint8 bs.length) = some true
    rw [this]
  have hlb := semE_loadBytes (h := h) bs ⟨g, 0, none⟩ .empty rfl (fun j x hx => by
    rw [plain_add]
    unfold cellH
    simp only [hb, Nat.zero_add]
    have hj : j < bs.length := (List.getElem?_eq_some_iff.1 hx).1
    have : (cs.toList.take bs.length)[j]? = some (.int .u8 x.toNat) := by rw [hcs, List.getElem?_map, hx]; rfl
    rw [List.getElem?_take, if_pos hj] at this
    simpa using this)
  have helem : SemE PG h (elemOf T_p_uint8) = some T_uint8 := by kernel_rfl
  simp only [asInt, asIntOf, pure_bind, map_pure, hneg, h63, hz, if_false, Int.toNat_natCast]
  refine semH_of_semE helem ?_
  refine semH_of_semE hv ?_
  simp only [if_true]
  refine semH_of_semE hlb ?_
  show (∃ o, h g = some o) ∧ _
  refine ⟨⟨_, hb⟩, ?_⟩
  show k (.string _) _
  have e : (⟨ByteArray.empty.data ++ bs.toArray⟩ : ByteArray) = tx bs := by apply ByteArray.ext; simp [tx]
  rw [e]
  exact hk
theorem FB.len {h : PH} {a g cap : Nat} {bs : List UInt8} (H : FB h a g cap bs) {k : Value → PH → Prop} (hk : k (.int .i64 bs.length) h) : CallsH PG id_strings_Builder_Len #[.pointer (some ⟨a, 0, none⟩)] h k := by
  obtain ⟨cs, f, ha, -⟩ := H
  apply strings_Builder_Len.call
  unfold strings_Builder_Len
  have c1 : cellH h ⟨a, 0 + 1, none⟩ = some (.slice (some ⟨g, 0, none⟩) bs.length cap) := by simp [cellH, ha]
  simp only [T_strings_Builder.f1, T_sl_uint8.load, c1, T_sl_uint8.len, popO_some, bindH_eq, condV_bool, condV_true, condV_false, yV_bool, gopV_tt, gopV_ff, gopV_tf, gopV_ft, pickV_t, pickV_f, pickV_bool, nilS_ptr, add_eq, sub_eq, mul_eq, lss_eq, leq_eq, gtr_eq, geq_eq, not_eq, minI_eq, maxI_eq, extract_0, extract_1, extract_2, eqlI, neqI, makeFunc_eq, decide_true, decide_false, if_true, if_false, Bool.false_eq_true, Bool.not_true, Bool.not_false, reduceIte, List.getElem?_toArray, List.getElem?_cons_zero, List.getElem?_cons_succ, Option.isSome_none, List.length_map]
  exact hk
theorem FB.string {h : PH} {a g cap : Nat} {bs : List UInt8} (H : FB h a g cap bs) (hne : bs ≠ []) {k : Value → PH → Prop} (hk : ∀ h', FB h' a g cap bs → Upd [g] h h' → k (.string (tx bs)) h') : CallsH PG id_strings_Builder_String #[.pointer (some ⟨a, 0, none⟩)] h k := by
  obtain ⟨cs, f, ha, hg, hf, hc, hsz, htk, hga, hmx⟩ := H
  have hpos : bs.length ≠ 0 := by simpa using hne
  apply strings_Builder_String.call
  unfold strings_Builder_String
  have c1 : cellH h ⟨a, 0 + 1, none⟩ = some (.slice (some ⟨g, 0, none⟩) bs.length cap) := by simp [cellH, ha]
  simp only [T_strings_Builder.f1, T_sl_uint8.load, c1, T_sl_uint8.len, popO_some, bindH_eq, condV_bool, condV_true, condV_false, yV_bool, gopV_tt, gopV_ff, gopV_tf, gopV_ft, pickV_t, pickV_f, pickV_bool, nilS_ptr, add_eq, sub_eq, mul_eq, lss_eq, leq_eq, gtr_eq, geq_eq, not_eq, minI_eq, maxI_eq, extract_0, extract_1, extract_2, eqlI, neqI, makeFunc_eq, decide_true, decide_false, if_true, if_false, Bool.false_eq_true, Bool.not_true, Bool.not_false, reduceIte, List.getElem?_toArray, List.getElem?_cons_zero, List.getElem?_cons_succ, Option.isSome_none, List.length_map]
  refine SemE.semH (a := .pointer (some ⟨g, 0, none⟩)) ?_ ?_
  · show SemE PG h (if cap ≠ 0 then _ else _) = _
    rw [if_pos (by omega)]; rfl
  · refine ⟨c1, ?_⟩
    refine unsafeStrF hg (by omega) htk hne (by omega) ?_
    have hg' : freezeH h ⟨g, 0, none⟩ bs.length g = some (.cells cs T_uint8 (0, bs.length)) := by
      unfold freezeH
      rw [if_neg hpos, if_pos rfl]
      simp only [hg]
      by_cases h0 : f = 0
      · subst h0; simp
      · have : ((0 == f) = true) = False := by simp; omega
        simp only [this, if_false]
        congr 3
        · exact Nat.max_eq_right (by omega) |>.trans (Nat.zero_add _)
    have hoth : ∀ b, b ≠ g → freezeH h ⟨g, 0, none⟩ bs.length b = h b := fun b hb => by
      unfold freezeH
      rw [if_neg hpos, if_neg hb]
    exact hk _ ⟨cs, bs.length, by rw [hoth a hga.symm]; exact ha, hg', Nat.le_refl _, hc, hsz, htk, hga, hmx⟩ (fun b o hb hn => by rw [hoth b (by simpa using hn)]; exact hb)
theorem FB.write {h : PH} {a g cap : Nat} {bs ys : List UInt8} (H : FB h a g cap bs) (hle : bs.length + ys.length ≤ cap) (hcap : bs.length + ys.length ≤ 1000000) {k : Value → PH → Prop} (hk : ∀ v h', FB h' a g cap (bs ++ ys) → Upd [a, g] h h' → k v h') :
    CallsH PG id_strings_Builder_WriteString #[.pointer (some ⟨a, 0, none⟩), .string (tx ys)] h k := by
  obtain ⟨cs, f, ha, hg, hf, hc, hsz, htk, hga, hmx⟩ := H
  apply strings_Builder_WriteString.call
  unfold strings_Builder_WriteString
  refine copyCheck_ok ha (.inr rfl) fun h1 a1 u1 o1 => ?_
  have g1 : h1 g = some (.cells cs T_uint8 (0, f)) := by rw [o1 g hga]; exact hg
  have c1 : cellH h1 ⟨a, 0 + 1, none⟩ = some (.slice (some ⟨g, 0, none⟩) bs.length cap) := by simp [cellH, a1]
  simp only [T_strings_Builder.f1, T_sl_uint8.load, c1, T_string.len, tx_size, popO_some, bindH_eq, condV_bool, condV_true, condV_false, yV_bool, gopV_tt, gopV_ff, gopV_tf, gopV_ft, pickV_t, pickV_f, pickV_bool, nilS_ptr, add_eq, sub_eq, mul_eq, lss_eq, leq_eq, gtr_eq, geq_eq, not_eq, minI_eq, maxI_eq, extract_0, extract_1, extract_2, eqlI, neqI, makeFunc_eq, decide_true, decide_false, if_true, if_false, Bool.false_eq_true, Bool.not_true, Bool.not_false, reduceIte, List.getElem?_toArray, List.getElem?_cons_zero, List.getElem?_cons_succ, Option.isSome_none, List.length_map]
  -- the append
  simp only [Builtin.append_, List.getElem?_toArray, List.getElem?_cons_zero, List.getElem?_cons_succ, semH_und T_sl_uint8.und, semH_und T_string.und, sizeOf_bind, semH_info T_uint8.info, pure_bind, Bool.false_eq_true, if_false, Builtin.lenOf, Bool.not_false, if_true, T_uint8.size, tx_size]
  rw [if_pos hle]
  refine semH_of_semE (first_str (l := ys)) ?_
  have hadd : (⟨g, 0, none⟩ : Addr).add (bs.length * 1) = ⟨g, bs.length, none⟩ := by rw [plain_add]; simp
  show SemH PG (storeCells ((⟨g, 0, none⟩ : Addr).add (bs.length * 1)) (ys.map fun b => Value.int .u8 b.toNat).toArray.toList >>= fun _ => pure _) h1 _
  rw [hadd]
  refine SemH.bind (P := PG) (s := storeCells _ _) ?_
  refine semH_storeCellsF (b := g) (o := bs.length) (f := f) (ys.map fun b => Value.int .u8 b.toNat) 0 h1 cs g1 (by omega) (by simp; omega) (fun v hv => by obtain ⟨b, -, rfl⟩ := List.mem_map.1 hv; rfl) ?_
  have key : ∀ h2 : PH, (∃ cs', h2 g = some (.cells cs' T_uint8 (0, f)) ∧ cs'.size = cap ∧ cs'.toList.take (bs.length + ys.length) = ((bs ++ ys).map fun b => Value.int .u8 b.toNat)) → h2 a = h1 a → Upd [g] h1 h2 →
      SemH PG (storeS T_sl_uint8 (.pointer (some ⟨a, 0 + 1, none⟩)) (.slice (some ⟨g, 0, none⟩) (bs.length + ys.length) cap)) h2 fun _ h3 => k (.tuple #[.int .i64 ys.length, .nilIface]) h3 := by
    intro h2 ⟨cs', hg2, hs2, ht2⟩ ha2 u2
    refine store_cell T_sl_uint8.und rfl (by rw [ha2]; exact a1) (by simp) rfl T_sl_uint8.info T_sl_uint8.size ?_
    refine hk _ _ ⟨cs', f, ?_, by rw [set_other hga]; exact hg2, by simp; omega, by simpa using hle, hs2, by simpa using ht2, hga, hmx⟩ (((u1.mono fun b hb => .inl (by simp at hb; simp [hb])).trans (u2.mono fun b hb => .inl (by simp at hb; simp [hb]))).trans (Upd.set (by simp)))
    rw [set_same]
    simp
  by_cases hy : ys = []
  · subst hy
    rw [if_pos (show (List.map (fun b => Value.int .u8 (b.toNat : Int)) ([] : List UInt8)) = [] from rfl)]
    exact key h1 ⟨cs, g1, hsz, by simpa using htk⟩ rfl Upd.refl
  · rw [if_neg (by simpa using hy)]
    refine key _ ⟨_, set_same, by rw [writeA_size]; exact hsz, ?_⟩ (set_other hga.symm) (Upd.set (by simp))
    rw [Nat.add_zero, writeA_list _ _ _ (by simp; omega), htk]
    rw [List.take_append_of_le_length (by simp), List.take_of_length_le (by simp), List.map_append]
theorem replicate_take {n m : Nat} (h : m ≤ n) : (List.replicate n (0 : UInt8)).take m = List.replicate m 0 := by rw [List.take_replicate, Nat.min_eq_left h]
theorem minI3 {ts : Array TypeId} {t : TypeId} {k : IntKind} {x y z : Int} : SemP PG (Builtin.min_ ts t #[.int k x, .int k y, .int k z]) = some (.int k (if z < (if y < x then y else x) then z else (if y < x then y else x))) := (rfl)
theorem cv_uint_int (x : Int) : SemP PG (convert T_uint T_int (.int .u64 x)) = some (.int .i64 (IntKind.i64.wrap x)) := by kernel_rfl
theorem Repeat_ok {h : PH} {n : Nat} (hn : n < 64) {k : Value → PH → Prop} (hk : ∀ h', Ext h h' → k (.string (tx (List.replicate n 0))) h') : CallsH PG id_strings_Repeat #[.string (tx [0]), .int .i64 n] h k := by
  apply strings_Repeat.call
  unfold strings_Repeat
  simp only [eqlI, popO_some, bindH_eq, condV_bool, condV_true, condV_false, yV_bool, gopV_tt, gopV_ff, gopV_tf, gopV_ft, pickV_t, pickV_f, pickV_bool, nilS_ptr, add_eq, sub_eq, mul_eq, lss_eq, leq_eq, gtr_eq, geq_eq, not_eq, minI_eq, maxI_eq, extract_0, extract_1, extract_2, eqlI, neqI, makeFunc_eq, decide_true, decide_false, if_true, if_false, Bool.false_eq_true, Bool.not_true, Bool.not_false, reduceIte, List.getElem?_toArray, List.getElem?_cons_zero, List.getElem?_cons_succ, Option.isSome_none, List.length_map]
  by_cases h0 : n = 0
  · subst h0
    simp only [show (((0 : Nat) : Int) == 0) = true from rfl, popO_some, bindH_eq, condV_bool, condV_true, condV_false, yV_bool, gopV_tt, gopV_ff, gopV_tf, gopV_ft, pickV_t, pickV_f, pickV_bool, nilS_ptr, add_eq, sub_eq, mul_eq, lss_eq, leq_eq, gtr_eq, geq_eq, not_eq, minI_eq, maxI_eq, extract_0, extract_1, extract_2, eqlI, neqI, makeFunc_eq, decide_true, decide_false, if_true, if_false, Bool.false_eq_true, Bool.not_true, Bool.not_false, reduceIte, List.getElem?_toArray, List.getElem?_cons_zero, List.getElem?_cons_succ, Option.isSome_none, List.length_map]
    exact hk _ Upd.refl
  · have e0 : ((n : Int) == 0) = false := by simpa using h0
    simp only [e0, popO_some, bindH_eq, condV_bool, condV_true, condV_false, yV_bool, gopV_tt, gopV_ff, gopV_tf, gopV_ft, pickV_t, pickV_f, pickV_bool, nilS_ptr, add_eq, sub_eq, mul_eq, lss_eq, leq_eq, gtr_eq, geq_eq, not_eq, minI_eq, maxI_eq, extract_0, extract_1, extract_2, eqlI, neqI, makeFunc_eq, decide_true, decide_false, if_true, if_false, Bool.false_eq_true, Bool.not_true, Bool.not_false, reduceIte, List.getElem?_toArray, List.getElem?_cons_zero, List.getElem?_cons_succ, Option.isSome_none, List.length_map]
    by_cases h1 : n = 1
    · subst h1
      simp only [show (((1 : Nat) : Int) == 1) = true from rfl, popO_some, bindH_eq, condV_bool, condV_true, condV_false, yV_bool, gopV_tt, gopV_ff, gopV_tf, gopV_ft, pickV_t, pickV_f, pickV_bool, nilS_ptr, add_eq, sub_eq, mul_eq, lss_eq, leq_eq, gtr_eq, geq_eq, not_eq, minI_eq, maxI_eq, extract_0, extract_1, extract_2, eqlI, neqI, makeFunc_eq, decide_true, decide_false, if_true, if_false, Bool.false_eq_true, Bool.not_true, Bool.not_false, reduceIte, List.getElem?_toArray, List.getElem?_cons_zero, List.getElem?_cons_succ, Option.isSome_none, List.length_map]
      exact hk _ Upd.refl
    · have e1 : ((n : Int) == 1) = false := by simp; omega
      have e2 : ((n : Int) < 0) = False := eq_false (by omega)
      simp only [e1, e2, popO_some, bindH_eq, condV_bool, condV_true, condV_false, yV_bool, gopV_tt, gopV_ff, gopV_tf, gopV_ft, pickV_t, pickV_f, pickV_bool, nilS_ptr, add_eq, sub_eq, mul_eq, lss_eq, leq_eq, gtr_eq, geq_eq, not_eq, minI_eq, maxI_eq, extract_0, extract_1, extract_2, eqlI, neqI, makeFunc_eq, decide_true, decide_false, if_true, if_false, Bool.false_eq_true, Bool.not_true, Bool.not_false, reduceIte, List.getElem?_toArray, List.getElem?_cons_zero, List.getElem?_cons_succ, Option.isSome_none, List.length_map]
      unfold strings_Repeat_k5
      have w1 : IntKind.u64.wrap (([0] : List UInt8).length : Int) = 1 := rfl
      have wn : IntKind.u64.wrap (n : Int) = n := u64_wrap (by omega) (by omega)
      simp only [T_string.len, tx_size, cv_int_uint, w1, wn, popO_some, bindH_eq, condV_bool, condV_true, condV_false, yV_bool, gopV_tt, gopV_ff, gopV_tf, gopV_ft, pickV_t, pickV_f, pickV_bool, nilS_ptr, add_eq, sub_eq, mul_eq, lss_eq, leq_eq, gtr_eq, geq_eq, not_eq, minI_eq, maxI_eq, extract_0, extract_1, extract_2, eqlI, neqI, makeFunc_eq, decide_true, decide_false, if_true, if_false, Bool.false_eq_true, Bool.not_true, Bool.not_false, reduceIte, List.getElem?_toArray, List.getElem?_cons_zero, List.getElem?_cons_succ, Option.isSome_none, List.length_map]
      refine Mul_ok hn ?_
      have e3 : ((9223372036854775807 : Int) < (n : Int)) = False := eq_false (by omega)
      simp only [extract_0, extract_1, show ((0 : Int) < 0) = False from eq_false (by decide), e3, popO_some, bindH_eq, condV_bool, condV_true, condV_false, yV_bool, gopV_tt, gopV_ff, gopV_tf, gopV_ft, pickV_t, pickV_f, pickV_bool, nilS_ptr, add_eq, sub_eq, mul_eq, lss_eq, leq_eq, gtr_eq, geq_eq, not_eq, minI_eq, maxI_eq, extract_0, extract_1, extract_2, eqlI, neqI, makeFunc_eq, decide_true, decide_false, if_true, if_false, Bool.false_eq_true, Bool.not_true, Bool.not_false, reduceIte, List.getElem?_toArray, List.getElem?_cons_zero, List.getElem?_cons_succ, Option.isSome_none, List.length_map]
      unfold strings_Repeat_k23
      have wi : IntKind.i64.wrap (n : Int) = n := i64_wrap (by omega) (by omega)
      have i0 : SemP PG (Instr.index T_string (.string (tx [0])) (.int .i64 0)) = some (.int .u8 ((0 : UInt8).toNat : Int)) := index_tx (j := 0) T_string.und rfl
      have z0 : (((0 : UInt8).toNat : Int)) = 0 := rfl
      have w2 : (([0] : List UInt8).length : Int) = 1 := rfl
      have hz : ((1 : Int) == 0) = false := rfl
      have d1 : ((0 : Int) == 32) = false := rfl
      have d2 : ((0 : Int) == 45) = false := rfl
      have d3 : ((0 : Int) == 48) = false := rfl
      have d4 : ((0 : Int) == 61) = false := rfl
      have d5 : ((0 : Int) == 9) = false := rfl
      simp only [T_string.len, tx_size, cv_uint_int, wi, i0, z0, w2, hz, d1, d2, d3, d4, d5, popO_some, bindH_eq, condV_bool, condV_true, condV_false, yV_bool, gopV_tt, gopV_ff, gopV_tf, gopV_ft, pickV_t, pickV_f, pickV_bool, nilS_ptr, add_eq, sub_eq, mul_eq, lss_eq, leq_eq, gtr_eq, geq_eq, not_eq, minI_eq, maxI_eq, extract_0, extract_1, extract_2, eqlI, neqI, makeFunc_eq, decide_true, decide_false, if_true, if_false, Bool.false_eq_true, Bool.not_true, Bool.not_false, reduceIte, List.getElem?_toArray, List.getElem?_cons_zero, List.getElem?_cons_succ, Option.isSome_none, List.length_map]
      unfold strings_Repeat_k29
      simp only [popO_some, bindH_eq, condV_bool, condV_true, condV_false, yV_bool, gopV_tt, gopV_ff, gopV_tf, gopV_ft, pickV_t, pickV_f, pickV_bool, nilS_ptr, add_eq, sub_eq, mul_eq, lss_eq, leq_eq, gtr_eq, geq_eq, not_eq, minI_eq, maxI_eq, extract_0, extract_1, extract_2, eqlI, neqI, makeFunc_eq, decide_true, decide_false, if_true, if_false, Bool.false_eq_true, Bool.not_true, Bool.not_false, reduceIte, List.getElem?_toArray, List.getElem?_cons_zero, List.getElem?_cons_succ, Option.isSome_none, List.length_map]
      unfold strings_Repeat_k85 strings_Repeat_k86
      have e4 : ((8192 : Int) < (n : Int)) = False := eq_false (by omega)
      simp only [e4, popO_some, bindH_eq, condV_bool, condV_true, condV_false, yV_bool, gopV_tt, gopV_ff, gopV_tf, gopV_ft, pickV_t, pickV_f, pickV_bool, nilS_ptr, add_eq, sub_eq, mul_eq, lss_eq, leq_eq, gtr_eq, geq_eq, not_eq, minI_eq, maxI_eq, extract_0, extract_1, extract_2, eqlI, neqI, makeFunc_eq, decide_true, decide_false, if_true, if_false, Bool.false_eq_true, Bool.not_true, Bool.not_false, reduceIte, List.getElem?_toArray, List.getElem?_cons_zero, List.getElem?_cons_succ, Option.isSome_none, List.length_map]
      unfold strings_Repeat_k94
      rw [zB]
      intro r hr
      try rw [bindH_eq]
      have u1 : Ext h (h.set r (.cells #[.pointer none, .slice none 0 0] T_strings_Builder)) := Upd.new hr
      have a1 : (h.set r (.cells #[.pointer none, .slice none 0 0] T_strings_Builder)) r = some (.cells #[.pointer none, .slice none 0 0] T_strings_Builder (0, 0)) := set_same
      generalize h.set r (.cells #[.pointer none, .slice none 0 0] T_strings_Builder) = h1 at *
      refine Grow_ok a1 (n := n) (by omega) (by omega) fun h2 g cap hF hcap u2 hg => ?_
      have ug : Upd [r, g] h h2 := (u1.upd.trans (u2.mono fun b hb => .inl (by simp at hb; simp [hb])))
      have hgn : h g = none := u1.none hg
      have fin : ∀ h', Upd [r, g] h h' → Ext h h' := fun h' u b o hb _ => u b o hb (by
        simp only [List.mem_cons, List.not_mem_nil, or_false, not_or]
        exact ⟨(fun e => by rw [e, hr] at hb; cases hb), (fun e => by rw [e, hgn] at hb; cases hb)⟩)
      refine FB.write hF (ys := [0]) (by simpa using by omega) (by simp) fun v h3 hF3 u3 => ?_
      refine ⟨fun vs h' => ∃ m, 1 ≤ m ∧ m ≤ n ∧ vs = [.int .i64 n, .int .i64 n, .pointer (some ⟨r, 0, none⟩)] ∧ Upd [r, g] h h' ∧ FB h' r g cap (List.replicate m 0), bufRest r n, ⟨1, by omega, by omega, rfl, ug.trans u3, hF3⟩, ?_⟩
      rintro ρ h' ⟨m, hm1, hm2, hvs, u', F'⟩
      simp only [List.map_cons, List.map_nil, List.cons.injEq, and_true] at hvs
      obtain ⟨v7, v8, v9⟩ := hvs
      have hr' := F'.mu (n := n) (vs := [ρ 7, ρ 8, ρ 9])
      simp only [v7, v8, v9, List.map_cons, List.map_nil, List.length_replicate] at hr' ⊢
      unfold strings_Repeat_b102
      refine F'.len ?_
      simp only [List.length_replicate, popO_some, bindH_eq, condV_bool, condV_true, condV_false, yV_bool, gopV_tt, gopV_ff, gopV_tf, gopV_ft, pickV_t, pickV_f, pickV_bool, nilS_ptr, add_eq, sub_eq, mul_eq, lss_eq, leq_eq, gtr_eq, geq_eq, not_eq, minI_eq, maxI_eq, extract_0, extract_1, extract_2, eqlI, neqI, makeFunc_eq, decide_true, decide_false, if_true, if_false, Bool.false_eq_true, Bool.not_true, Bool.not_false, reduceIte, List.getElem?_toArray, List.getElem?_cons_zero, List.getElem?_cons_succ, Option.isSome_none, List.length_map]
      by_cases hmn : m < n
      · have f1 : ((m : Int) < (n : Int)) = True := eq_true (by omega)
        simp only [f1, popO_some, bindH_eq, condV_bool, condV_true, condV_false, yV_bool, gopV_tt, gopV_ff, gopV_tf, gopV_ft, pickV_t, pickV_f, pickV_bool, nilS_ptr, add_eq, sub_eq, mul_eq, lss_eq, leq_eq, gtr_eq, geq_eq, not_eq, minI_eq, maxI_eq, extract_0, extract_1, extract_2, eqlI, neqI, makeFunc_eq, decide_true, decide_false, if_true, if_false, Bool.false_eq_true, Bool.not_true, Bool.not_false, reduceIte, List.getElem?_toArray, List.getElem?_cons_zero, List.getElem?_cons_succ, Option.isSome_none, List.length_map]
        refine F'.len ?_
        have f2 : IntKind.i64.wrap ((n : Int) - (m : Int)) = ((n - m : Nat) : Int) := by rw [i64_wrap (by omega) (by omega)]; omega
        simp only [List.length_replicate, f2, popO_some, bindH_eq, condV_bool, condV_true, condV_false, yV_bool, gopV_tt, gopV_ff, gopV_tf, gopV_ft, pickV_t, pickV_f, pickV_bool, nilS_ptr, add_eq, sub_eq, mul_eq, lss_eq, leq_eq, gtr_eq, geq_eq, not_eq, minI_eq, maxI_eq, extract_0, extract_1, extract_2, eqlI, neqI, makeFunc_eq, decide_true, decide_false, if_true, if_false, Bool.false_eq_true, Bool.not_true, Bool.not_false, reduceIte, List.getElem?_toArray, List.getElem?_cons_zero, List.getElem?_cons_succ, Option.isSome_none, List.length_map]
        refine F'.len ?_
        have f3 : (if (n : Int) < (if (m : Int) < ((n - m : Nat) : Int) then (m : Int) else ((n - m : Nat) : Int)) then (n : Int) else (if (m : Int) < ((n - m : Nat) : Int) then (m : Int) else ((n - m : Nat) : Int))) = ((min m (n - m) : Nat) : Int) := by
          split <;> split <;> omega
        simp only [List.length_replicate, minI3, f3, popO_some, bindH_eq, condV_bool, condV_true, condV_false, yV_bool, gopV_tt, gopV_ff, gopV_tf, gopV_ft, pickV_t, pickV_f, pickV_bool, nilS_ptr, add_eq, sub_eq, mul_eq, lss_eq, leq_eq, gtr_eq, geq_eq, not_eq, minI_eq, maxI_eq, extract_0, extract_1, extract_2, eqlI, neqI, makeFunc_eq, decide_true, decide_false, if_true, if_false, Bool.false_eq_true, Bool.not_true, Bool.not_false, reduceIte, List.getElem?_toArray, List.getElem?_cons_zero, List.getElem?_cons_succ, Option.isSome_none, List.length_map]
        refine F'.string (by simp; omega) fun h4 F4 u4 => ?_
        have ec : SemP PG (Instr.sliceAt T_string (.string (tx (List.replicate m 0))) none (some (.int .i64 ((min m (n - m) : Nat) : Int))) none) = some (.string (tx (List.replicate (min m (n - m)) 0))) := by
          have := cut_tx (P := PG) (t := T_string) (l := List.replicate m 0) (i := 0) (j := min m (n - m)) (lo := none) (hi := some (.int .i64 ((min m (n - m) : Nat) : Int))) T_string.und (.inl ⟨rfl, rfl⟩) (.inr ⟨_, rfl⟩) (by omega) (by simp; omega)
          rw [this, replicate_take (by omega), List.drop_zero]
        simp only [ec, popO_some, bindH_eq, condV_bool, condV_true, condV_false, yV_bool, gopV_tt, gopV_ff, gopV_tf, gopV_ft, pickV_t, pickV_f, pickV_bool, nilS_ptr, add_eq, sub_eq, mul_eq, lss_eq, leq_eq, gtr_eq, geq_eq, not_eq, minI_eq, maxI_eq, extract_0, extract_1, extract_2, eqlI, neqI, makeFunc_eq, decide_true, decide_false, if_true, if_false, Bool.false_eq_true, Bool.not_true, Bool.not_false, reduceIte, List.getElem?_toArray, List.getElem?_cons_zero, List.getElem?_cons_succ, Option.isSome_none, List.length_map]
        refine F4.write (by simp; omega) (by simp; omega) fun v5 h5 F5 u5 => ?_
        rw [List.replicate_append_replicate] at F5
        refine ⟨⟨m + min m (n - m), by omega, by omega, (by trivial), (u'.trans (u4.mono fun b hb => .inl (by simp at hb; simp [hb]))).trans u5, F5⟩, ?_⟩
        rw [F5.mu, hr', List.length_replicate]
        omega
      · have f1 : ((m : Int) < (n : Int)) = False := eq_false (by omega)
        simp only [f1, popO_some, bindH_eq, condV_bool, condV_true, condV_false, yV_bool, gopV_tt, gopV_ff, gopV_tf, gopV_ft, pickV_t, pickV_f, pickV_bool, nilS_ptr, add_eq, sub_eq, mul_eq, lss_eq, leq_eq, gtr_eq, geq_eq, not_eq, minI_eq, maxI_eq, extract_0, extract_1, extract_2, eqlI, neqI, makeFunc_eq, decide_true, decide_false, if_true, if_false, Bool.false_eq_true, Bool.not_true, Bool.not_false, reduceIte, List.getElem?_toArray, List.getElem?_cons_zero, List.getElem?_cons_succ, Option.isSome_none, List.length_map]
        refine F'.string (by simp; omega) fun h4 F4 u4 => ?_
        have : m = n := by omega
        subst this
        exact hk _ (fin _ (u'.trans (u4.mono fun b hb => .inl (by simp at hb; simp [hb]))))
end Go.Proofs.YtllopddcpkhfjaaDoor
