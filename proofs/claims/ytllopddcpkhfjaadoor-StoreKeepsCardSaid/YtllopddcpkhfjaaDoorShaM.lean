/- sha: a block mixed in. -/
import Derived.Test.YtllopddcpkhfjaaDoorShaC
set_option linter.unusedSimpArgs false
set_option linter.unusedVariables false
namespace Go.Proofs.YtllopddcpkhfjaaDoor
open Go
set_option maxRecDepth 20000
def KAt (h : PH) : Prop := ∃ t fr, h 0 = some (.cells (kT.map wv).toArray t fr)
theorem KAt.ext {h h' : PH} (H : KAt h) (u : Ext h h') : KAt h' := by
  obtain ⟨t, fr, hb⟩ := H
  exact ⟨t, fr, u.get hb⟩
theorem cell_v {h : PH} {b o : Nat} {l : List W} {t : TypeId} {fr : Nat × Nat} (hb : h b = some (.cells (l.map wv).toArray t fr)) (ho : o < l.length) : cellH h ⟨b, o, none⟩ = some (wv (l.getD o 0)) := by
  refine cell_w (r := []) (t := t) (fr := fr) ?_ ho
  rw [List.append_nil]; exact hb
/-- copy(v[1:], v[:7]). -/
theorem copy8 {h : PH} {r : Nat} {a b c d e f g x : Value} (hb : h r = some (.cells #[a, b, c, d, e, f, g, x] T_8_uint32 (0, 0))) (hc : ∀ v ∈ [a, b, c, d, e, f, g], isCell v = true) {k : Value → PH → Prop}
    (hk : k (.int .i64 7) (h.set r (.cells #[a, a, b, c, d, e, f, g] T_8_uint32 (0, 0)))) :
    SemH PG (Builtin.copy_ #[T_sl_uint32, T_sl_uint32] T_int #[.slice (some ⟨r, 1, none⟩) 7 7, .slice (some ⟨r, 0, none⟩) 7 8]) h k := by
  have S : SlR h 1 (.slice (some ⟨r, 0, none⟩) 7 8) [[a], [b], [c], [d], [e], [f], [g]] := by
    refine ⟨fun q hq => by simp at hq; rcases hq with rfl | rfl | rfl | rfl | rfl | rfl | rfl <;> rfl, some ⟨r, 0, none⟩, 8, rfl, by simp, by unfold maxL; omega, fun _ => ⟨r, 0, _, _, _, rfl, hb, by simp, by simp⟩, trivial⟩
  have hfirst := S.first (P := PG)
  simp only [Builtin.copy_, List.getElem?_toArray, List.getElem?_cons_zero, List.getElem?_cons_succ, semH_und T_sl_uint32.und, sizeOf_bind, semH_info T_uint32.info, pure_bind, Builtin.lenOf, T_uint32.size]
  refine semH_of_semE (s := Builtin.firstCells 1 7 (.slice (some ⟨r, 0, none⟩) 7 8)) (a := #[a, b, c, d, e, f, g]) hfirst ?_
  refine SemH.bind (P := PG) (s := storeCells _ _) ?_
  refine semH_storeCells [a, b, c, d, e, f, g] 0 h #[a, b, c, d, e, f, g, x] hb (by simp) hc ?_
  have e : (if [a, b, c, d, e, f, g] = [] then h else h.set r (.cells (writeA #[a, b, c, d, e, f, g, x] (1 + 0) [a, b, c, d, e, f, g]) T_8_uint32 (0, 0))) = h.set r (.cells #[a, a, b, c, d, e, f, g] T_8_uint32 (0, 0)) := by
    rw [if_neg (by simp)]
    rfl
  rw [e]
  exact hk
theorem cut1 {r : Nat} : SemP PG (Instr.sliceAt T_8_uint32 (.pointer (some ⟨r, 0, none⟩)) (some (.int .i64 1)) none none) = some (.slice (some ⟨r, 1, none⟩) 7 7) := by kernel_rfl
theorem cut7 {r : Nat} : SemP PG (Instr.sliceAt T_8_uint32 (.pointer (some ⟨r, 0, none⟩)) none (some (.int .i64 7)) none) = some (.slice (some ⟨r, 0, none⟩) 7 8) := by kernel_rfl
theorem mix_b15 {ws : List W} (hws : ws.length = 64) {s : S8} {i a r3 r10 : Nat} (hi : i < 64) {h : PH} {R : Value → PH → Prop} {n : List Value → PH → Prop} (hK : KAt h)
    (h3 : h r3 = some (.cells (ws.map wv).toArray T_64_uint32 (0, 0))) (h10 : h r10 = some (.cells #[wv s.a, wv s.b, wv s.c, wv s.d, wv s.e, wv s.f, wv s.g, wv s.h] T_8_uint32 (0, 0)))
    (hn : ∀ s', s' = rnd s (kT.getD i 0) (ws.getD i 0) → n [.pointer (some ⟨a, 0, none⟩), .pointer (some ⟨r3, 0, none⟩), .pointer (some ⟨r10, 0, none⟩), .int .i64 ((i + 1 : Nat) : Int)] (h.set r10 (.cells #[wv s'.a, wv s'.b, wv s'.c, wv s'.d, wv s'.e, wv s'.f, wv s'.g, wv s'.h] T_8_uint32 (0, 0)))) :
    sha_state_mix_b15 R n (.pointer (some ⟨a, 0, none⟩)) (.pointer (some ⟨r3, 0, none⟩)) (.pointer (some ⟨r10, 0, none⟩)) (.int .i64 (i : Int)) h := by
  obtain ⟨kt, fr, hK⟩ := hK
  unfold sha_state_mix_b15
  have e1 : ((i : Int) < 64) = True := eq_true (by omega)
  have e4 : IntKind.i64.wrap ((i : Int) + 1) = ((i + 1 : Nat) : Int) := by rw [i64_wrap (by omega) (by omega)]; omega
  have m : ∀ j : Nat, j < 8 → SemP PG (Instr.indexAt T_8_uint32 (.pointer (some ⟨r10, 0, none⟩)) (.int .i64 j)) = some (.pointer (some ⟨r10, j, none⟩)) := fun j hj => by rw [at8 (by omega) (by omega), Int.toNat_natCast]
  have m0 : SemP PG (Instr.indexAt T_8_uint32 (.pointer (some ⟨r10, 0, none⟩)) (.int .i64 0)) = some (.pointer (some ⟨r10, 0, none⟩)) := m 0 (by decide)
  have m1 : SemP PG (Instr.indexAt T_8_uint32 (.pointer (some ⟨r10, 0, none⟩)) (.int .i64 1)) = some (.pointer (some ⟨r10, 1, none⟩)) := m 1 (by decide)
  have m2 : SemP PG (Instr.indexAt T_8_uint32 (.pointer (some ⟨r10, 0, none⟩)) (.int .i64 2)) = some (.pointer (some ⟨r10, 2, none⟩)) := m 2 (by decide)
  have m4 : SemP PG (Instr.indexAt T_8_uint32 (.pointer (some ⟨r10, 0, none⟩)) (.int .i64 4)) = some (.pointer (some ⟨r10, 4, none⟩)) := m 4 (by decide)
  have m5 : SemP PG (Instr.indexAt T_8_uint32 (.pointer (some ⟨r10, 0, none⟩)) (.int .i64 5)) = some (.pointer (some ⟨r10, 5, none⟩)) := m 5 (by decide)
  have m6 : SemP PG (Instr.indexAt T_8_uint32 (.pointer (some ⟨r10, 0, none⟩)) (.int .i64 6)) = some (.pointer (some ⟨r10, 6, none⟩)) := m 6 (by decide)
  have m7 : SemP PG (Instr.indexAt T_8_uint32 (.pointer (some ⟨r10, 0, none⟩)) (.int .i64 7)) = some (.pointer (some ⟨r10, 7, none⟩)) := m 7 (by decide)
  have c0 : cellH h ⟨r10, 0, none⟩ = some (wv s.a) := by simp [cellH, h10]
  have c1 : cellH h ⟨r10, 1, none⟩ = some (wv s.b) := by simp [cellH, h10]
  have c2 : cellH h ⟨r10, 2, none⟩ = some (wv s.c) := by simp [cellH, h10]
  have c4 : cellH h ⟨r10, 4, none⟩ = some (wv s.e) := by simp [cellH, h10]
  have c5 : cellH h ⟨r10, 5, none⟩ = some (wv s.f) := by simp [cellH, h10]
  have c6 : cellH h ⟨r10, 6, none⟩ = some (wv s.g) := by simp [cellH, h10]
  have c7 : cellH h ⟨r10, 7, none⟩ = some (wv s.h) := by simp [cellH, h10]
  have a0 := at64 (b := 0) (j := (i : Int)) (by omega) (by omega)
  have a3 := at64 (b := r3) (j := (i : Int)) (by omega) (by omega)
  rw [Int.toNat_natCast] at a0 a3
  have ck := cell_v (o := i) hK (by rw [kT_len]; exact hi)
  have cw := cell_v (o := i) h3 (by omega)
  simp only [e1, m0, m1, m2, m4, m5, m6, m7, T_uint32.load, c0, c1, c2, c4, c5, c6, c7, a0, a3, ck, cw, w_and, w_xor, w_not, popO_some, bindH_eq, condV_bool, condV_true, condV_false, yV_bool, gopV_tt, gopV_ff, gopV_tf, gopV_ft, pickV_t, pickV_f, pickV_bool, nilS_ptr, add_eq, sub_eq, mul_eq, lss_eq, leq_eq, gtr_eq, geq_eq, not_eq, minI_eq, maxI_eq, extract_0, extract_1, extract_2, eqlI, neqI, makeFunc_eq, decide_true, decide_false, if_true, if_false, Bool.false_eq_true, Bool.not_true, Bool.not_false, reduceIte, List.getElem?_toArray, List.getElem?_cons_zero, List.getElem?_cons_succ, Option.isSome_none, List.length_map]
  refine turn_ok (n := 6) (by decide) (by decide) ?_
  simp only [T_uint32.load, c0, c1, c2, c4, c5, c6, c7, ck, cw, true_and]
  refine turn_ok (n := 11) (by decide) (by decide) ?_
  simp only [T_uint32.load, c0, c1, c2, c4, c5, c6, c7, ck, cw, true_and, w_xor, popO_some, bindH_eq, condV_bool, condV_true, condV_false, yV_bool, gopV_tt, gopV_ff, gopV_tf, gopV_ft, pickV_t, pickV_f, pickV_bool, nilS_ptr, add_eq, sub_eq, mul_eq, lss_eq, leq_eq, gtr_eq, geq_eq, not_eq, minI_eq, maxI_eq, extract_0, extract_1, extract_2, eqlI, neqI, makeFunc_eq, decide_true, decide_false, if_true, if_false, Bool.false_eq_true, Bool.not_true, Bool.not_false, reduceIte, List.getElem?_toArray, List.getElem?_cons_zero, List.getElem?_cons_succ, Option.isSome_none, List.length_map]
  refine turn_ok (n := 25) (by decide) (by decide) ?_
  simp only [e1, m0, m1, m2, m4, m5, m6, m7, T_uint32.load, c0, c1, c2, c4, c5, c6, c7, a0, a3, ck, cw, w_and, w_xor, w_not, w_add, true_and, popO_some, bindH_eq, condV_bool, condV_true, condV_false, yV_bool, gopV_tt, gopV_ff, gopV_tf, gopV_ft, pickV_t, pickV_f, pickV_bool, nilS_ptr, add_eq, sub_eq, mul_eq, lss_eq, leq_eq, gtr_eq, geq_eq, not_eq, minI_eq, maxI_eq, extract_0, extract_1, extract_2, eqlI, neqI, makeFunc_eq, decide_true, decide_false, if_true, if_false, Bool.false_eq_true, Bool.not_true, Bool.not_false, reduceIte, List.getElem?_toArray, List.getElem?_cons_zero, List.getElem?_cons_succ, Option.isSome_none, List.length_map]
  refine turn_ok (n := 2) (by decide) (by decide) ?_
  simp only [T_uint32.load, c0, c1, c2, c4, c5, c6, c7, ck, cw, true_and]
  refine turn_ok (n := 13) (by decide) (by decide) ?_
  simp only [T_uint32.load, c0, c1, c2, c4, c5, c6, c7, ck, cw, true_and, w_xor, popO_some, bindH_eq, condV_bool, condV_true, condV_false, yV_bool, gopV_tt, gopV_ff, gopV_tf, gopV_ft, pickV_t, pickV_f, pickV_bool, nilS_ptr, add_eq, sub_eq, mul_eq, lss_eq, leq_eq, gtr_eq, geq_eq, not_eq, minI_eq, maxI_eq, extract_0, extract_1, extract_2, eqlI, neqI, makeFunc_eq, decide_true, decide_false, if_true, if_false, Bool.false_eq_true, Bool.not_true, Bool.not_false, reduceIte, List.getElem?_toArray, List.getElem?_cons_zero, List.getElem?_cons_succ, Option.isSome_none, List.length_map]
  refine turn_ok (n := 22) (by decide) (by decide) ?_
  simp only [T_uint32.load, c0, c1, c2, c4, c5, c6, c7, ck, cw, true_and, w_xor, w_add, cut1, cut7, popO_some, bindH_eq, condV_bool, condV_true, condV_false, yV_bool, gopV_tt, gopV_ff, gopV_tf, gopV_ft, pickV_t, pickV_f, pickV_bool, nilS_ptr, add_eq, sub_eq, mul_eq, lss_eq, leq_eq, gtr_eq, geq_eq, not_eq, minI_eq, maxI_eq, extract_0, extract_1, extract_2, eqlI, neqI, makeFunc_eq, decide_true, decide_false, if_true, if_false, Bool.false_eq_true, Bool.not_true, Bool.not_false, reduceIte, List.getElem?_toArray, List.getElem?_cons_zero, List.getElem?_cons_succ, Option.isSome_none, List.length_map]
  refine copy8 h10 (by simp [isw]) ?_
  have c4' : cellH (h.set r10 (.cells #[wv s.a, wv s.a, wv s.b, wv s.c, wv s.d, wv s.e, wv s.f, wv s.g] T_8_uint32 (0, 0))) ⟨r10, 4, none⟩ = some (wv s.d) := by simp [cellH, set_same]
  simp only [m4, T_uint32.load, c4', w_add, popO_some, bindH_eq, condV_bool, condV_true, condV_false, yV_bool, gopV_tt, gopV_ff, gopV_tf, gopV_ft, pickV_t, pickV_f, pickV_bool, nilS_ptr, add_eq, sub_eq, mul_eq, lss_eq, leq_eq, gtr_eq, geq_eq, not_eq, minI_eq, maxI_eq, extract_0, extract_1, extract_2, eqlI, neqI, makeFunc_eq, decide_true, decide_false, if_true, if_false, Bool.false_eq_true, Bool.not_true, Bool.not_false, reduceIte, List.getElem?_toArray, List.getElem?_cons_zero, List.getElem?_cons_succ, Option.isSome_none, List.length_map]
  refine store_cell T_uint32.und rfl set_same (by simp) (isw _) T_uint32.info T_uint32.size ?_
  rw [set_set_same]
  try simp only [m0, w_add, popO_some, bindH_eq, condV_bool, condV_true, condV_false, yV_bool, gopV_tt, gopV_ff, gopV_tf, gopV_ft, pickV_t, pickV_f, pickV_bool, nilS_ptr, add_eq, sub_eq, mul_eq, lss_eq, leq_eq, gtr_eq, geq_eq, not_eq, minI_eq, maxI_eq, extract_0, extract_1, extract_2, eqlI, neqI, makeFunc_eq, decide_true, decide_false, if_true, if_false, Bool.false_eq_true, Bool.not_true, Bool.not_false, reduceIte, List.getElem?_toArray, List.getElem?_cons_zero, List.getElem?_cons_succ, Option.isSome_none, List.length_map]
  refine store_cell T_uint32.und rfl set_same (by simp) (isw _) T_uint32.info T_uint32.size ?_
  rw [set_set_same]
  try simp only [e4, popO_some, bindH_eq, condV_bool, condV_true, condV_false, yV_bool, gopV_tt, gopV_ff, gopV_tf, gopV_ft, pickV_t, pickV_f, pickV_bool, nilS_ptr, add_eq, sub_eq, mul_eq, lss_eq, leq_eq, gtr_eq, geq_eq, not_eq, minI_eq, maxI_eq, extract_0, extract_1, extract_2, eqlI, neqI, makeFunc_eq, decide_true, decide_false, if_true, if_false, Bool.false_eq_true, Bool.not_true, Bool.not_false, reduceIte, List.getElem?_toArray, List.getElem?_cons_zero, List.getElem?_cons_succ, Option.isSome_none, List.length_map]
  exact hn _ rfl
/-- The first so many added. -/
def S8.some (s t : S8) (n : Nat) : S8 := ⟨if 0 < n then s.a + t.a else s.a, if 1 < n then s.b + t.b else s.b, if 2 < n then s.c + t.c else s.c, if 3 < n then s.d + t.d else s.d, if 4 < n then s.e + t.e else s.e, if 5 < n then s.f + t.f else s.f, if 6 < n then s.g + t.g else s.g, if 7 < n then s.h + t.h else s.h⟩
theorem S8.some0 (s t : S8) : s.some t 0 = s := rfl
theorem S8.some8 (s t : S8) : s.some t 8 = s.add t := rfl
theorem S8.get_lt (s : S8) {i : Nat} (hi : i < 8) : i < s.l.length := hi
theorem some_set (s t : S8) {i : Nat} (hi : i < 8) (x y : Value) : (#[wv (s.some t i).a, wv (s.some t i).b, wv (s.some t i).c, wv (s.some t i).d, wv (s.some t i).e, wv (s.some t i).f, wv (s.some t i).g, wv (s.some t i).h, x, y] : Array Value).setIfInBounds i (wv (s.l.getD i 0 + t.l.getD i 0)) =
    #[wv (s.some t (i + 1)).a, wv (s.some t (i + 1)).b, wv (s.some t (i + 1)).c, wv (s.some t (i + 1)).d, wv (s.some t (i + 1)).e, wv (s.some t (i + 1)).f, wv (s.some t (i + 1)).g, wv (s.some t (i + 1)).h, x, y] := by
  have : i = 0 ∨ i = 1 ∨ i = 2 ∨ i = 3 ∨ i = 4 ∨ i = 5 ∨ i = 6 ∨ i = 7 := by omega
  rcases this with rfl | rfl | rfl | rfl | rfl | rfl | rfl | rfl <;> rfl
theorem some_get (s t : S8) {i : Nat} (hi : i < 8) (x y : Value) : (#[wv (s.some t i).a, wv (s.some t i).b, wv (s.some t i).c, wv (s.some t i).d, wv (s.some t i).e, wv (s.some t i).f, wv (s.some t i).g, wv (s.some t i).h, x, y] : Array Value)[i]? = Option.some (wv (s.l.getD i 0)) := by
  have : i = 0 ∨ i = 1 ∨ i = 2 ∨ i = 3 ∨ i = 4 ∨ i = 5 ∨ i = 6 ∨ i = 7 := by omega
  rcases this with rfl | rfl | rfl | rfl | rfl | rfl | rfl | rfl <;> rfl
theorem v_get (t : S8) {i : Nat} (hi : i < 8) : (#[wv t.a, wv t.b, wv t.c, wv t.d, wv t.e, wv t.f, wv t.g, wv t.h] : Array Value)[i]? = Option.some (wv (t.l.getD i 0)) := by
  have : i = 0 ∨ i = 1 ∨ i = 2 ∨ i = 3 ∨ i = 4 ∨ i = 5 ∨ i = 6 ∨ i = 7 := by omega
  rcases this with rfl | rfl | rfl | rfl | rfl | rfl | rfl | rfl <;> rfl
/-- The cells of a hash: the state, the rest, how long. -/
def hcells (s : S8) (x y : Value) : Array Value := #[wv s.a, wv s.b, wv s.c, wv s.d, wv s.e, wv s.f, wv s.g, wv s.h, x, y]
theorem mix_b85 {s v : S8} {i a r10 : Nat} {x y : Value} (hi : i < 8) {h : PH} {R : Value → PH → Prop} {n : List Value → PH → Prop}
    (ha : h a = Option.some (.cells (hcells (s.some v i) x y) T_sha_Hash (0, 0))) (h10 : h r10 = Option.some (.cells #[wv v.a, wv v.b, wv v.c, wv v.d, wv v.e, wv v.f, wv v.g, wv v.h] T_8_uint32 (0, 0)))
    (hn : n [.pointer (Option.some ⟨a, 0, none⟩), .pointer (Option.some ⟨r10, 0, none⟩), .int .i64 ((i + 1 : Nat) : Int)] (h.set a (.cells (hcells (s.some v (i + 1)) x y) T_sha_Hash (0, 0)))) :
    sha_state_mix_b85 R n (.pointer (Option.some ⟨a, 0, none⟩)) (.pointer (Option.some ⟨r10, 0, none⟩)) (.int .i64 (i : Int)) h := by
  unfold sha_state_mix_b85
  have e1 : ((i : Int) < 8) = True := eq_true (by omega)
  have e4 : IntKind.i64.wrap ((i : Int) + 1) = ((i + 1 : Nat) : Int) := by rw [i64_wrap (by omega) (by omega)]; omega
  have m1 := at8 (b := a) (j := (i : Int)) (by omega) (by omega)
  have m2 := at8 (b := r10) (j := (i : Int)) (by omega) (by omega)
  rw [Int.toNat_natCast] at m1 m2
  have c1 : cellH h ⟨a, i, none⟩ = Option.some (wv (s.l.getD i 0)) := by
    unfold cellH
    simp only [ha]
    exact some_get s v hi x y
  have c2 : cellH h ⟨r10, i, none⟩ = Option.some (wv (v.l.getD i 0)) := by
    unfold cellH
    simp only [h10]
    exact v_get v hi
  simp only [e1, T_sha_state.f0, m1, m2, T_uint32.load, c1, c2, w_add, popO_some, bindH_eq, condV_bool, condV_true, condV_false, yV_bool, gopV_tt, gopV_ff, gopV_tf, gopV_ft, pickV_t, pickV_f, pickV_bool, nilS_ptr, add_eq, sub_eq, mul_eq, lss_eq, leq_eq, gtr_eq, geq_eq, not_eq, minI_eq, maxI_eq, extract_0, extract_1, extract_2, eqlI, neqI, makeFunc_eq, decide_true, decide_false, if_true, if_false, Bool.false_eq_true, Bool.not_true, Bool.not_false, reduceIte, List.getElem?_toArray, List.getElem?_cons_zero, List.getElem?_cons_succ, Option.isSome_none, List.length_map]
  refine store_cell T_uint32.und rfl ha (by simp [hcells]; omega) (isw _) T_uint32.info T_uint32.size ?_
  have es := some_set s v hi x y
  change (hcells (s.some v i) x y).setIfInBounds i _ = hcells (s.some v (i + 1)) x y at es
  rw [es]
  try simp only [e4, popO_some, bindH_eq, condV_bool, condV_true, condV_false, yV_bool, gopV_tt, gopV_ff, gopV_tf, gopV_ft, pickV_t, pickV_f, pickV_bool, nilS_ptr, add_eq, sub_eq, mul_eq, lss_eq, leq_eq, gtr_eq, geq_eq, not_eq, minI_eq, maxI_eq, extract_0, extract_1, extract_2, eqlI, neqI, makeFunc_eq, decide_true, decide_false, if_true, if_false, Bool.false_eq_true, Bool.not_true, Bool.not_false, reduceIte, List.getElem?_toArray, List.getElem?_cons_zero, List.getElem?_cons_succ, Option.isSome_none, List.length_map]
  exact hn
theorem mix_ok {h : PH} {a : Nat} {s : S8} {x y : Value} {b : List UInt8} (hK : KAt h) (hb : b.length = 64) (ha : h a = Option.some (.cells (hcells s x y) T_sha_Hash (0, 0))) {k : Value → PH → Prop}
    (hk : ∀ h', Upd [a] h h' → h' a = Option.some (.cells (hcells (mixP s b) x y) T_sha_Hash (0, 0)) → k (.tuple #[]) h') : CallsH PG id_sha_state_mix #[.pointer (Option.some ⟨a, 0, none⟩), .string (tx b)] h k := by
  apply sha_state_mix.call
  unfold sha_state_mix
  refine words_ok hb fun h1 u1 => ?_
  have hwl := wordsP_len b
  have hmx : mixP s b = s.add (rounds (wordsP b) s 64) := rfl
  rw [hmx] at hk
  clear hmx
  generalize wordsP b = ws at *
  have hsz : (ws.map wv).toArray.size = 64 := by rw [List.size_toArray, List.length_map, hwl]
  have hic : ∀ v ∈ (ws.map wv).toArray.toList, isCell v = true := fun v hv => by
    rw [List.toList_toArray, List.mem_map] at hv
    obtain ⟨w, -, rfl⟩ := hv
    rfl
  rw [z64, z8]
  intro r3 hr3
  try rw [bindH_eq]
  have u3 : Ext h1 (h1.set r3 (.cells (zs 64).toArray T_64_uint32)) := Upd.new hr3
  have n3 : h r3 = none := u1.none hr3
  have a3 : (h1.set r3 (.cells (zs 64).toArray T_64_uint32)) r3 = Option.some (.cells (zs 64).toArray T_64_uint32 (0, 0)) := set_same
  generalize h1.set r3 (.cells (zs 64).toArray T_64_uint32) = h2 at *
  refine store_box a3 T_64_uint32.info (by rw [hsz]; rfl) (by omega) (by rw [hsz]; rfl) hic ?_
  have u4 : Ext h (h2.set r3 (.cells (ws.map wv).toArray T_64_uint32 (0, 0))) := (u1.trans u3).fresh (Upd.set (F := [r3]) (by simp)) (Fresh.one n3)
  have a3' : (h2.set r3 (.cells (ws.map wv).toArray T_64_uint32 (0, 0))) r3 = Option.some (.cells (ws.map wv).toArray T_64_uint32 (0, 0)) := set_same
  generalize h2.set r3 (.cells (ws.map wv).toArray T_64_uint32 (0, 0)) = h3 at *
  have ha3 := u4.get ha
  have lA := T_8_uint32.loadAgg (o := 0) ha3 (by simp [hcells])
  have lE : (hcells s x y).extract 0 (0 + 8) = #[wv s.a, wv s.b, wv s.c, wv s.d, wv s.e, wv s.f, wv s.g, wv s.h] := rfl
  rw [lE] at lA
  simp only [T_sha_state.f0, lA, popO_some, bindH_eq, condV_bool, condV_true, condV_false, yV_bool, gopV_tt, gopV_ff, gopV_tf, gopV_ft, pickV_t, pickV_f, pickV_bool, nilS_ptr, add_eq, sub_eq, mul_eq, lss_eq, leq_eq, gtr_eq, geq_eq, not_eq, minI_eq, maxI_eq, extract_0, extract_1, extract_2, eqlI, neqI, makeFunc_eq, decide_true, decide_false, if_true, if_false, Bool.false_eq_true, Bool.not_true, Bool.not_false, reduceIte, List.getElem?_toArray, List.getElem?_cons_zero, List.getElem?_cons_succ, Option.isSome_none, List.length_map]
  intro r10 hr10
  try rw [bindH_eq]
  have u5 : Ext h3 (h3.set r10 (.cells (zs 8).toArray T_8_uint32)) := Upd.new hr10
  have n10 : h r10 = none := u4.none hr10
  have a10 : (h3.set r10 (.cells (zs 8).toArray T_8_uint32)) r10 = Option.some (.cells (zs 8).toArray T_8_uint32 (0, 0)) := set_same
  generalize h3.set r10 (.cells (zs 8).toArray T_8_uint32) = h4 at *
  refine store_box a10 T_8_uint32.info rfl (by simp) rfl (by simp [isw]) ?_
  have u6 : Ext h (h4.set r10 (.cells #[wv s.a, wv s.b, wv s.c, wv s.d, wv s.e, wv s.f, wv s.g, wv s.h] T_8_uint32 (0, 0))) := (u4.trans u5).fresh (Upd.set (F := [r10]) (by simp)) (Fresh.one n10)
  have hne3 : r3 ≠ r10 := fun e => by subst e; rw [a3'] at hr10; cases hr10
  have a3'' : (h4.set r10 (.cells #[wv s.a, wv s.b, wv s.c, wv s.d, wv s.e, wv s.f, wv s.g, wv s.h] T_8_uint32 (0, 0))) r3 = Option.some (.cells (ws.map wv).toArray T_64_uint32 (0, 0)) := by rw [set_other hne3]; exact u5.get a3'
  have a10' : (h4.set r10 (.cells #[wv s.a, wv s.b, wv s.c, wv s.d, wv s.e, wv s.f, wv s.g, wv s.h] T_8_uint32 (0, 0))) r10 = Option.some (.cells #[wv s.a, wv s.b, wv s.c, wv s.d, wv s.e, wv s.f, wv s.g, wv s.h] T_8_uint32 (0, 0)) := set_same
  generalize h4.set r10 (.cells #[wv s.a, wv s.b, wv s.c, wv s.d, wv s.e, wv s.f, wv s.g, wv s.h] T_8_uint32 (0, 0)) = h5 at *
  have hne : a ≠ r10 := fun e => by subst e; rw [ha] at n10; cases n10
  refine ⟨fun vs h' => ∃ i s', i ≤ 64 ∧ s' = rounds ws s i ∧ vs = [.pointer (Option.some ⟨a, 0, none⟩), .pointer (Option.some ⟨r3, 0, none⟩), .pointer (Option.some ⟨r10, 0, none⟩), .int .i64 ((i : Nat) : Int)] ∧ Ext h h' ∧ h' r3 = Option.some (.cells (ws.map wv).toArray T_64_uint32 (0, 0)) ∧ h' r10 = Option.some (.cells #[wv s'.a, wv s'.b, wv s'.c, wv s'.d, wv s'.e, wv s'.f, wv s'.g, wv s'.h] T_8_uint32 (0, 0)), upTo 64 3, ⟨0, s, by omega, rfl, rfl, u6, a3'', a10'⟩, ?_⟩
  rintro ρ h' ⟨i, s', hi, hs', hvs, u', b3, b10⟩
  simp only [List.map_cons, List.map_nil, List.cons.injEq, and_true] at hvs
  obtain ⟨v0, v4, v5, v18⟩ := hvs
  simp only [v0, v4, v5, v18, List.map_cons, List.map_nil]
  by_cases hl : i < 64
  · refine mix_b15 hwl hl (hK.ext u') b3 b10 fun s2 hs2 => ⟨⟨i + 1, s2, by omega, by rw [hs2, hs', rounds], rfl, u'.fresh (Upd.set (F := [r10]) (by simp)) (Fresh.one n10), by rw [set_other hne3]; exact b3, set_same⟩, ?_⟩
    simp only [upTo, List.getElem?_cons_succ, List.getElem?_cons_zero]
    omega
  · have hi' : i = 64 := by omega
    subst hi'
    unfold sha_state_mix_b15
    simp only [show (((64 : Nat) : Int) < 64) = False from eq_false (by decide), popO_some, bindH_eq, condV_bool, condV_true, condV_false, yV_bool, gopV_tt, gopV_ff, gopV_tf, gopV_ft, pickV_t, pickV_f, pickV_bool, nilS_ptr, add_eq, sub_eq, mul_eq, lss_eq, leq_eq, gtr_eq, geq_eq, not_eq, minI_eq, maxI_eq, extract_0, extract_1, extract_2, eqlI, neqI, makeFunc_eq, decide_true, decide_false, if_true, if_false, Bool.false_eq_true, Bool.not_true, Bool.not_false, reduceIte, List.getElem?_toArray, List.getElem?_cons_zero, List.getElem?_cons_succ, Option.isSome_none, List.length_map]
    have hup : Upd [a] h h' := u'.upd
    refine ⟨fun vs h2' => ∃ i, i ≤ 8 ∧ vs = [.pointer (Option.some ⟨a, 0, none⟩), .pointer (Option.some ⟨r10, 0, none⟩), .int .i64 ((i : Nat) : Int)] ∧ Upd [a] h h2' ∧ h2' a = Option.some (.cells (hcells (s.some s' i) x y) T_sha_Hash (0, 0)) ∧ h2' r10 = Option.some (.cells #[wv s'.a, wv s'.b, wv s'.c, wv s'.d, wv s'.e, wv s'.f, wv s'.g, wv s'.h] T_8_uint32 (0, 0)), upTo 8 2, ⟨0, by omega, rfl, hup, u'.get ha, b10⟩, ?_⟩
    rintro ρ2 h2' ⟨i, hi, hvs, u2, ca, c10⟩
    simp only [List.map_cons, List.map_nil, List.cons.injEq, and_true] at hvs
    obtain ⟨v0', v5', v92'⟩ := hvs
    simp only [v0', v5', v92', List.map_cons, List.map_nil]
    by_cases hl : i < 8
    · refine mix_b85 hl ca c10 ⟨⟨i + 1, by omega, rfl, u2.trans (Upd.set (by simp)), set_same, by rw [set_other (Ne.symm hne)]; exact c10⟩, ?_⟩
      simp only [upTo, List.getElem?_cons_succ, List.getElem?_cons_zero]
      omega
    · have hi' : i = 8 := by omega
      subst hi'
      unfold sha_state_mix_b85
      simp only [show (((8 : Nat) : Int) < 8) = False from eq_false (by decide), popO_some, bindH_eq, condV_bool, condV_true, condV_false, yV_bool, gopV_tt, gopV_ff, gopV_tf, gopV_ft, pickV_t, pickV_f, pickV_bool, nilS_ptr, add_eq, sub_eq, mul_eq, lss_eq, leq_eq, gtr_eq, geq_eq, not_eq, minI_eq, maxI_eq, extract_0, extract_1, extract_2, eqlI, neqI, makeFunc_eq, decide_true, decide_false, if_true, if_false, Bool.false_eq_true, Bool.not_true, Bool.not_false, reduceIte, List.getElem?_toArray, List.getElem?_cons_zero, List.getElem?_cons_succ, Option.isSome_none, List.length_map]
      refine hk _ u2 ?_
      rw [ca, S8.some8, hs']
end Go.Proofs.YtllopddcpkhfjaaDoor
