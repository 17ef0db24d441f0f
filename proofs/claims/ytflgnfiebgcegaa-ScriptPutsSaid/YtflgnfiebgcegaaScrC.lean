/- script: the configuration at the front of bytes. -/
import Derived.Test.YtflgnfiebgcegaaScrT
set_option linter.unusedSimpArgs false
set_option linter.unusedVariables false
namespace Go.Proofs.Ytflgnfiebgcegaa
open Go
set_option maxRecDepth 20000
structure Cfg where
  sector : Int
  sectors : Int
  table : Int
  batch : Int
  scan : Int
  h0 : Nat
  h1 : Nat
  s0 : Nat
  s1 : Nat
  deriving DecidableEq
def Cfg.zero : Cfg := ⟨0, 0, 0, 0, 0, 0, 0, 0, 0⟩
def Cfg.cells (c : Cfg) : List Value := [.int .i64 c.sector, .int .i64 c.sectors, .int .i64 c.table, .int .i64 c.batch, .int .i64 c.scan, .int .u64 c.h0, .int .u64 c.h1, .int .u64 c.s0, .int .u64 c.s1]
theorem Cfg.cellOk (c : Cfg) : ∀ u ∈ c.cells.toArray.toList, isCell u = true := fun u hu => by
  simp only [Cfg.cells, List.mem_cons, List.not_mem_nil, or_false] at hu
  rcases hu with rfl | rfl | rfl | rfl | rfl | rfl | rfl | rfl | rfl <;> rfl
structure CBox (h : PH) (r : Nat) (c : Cfg) : Prop where
  here : h r = some (.cells c.cells.toArray T_api_Config (0, 0))
theorem CBox.upd {h h' : PH} {r : Nat} {c : Cfg} {G : List Nat} (H : CBox h r c) (u : Upd G h h') (hd : r ∉ G) : CBox h' r c := ⟨u.get H.here hd⟩
theorem CBox.ext {h h' : PH} {r : Nat} {c : Cfg} (H : CBox h r c) (u : Ext h h') : CBox h' r c := H.upd u (by simp)
theorem CBox.load {h : PH} {r : Nat} {c : Cfg} (H : CBox h r c) : SemE PG h (Instr.loadAt T_api_Config (.pointer (some ⟨r, 0, none⟩))) = some (.agg c.cells.toArray) :=
  load_box T_api_Config.und rfl T_api_Config.info T_api_Config.size H.here rfl
theorem CBox.set {h : PH} {r i : Nat} {c c' : Cfg} {x : Value} (H : CBox h r c) (hlt : i < 9) (hx : isCell x = true) (he : c.cells.toArray.setIfInBounds i x = c'.cells.toArray) {k : Value → PH → Prop} (hk : ∀ h', CBox h' r c' → Upd [r] h h' → k undef h') :
    SemH PG (storeS T_uint64 (.pointer (some ⟨r, i, none⟩)) x) h k := by
  refine store_cell T_uint64.und rfl H.here (by show i < 9; exact hlt) hx T_uint64.info T_uint64.size ?_
  rw [he]
  exact hk _ ⟨set_same⟩ (Upd.set (by simp))
theorem put_cfg {h : PH} {r : Nat} (c : Cfg) {c0 : Array Value} (hr : h r = some (.cells c0 T_api_Config (0, 0))) (h0 : c0.size = 9) {k : Value → PH → Prop} (hk : ∀ h', CBox h' r c → Upd [r] h h' → k undef h') :
    SemH PG (storeS T_api_Config (.pointer (some ⟨r, 0, none⟩)) (.agg c.cells.toArray)) h k := by
  refine store_box hr T_api_Config.info (by show 9 = 9; rfl) (by show 0 < 9; decide) (by rw [h0]; rfl) c.cellOk ?_
  exact hk _ ⟨set_same⟩ (Upd.set (by simp))
/-- The four numbers, one by one. -/
def cN : Nat → Cfg × Stt → Cfg × Stt
  | 0, p => ({ p.1 with h0 := (rGet p.2 8).1 }, (rGet p.2 8).2)
  | 1, p => ({ p.1 with h1 := (rGet p.2 8).1 }, (rGet p.2 8).2)
  | 2, p => ({ p.1 with s0 := (rGet p.2 8).1 }, (rGet p.2 8).2)
  | _, p => ({ p.1 with s1 := (rGet p.2 8).1 }, (rGet p.2 8).2)
def cNs : Nat → Cfg × Stt → Cfg × Stt
  | 0, p => p
  | n + 1, p => cN n (cNs n p)
def gCfg0 (st : Stt) : Cfg × Stt :=
  let a := rGet st 1
  let b := rGet a.2 1
  let c := rGet b.2 1
  let d := rTwo c.2
  let e := rTwo d.2
  (⟨d.1, e.1, a.1, b.1, c.1, 0, 0, 0, 0⟩, e.2)
def gCfg (st : Stt) : Cfg × Stt := cNs 4 (gCfg0 st)
def cfgL (s : List UInt8) : Cfg × List UInt8 × Int := if (gCfg (0, s)).2.1 = 0 then ((gCfg (0, s)).1, (gCfg (0, s)).2.2, 0) else (Cfg.zero, [], (gCfg (0, s)).2.1)
abbrev cfgV (o : Cfg × List UInt8 × Int) : Value := .tuple #[.agg o.1.cells.toArray, .string (tx o.2.1), .int .i64 o.2.2]
theorem cfg_build (a b c d e : Int) : SemP PG (Instr.build T_api_Config #[(2, .int .i64 c), (3, .int .i64 d), (4, .int .i64 e), (0, .int .i64 a), (1, .int .i64 b)]) = some (.agg (Cfg.mk a b c d e 0 0 0 0).cells.toArray) := by kernel_rfl
theorem cfg_build0 : SemP PG (Instr.build T_api_Config #[]) = some (.agg Cfg.zero.cells.toArray) := by kernel_rfl
theorem ptr4_build (a b c d : Value) (ha : ∃ x, a = .pointer x) (hb : ∃ x, b = .pointer x) (hc : ∃ x, c = .pointer x) (hd : ∃ x, d = .pointer x) : SemP PG (Instr.build T_4_p_uint64 #[(0, a), (1, b), (2, c), (3, d)]) = some (.agg #[a, b, c, d]) := by
  obtain ⟨a, rfl⟩ := ha; obtain ⟨b, rfl⟩ := hb; obtain ⟨c, rfl⟩ := hc; obtain ⟨d, rfl⟩ := hd
  kernel_rfl
abbrev ptr4 (r : Nat) : Value := .agg #[.pointer (some ⟨r, 5, none⟩), .pointer (some ⟨r, 6, none⟩), .pointer (some ⟨r, 7, none⟩), .pointer (some ⟨r, 8, none⟩)]
theorem ptr4_0 (r : Nat) : SemP PG (Instr.index T_4_p_uint64 (ptr4 r) (.int .i64 ((0 : Nat) : Int))) = some (.pointer (some ⟨r, 5, none⟩)) := by kernel_rfl
theorem ptr4_1 (r : Nat) : SemP PG (Instr.index T_4_p_uint64 (ptr4 r) (.int .i64 ((1 : Nat) : Int))) = some (.pointer (some ⟨r, 6, none⟩)) := by kernel_rfl
theorem ptr4_2 (r : Nat) : SemP PG (Instr.index T_4_p_uint64 (ptr4 r) (.int .i64 ((2 : Nat) : Int))) = some (.pointer (some ⟨r, 7, none⟩)) := by kernel_rfl
theorem ptr4_3 (r : Nat) : SemP PG (Instr.index T_4_p_uint64 (ptr4 r) (.int .i64 ((3 : Nat) : Int))) = some (.pointer (some ⟨r, 8, none⟩)) := by kernel_rfl
theorem CBox.next {h : PH} {r i : Nat} {p : Cfg × Stt} (hi : i < 4) (H : CBox h r p.1) {k : Value → PH → Prop} (hk : ∀ h', CBox h' r (cN i p).1 → Upd [r] h h' → k undef h') :
    ∃ a, SemP PG (Instr.index T_4_p_uint64 (ptr4 r) (.int .i64 (i : Int))) = some (.pointer (some a)) ∧ SemH PG (storeS T_uint64 (.pointer (some a)) (.int .u64 (rGet p.2 8).1)) h k := by
  have : i = 0 ∨ i = 1 ∨ i = 2 ∨ i = 3 := by omega
  rcases this with rfl | rfl | rfl | rfl
  · exact ⟨_, ptr4_0 r, H.set (by decide) rfl rfl hk⟩
  · exact ⟨_, ptr4_1 r, H.set (by decide) rfl rfl hk⟩
  · exact ⟨_, ptr4_2 r, H.set (by decide) rfl rfl hk⟩
  · exact ⟨_, ptr4_3 r, H.set (by decide) rfl rfl hk⟩
theorem cN_st (i : Nat) (p : Cfg × Stt) : (cN i p).2 = (rGet p.2 8).2 := by
  unfold cN; split <;> rfl
theorem arr_at0 {r o : Nat} : SemP PG (Instr.indexAt T_2_uint64 (.pointer (some ⟨r, o, none⟩)) (.int .i64 0)) = some (.pointer (some ⟨r, o, none⟩)) := by
  rw [indexAt_array T_2_uint64.und T_uint64.info T_uint64.size (by decide) (by decide)]; rfl
theorem arr_at1 {r o : Nat} : SemP PG (Instr.indexAt T_2_uint64 (.pointer (some ⟨r, o, none⟩)) (.int .i64 1)) = some (.pointer (some ⟨r, o + 1, none⟩)) := by
  rw [indexAt_array T_2_uint64.und T_uint64.info T_uint64.size (by decide) (by decide)]; rfl
set_option maxHeartbeats 1000000 in
theorem Config_ok {h : PH} (s : List UInt8) (hs : s.length ≤ 1000000000000) {k : Value → PH → Prop} (hk : ∀ h', Ext h h' → k (cfgV (cfgL s)) h') : CallsH PG id_script_Config #[.string (tx s)] h k := by
  apply script_Config.call
  unfold script_Config
  intro r1 hr1
  try rw [bindH_eq]
  have u1 : Ext h (h.set r1 (.cells (zcells PG T_api_Config) T_api_Config)) := Upd.new hr1
  have b1 : (h.set r1 (.cells (zcells PG T_api_Config) T_api_Config)) r1 = some (.cells (zcells PG T_api_Config) T_api_Config (0, 0)) := set_same
  generalize h.set r1 (.cells (zcells PG T_api_Config) T_api_Config) = h1 at *
  refine NewReader_ok s fun a h2 hR2 u2 ha2 => ?_
  have hne1 : r1 ≠ a := fun e => by subst e; rw [b1] at ha2; cases ha2
  refine RByte_s (st := (0, s)) hR2 fun h3 x3 e3 hR3 u3 => ?_
  refine RByte_s hR3 fun h4 x4 e4 hR4 u4 => ?_
  refine RByte_s hR4 fun h5 x5 e5 hR5 u5 => ?_
  refine getTwo_s hR5 fun h6 x6 e6 hR6 u6 => ?_
  refine getTwo_s hR6 fun h7 x7 e7 hR7 u7 => ?_
  have w7 := (((u3.trans u4).trans u5).trans u6).trans u7
  have b7 := w7.get (u2.get b1) (by simpa using hne1)
  simp only [cfg_build, popO_some, bindH_eq, condV_bool, condV_true, condV_false, yV_bool, gopV_tt, gopV_ff, gopV_tf, gopV_ft, pickV_t, pickV_f, pickV_bool, nilS_ptr, add_eq, sub_eq, mul_eq, lss_eq, leq_eq, gtr_eq, geq_eq, not_eq, minI_eq, maxI_eq, extract_0, extract_1, extract_2, eqlI, neqI, makeFunc_eq, decide_true, decide_false, if_true, if_false, Bool.false_eq_true, Bool.not_true, Bool.not_false, reduceIte, List.getElem?_toArray, List.getElem?_cons_zero, List.getElem?_cons_succ, Option.isSome_none, List.length_map]
  intro r8 hr8
  try rw [bindH_eq]
  refine put_cfg _ set_same (by rw [T_api_Config.zc]; rfl) fun h8 hC8 v8 => ?_
  have u8 : Ext h7 h8 := fun b o hb _ => v8 b o (set_old hr8 hb) (by simp; exact ne_new hb hr8)
  have hg0 : gCfg0 (0, s) = (Cfg.mk x6.1 x7.1 x3.1 x4.1 x5.1 0 0 0 0, x7.2) := by subst e7 e6 e5 e4 e3; rfl
  have hne8 : r8 ≠ a := fun e => by subst e; rw [hR7.here] at hr8; cases hr8
  have hne18 : r8 ≠ r1 := fun e => by subst e; rw [b7] at hr8; cases hr8
  have hR8 := hR7.ext u8
  have b8 := u8.get b7
  have wA : Upd [a] h2 h7 := w7
  have hh8 : h r8 = none := by
    cases hh : h r8 with
    | none => rfl
    | some o =>
      have := w7.get ((u1.trans u2).get hh) (by simpa using hne8)
      rw [this] at hr8; cases hr8
  have hha : h a = none := u1.none ha2
  have w8 : Ext h h8 := ((u1.trans u2).fresh w7 (Fresh.one hha)).trans u8
  simp only [T_api_Config.f5, T_api_Config.f6, Nat.zero_add, arr_at0, arr_at1, ptr4_build _ _ _ _ ⟨_, rfl⟩ ⟨_, rfl⟩ ⟨_, rfl⟩ ⟨_, rfl⟩, popO_some, bindH_eq, condV_bool, condV_true, condV_false, yV_bool, gopV_tt, gopV_ff, gopV_tf, gopV_ft, pickV_t, pickV_f, pickV_bool, nilS_ptr, add_eq, sub_eq, mul_eq, lss_eq, leq_eq, gtr_eq, geq_eq, not_eq, minI_eq, maxI_eq, extract_0, extract_1, extract_2, eqlI, neqI, makeFunc_eq, decide_true, decide_false, if_true, if_false, Bool.false_eq_true, Bool.not_true, Bool.not_false, reduceIte, List.getElem?_toArray, List.getElem?_cons_zero, List.getElem?_cons_succ, Option.isSome_none, List.length_map]
  refine ⟨fun vs h' => ∃ i : Nat, i ≤ 4 ∧ vs = [.pointer (some ⟨r1, 0, none⟩), .pointer (some ⟨a, 0, none⟩), .pointer (some ⟨r8, 0, none⟩), ptr4 r8, .int .i64 i] ∧ RdAt h' a (cNs i (gCfg0 (0, s))).2.1 (cNs i (gCfg0 (0, s))).2.2 ∧ CBox h' r8 (cNs i (gCfg0 (0, s))).1 ∧ Upd [a, r8] h8 h', upTo 4 4, ⟨0, by omega, rfl, by rw [hg0]; exact hR8, by rw [hg0]; exact hC8, Upd.refl⟩, ?_⟩
  rintro ρ h' ⟨i, hi, hvs, hR', hC', w⟩
  simp only [List.map_cons, List.map_nil, List.cons.injEq, and_true] at hvs
  obtain ⟨e2, e5', e6', e31, e32⟩ := hvs
  simp only [e2, e5', e6', e31, e32]
  unfold script_Config_b30
  by_cases hlt : i < 4
  · have hd : ((i : Int) < 4) = True := by apply eq_true; omega
    simp only [hd, popO_some, bindH_eq, condV_bool, condV_true, condV_false, yV_bool, gopV_tt, gopV_ff, gopV_tf, gopV_ft, pickV_t, pickV_f, pickV_bool, nilS_ptr, add_eq, sub_eq, mul_eq, lss_eq, leq_eq, gtr_eq, geq_eq, not_eq, minI_eq, maxI_eq, extract_0, extract_1, extract_2, eqlI, neqI, makeFunc_eq, decide_true, decide_false, if_true, if_false, Bool.false_eq_true, Bool.not_true, Bool.not_false, reduceIte, List.getElem?_toArray, List.getElem?_cons_zero, List.getElem?_cons_succ, Option.isSome_none, List.length_map]
    obtain ⟨ad, ha1, -⟩ := CBox.next (p := cNs i (gCfg0 (0, s))) hlt hC' (k := fun _ _ => True) (fun _ _ _ => trivial)
    simp only [ha1, popO_some, bindH_eq, condV_bool, condV_true, condV_false, yV_bool, gopV_tt, gopV_ff, gopV_tf, gopV_ft, pickV_t, pickV_f, pickV_bool, nilS_ptr, add_eq, sub_eq, mul_eq, lss_eq, leq_eq, gtr_eq, geq_eq, not_eq, minI_eq, maxI_eq, extract_0, extract_1, extract_2, eqlI, neqI, makeFunc_eq, decide_true, decide_false, if_true, if_false, Bool.false_eq_true, Bool.not_true, Bool.not_false, reduceIte, List.getElem?_toArray, List.getElem?_cons_zero, List.getElem?_cons_succ, Option.isSome_none, List.length_map]
    refine RNumber_s hR' fun h9 x9 e9 hR9 u9 => ?_
    have hC9 := hC'.upd u9 (by simpa using hne8)
    obtain ⟨ad', ha2', hst⟩ := CBox.next (p := cNs i (gCfg0 (0, s))) hlt hC9 (k := fun v36 h37 => popO (SemP PG (binOp BinOp.add T_int (.int .i64 i) (Value.int IntKind.i64 1))) fun v38 => (fun vs' h' => (∃ i : Nat, i ≤ 4 ∧ vs' = [.pointer (some ⟨r1, 0, none⟩), .pointer (some ⟨a, 0, none⟩), .pointer (some ⟨r8, 0, none⟩), ptr4 r8, .int .i64 i] ∧ RdAt h' a (cNs i (gCfg0 (0, s))).2.1 (cNs i (gCfg0 (0, s))).2.2 ∧ CBox h' r8 (cNs i (gCfg0 (0, s))).1 ∧ Upd [a, r8] h8 h') ∧ upTo 4 4 vs' h' < upTo 4 4 (List.map ρ [2, 5, 6, 31, 32]) h) [.pointer (some ⟨r1, 0, none⟩), .pointer (some ⟨a, 0, none⟩), .pointer (some ⟨r8, 0, none⟩), ptr4 r8, v38] h37) (by
      intro h10 hC10 u10
      have ei : IntKind.i64.wrap ((i : Int) + 1) = ((i + 1 : Nat) : Int) := by rw [i64_wrap (by omega) (by omega)]; omega
      simp only [ei, popO_some, bindH_eq, condV_bool, condV_true, condV_false, yV_bool, gopV_tt, gopV_ff, gopV_tf, gopV_ft, pickV_t, pickV_f, pickV_bool, nilS_ptr, add_eq, sub_eq, mul_eq, lss_eq, leq_eq, gtr_eq, geq_eq, not_eq, minI_eq, maxI_eq, extract_0, extract_1, extract_2, eqlI, neqI, makeFunc_eq, decide_true, decide_false, if_true, if_false, Bool.false_eq_true, Bool.not_true, Bool.not_false, reduceIte, List.getElem?_toArray, List.getElem?_cons_zero, List.getElem?_cons_succ, Option.isSome_none, List.length_map]
      refine ⟨⟨i + 1, by omega, rfl, ?_, hC10, (w.trans (u9.mono fun b hb => .inl (by simp at hb; simp [hb]))).trans (u10.mono fun b hb => .inl (by simp at hb; simp [hb]))⟩, by simp [upTo, e32]; omega⟩
      show RdAt h10 a (cN i (cNs i (gCfg0 (0, s)))).2.1 (cN i (cNs i (gCfg0 (0, s)))).2.2
      rw [cN_st, ← e9]
      exact hR9.upd u10 (by simpa using hne8.symm))
    rw [ha1] at ha2'
    cases ha2'
    rw [e9]
    exact hst
  · have hd : ((i : Int) < 4) = False := by apply eq_false; omega
    have hi4 : i = 4 := by omega
    subst hi4
    have hgc : cNs 4 (gCfg0 (0, s)) = gCfg (0, s) := rfl
    rw [hgc] at hR' hC'
    have b1' := w.get b8 (by simp [hne1, Ne.symm hne18])
    have wE : Ext h h' := w8.fresh w (fun b hb => by
      simp only [List.mem_cons, List.not_mem_nil, or_false] at hb
      rcases hb with rfl | rfl
      · exact hha
      · exact hh8)
    have hh1 : Fresh h [r1] := Fresh.one hr1
    simp only [hd, T_wire_Reader.f0, popO_some, bindH_eq, condV_bool, condV_true, condV_false, yV_bool, gopV_tt, gopV_ff, gopV_tf, gopV_ft, pickV_t, pickV_f, pickV_bool, nilS_ptr, add_eq, sub_eq, mul_eq, lss_eq, leq_eq, gtr_eq, geq_eq, not_eq, minI_eq, maxI_eq, extract_0, extract_1, extract_2, eqlI, neqI, makeFunc_eq, decide_true, decide_false, if_true, if_false, Bool.false_eq_true, Bool.not_true, Bool.not_false, reduceIte, List.getElem?_toArray, List.getElem?_cons_zero, List.getElem?_cons_succ, Option.isSome_none, List.length_map]
    refine WErr_ok hR'.here rfl ?_
    by_cases hz : (gCfg (0, s)).2.1 = 0
    · have q : ((gCfg (0, s)).2.1 != 0) = false := by simp [hz]
      have hL : cfgL s = ((gCfg (0, s)).1, (gCfg (0, s)).2.2, 0) := by unfold cfgL; rw [if_pos hz]
      rw [hL] at hk
      simp only [q, hC'.load, popO_some, bindH_eq, condV_bool, condV_true, condV_false, yV_bool, gopV_tt, gopV_ff, gopV_tf, gopV_ft, pickV_t, pickV_f, pickV_bool, nilS_ptr, add_eq, sub_eq, mul_eq, lss_eq, leq_eq, gtr_eq, geq_eq, not_eq, minI_eq, maxI_eq, extract_0, extract_1, extract_2, eqlI, neqI, makeFunc_eq, decide_true, decide_false, if_true, if_false, Bool.false_eq_true, Bool.not_true, Bool.not_false, reduceIte, List.getElem?_toArray, List.getElem?_cons_zero, List.getElem?_cons_succ, Option.isSome_none, List.length_map]
      refine RLeft_ok hR' ?_
      rw [if_pos hz]
      refine ⟨hC'.load, ?_⟩
      have hrr : rRaw ((gCfg (0, s)).2.1, (gCfg (0, s)).2.2) ((gCfg (0, s)).2.2.length : Int) = ((gCfg (0, s)).2.2, (0, [])) := by
        unfold rRaw
        rw [if_pos ⟨hz, by omega, by simp⟩]
        simp
      refine Raw_ok hR' ((gCfg (0, s)).2.2.length : Int) fun h11 hR11 u11 => ?_
      rw [hrr]
      have hC11 := hC'.upd u11 (by simpa using hne8)
      refine ⟨hC11.load, ?_⟩
      refine put_cfg _ (u11.get b1' (by simpa using hne1)) (by rw [T_api_Config.zc]; rfl) fun h12 hC12 u12 => ?_
      simp only [hC12.load, popO_some, bindH_eq, condV_bool, condV_true, condV_false, yV_bool, gopV_tt, gopV_ff, gopV_tf, gopV_ft, pickV_t, pickV_f, pickV_bool, nilS_ptr, add_eq, sub_eq, mul_eq, lss_eq, leq_eq, gtr_eq, geq_eq, not_eq, minI_eq, maxI_eq, extract_0, extract_1, extract_2, eqlI, neqI, makeFunc_eq, decide_true, decide_false, if_true, if_false, Bool.false_eq_true, Bool.not_true, Bool.not_false, reduceIte, List.getElem?_toArray, List.getElem?_cons_zero, List.getElem?_cons_succ, Option.isSome_none, List.length_map]
      exact hk _ ((wE.fresh u11 (Fresh.one hha)).fresh u12 hh1)
    · have q : ((gCfg (0, s)).2.1 != 0) = true := by simp [hz]
      have hL : cfgL s = (Cfg.zero, [], (gCfg (0, s)).2.1) := by unfold cfgL; rw [if_neg hz]
      rw [hL] at hk
      simp only [q, cfg_build0, popO_some, bindH_eq, condV_bool, condV_true, condV_false, yV_bool, gopV_tt, gopV_ff, gopV_tf, gopV_ft, pickV_t, pickV_f, pickV_bool, nilS_ptr, add_eq, sub_eq, mul_eq, lss_eq, leq_eq, gtr_eq, geq_eq, not_eq, minI_eq, maxI_eq, extract_0, extract_1, extract_2, eqlI, neqI, makeFunc_eq, decide_true, decide_false, if_true, if_false, Bool.false_eq_true, Bool.not_true, Bool.not_false, reduceIte, List.getElem?_toArray, List.getElem?_cons_zero, List.getElem?_cons_succ, Option.isSome_none, List.length_map]
      refine put_cfg _ b1' (by rw [T_api_Config.zc]; rfl) fun h12 hC12 u12 => ?_
      simp only [hC12.load, popO_some, bindH_eq, condV_bool, condV_true, condV_false, yV_bool, gopV_tt, gopV_ff, gopV_tf, gopV_ft, pickV_t, pickV_f, pickV_bool, nilS_ptr, add_eq, sub_eq, mul_eq, lss_eq, leq_eq, gtr_eq, geq_eq, not_eq, minI_eq, maxI_eq, extract_0, extract_1, extract_2, eqlI, neqI, makeFunc_eq, decide_true, decide_false, if_true, if_false, Bool.false_eq_true, Bool.not_true, Bool.not_false, reduceIte, List.getElem?_toArray, List.getElem?_cons_zero, List.getElem?_cons_succ, Option.isSome_none, List.length_map]
      exact hk _ (wE.fresh u12 hh1)
end Go.Proofs.Ytflgnfiebgcegaa
