/- script: the document's examples; the first law. -/
import Derived.Test.YtflgnfiebgcegaaScrP
set_option linter.unusedSimpArgs false
set_option linter.unusedVariables false
namespace Go.Proofs.Ytflgnfiebgcegaa
open Go
set_option maxRecDepth 20000
def act11 : Act := { Act.zero 1 with chain := 1 }
theorem act11_build : SemP PG (Instr.build T_api_Act #[(0, .int .i64 1), (1, .int .i64 1)]) = some (.agg (act11.cells (.slice none 0 0)).toArray) := by kernel_rfl
theorem put11 : putA act11 = ([1, 1], 0) := by decide
theorem ent29 : entL [2, 9] = [⟨Act.zero 2, 0⟩, ⟨Act.zero 0, 5⟩] := by decide
theorem tx29 : (⟨#[2, 9]⟩ : ByteArray) = tx [2, 9] := rfl
theorem tx11 : (⟨#[1, 1]⟩ : ByteArray) = tx [1, 1] := rfl
set_option maxHeartbeats 1000000 in
theorem awake23_ok {h : PH} {k : Value → PH → Prop} (hk : ∀ h', Ext h h' → k (.bool true) h') : CallsH PG id_carracklaw23_awake #[] h k := by
  apply carracklaw23_awake.call
  unfold carracklaw23_awake
  simp only [act11_build, popO_some, bindH_eq, condV_bool, condV_true, condV_false, yV_bool, gopV_tt, gopV_ff, gopV_tf, gopV_ft, pickV_t, pickV_f, pickV_bool, nilS_ptr, add_eq, sub_eq, mul_eq, lss_eq, leq_eq, gtr_eq, geq_eq, not_eq, minI_eq, maxI_eq, extract_0, extract_1, extract_2, eqlI, neqI, makeFunc_eq, decide_true, decide_false, if_true, if_false, Bool.false_eq_true, Bool.not_true, Bool.not_false, reduceIte, List.getElem?_toArray, List.getElem?_cons_zero, List.getElem?_cons_succ, Option.isSome_none, List.length_map]
  refine Put_ok (A := act11) ⟨by decide, by decide, by decide, by decide⟩ nilW.slR (by decide) fun h2 u2 => ?_
  rw [put11]
  simp only [tx29, tx11, popO_some, bindH_eq, condV_bool, condV_true, condV_false, yV_bool, gopV_tt, gopV_ff, gopV_tf, gopV_ft, pickV_t, pickV_f, pickV_bool, nilS_ptr, add_eq, sub_eq, mul_eq, lss_eq, leq_eq, gtr_eq, geq_eq, not_eq, minI_eq, maxI_eq, extract_0, extract_1, extract_2, eqlI, neqI, makeFunc_eq, decide_true, decide_false, if_true, if_false, Bool.false_eq_true, Bool.not_true, Bool.not_false, reduceIte, List.getElem?_toArray, List.getElem?_cons_zero, List.getElem?_cons_succ, Option.isSome_none, List.length_map]
  refine Entries_ok [2, 9] (by decide) fun v h3 F ps hO hE hps u3 f3 => ?_
  rw [ent29] at hps
  have hx := hO.slR
  have lx := hx.len (t' := T_int) T_sl_script_Entry.und
  rw [List.length_map] at lx
  have hlen : ps.length = 2 := by have := congrArg List.length hps; simpa using this
  obtain ⟨p, hp⟩ : ∃ p, ps[0]? = some p := ⟨_, List.getElem?_eq_getElem (by omega)⟩
  obtain ⟨p', hp'⟩ : ∃ p, ps[1]? = some p := ⟨_, List.getElem?_eq_getElem (by omega)⟩
  have e0 : p.1 = ⟨Act.zero 2, 0⟩ := by
    have := congrArg (fun l => l[0]?) hps
    simp only [List.getElem?_map, hp, Option.map_some] at this
    exact Option.some.inj this
  have e1 : p'.1 = ⟨Act.zero 0, 5⟩ := by
    have := congrArg (fun l => l[1]?) hps
    simp only [List.getElem?_map, hp', Option.map_some] at this
    exact Option.some.inj this
  obtain ⟨b, o, a1, a2, a3, a4⟩ := hx.ent T_sl_script_Entry.und T_script_Entry.info T_script_Entry.size (k := .i64) hp
  obtain ⟨b', o', b1, b2, b3, b4⟩ := hx.ent T_sl_script_Entry.und T_script_Entry.info T_script_Entry.size (k := .i64) hp'
  rw [e0] at a3 a4
  rw [e1] at b3
  have a1 : SemP PG (Instr.indexAt T_sl_script_Entry v (.int .i64 0)) = some (.pointer (some ⟨b, o, none⟩)) := a1
  have b1 : SemP PG (Instr.indexAt T_sl_script_Entry v (.int .i64 1)) = some (.pointer (some ⟨b', o', none⟩)) := b1
  have l2 : (((2 : Nat) : Int) == 2) = true := rfl
  simp only [eqlS, lx, hlen, l2, a1, b1, T_script_Entry.f0, T_script_Entry.f1, T_api_Act.f0, T_int.load, T_api_Errno.load, a3, a4, b3, Act.zero, Int.reduceBEq, beq_self_eq_true, popO_some, bindH_eq, condV_bool, condV_true, condV_false, yV_bool, gopV_tt, gopV_ff, gopV_tf, gopV_ft, pickV_t, pickV_f, pickV_bool, nilS_ptr, add_eq, sub_eq, mul_eq, lss_eq, leq_eq, gtr_eq, geq_eq, not_eq, minI_eq, maxI_eq, extract_0, extract_1, extract_2, eqlI, neqI, makeFunc_eq, decide_true, decide_false, if_true, if_false, Bool.false_eq_true, Bool.not_true, Bool.not_false, reduceIte, List.getElem?_toArray, List.getElem?_cons_zero, List.getElem?_cons_succ, Option.isSome_none, List.length_map]
  exact hk h3 (u2.trans u3)
def twoF (x y x' y' : Nat) (j : Nat) : Bool := match j with
  | 0 => (x : Int) == x'
  | _ => (y : Int) == y'
def twoEq (x y x' y' : Nat) : Bool := (List.range 2).all (twoF x y x' y')
theorem twoEq_dec (x y x' y' : Nat) : twoEq x y x' y' = (decide (x = x') && decide (y = y')) := by
  simp [twoEq, twoF, List.range_succ, bdec, nat_eq]
theorem Cfg.eqIn {h : PH} (m m' : Cfg) : SemE PG h (Op.equalIn (9999 + 1) T_api_Config (.agg m.cells.toArray) (.agg m'.cells.toArray)) = some (decide (m = m')) := by
  have arr : ∀ x y x' y' : Nat, SemE PG h (Op.equalIn (9998 + 1) T_2_uint64 (.agg #[.int .u64 x, .int .u64 y]) (.agg #[.int .u64 x', .int .u64 y'])) = some (twoEq x y x' y') := by
    intro x y x' y'
    refine eqIn_array T_2_uint64.und T_uint64.info T_uint64.size (twoF x y x' y') fun j hj => ?_
    have : j = 0 ∨ j = 1 := by omega
    rcases this with rfl | rfl
    · exact ⟨_, _, part_cell T_uint64.und rfl rfl, part_cell T_uint64.und rfl rfl, eqIn_int T_uint64.und⟩
    · exact ⟨_, _, part_cell T_uint64.und rfl rfl, part_cell T_uint64.und rfl rfl, eqIn_int T_uint64.und⟩
  have hm : SemE PG h (Op.equalIn (9999 + 1) T_api_Config (.agg m.cells.toArray) (.agg m'.cells.toArray)) = some (m.sector == m'.sector && (m.sectors == m'.sectors && (m.table == m'.table && (m.batch == m'.batch && (m.scan == m'.scan && ((twoEq m.h0 m.h1 m'.h0 m'.h1) && ((twoEq m.s0 m.s1 m'.s0 m'.s1) && true))))))) := by
    refine (eqIn_struct T_api_Config.und (by kernel_rfl) (fun f => match f.offset with | 0 => m.sector == m'.sector | 1 => m.sectors == m'.sectors | 2 => m.table == m'.table | 3 => m.batch == m'.batch | 4 => m.scan == m'.scan | 5 => twoEq m.h0 m.h1 m'.h0 m'.h1 | _ => twoEq m.s0 m.s1 m'.s0 m'.s1) ?_)
    intro f hf
    simp only [List.mem_cons, List.not_mem_nil, or_false] at hf
    rcases hf with rfl | rfl | rfl | rfl | rfl | rfl | rfl
    · exact ⟨by decide, _, _, part_cell T_int.und rfl rfl, part_cell T_int.und rfl rfl, eqIn_int T_int.und⟩
    · exact ⟨by decide, _, _, part_cell T_int.und rfl rfl, part_cell T_int.und rfl rfl, eqIn_int T_int.und⟩
    · exact ⟨by decide, _, _, part_cell T_int.und rfl rfl, part_cell T_int.und rfl rfl, eqIn_int T_int.und⟩
    · exact ⟨by decide, _, _, part_cell T_int.und rfl rfl, part_cell T_int.und rfl rfl, eqIn_int T_int.und⟩
    · exact ⟨by decide, _, _, part_cell T_int.und rfl rfl, part_cell T_int.und rfl rfl, eqIn_int T_int.und⟩
    · exact ⟨by decide, _, _, part_agg T_2_uint64.und rfl T_2_uint64.info T_2_uint64.size, part_agg T_2_uint64.und rfl T_2_uint64.info T_2_uint64.size, arr _ _ _ _⟩
    · exact ⟨by decide, _, _, part_agg T_2_uint64.und rfl T_2_uint64.info T_2_uint64.size, part_agg T_2_uint64.und rfl T_2_uint64.info T_2_uint64.size, arr _ _ _ _⟩
  rw [hm]
  congr 1
  simp only [twoEq_dec, bdec, Bool.and_true]
  rw [Bool.eq_iff_iff]
  cases m; cases m'
  simp [Cfg.mk.injEq, and_assoc]
theorem Cfg.eql {h : PH} {x y : Operand} (m m' : Cfg) : SemE PG h (binS .eql T_api_Config x y (.agg m.cells.toArray) (.agg m'.cells.toArray)) = some (.bool (decide (m = m'))) := eqlStruct (by kernel_rfl) (Cfg.eqIn m m')
set_option maxHeartbeats 1000000 in
theorem ScriptReads_ok {h : PH} (s : List UInt8) {k : Value → PH → Prop} (hk : ∀ h', Ext h h' → k (.bool true) h') : CallsH PG id_carracklaw23_ScriptReads #[.string (tx s)] h k := by
  apply carracklaw23_ScriptReads.call
  unfold carracklaw23_ScriptReads
  refine awake23_ok fun h1 u1 => ?_
  by_cases hl : 5000 < s.length
  · have hd : ((5000 : Int) < (s.length : Int)) = True := by apply eq_true; omega
    simp only [T_string.len, tx_size, hd, popO_some, bindH_eq, condV_bool, condV_true, condV_false, yV_bool, gopV_tt, gopV_ff, gopV_tf, gopV_ft, pickV_t, pickV_f, pickV_bool, nilS_ptr, add_eq, sub_eq, mul_eq, lss_eq, leq_eq, gtr_eq, geq_eq, not_eq, minI_eq, maxI_eq, extract_0, extract_1, extract_2, eqlI, neqI, makeFunc_eq, decide_true, decide_false, if_true, if_false, Bool.false_eq_true, Bool.not_true, Bool.not_false, reduceIte, List.getElem?_toArray, List.getElem?_cons_zero, List.getElem?_cons_succ, Option.isSome_none, List.length_map]
    exact hk _ u1
  · have hd : ((5000 : Int) < (s.length : Int)) = False := by apply eq_false; omega
    simp only [T_string.len, tx_size, hd, popO_some, bindH_eq, condV_bool, condV_true, condV_false, yV_bool, gopV_tt, gopV_ff, gopV_tf, gopV_ft, pickV_t, pickV_f, pickV_bool, nilS_ptr, add_eq, sub_eq, mul_eq, lss_eq, leq_eq, gtr_eq, geq_eq, not_eq, minI_eq, maxI_eq, extract_0, extract_1, extract_2, eqlI, neqI, makeFunc_eq, decide_true, decide_false, if_true, if_false, Bool.false_eq_true, Bool.not_true, Bool.not_false, reduceIte, List.getElem?_toArray, List.getElem?_cons_zero, List.getElem?_cons_succ, Option.isSome_none, List.length_map]
    refine Config_ok s (by omega) fun h2 u2 => ?_
    simp only [popO_some, bindH_eq, condV_bool, condV_true, condV_false, yV_bool, gopV_tt, gopV_ff, gopV_tf, gopV_ft, pickV_t, pickV_f, pickV_bool, nilS_ptr, add_eq, sub_eq, mul_eq, lss_eq, leq_eq, gtr_eq, geq_eq, not_eq, minI_eq, maxI_eq, extract_0, extract_1, extract_2, eqlI, neqI, makeFunc_eq, decide_true, decide_false, if_true, if_false, Bool.false_eq_true, Bool.not_true, Bool.not_false, reduceIte, List.getElem?_toArray, List.getElem?_cons_zero, List.getElem?_cons_succ, Option.isSome_none, List.length_map]
    intro r11 hr11
    try rw [bindH_eq]
    refine put_cfg _ set_same (by rw [T_api_Config.zc]; rfl) fun h3 hC3 v3 => ?_
    refine RConfig_ok s (by omega) fun h4 u4 => ?_
    have hC4 := hC3.ext u4
    have u3 : Ext h2 h3 := fun b o hb _ => v3 b o (set_old hr11 hb) (by simp; exact ne_new hb hr11)
    simp only [popO_some, bindH_eq, condV_bool, condV_true, condV_false, yV_bool, gopV_tt, gopV_ff, gopV_tf, gopV_ft, pickV_t, pickV_f, pickV_bool, nilS_ptr, add_eq, sub_eq, mul_eq, lss_eq, leq_eq, gtr_eq, geq_eq, not_eq, minI_eq, maxI_eq, extract_0, extract_1, extract_2, eqlI, neqI, makeFunc_eq, decide_true, decide_false, if_true, if_false, Bool.false_eq_true, Bool.not_true, Bool.not_false, reduceIte, List.getElem?_toArray, List.getElem?_cons_zero, List.getElem?_cons_succ, Option.isSome_none, List.length_map]
    intro r20 hr20
    try rw [bindH_eq]
    refine put_cfg _ set_same (by rw [T_api_Config.zc]; rfl) fun h5 hC5 v5 => ?_
    have u5 : Ext h4 h5 := fun b o hb _ => v5 b o (set_old hr20 hb) (by simp; exact ne_new hb hr20)
    refine Entries_ok s (by omega) fun v h6 F6 ps hO6 hE6 hp6 u6 f6 => ?_
    refine REntries_ok s (by omega) fun w h7 F7 qs hO7 hE7 hp7 u7 f7 => ?_
    refine entries_ok (hO6.slR.ext u7) hO7.slR (hE6.ws.ext u7) hE7.ws fun h8 u8 => ?_
    have hCA := (((hC4.ext u5).ext u6).ext u7).ext u8
    have hCB := ((hC5.ext u6).ext u7).ext u8
    have e : decide (ps.map Prod.fst = qs.map Prod.fst) = true := by rw [hp6, hp7]; simp
    have e2 : decide ((cfgL s).1 = (cfgL s).1) = true := by simp
    have e3 : decide ((cfgL s).2.1 = (cfgL s).2.1) = true := by simp
    have e4 : ((cfgL s).2.2 == (cfgL s).2.2) = true := by simp
    simp only [e, hCA.load, hCB.load, Cfg.eql, eqlS, e2, e3, e4, popO_some, bindH_eq, condV_bool, condV_true, condV_false, yV_bool, gopV_tt, gopV_ff, gopV_tf, gopV_ft, pickV_t, pickV_f, pickV_bool, nilS_ptr, add_eq, sub_eq, mul_eq, lss_eq, leq_eq, gtr_eq, geq_eq, not_eq, minI_eq, maxI_eq, extract_0, extract_1, extract_2, eqlI, neqI, makeFunc_eq, decide_true, decide_false, if_true, if_false, Bool.false_eq_true, Bool.not_true, Bool.not_false, reduceIte, List.getElem?_toArray, List.getElem?_cons_zero, List.getElem?_cons_succ, Option.isSome_none, List.length_map]
    exact hk _ (((((((u1.trans u2).trans u3).trans u4).trans u5).trans u6).trans u7).trans u8)
end Go.Proofs.Ytflgnfiebgcegaa
