/- net: the law NetMoves. -/
import Derived.Test.YtbloalappckjhaaNetC
set_option linter.unusedSimpArgs false
set_option linter.unusedVariables false
namespace Go.Proofs.Ytbloalappckjhaa
open Go

def Msg.one (n : Int) : Msg := { Msg.zero with kind := 1, height := n }
theorem Msg.one_build (n : Int) : SemP PG (Instr.build T_api_Message #[(0, (Value.int IntKind.i64 1)), (2, .int .u64 n)]) = some (.agg (Msg.one n).cells.toArray) := by kernel_rfl
theorem Msg.lit2 (m m' : Msg) : SemA PG (Instr.buildSlice T_sl_api_Message 2 #[(0, .agg m.cells.toArray), (1, .agg m'.cells.toArray)]) = some (.cells (m.cells ++ m'.cells).toArray T_api_Message, fun r => pure (.slice (some ⟨r, 0, none⟩) 2 2)) := by kernel_rfl
theorem Msg.lit3 (m m' m2 : Msg) : SemA PG (Instr.buildSlice T_sl_api_Message 3 #[(0, .agg m.cells.toArray), (1, .agg m'.cells.toArray), (2, .agg m2.cells.toArray)]) = some (.cells (m.cells ++ (m'.cells ++ m2.cells)).toArray T_api_Message, fun r => pure (.slice (some ⟨r, 0, none⟩) 3 3)) := by kernel_rfl
def Fresh (h : PH) (F : List Nat) : Prop := ∀ b ∈ F, h b = none
theorem Fresh.one {h : PH} {a : Nat} (ha : h a = none) : Fresh h [a] := fun b hb => by simp at hb; subst hb; exact ha
theorem Ext.none {h h1 : PH} (u : Ext h h1) {b : Nat} (hb : h1 b = none) : h b = none := by
  cases e : h b with
  | none => rfl
  | some o => rw [u.get e] at hb; cases hb
theorem Fresh.grow {h h1 : PH} {F F' : List Nat} (f : Fresh h F) (u : Ext h h1) (hg : ∀ b ∈ F', b ∈ F ∨ h1 b = none) : Fresh h F' := fun b hb => by
  rcases hg b hb with h1 | h1
  · exact f b h1
  · exact u.none h1
theorem Fresh.of {h h1 : PH} {F : List Nat} (f : Fresh h1 F) (u : Ext h h1) : Fresh h F := fun b hb => u.none (f b hb)
theorem Ext.trans {h h1 h2 : PH} (u : Ext h h1) (v : Ext h1 h2) : Ext h h2 := Upd.trans u v
theorem Ext.fresh {h h1 h2 : PH} {F : List Nat} (u : Ext h h1) (v : Upd F h1 h2) (f : Fresh h F) : Ext h h2 := fun b o hb _ =>
  v b o (u.get hb) fun hm => by rw [f b hm] at hb; cases hb
theorem OwnR.ext {h h' : PH} {e : TypeId} {size : Nat} {v : Value} {rows : List (List Value)} {F : List Nat} (H : OwnR h e size v rows F) (u : Ext h h') : OwnR h' e size v rows F := H.upd u (by simp)
theorem popO_pure {α : Type} {v : α} {k : α → Prop} (hk : k v) : popO (SemP PG (pure v)) k := hk

theorem one_ok {h : PH} {n : Int} {k : Value → PH → Prop} (hk : ∀ h', Ext h h' → k (.agg (Msg.one n).cells.toArray) h') : CallsH PG id_carracklaw20_one #[.int .u64 n] h k := by
  apply carracklaw20_one.call
  unfold carracklaw20_one
  intro r hr
  simp only [Msg.one_build, popO_some, bindH_eq, condV_bool, condV_true, condV_false, yV_bool, gopV_tt, gopV_ff, gopV_tf, gopV_ft, pickV_t, pickV_f, pickV_bool, nilS_ptr, add_eq, sub_eq, mul_eq, lss_eq, leq_eq, gtr_eq, geq_eq, not_eq, minI_eq, maxI_eq, extract_0, extract_1, extract_2, eqlI, neqI, makeFunc_eq, decide_true, decide_false, if_true, if_false, Bool.false_eq_true, Bool.not_true, Bool.not_false, reduceIte, List.getElem?_toArray, List.getElem?_cons_zero, List.getElem?_cons_succ, Option.isSome_none, List.length_map]
  refine Msg.box _ set_same rfl ?_
  rw [set_set_same, Msg.unbox _ set_same]
  exact hk _ (Upd.new hr)

theorem mv_get (l : List Msg) (m : Msg) {j t : Nat} (hj : j < l.length) (ht : t < l.length) (i : Nat) :
    (mv l j t m)[i]? = if i = t then some m else if j ≤ i ∧ i < t then l[i + 1]? else if t < i ∧ i ≤ j then l[i - 1]? else l[i]? := by
  unfold mv
  split
  · rename_i hc
    simp only [List.getElem?_append, List.getElem?_take, List.getElem?_drop, List.length_append, List.length_take, List.length_drop, List.length_cons, List.length_nil, List.getElem?_cons, List.getElem?_nil]
    repeat' split
    all_goals first | omega | rfl | (congr 1; omega)
  · rename_i hc
    simp only [List.getElem?_append, List.getElem?_take, List.getElem?_drop, List.length_append, List.length_take, List.length_drop, List.length_cons, List.length_nil, List.getElem?_cons, List.getElem?_nil]
    repeat' split
    all_goals first | omega | rfl | (congr 1; omega)
theorem mv_len (l : List Msg) (m : Msg) {j t : Nat} (hj : j < l.length) (ht : t < l.length) : (mv l j t m).length = l.length := by
  unfold mv; split <;> simp <;> omega
theorem mv_take (l : List Msg) (m : Msg) {j t n : Nat} (hj : j < l.length) (ht : t < l.length) (h1 : n ≤ j) (h2 : n ≤ t) : (mv l j t m).take n = l.take n := by
  apply List.ext_getElem?; intro i
  simp only [List.getElem?_take, mv_get l m hj ht]
  repeat' split
  all_goals first | omega | rfl
theorem mv_drop (l : List Msg) (m : Msg) {j t n : Nat} (hj : j < l.length) (ht : t < l.length) (h1 : j < n) (h2 : t < n) : (mv l j t m).drop n = l.drop n := by
  apply List.ext_getElem?; intro i
  simp only [List.getElem?_drop, mv_get l m hj ht]
  repeat' split
  all_goals first | omega | rfl
theorem mv_at (l : List Msg) (m : Msg) {j t : Nat} (hj : j < l.length) (ht : t < l.length) : (mv l j t m)[t]? = some m := by
  rw [mv_get l m hj ht, if_pos rfl]

theorem awake20_ok {h : PH} {k : Value → PH → Prop} (hk : ∀ h', Ext h h' → k (.bool true) h') : CallsH PG id_carracklaw20_awake #[] h k := by
  apply carracklaw20_awake.call
  unfold carracklaw20_awake
  refine New_ok ?_
  intro a h1 ha hN1 u1
  simp only [eqlPtrNil T_p_net_Net.und, Option.isNone_some, popO_some, bindH_eq, condV_bool, condV_true, condV_false, yV_bool, gopV_tt, gopV_ff, gopV_tf, gopV_ft, pickV_t, pickV_f, pickV_bool, nilS_ptr, add_eq, sub_eq, mul_eq, lss_eq, leq_eq, gtr_eq, geq_eq, not_eq, minI_eq, maxI_eq, extract_0, extract_1, extract_2, eqlI, neqI, makeFunc_eq, decide_true, decide_false, if_true, if_false, Bool.false_eq_true, Bool.not_true, Bool.not_false, reduceIte, List.getElem?_toArray, List.getElem?_cons_zero, List.getElem?_cons_succ, Option.isSome_none, List.length_map]
  refine one_ok fun h2 u2 => ?_
  refine one_ok fun h3 u3 => ?_
  simp only [Msg.lit2, popO_some, bindH_eq, condV_bool, condV_true, condV_false, yV_bool, gopV_tt, gopV_ff, gopV_tf, gopV_ft, pickV_t, pickV_f, pickV_bool, nilS_ptr, add_eq, sub_eq, mul_eq, lss_eq, leq_eq, gtr_eq, geq_eq, not_eq, minI_eq, maxI_eq, extract_0, extract_1, extract_2, eqlI, neqI, makeFunc_eq, decide_true, decide_false, if_true, if_false, Bool.false_eq_true, Bool.not_true, Bool.not_false, reduceIte, List.getElem?_toArray, List.getElem?_cons_zero, List.getElem?_cons_succ, Option.isSome_none, List.length_map]
  intro r hr
  refine popO_pure ?_
  have hl : SlR (h3.set r (.cells ((Msg.one 1).cells ++ (Msg.one 2).cells).toArray T_api_Message)) 8 (.slice (some ⟨r, 0, none⟩) 2 2) ([Msg.one 1, Msg.one 2].map Msg.cells) :=
    (OwnR.lit (Msg.rows _) set_same (by simp) (by decide) (by simp)).slR
  have hN3 := ((hN1.ext u2).ext u3).ext (Upd.new (o := .cells ((Msg.one 1).cells ++ (Msg.one 2).cells).toArray T_api_Message) hr)
  have u4 : Ext h3 _ := Upd.new (o := .cells ((Msg.one 1).cells ++ (Msg.one 2).cells).toArray T_api_Message) hr
  refine Send_ok hN3 hl (by simp) fun h4 F4 hN4 u5 k4 => ?_
  refine Twice_yes hN4 (by simp) (j := 0) (m := Msg.one 1) (by simp) fun h5 F5 hN5 u6 k5 => ?_
  refine Move_yes (j := 2) (t := 0) (m := Msg.one 1) hN5 (by decide) (by decide) (by decide) fun h6 hN6 u7 => ?_
  have c1 : (Value.int IntKind.i64 ((min [Msg.one 1, Msg.one 2].length (256 - ([] : List Msg).length) : Nat) : Int)) = .int .i64 2 := rfl
  have c2 : (Value.int IntKind.i64 (if ([] ++ [Msg.one 1, Msg.one 2].take (256 - ([] : List Msg).length)).length = 256 then 2 else 0)) = .int .i64 0 := rfl
  rw [c1, c2]
  have c3 : ((2 : Int) == 2) = true := rfl
  have c4 : ((0 : Int) == 0) = true := rfl
  simp only [c3, c4, popO_some, bindH_eq, condV_bool, condV_true, condV_false, yV_bool, gopV_tt, gopV_ff, gopV_tf, gopV_ft, pickV_t, pickV_f, pickV_bool, nilS_ptr, add_eq, sub_eq, mul_eq, lss_eq, leq_eq, gtr_eq, geq_eq, not_eq, minI_eq, maxI_eq, extract_0, extract_1, extract_2, eqlI, neqI, makeFunc_eq, decide_true, decide_false, if_true, if_false, Bool.false_eq_true, Bool.not_true, Bool.not_false, reduceIte, List.getElem?_toArray, List.getElem?_cons_zero, List.getElem?_cons_succ, Option.isSome_none, List.length_map]
  refine List_ok hN6 (by decide) fun v7 h7 F7 hO7 u8 k7 => ?_
  refine one_ok fun h8 u9 => ?_
  refine one_ok fun h9 u10 => ?_
  refine one_ok fun h10 u11 => ?_
  simp only [Msg.lit3, popO_some, bindH_eq, condV_bool, condV_true, condV_false, yV_bool, gopV_tt, gopV_ff, gopV_tf, gopV_ft, pickV_t, pickV_f, pickV_bool, nilS_ptr, add_eq, sub_eq, mul_eq, lss_eq, leq_eq, gtr_eq, geq_eq, not_eq, minI_eq, maxI_eq, extract_0, extract_1, extract_2, eqlI, neqI, makeFunc_eq, decide_true, decide_false, if_true, if_false, Bool.false_eq_true, Bool.not_true, Bool.not_false, reduceIte, List.getElem?_toArray, List.getElem?_cons_zero, List.getElem?_cons_succ, Option.isSome_none, List.length_map]
  intro r' hr'
  refine popO_pure ?_
  have u12 : Ext h10 _ := Upd.new (o := .cells ((Msg.one 1).cells ++ ((Msg.one 1).cells ++ (Msg.one 2).cells)).toArray T_api_Message) hr'
  refine Same_ok ((((hO7.slR.ext u9).ext u10).ext u11).ext u12) (OwnR.lit (Msg.rows [Msg.one 1, Msg.one 1, Msg.one 2]) set_same (by simp) (by decide) (by simp)).slR ?_
  have c5 : decide (mv (if ([] ++ [Msg.one 1, Msg.one 2].take (256 - ([] : List Msg).length)).length = 256 then [] ++ [Msg.one 1, Msg.one 2].take (256 - ([] : List Msg).length) else [] ++ [Msg.one 1, Msg.one 2].take (256 - ([] : List Msg).length) ++ [Msg.one 1]) 2 0 (Msg.one 1) = [Msg.one 1, Msg.one 1, Msg.one 2]) = true := by decide
  rw [c5]
  refine hk _ ?_
  have w1 := ((u1.trans u2).trans u3).trans u4
  have f1 : Fresh h [a] := Fresh.one ha
  have w2 := w1.fresh u5 f1
  have f4 := f1.grow w1 k4
  have f5 := f4.grow w2 k5
  have w3 := (w2.fresh u6 f4).fresh u7 f5
  exact ((((w3.trans u8).trans u9).trans u10).trans u11).trans u12

theorem Same_yes {h : PH} {x y : Value} {xs ys : List Msg} (hx : SlR h 8 x (xs.map Msg.cells)) (hy : SlR h 8 y (ys.map Msg.cells)) (e : xs = ys) {k : Value → PH → Prop} (hk : k (.bool true) h) :
    CallsH PG id_carrackref19_Same #[x, y] h k := Same_ok hx hy (by rw [decide_eq_true e]; exact hk)
theorem NetMoves_k131_ok {h : PH} {a : Nat} {l : List Msg} {F : List Nat} (hN : NetAt h a l F) (hl : l.length ≤ 256) (j : Int) {k : Value → PH → Prop} (hk : ∀ h', Upd F h h' → k (.bool true) h') :
    carracklaw20_NetMoves_k131 k (.int .i64 j) (.pointer (some ⟨a, 0, none⟩)) h := by
  unfold carracklaw20_NetMoves_k131
  refine List_ok hN hl fun v1 h1 F1 hO1 u1 k1 => ?_
  have hN1 := hN.ext u1
  by_cases hj : 0 ≤ j ∧ j < l.length
  · obtain ⟨n, rfl⟩ := Int.eq_ofNat_of_zero_le hj.1
    have hn : n < l.length := by omega
    obtain ⟨m, hm⟩ : ∃ m, l[n]? = some m := ⟨_, List.getElem?_eq_getElem hn⟩
    refine Twice_yes hN1 hl hm fun h2 F2 hN2 u2 k2 => ?_
    have hO2 := hO1.upd u2 (fun b hb hf => hN.known b hf (k1 b hb))
    by_cases hc : l.length = 256
    · rw [if_pos hc]
      rw [if_pos hc] at hN2
      refine List_ok hN2 hl fun v3 h3 F3 hO3 u3 k3 => ?_
      have e1 : ((2 : Int) != 0) = true := rfl
      simp only [e1, popO_some, bindH_eq, condV_bool, condV_true, condV_false, yV_bool, gopV_tt, gopV_ff, gopV_tf, gopV_ft, pickV_t, pickV_f, pickV_bool, nilS_ptr, add_eq, sub_eq, mul_eq, lss_eq, leq_eq, gtr_eq, geq_eq, not_eq, minI_eq, maxI_eq, extract_0, extract_1, extract_2, eqlI, neqI, makeFunc_eq, decide_true, decide_false, if_true, if_false, Bool.false_eq_true, Bool.not_true, Bool.not_false, reduceIte, List.getElem?_toArray, List.getElem?_cons_zero, List.getElem?_cons_succ, Option.isSome_none, List.length_map]
      refine Same_yes hO3.slR (hO2.slR.ext u3) rfl ?_
      exact hk _ ((u1.upd.trans u2).trans u3.upd)
    · rw [if_neg hc]
      rw [if_neg hc] at hN2
      refine List_ok hN2 (by simp; omega) fun v3 h3 F3 hO3 u3 k3 => ?_
      have hO4 := hO2.ext u3
      have e1 : ((0 : Int) != 0) = false := rfl
      have e2 : (0 ≤ (n : Int)) = True := by simp
      have e3 : ((n : Int) < (l.length : Int)) = True := by simp; omega
      have e4 : IntKind.i64.wrap ((l.length : Int) + 1) = (l.length : Int) + 1 := i64_wrap (by omega) (by omega)
      have e5 : (((l ++ [m]).length : Int) == (l.length : Int) + 1) = true := by simp
      obtain ⟨x, c1, c2, -⟩ := hO3.slR.cut T_sl_api_Message.und T_api_Message.info T_api_Message.size (lo := none) (.inl ⟨rfl, rfl⟩) (.inr ⟨.i64, rfl⟩) (Nat.zero_le _) (show l.length ≤ _ by simp)
      obtain ⟨p, p1, p2⟩ := hO3.slR.msg (k := .i64) (j := (l.length : Int)) (m := m) (by omega) (by simp)
      obtain ⟨q, q1, q2⟩ := hO4.slR.msg (k := .i64) (j := (n : Int)) (m := m) (by omega) (by simpa using hm)
      simp only [e1, e2, hO4.slR.len T_sl_api_Message.und, hO3.slR.len T_sl_api_Message.und, e3, e4, e5, c1, popO_some, bindH_eq, condV_bool, condV_true, condV_false, yV_bool, gopV_tt, gopV_ff, gopV_tf, gopV_ft, pickV_t, pickV_f, pickV_bool, nilS_ptr, add_eq, sub_eq, mul_eq, lss_eq, leq_eq, gtr_eq, geq_eq, not_eq, minI_eq, maxI_eq, extract_0, extract_1, extract_2, eqlI, neqI, makeFunc_eq, decide_true, decide_false, if_true, if_false, Bool.false_eq_true, Bool.not_true, Bool.not_false, reduceIte, List.getElem?_toArray, List.getElem?_cons_zero, List.getElem?_cons_succ, Option.isSome_none, List.length_map]
      rw [show List.drop 0 (List.take l.length (List.map Msg.cells (l ++ [m]))) = l.map Msg.cells by rw [← List.map_take]; simp] at c2
      refine Same_yes c2 hO4.slR rfl ?_
      simp only [hO4.slR.len T_sl_api_Message.und, p1, p2, q1, q2, Msg.eql, popO_some, bindH_eq, condV_bool, condV_true, condV_false, yV_bool, gopV_tt, gopV_ff, gopV_tf, gopV_ft, pickV_t, pickV_f, pickV_bool, nilS_ptr, add_eq, sub_eq, mul_eq, lss_eq, leq_eq, gtr_eq, geq_eq, not_eq, minI_eq, maxI_eq, extract_0, extract_1, extract_2, eqlI, neqI, makeFunc_eq, decide_true, decide_false, if_true, if_false, Bool.false_eq_true, Bool.not_true, Bool.not_false, reduceIte, List.getElem?_toArray, List.getElem?_cons_zero, List.getElem?_cons_succ, Option.isSome_none, List.length_map]
      exact hk _ ((u1.upd.trans u2).trans u3.upd)
  · refine Twice_no hN1 j hj ?_
    refine List_ok hN1 hl fun v3 h3 F3 hO3 u3 k3 => ?_
    have e1 : ((3 : Int) != 0) = true := rfl
    simp only [e1, popO_some, bindH_eq, condV_bool, condV_true, condV_false, yV_bool, gopV_tt, gopV_ff, gopV_tf, gopV_ft, pickV_t, pickV_f, pickV_bool, nilS_ptr, add_eq, sub_eq, mul_eq, lss_eq, leq_eq, gtr_eq, geq_eq, not_eq, minI_eq, maxI_eq, extract_0, extract_1, extract_2, eqlI, neqI, makeFunc_eq, decide_true, decide_false, if_true, if_false, Bool.false_eq_true, Bool.not_true, Bool.not_false, reduceIte, List.getElem?_toArray, List.getElem?_cons_zero, List.getElem?_cons_succ, Option.isSome_none, List.length_map]
    refine Same_yes hO3.slR (hO1.slR.ext u3) rfl ?_
    exact hk _ (u1.upd.trans u3.upd)

theorem NetMoves_ok {h : PH} {x : Value} {xs : List Msg} (hx : SlR h 8 x (xs.map Msg.cells)) (j t : Int) {k : Value → PH → Prop} (hk : ∀ h', Ext h h' → k (.bool true) h') :
    CallsH PG id_carracklaw20_NetMoves #[x, .int .i64 j, .int .i64 t] h k := by
  apply carracklaw20_NetMoves.call
  unfold carracklaw20_NetMoves
  refine awake20_ok fun h1 u1 => ?_
  simp only [hx.len T_sl_api_Message.und, popO_some, bindH_eq, condV_bool, condV_true, condV_false, yV_bool, gopV_tt, gopV_ff, gopV_tf, gopV_ft, pickV_t, pickV_f, pickV_bool, nilS_ptr, add_eq, sub_eq, mul_eq, lss_eq, leq_eq, gtr_eq, geq_eq, not_eq, minI_eq, maxI_eq, extract_0, extract_1, extract_2, eqlI, neqI, makeFunc_eq, decide_true, decide_false, if_true, if_false, Bool.false_eq_true, Bool.not_true, Bool.not_false, reduceIte, List.getElem?_toArray, List.getElem?_cons_zero, List.getElem?_cons_succ, Option.isSome_none, List.length_map]
  by_cases hc : (300 : Int) < xs.length
  · simp only [hc, popO_some, bindH_eq, condV_bool, condV_true, condV_false, yV_bool, gopV_tt, gopV_ff, gopV_tf, gopV_ft, pickV_t, pickV_f, pickV_bool, nilS_ptr, add_eq, sub_eq, mul_eq, lss_eq, leq_eq, gtr_eq, geq_eq, not_eq, minI_eq, maxI_eq, extract_0, extract_1, extract_2, eqlI, neqI, makeFunc_eq, decide_true, decide_false, if_true, if_false, Bool.false_eq_true, Bool.not_true, Bool.not_false, reduceIte, List.getElem?_toArray, List.getElem?_cons_zero, List.getElem?_cons_succ, Option.isSome_none, List.length_map]
    exact hk _ u1
  simp only [hc, popO_some, bindH_eq, condV_bool, condV_true, condV_false, yV_bool, gopV_tt, gopV_ff, gopV_tf, gopV_ft, pickV_t, pickV_f, pickV_bool, nilS_ptr, add_eq, sub_eq, mul_eq, lss_eq, leq_eq, gtr_eq, geq_eq, not_eq, minI_eq, maxI_eq, extract_0, extract_1, extract_2, eqlI, neqI, makeFunc_eq, decide_true, decide_false, if_true, if_false, Bool.false_eq_true, Bool.not_true, Bool.not_false, reduceIte, List.getElem?_toArray, List.getElem?_cons_zero, List.getElem?_cons_succ, Option.isSome_none, List.length_map]
  refine New_ok fun a h2 na hN2 u2 => ?_
  simp only [eqlPtrNil T_p_net_Net.und, Option.isNone_some, popO_some, bindH_eq, condV_bool, condV_true, condV_false, yV_bool, gopV_tt, gopV_ff, gopV_tf, gopV_ft, pickV_t, pickV_f, pickV_bool, nilS_ptr, add_eq, sub_eq, mul_eq, lss_eq, leq_eq, gtr_eq, geq_eq, not_eq, minI_eq, maxI_eq, extract_0, extract_1, extract_2, eqlI, neqI, makeFunc_eq, decide_true, decide_false, if_true, if_false, Bool.false_eq_true, Bool.not_true, Bool.not_false, reduceIte, List.getElem?_toArray, List.getElem?_cons_zero, List.getElem?_cons_succ, Option.isSome_none, List.length_map]
  refine Send_ok hN2 ((hx.ext u1).ext u2) (by simp) fun h3 F3 hN3 u3 k3 => ?_
  have hl : (([] : List Msg) ++ xs.take (256 - ([] : List Msg).length)).length ≤ 256 := by simp; omega
  generalize ([] : List Msg) ++ xs.take (256 - ([] : List Msg).length) = l at hN3 hl
  have w2 := u1.trans u2
  have f2 : Fresh h [a] := (Fresh.one na).of u1
  have w3 := w2.fresh u3 f2
  have f3 := f2.grow w2 k3
  refine List_ok hN3 hl fun v4 h4 F4 hO4 u4 k4 => ?_
  have hN4 := hN3.ext u4
  have w4 := w3.trans u4
  by_cases hj : (0 ≤ j ∧ j < l.length) ∧ (0 ≤ t ∧ t < l.length)
  · obtain ⟨n, rfl⟩ := Int.eq_ofNat_of_zero_le hj.1.1
    obtain ⟨o, rfl⟩ := Int.eq_ofNat_of_zero_le hj.2.1
    have hn : n < l.length := by omega
    have ho : o < l.length := by omega
    obtain ⟨m, hm⟩ : ∃ m, l[n]? = some m := ⟨_, List.getElem?_eq_getElem hn⟩
    refine Move_yes hN4 hl hm ho fun h5 hN5 u5 => ?_
    have w5 := w4.fresh u5 f3
    have hO5 := hO4.upd u5 (fun b hb hf => hN3.known b hf (k4 b hb))
    have e1 : ((0 : Int) == 0) = true := rfl
    simp only [e1, popO_some, bindH_eq, condV_bool, condV_true, condV_false, yV_bool, gopV_tt, gopV_ff, gopV_tf, gopV_ft, pickV_t, pickV_f, pickV_bool, nilS_ptr, add_eq, sub_eq, mul_eq, lss_eq, leq_eq, gtr_eq, geq_eq, not_eq, minI_eq, maxI_eq, extract_0, extract_1, extract_2, eqlI, neqI, makeFunc_eq, decide_true, decide_false, if_true, if_false, Bool.false_eq_true, Bool.not_true, Bool.not_false, reduceIte, List.getElem?_toArray, List.getElem?_cons_zero, List.getElem?_cons_succ, Option.isSome_none, List.length_map]
    have hlen := mv_len l m hn ho
    refine List_ok hN5 (by omega) fun v6 h6 F6 hO6 u6 k6 => ?_
    have hO7 := hO5.ext u6
    have e2 : (if (o : Int) < (n : Int) then (o : Int) else (n : Int)) = ((min n o : Nat) : Int) := by split <;> omega
    have e3 : (if (n : Int) < (o : Int) then (o : Int) else (n : Int)) = ((max n o : Nat) : Int) := by split <;> omega
    have e4 : (((min n o : Nat) : Int) < 0) = False := by apply eq_false; omega
    have e5 : ((l.length : Int) ≤ ((max n o : Nat) : Int)) = False := by simp; omega
    have e6 : (((l.length : Nat) : Int) != ((l.length : Nat) : Int)) = false := by simp
    have e7 : IntKind.i64.wrap (((max n o : Nat) : Int) + 1) = ((max n o + 1 : Nat) : Int) := by rw [i64_wrap (by omega) (by omega)]; omega
    obtain ⟨x1, c1, d1, -⟩ := hO6.slR.cut T_sl_api_Message.und T_api_Message.info T_api_Message.size (lo := none) (.inl ⟨rfl, rfl⟩) (.inr ⟨.i64, rfl⟩) (Nat.zero_le _) (show min n o ≤ _ by simp [hlen]; omega)
    obtain ⟨x2, c2, d2, -⟩ := hO7.slR.cut T_sl_api_Message.und T_api_Message.info T_api_Message.size (lo := none) (.inl ⟨rfl, rfl⟩) (.inr ⟨.i64, rfl⟩) (Nat.zero_le _) (show min n o ≤ _ by simp; omega)
    obtain ⟨x3, c3, d3, -⟩ := hO6.slR.cut T_sl_api_Message.und T_api_Message.info T_api_Message.size (hi := none) (.inr ⟨.i64, rfl⟩) (.inl ⟨rfl, rfl⟩) (show max n o + 1 ≤ _ by simp [hlen]; omega) (Nat.le_refl _)
    obtain ⟨x4, c4, d4, -⟩ := hO7.slR.cut T_sl_api_Message.und T_api_Message.info T_api_Message.size (hi := none) (.inr ⟨.i64, rfl⟩) (.inl ⟨rfl, rfl⟩) (show max n o + 1 ≤ _ by simp; omega) (Nat.le_refl _)
    simp only [e2, e3, e4, e5, hO6.slR.len T_sl_api_Message.und, hO7.slR.len T_sl_api_Message.und, hlen, e6, e7, c1, c2, popO_some, bindH_eq, condV_bool, condV_true, condV_false, yV_bool, gopV_tt, gopV_ff, gopV_tf, gopV_ft, pickV_t, pickV_f, pickV_bool, nilS_ptr, add_eq, sub_eq, mul_eq, lss_eq, leq_eq, gtr_eq, geq_eq, not_eq, minI_eq, maxI_eq, extract_0, extract_1, extract_2, eqlI, neqI, makeFunc_eq, decide_true, decide_false, if_true, if_false, Bool.false_eq_true, Bool.not_true, Bool.not_false, reduceIte, List.getElem?_toArray, List.getElem?_cons_zero, List.getElem?_cons_succ, Option.isSome_none, List.length_map]
    rw [List.drop_zero, ← List.map_take] at d1 d2
    refine Same_yes d1 d2 (mv_take l m hn ho (Nat.min_le_left _ _) (Nat.min_le_right _ _)) ?_
    simp only [e7, c3, c4, popO_some, bindH_eq, condV_bool, condV_true, condV_false, yV_bool, gopV_tt, gopV_ff, gopV_tf, gopV_ft, pickV_t, pickV_f, pickV_bool, nilS_ptr, add_eq, sub_eq, mul_eq, lss_eq, leq_eq, gtr_eq, geq_eq, not_eq, minI_eq, maxI_eq, extract_0, extract_1, extract_2, eqlI, neqI, makeFunc_eq, decide_true, decide_false, if_true, if_false, Bool.false_eq_true, Bool.not_true, Bool.not_false, reduceIte, List.getElem?_toArray, List.getElem?_cons_zero, List.getElem?_cons_succ, Option.isSome_none, List.length_map]
    rw [List.take_of_length_le (Nat.le_refl _), ← List.map_drop] at d3 d4
    refine Same_yes d3 d4 (mv_drop l m hn ho (by omega) (by omega)) ?_
    obtain ⟨p, p1, p2⟩ := hO6.slR.msg (k := .i64) (j := (o : Int)) (m := m) (by omega) (by simpa using mv_at l m hn ho)
    obtain ⟨q, q1, q2⟩ := hO7.slR.msg (k := .i64) (j := (n : Int)) (m := m) (by omega) (by simpa using hm)
    simp only [p1, p2, q1, q2, Msg.neq, popO_some, bindH_eq, condV_bool, condV_true, condV_false, yV_bool, gopV_tt, gopV_ff, gopV_tf, gopV_ft, pickV_t, pickV_f, pickV_bool, nilS_ptr, add_eq, sub_eq, mul_eq, lss_eq, leq_eq, gtr_eq, geq_eq, not_eq, minI_eq, maxI_eq, extract_0, extract_1, extract_2, eqlI, neqI, makeFunc_eq, decide_true, decide_false, if_true, if_false, Bool.false_eq_true, Bool.not_true, Bool.not_false, reduceIte, List.getElem?_toArray, List.getElem?_cons_zero, List.getElem?_cons_succ, Option.isSome_none, List.length_map]
    exact NetMoves_k131_ok (hN5.ext u6) (by omega) _ fun h8 u8 => hk _ ((w5.trans u6).fresh u8 f3)
  · refine Move_no hN4 j t hj ?_
    have e1 : ((3 : Int) == 0) = false := rfl
    simp only [e1, popO_some, bindH_eq, condV_bool, condV_true, condV_false, yV_bool, gopV_tt, gopV_ff, gopV_tf, gopV_ft, pickV_t, pickV_f, pickV_bool, nilS_ptr, add_eq, sub_eq, mul_eq, lss_eq, leq_eq, gtr_eq, geq_eq, not_eq, minI_eq, maxI_eq, extract_0, extract_1, extract_2, eqlI, neqI, makeFunc_eq, decide_true, decide_false, if_true, if_false, Bool.false_eq_true, Bool.not_true, Bool.not_false, reduceIte, List.getElem?_toArray, List.getElem?_cons_zero, List.getElem?_cons_succ, Option.isSome_none, List.length_map]
    refine List_ok hN4 hl fun v6 h6 F6 hO6 u6 k6 => ?_
    refine Same_yes hO6.slR (hO4.slR.ext u6) rfl ?_
    simp only [popO_some, bindH_eq, condV_bool, condV_true, condV_false, yV_bool, gopV_tt, gopV_ff, gopV_tf, gopV_ft, pickV_t, pickV_f, pickV_bool, nilS_ptr, add_eq, sub_eq, mul_eq, lss_eq, leq_eq, gtr_eq, geq_eq, not_eq, minI_eq, maxI_eq, extract_0, extract_1, extract_2, eqlI, neqI, makeFunc_eq, decide_true, decide_false, if_true, if_false, Bool.false_eq_true, Bool.not_true, Bool.not_false, reduceIte, List.getElem?_toArray, List.getElem?_cons_zero, List.getElem?_cons_succ, Option.isSome_none, List.length_map]
    exact NetMoves_k131_ok (hN4.ext u6) hl _ fun h8 u8 => hk _ ((w4.trans u6).fresh u8 f3)
end Go.Proofs.Ytbloalappckjhaa
