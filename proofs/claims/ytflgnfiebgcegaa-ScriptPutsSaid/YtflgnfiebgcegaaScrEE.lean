/- script: Entries tells the entries that bytes have. -/
import Derived.Test.YtflgnfiebgcegaaScrE
set_option linter.unusedSimpArgs false
set_option linter.unusedVariables false
namespace Go.Proofs.Ytflgnfiebgcegaa
open Go
set_option maxRecDepth 20000
def strTo (i : Nat) : List Value → PH → Nat := fun vs _ => match vs[i]? with
  | some (Value.string b) => b.size
  | _ => 0
theorem ABox.kind {h : PH} {r : Nat} {A : Act} {v : Value} (H : ABox h r A v) : cellH h ⟨r, 0, none⟩ = some (.int .i64 A.kind) := by
  simp [cellH, H.here, Act.cells]
theorem index_head {b : UInt8} {s : List UInt8} : SemP PG (Instr.index T_string (.string (tx (b :: s))) (.int .i64 0)) = some (.int .u8 b.toNat) :=
  index_tx (P := PG) (t := T_string) (l := b :: s) (k := .i64) (j := 0) (b := b) T_string.und rfl
theorem cut_cons {b : UInt8} {s : List UInt8} : SemP PG (Instr.sliceAt T_string (.string (tx (b :: s))) (some (.int .i64 1)) none none) = some (.string (tx s)) := by
  have := cut_tx (P := PG) (t := T_string) (l := b :: s) (i := 1) (j := (b :: s).length) (lo := some (.int .i64 1)) (hi := none) T_string.und (.inr ⟨.i64, rfl⟩) (.inl ⟨rfl, rfl⟩) (by simp) (by simp)
  simpa using this
theorem cut_drop {s : List UInt8} {n : Nat} (hn : n ≤ s.length) : SemP PG (Instr.sliceAt T_string (.string (tx s)) (some (.int .i64 n)) none none) = some (.string (tx (s.drop n))) := by
  have := cut_tx (P := PG) (t := T_string) (l := s) (i := n) (j := s.length) (lo := some (.int .i64 n)) (hi := none) T_string.und (.inr ⟨.i64, rfl⟩) (.inl ⟨rfl, rfl⟩) hn (by simp)
  simpa using this
set_option maxHeartbeats 1000000 in
theorem Entries_ok {h : PH} (s : List UInt8) (hs : s.length ≤ 100000000) {k : Value → PH → Prop} (hk : ∀ v h' F ps, OwnR h' T_script_Entry 15 v (ps.map erow) F → EW h' F ps → ps.map Prod.fst = entL s → Ext h h' → Fresh h F → k v h') : CallsH PG id_script_Entries #[.string (tx s)] h k := by
  apply script_Entries.call
  unfold script_Entries
  refine ⟨fun vs h' => ∃ (rest : List UInt8) (v : Value) (F : List Nat) (ps : List EnV), vs = [.string (tx rest), v] ∧ OwnR h' T_script_Entry 15 v (ps.map erow) F ∧ EW h' F ps ∧ Ext h h' ∧ Fresh h F ∧ ps.map Prod.fst ++ entL rest = entL s ∧ rest.length + ps.length ≤ s.length, strTo 0, ⟨s, _, [], [], rfl, OwnR.nil, (fun p hp => by cases hp), Upd.refl, (fun b hb => by cases hb), by simp, by simp⟩, ?_⟩
  rintro ρ h' ⟨rest, v, F, ps, hvs, hO, hE, w, f, hps, hle⟩
  simp only [List.map_cons, List.map_nil, List.cons.injEq, and_true] at hvs
  obtain ⟨e0, e3⟩ := hvs
  simp only [e0, e3]
  unfold script_Entries_b2
  have nz : Fresh h' [] := fun b hb => by cases hb
  cases rest with
  | nil =>
    rw [entL_nil, List.append_nil] at hps
    have hd : ((0 : Int) < ((([] : List UInt8).length : Nat) : Int)) = False := by simp
    simp only [T_string.len, tx_size, hd, popO_some, bindH_eq, condV_bool, condV_true, condV_false, yV_bool, gopV_tt, gopV_ff, gopV_tf, gopV_ft, pickV_t, pickV_f, pickV_bool, nilS_ptr, add_eq, sub_eq, mul_eq, lss_eq, leq_eq, gtr_eq, geq_eq, not_eq, minI_eq, maxI_eq, extract_0, extract_1, extract_2, eqlI, neqI, makeFunc_eq, decide_true, decide_false, if_true, if_false, Bool.false_eq_true, Bool.not_true, Bool.not_false, reduceIte, List.getElem?_toArray, List.getElem?_cons_zero, List.getElem?_cons_succ, Option.isSome_none, List.length_map]
    exact hk v h' F ps hO hE hps w f
  | cons b rest =>
    rw [entL_cons] at hps
    simp only [List.length_cons] at hle
    have hd : ((0 : Int) < (((b :: rest).length : Nat) : Int)) = True := by simp
    have ec : SemP PG (convert T_uint8 T_int (.int .u8 b.toNat)) = some (.int .i64 b.toNat) := by
      have hb := b.toNat_lt
      rw [conv_8i, i64_wrap (by omega) (by omega)]
    simp only [T_string.len, tx_size, hd, popO_some, bindH_eq, condV_bool, condV_true, condV_false, yV_bool, gopV_tt, gopV_ff, gopV_tf, gopV_ft, pickV_t, pickV_f, pickV_bool, nilS_ptr, add_eq, sub_eq, mul_eq, lss_eq, leq_eq, gtr_eq, geq_eq, not_eq, minI_eq, maxI_eq, extract_0, extract_1, extract_2, eqlI, neqI, makeFunc_eq, decide_true, decide_false, if_true, if_false, Bool.false_eq_true, Bool.not_true, Bool.not_false, reduceIte, List.getElem?_toArray, List.getElem?_cons_zero, List.getElem?_cons_succ, Option.isSome_none, List.length_map]
    simp only [index_head, ec, act_build, popO_some, bindH_eq, condV_bool, condV_true, condV_false, yV_bool, gopV_tt, gopV_ff, gopV_tf, gopV_ft, pickV_t, pickV_f, pickV_bool, nilS_ptr, add_eq, sub_eq, mul_eq, lss_eq, leq_eq, gtr_eq, geq_eq, not_eq, minI_eq, maxI_eq, extract_0, extract_1, extract_2, eqlI, neqI, makeFunc_eq, decide_true, decide_false, if_true, if_false, Bool.false_eq_true, Bool.not_true, Bool.not_false, reduceIte, List.getElem?_toArray, List.getElem?_cons_zero, List.getElem?_cons_succ, Option.isSome_none, List.length_map]
    intro r8 hr8
    refine put_act hr8 (Act.zero b.toNat) (v := .slice none 0 0) rfl fun h1 hB1 u1 => ?_
    simp only [T_api_Act.f0, Nat.zero_add, T_int.load, hB1.kind, Act.zero, popO_some, bindH_eq, condV_bool, condV_true, condV_false, yV_bool, gopV_tt, gopV_ff, gopV_tf, gopV_ft, pickV_t, pickV_f, pickV_bool, nilS_ptr, add_eq, sub_eq, mul_eq, lss_eq, leq_eq, gtr_eq, geq_eq, not_eq, minI_eq, maxI_eq, extract_0, extract_1, extract_2, eqlI, neqI, makeFunc_eq, decide_true, decide_false, if_true, if_false, Bool.false_eq_true, Bool.not_true, Bool.not_false, reduceIte, List.getElem?_toArray, List.getElem?_cons_zero, List.getElem?_cons_succ, Option.isSome_none, List.length_map]
    by_cases h9 : 9 ≤ b.toNat
    · have q : ((9 : Int) ≤ (b.toNat : Int)) = True := by apply eq_true; omega
      simp only [q, cut_cons, entE_build, entE_lit, popO_some, bindH_eq, condV_bool, condV_true, condV_false, yV_bool, gopV_tt, gopV_ff, gopV_tf, gopV_ft, pickV_t, pickV_f, pickV_bool, nilS_ptr, add_eq, sub_eq, mul_eq, lss_eq, leq_eq, gtr_eq, geq_eq, not_eq, minI_eq, maxI_eq, extract_0, extract_1, extract_2, eqlI, neqI, makeFunc_eq, decide_true, decide_false, if_true, if_false, Bool.false_eq_true, Bool.not_true, Bool.not_false, reduceIte, List.getElem?_toArray, List.getElem?_cons_zero, List.getElem?_cons_succ, Option.isSome_none, List.length_map]
      rw [if_pos h9] at hps
      intro r hr
      refine popO_pure ?_
      refine ent_app (hO.ext u1) (hE.ext u1) (by omega) (⟨Act.zero 0, 5⟩, .slice none 0 0) (Fv := []) OwnR.nil (by simp) (fun v2 h2 F2 hO2 hE2 u2 k2 => ?_) hr
      unfold script_Entries_k23
      refine ⟨⟨rest, v2, F2, _, rfl, hO2, hE2, (w.trans u1).fresh u2 f, f.grow (w.trans u1) k2, ?_, by simp; omega⟩, by simp [strTo, e0, tx_size]⟩
      rw [List.map_append, List.append_assoc]; exact hps
    · have q : ((9 : Int) ≤ (b.toNat : Int)) = False := by apply eq_false; omega
      rw [if_neg h9] at hps
      simp only [q, cut_cons, popO_some, bindH_eq, condV_bool, condV_true, condV_false, yV_bool, gopV_tt, gopV_ff, gopV_tf, gopV_ft, pickV_t, pickV_f, pickV_bool, nilS_ptr, add_eq, sub_eq, mul_eq, lss_eq, leq_eq, gtr_eq, geq_eq, not_eq, minI_eq, maxI_eq, extract_0, extract_1, extract_2, eqlI, neqI, makeFunc_eq, decide_true, decide_false, if_true, if_false, Bool.false_eq_true, Bool.not_true, Bool.not_false, reduceIte, List.getElem?_toArray, List.getElem?_cons_zero, List.getElem?_cons_succ, Option.isSome_none, List.length_map]
      refine NewReader_ok rest fun a h2 hR2 u2 ha2 => ?_
      have hne : r8 ≠ a := fun e => by subst e; rw [hB1.here] at ha2; cases ha2
      have hB2 := hB1.ext u2
      simp only [T_api_Act.f0, Nat.zero_add, T_int.load, hB2.kind, Act.zero, popO_some, bindH_eq, condV_bool, condV_true, condV_false, yV_bool, gopV_tt, gopV_ff, gopV_tf, gopV_ft, pickV_t, pickV_f, pickV_bool, nilS_ptr, add_eq, sub_eq, mul_eq, lss_eq, leq_eq, gtr_eq, geq_eq, not_eq, minI_eq, maxI_eq, extract_0, extract_1, extract_2, eqlI, neqI, makeFunc_eq, decide_true, decide_false, if_true, if_false, Bool.false_eq_true, Bool.not_true, Bool.not_false, reduceIte, List.getElem?_toArray, List.getElem?_cons_zero, List.getElem?_cons_succ, Option.isSome_none, List.length_map]
      refine forms_ok fun h3 u3 => ?_
      have hB3 := hB2.ext u3
      refine ⟨by simp only [T_int.load, hB3.kind, Act.zero], ?_⟩
      simp only [forms_at (show b.toNat < 9 by omega), form_get, popO_some, bindH_eq, condV_bool, condV_true, condV_false, yV_bool, gopV_tt, gopV_ff, gopV_tf, gopV_ft, pickV_t, pickV_f, pickV_bool, nilS_ptr, add_eq, sub_eq, mul_eq, lss_eq, leq_eq, gtr_eq, geq_eq, not_eq, minI_eq, maxI_eq, extract_0, extract_1, extract_2, eqlI, neqI, makeFunc_eq, decide_true, decide_false, if_true, if_false, Bool.false_eq_true, Bool.not_true, Bool.not_false, reduceIte, List.getElem?_toArray, List.getElem?_cons_zero, List.getElem?_cons_succ, Option.isSome_none, List.length_map]
      refine get_all (show b.toNat < 9 by omega) (hR2.ext u3) hB3 hne ?_
      intro h4 v4 F4 hR4 hB4 hO4 f4 u4
      have hfr : Fresh h' [a, r8] := fun x hx => by
        simp only [List.mem_cons, List.not_mem_nil, or_false] at hx
        rcases hx with rfl | rfl
        · exact u1.none ha2
        · exact hr8
      have w4 : Ext h' h4 := ((u1.trans u2).trans u3).fresh u4 hfr
      have f4' : Fresh h' F4 := f4.of ((u1.trans u2).trans u3)
      have hd4 : ∀ x ∈ F4, x ∉ F := fun x hx hx' => hO.known x hx' (f4' x hx)
      simp only [T_wire_Reader.f0, popO_some, bindH_eq, condV_bool, condV_true, condV_false, yV_bool, gopV_tt, gopV_ff, gopV_tf, gopV_ft, pickV_t, pickV_f, pickV_bool, nilS_ptr, add_eq, sub_eq, mul_eq, lss_eq, leq_eq, gtr_eq, geq_eq, not_eq, minI_eq, maxI_eq, extract_0, extract_1, extract_2, eqlI, neqI, makeFunc_eq, decide_true, decide_false, if_true, if_false, Bool.false_eq_true, Bool.not_true, Bool.not_false, reduceIte, List.getElem?_toArray, List.getElem?_cons_zero, List.getElem?_cons_succ, Option.isSome_none, List.length_map]
      refine WErr_ok hR4.here rfl ?_
      by_cases hz : (gAct b.toNat (0, rest)).2.1 = 0
      · have q2 : ((gAct b.toNat (0, rest)).2.1 != 0) = false := by simp [hz]
        rw [if_neg (by simp [hz])] at hps
        simp only [q2, hB4.load, entA_build, entA_lit, popO_some, bindH_eq, condV_bool, condV_true, condV_false, yV_bool, gopV_tt, gopV_ff, gopV_tf, gopV_ft, pickV_t, pickV_f, pickV_bool, nilS_ptr, add_eq, sub_eq, mul_eq, lss_eq, leq_eq, gtr_eq, geq_eq, not_eq, minI_eq, maxI_eq, extract_0, extract_1, extract_2, eqlI, neqI, makeFunc_eq, decide_true, decide_false, if_true, if_false, Bool.false_eq_true, Bool.not_true, Bool.not_false, reduceIte, List.getElem?_toArray, List.getElem?_cons_zero, List.getElem?_cons_succ, Option.isSome_none, List.length_map]
        intro r hr
        refine popO_pure ?_
        refine ent_app (hO.ext w4) (hE.ext w4) (by omega) (⟨(gAct b.toNat (0, rest)).1, 0⟩, v4) hO4 hd4 (fun v5 h5 F5 hO5 hE5 u5 k5 => ?_) hr
        have haF : a ∉ F := fun hm => absurd (hfr a (by simp)) (hO.known a hm)
        have hR5 := hR4.upd u5 haF
        have hsuf := gAct_suf b.toNat (0, rest)
        have hlen := hsuf.length_le
        simp only at hlen hsuf
        refine RLeft_ok hR5 ?_
        rw [if_pos hz]
        have es : IntKind.i64.wrap (((b :: rest).length : Int) - ((gAct b.toNat (0, rest)).2.2.length : Int)) = ((((b :: rest).length - (gAct b.toNat (0, rest)).2.2.length : Nat)) : Int) := by rw [i64_wrap (by simp only [List.length_cons]; omega) (by simp only [List.length_cons]; omega)]; simp only [List.length_cons]; omega
        have ed := suf_drop (hsuf.trans (List.suffix_cons b rest))
        simp only [es, cut_drop (s := b :: rest) (n := (b :: rest).length - (gAct b.toNat (0, rest)).2.2.length) (by omega), ed, popO_some, bindH_eq, condV_bool, condV_true, condV_false, yV_bool, gopV_tt, gopV_ff, gopV_tf, gopV_ft, pickV_t, pickV_f, pickV_bool, nilS_ptr, add_eq, sub_eq, mul_eq, lss_eq, leq_eq, gtr_eq, geq_eq, not_eq, minI_eq, maxI_eq, extract_0, extract_1, extract_2, eqlI, neqI, makeFunc_eq, decide_true, decide_false, if_true, if_false, Bool.false_eq_true, Bool.not_true, Bool.not_false, reduceIte, List.getElem?_toArray, List.getElem?_cons_zero, List.getElem?_cons_succ, Option.isSome_none, List.length_map]
        unfold script_Entries_k23
        refine ⟨⟨(gAct b.toNat (0, rest)).2.2, v5, F5, _, rfl, hO5, hE5, (w.trans w4).fresh u5 f, f.grow (w.trans w4) k5, ?_, by simp; omega⟩, by simp [strTo, e0, tx_size]; omega⟩
        rw [List.map_append, List.append_assoc]; exact hps
      · have q2 : ((gAct b.toNat (0, rest)).2.1 != 0) = true := by simp [hz]
        rw [if_pos (by simp [hz])] at hps
        simp only [q2, entE_build, entE_lit, popO_some, bindH_eq, condV_bool, condV_true, condV_false, yV_bool, gopV_tt, gopV_ff, gopV_tf, gopV_ft, pickV_t, pickV_f, pickV_bool, nilS_ptr, add_eq, sub_eq, mul_eq, lss_eq, leq_eq, gtr_eq, geq_eq, not_eq, minI_eq, maxI_eq, extract_0, extract_1, extract_2, eqlI, neqI, makeFunc_eq, decide_true, decide_false, if_true, if_false, Bool.false_eq_true, Bool.not_true, Bool.not_false, reduceIte, List.getElem?_toArray, List.getElem?_cons_zero, List.getElem?_cons_succ, Option.isSome_none, List.length_map]
        intro r hr
        refine popO_pure ?_
        refine ent_app (hO.ext w4) (hE.ext w4) (by omega) (⟨Act.zero 0, 6⟩, .slice none 0 0) (Fv := []) OwnR.nil (by simp) (fun v2 h2 F2 hO2 hE2 u2 k2 => ?_) hr
        refine hk v2 h2 F2 _ hO2 hE2 ?_ ((w.trans w4).fresh u2 f) (f.grow (w.trans w4) k2)
        rw [List.map_append]; exact hps
end Go.Proofs.Ytflgnfiebgcegaa
