/- script: the law's look at entries. -/
import Derived.Test.YtflgnfiebgcegaaScrS
set_option linter.unusedSimpArgs false
set_option linter.unusedVariables false
namespace Go.Proofs.Ytflgnfiebgcegaa
open Go
set_option maxRecDepth 20000
/-- Every entry's writes can be read. -/
def EnS (h : PH) (l : List EnV) : Prop := ∀ p ∈ l, SlR h 2 p.2 (p.1.act.writes.map Wr.cells)
theorem EnS.ext {h h' : PH} {l : List EnV} (H : EnS h l) (u : Ext h h') : EnS h' l := fun p hp => (H p hp).ext u
theorem EW.ws {h : PH} {F : List Nat} {l : List EnV} (H : EW h F l) : EnS h l := fun p hp => by
  obtain ⟨Fv, hO, _⟩ := H p hp; exact hO.slR
theorem SlR.ent {h : PH} {x : Value} {l : List EnV} {t e : TypeId} {i : TypeInfo} (H : SlR h 15 x (l.map erow)) (hu : PG.underlying t = some (.slice e)) (hi : PG.info? e = some i) (hn : i.size = 15) {k : IntKind} {j : Nat} {p : EnV} (hp : l[j]? = some p) :
    ∃ b o, SemP PG (Instr.indexAt t x (.int k j)) = some (.pointer (some ⟨b, o, none⟩)) ∧ SemE PG h (Instr.loadAt T_api_Act (.pointer (some ⟨b, o, none⟩))) = some (.agg (p.1.act.cells p.2).toArray) ∧ cellH h ⟨b, o + 14, none⟩ = some (.int .i64 p.1.err) ∧ cellH h ⟨b, o, none⟩ = some (.int .i64 p.1.act.kind) := by
  have hr : (l.map erow)[(j : Int).toNat]? = some (erow p) := by rw [List.getElem?_map, Int.toNat_natCast, hp]; rfl
  obtain ⟨b, o, cs, e', fr, h1, hb, hle, hex⟩ := H.at hu hi hn (k := k) (j := (j : Int)) (by omega) hr
  have hcell : ∀ q c, q < 15 → (erow p)[q]? = some c → cellH h ⟨b, o + q, none⟩ = some c := fun q c hlt hq => by
    unfold cellH
    simp only [hb]
    rw [← hex] at hq
    simp only [Array.toList_extract, List.extract_eq_take_drop, Nat.add_sub_cancel_left, List.getElem?_take, List.getElem?_drop, hlt, if_true] at hq
    simpa using hq
  refine ⟨b, o, h1, ?_, hcell 14 _ (by decide) rfl, hcell 0 _ (by decide) rfl⟩
  rw [loadAt_agg T_api_Act.und rfl T_api_Act.info T_api_Act.size hb (by omega)]
  congr 2
  apply Array.ext'
  have : (erow p).take 14 = p.1.act.cells p.2 := rfl
  rw [← this, ← hex]
  simp only [Array.toList_extract, List.extract_eq_take_drop, Nat.add_sub_cancel_left, List.take_take]
  rfl
set_option maxHeartbeats 1000000 in
theorem entries_ok {h : PH} {x y : Value} {l m : List EnV} (hx : SlR h 15 x (l.map erow)) (hy : SlR h 15 y (m.map erow)) (wl : EnS h l) (wm : EnS h m) {k : Value → PH → Prop} (hk : ∀ h', Ext h h' → k (.bool (decide (l.map Prod.fst = m.map Prod.fst))) h') :
    CallsH PG id_carracklaw23_entries #[x, y] h k := by
  have lx := hx.len (t' := T_int) T_sl_script_Entry.und
  have ly := hy.len (t' := T_int) T_sl_carrackref23_Entry.und
  have small := hx.small
  rw [List.length_map] at lx ly small
  apply carracklaw23_entries.call
  unfold carracklaw23_entries
  simp only [lx, ly, popO_some, bindH_eq, condV_bool, condV_true, condV_false, yV_bool, gopV_tt, gopV_ff, gopV_tf, gopV_ft, pickV_t, pickV_f, pickV_bool, nilS_ptr, add_eq, sub_eq, mul_eq, lss_eq, leq_eq, gtr_eq, geq_eq, not_eq, minI_eq, maxI_eq, extract_0, extract_1, extract_2, eqlI, neqI, makeFunc_eq, decide_true, decide_false, if_true, if_false, Bool.false_eq_true, Bool.not_true, Bool.not_false, reduceIte, List.getElem?_toArray, List.getElem?_cons_zero, List.getElem?_cons_succ, Option.isSome_none, List.length_map]
  by_cases hl : l.length = m.length
  · have q : (((l.length : Nat) : Int) != ((m.length : Nat) : Int)) = false := by simp [hl]
    simp only [q, popO_some, bindH_eq, condV_bool, condV_true, condV_false, yV_bool, gopV_tt, gopV_ff, gopV_tf, gopV_ft, pickV_t, pickV_f, pickV_bool, nilS_ptr, add_eq, sub_eq, mul_eq, lss_eq, leq_eq, gtr_eq, geq_eq, not_eq, minI_eq, maxI_eq, extract_0, extract_1, extract_2, eqlI, neqI, makeFunc_eq, decide_true, decide_false, if_true, if_false, Bool.false_eq_true, Bool.not_true, Bool.not_false, reduceIte, List.getElem?_toArray, List.getElem?_cons_zero, List.getElem?_cons_succ, Option.isSome_none, List.length_map]
    refine ⟨fun vs h' => Ext h h' ∧ ∃ i : Nat, i ≤ l.length ∧ vs = [x, y, .int .i64 i] ∧ (l.map Prod.fst).take i = (m.map Prod.fst).take i, upTo l.length 2, ⟨Upd.refl, 0, by omega, rfl, rfl⟩, ?_⟩
    rintro ρ h' ⟨w, i, hi, hvs, ht⟩
    simp only [List.map_cons, List.map_nil, List.cons.injEq, and_true] at hvs
    obtain ⟨e0, e1, e5⟩ := hvs
    simp only [e0, e1, e5]
    unfold carracklaw23_entries_b5
    by_cases hlt : i < l.length
    · have hd : ((i : Int) < (l.length : Int)) = True := by apply eq_true; omega
      obtain ⟨p, hp⟩ : ∃ p, l[i]? = some p := ⟨_, List.getElem?_eq_getElem hlt⟩
      obtain ⟨p', hp'⟩ : ∃ p, m[i]? = some p := ⟨_, List.getElem?_eq_getElem (by omega)⟩
      obtain ⟨b, o, a1, a2, a3, -⟩ := (hx.ext w).ent T_sl_script_Entry.und T_script_Entry.info T_script_Entry.size (k := .i64) hp
      obtain ⟨b', o', b1, b2, b3, -⟩ := (hy.ext w).ent T_sl_carrackref23_Entry.und T_carrackref23_Entry.info T_carrackref23_Entry.size (k := .i64) hp'
      simp only [lx, hd, a1, b1, T_script_Entry.f0, T_carrackref23_Entry.f0, a2, b2, popO_some, bindH_eq, condV_bool, condV_true, condV_false, yV_bool, gopV_tt, gopV_ff, gopV_tf, gopV_ft, pickV_t, pickV_f, pickV_bool, nilS_ptr, add_eq, sub_eq, mul_eq, lss_eq, leq_eq, gtr_eq, geq_eq, not_eq, minI_eq, maxI_eq, extract_0, extract_1, extract_2, eqlI, neqI, makeFunc_eq, decide_true, decide_false, if_true, if_false, Bool.false_eq_true, Bool.not_true, Bool.not_false, reduceIte, List.getElem?_toArray, List.getElem?_cons_zero, List.getElem?_cons_succ, Option.isSome_none, List.length_map]
      refine Same_ok ((wl.ext w) p (List.mem_of_getElem? hp)) ((wm.ext w) p' (List.mem_of_getElem? hp')) fun h2 u2 => ?_
      obtain ⟨b, o, a1, a2, a3, -⟩ := (hx.ext (w.trans u2)).ent T_sl_script_Entry.und T_script_Entry.info T_script_Entry.size (k := .i64) hp
      obtain ⟨b', o', b1, b2, b3, -⟩ := (hy.ext (w.trans u2)).ent T_sl_carrackref23_Entry.und T_carrackref23_Entry.info T_carrackref23_Entry.size (k := .i64) hp'
      have no : p.1 ≠ p'.1 → decide (l.map Prod.fst = m.map Prod.fst) = false := fun hne => by
        apply decide_eq_false; intro e
        have h1 : (l.map Prod.fst)[i]? = some p.1 := by rw [List.getElem?_map, hp]; rfl
        rw [e, List.getElem?_map, hp'] at h1
        exact hne (Option.some.inj h1).symm
      have hkF : p.1 ≠ p'.1 → k (.bool false) h2 := fun hne => by
        have := hk h2 (w.trans u2); rwa [no hne] at this
      by_cases ea : p.1.act = p'.1.act
      · have q : decide (p.1.act = p'.1.act) = true := by simp [ea]
        simp only [q, a1, b1, T_script_Entry.f1, T_carrackref23_Entry.f1, T_api_Errno.load, T_int.load, a3, b3, popO_some, bindH_eq, condV_bool, condV_true, condV_false, yV_bool, gopV_tt, gopV_ff, gopV_tf, gopV_ft, pickV_t, pickV_f, pickV_bool, nilS_ptr, add_eq, sub_eq, mul_eq, lss_eq, leq_eq, gtr_eq, geq_eq, not_eq, minI_eq, maxI_eq, extract_0, extract_1, extract_2, eqlI, neqI, makeFunc_eq, decide_true, decide_false, if_true, if_false, Bool.false_eq_true, Bool.not_true, Bool.not_false, reduceIte, List.getElem?_toArray, List.getElem?_cons_zero, List.getElem?_cons_succ, Option.isSome_none, List.length_map]
        by_cases ee : p.1.err = p'.1.err
        · have q2 : (p.1.err != p'.1.err) = false := by simp [ee]
          unfold maxL at small
          have ei : IntKind.i64.wrap ((i : Int) + 1) = ((i + 1 : Nat) : Int) := by rw [i64_wrap (by omega) (by omega)]; omega
          simp only [q2, ei, popO_some, bindH_eq, condV_bool, condV_true, condV_false, yV_bool, gopV_tt, gopV_ff, gopV_tf, gopV_ft, pickV_t, pickV_f, pickV_bool, nilS_ptr, add_eq, sub_eq, mul_eq, lss_eq, leq_eq, gtr_eq, geq_eq, not_eq, minI_eq, maxI_eq, extract_0, extract_1, extract_2, eqlI, neqI, makeFunc_eq, decide_true, decide_false, if_true, if_false, Bool.false_eq_true, Bool.not_true, Bool.not_false, reduceIte, List.getElem?_toArray, List.getElem?_cons_zero, List.getElem?_cons_succ, Option.isSome_none, List.length_map]
          refine ⟨⟨w.trans u2, i + 1, by omega, rfl, ?_⟩, by simp [upTo, e5]; omega⟩
          have : p.1 = p'.1 := by
            obtain ⟨⟨pa, pe⟩, pv⟩ := p
            obtain ⟨⟨pa', pe'⟩, pv'⟩ := p'
            simp only at ea ee ⊢
            rw [ea, ee]
          rw [List.take_add_one, List.take_add_one, ht, List.getElem?_map, List.getElem?_map, hp, hp', Option.map_some, Option.map_some, this]
        · have q2 : (p.1.err != p'.1.err) = true := by simp [ee]
          simp only [q2, popO_some, bindH_eq, condV_bool, condV_true, condV_false, yV_bool, gopV_tt, gopV_ff, gopV_tf, gopV_ft, pickV_t, pickV_f, pickV_bool, nilS_ptr, add_eq, sub_eq, mul_eq, lss_eq, leq_eq, gtr_eq, geq_eq, not_eq, minI_eq, maxI_eq, extract_0, extract_1, extract_2, eqlI, neqI, makeFunc_eq, decide_true, decide_false, if_true, if_false, Bool.false_eq_true, Bool.not_true, Bool.not_false, reduceIte, List.getElem?_toArray, List.getElem?_cons_zero, List.getElem?_cons_succ, Option.isSome_none, List.length_map]
          exact hkF (fun e => ee (by rw [e]))
      · have q : decide (p.1.act = p'.1.act) = false := by simp [ea]
        simp only [q, popO_some, bindH_eq, condV_bool, condV_true, condV_false, yV_bool, gopV_tt, gopV_ff, gopV_tf, gopV_ft, pickV_t, pickV_f, pickV_bool, nilS_ptr, add_eq, sub_eq, mul_eq, lss_eq, leq_eq, gtr_eq, geq_eq, not_eq, minI_eq, maxI_eq, extract_0, extract_1, extract_2, eqlI, neqI, makeFunc_eq, decide_true, decide_false, if_true, if_false, Bool.false_eq_true, Bool.not_true, Bool.not_false, reduceIte, List.getElem?_toArray, List.getElem?_cons_zero, List.getElem?_cons_succ, Option.isSome_none, List.length_map]
        exact hkF (fun e => ea (by rw [e]))
    · have hd : ((i : Int) < (l.length : Int)) = False := by apply eq_false; omega
      rw [List.take_of_length_le (by simp; omega), List.take_of_length_le (by simp; omega)] at ht
      simp only [lx, hd, popO_some, bindH_eq, condV_bool, condV_true, condV_false, yV_bool, gopV_tt, gopV_ff, gopV_tf, gopV_ft, pickV_t, pickV_f, pickV_bool, nilS_ptr, add_eq, sub_eq, mul_eq, lss_eq, leq_eq, gtr_eq, geq_eq, not_eq, minI_eq, maxI_eq, extract_0, extract_1, extract_2, eqlI, neqI, makeFunc_eq, decide_true, decide_false, if_true, if_false, Bool.false_eq_true, Bool.not_true, Bool.not_false, reduceIte, List.getElem?_toArray, List.getElem?_cons_zero, List.getElem?_cons_succ, Option.isSome_none, List.length_map]
      have := hk h' w
      rwa [decide_eq_true ht] at this
  · have q : (((l.length : Nat) : Int) != ((m.length : Nat) : Int)) = true := by simp; omega
    have : decide (l.map Prod.fst = m.map Prod.fst) = false := by
      apply decide_eq_false; intro e
      have := congrArg List.length e
      simp at this; exact hl this
    have hk := hk h Upd.refl
    rw [this] at hk
    simp only [q, popO_some, bindH_eq, condV_bool, condV_true, condV_false, yV_bool, gopV_tt, gopV_ff, gopV_tf, gopV_ft, pickV_t, pickV_f, pickV_bool, nilS_ptr, add_eq, sub_eq, mul_eq, lss_eq, leq_eq, gtr_eq, geq_eq, not_eq, minI_eq, maxI_eq, extract_0, extract_1, extract_2, eqlI, neqI, makeFunc_eq, decide_true, decide_false, if_true, if_false, Bool.false_eq_true, Bool.not_true, Bool.not_false, reduceIte, List.getElem?_toArray, List.getElem?_cons_zero, List.getElem?_cons_succ, Option.isSome_none, List.length_map]
    exact hk
end Go.Proofs.Ytflgnfiebgcegaa
