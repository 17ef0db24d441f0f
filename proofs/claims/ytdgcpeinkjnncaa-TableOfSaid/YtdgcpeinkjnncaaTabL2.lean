/- TableLives. -/
import Derived.Test.YtdgcpeinkjnncaaTabB
set_option maxRecDepth 40000
set_option linter.unusedSimpArgs false
set_option linter.unusedVariables false
namespace Go.Proofs.Ytdgcpeinkjnncaa
open Go

theorem ins_mem (L : List It) (i : It) : i ∈ insL L i := by unfold insL; simp
theorem ins_get {L : List It} (hs : Srt L) (i : It) : getL (insL L i) i.key = some i := getL_of (hs.ins i).nodup (ins_mem L i)
theorem del_del (L : List It) (k : Ky) : delL (delL L k) k = delL L k := by unfold delL; simp [List.filter_filter]
theorem del_ins {L : List It} (hs : Srt L) (i : It) : delL (insL L i) i.key = delL L i.key := by
  refine Srt.unique ((hs.ins i).del _) (hs.del _) ?_
  have h := (ins_perm L i).filter fun j => decide (j.key ≠ i.key)
  have e : (i :: delL L i.key).filter (fun j => decide (j.key ≠ i.key)) = delL L i.key := by
    simp only [List.filter_cons, ne_eq, not_true, decide_false, Bool.false_eq_true, if_false]
    exact del_del L i.key
  rw [e] at h
  exact h
theorem ins_ins {L : List It} (hs : Srt L) {i j : It} (hk : i.key = j.key) : insL (insL L i) j = insL L j := by
  refine Srt.unique ((hs.ins i).ins j) (hs.ins j) ?_
  refine (ins_perm _ j).trans (List.Perm.trans ?_ (ins_perm L j).symm)
  rw [← hk, del_ins hs i]
theorem get_del {L : List It} {k : Ky} : getL (delL L k) k = none := getL_none.2 fun x hx => by
  unfold delL at hx
  simpa using (List.mem_filter.1 hx).2
/-- Sent, then Received; or the other way round. -/
theorem two_app {L : List It} (hs : Srt L) {p : Pk} (hr : p.right = true) (hg : getL L p.key = none) (hl : L.length < 40) (tu : Bool) :
    appE L 40 ⟨if tu then 2 else 1, p⟩ = 0 ∧ appE (appL L 40 ⟨if tu then 2 else 1, p⟩) 40 ⟨if tu then 1 else 2, p⟩ = 0 ∧ appL (appL L 40 ⟨if tu then 2 else 1, p⟩) 40 ⟨if tu then 1 else 2, p⟩ = insL L ⟨p, 2⟩ := by
  have r1 : ¬ (⟨1, p⟩ : Nt).right = false := by unfold Nt.right; rw [hr]; simp
  have r2 : ¬ (⟨2, p⟩ : Nt).right = false := by unfold Nt.right; rw [hr]; simp
  have e1 : ∀ g, putE L 40 ⟨p, g⟩ = 0 := fun g => by unfold putE; rw [if_neg (fun hc => by have := hc.2; omega)]
  have e2 : ∀ g, putL L 40 ⟨p, g⟩ = insL L ⟨p, g⟩ := fun g => by unfold putL; rw [if_neg (fun hc => by have := hc.2; omega)]
  have n21 : ¬ (2 : Int) = 1 := by decide
  cases tu with
  | false =>
    have a1 : appL L 40 ⟨1, p⟩ = insL L ⟨p, 1⟩ := by unfold appL; rw [if_neg r1, if_pos rfl, hg]; exact e2 1
    have a2 : appE L 40 ⟨1, p⟩ = 0 := by unfold appE; rw [if_neg r1, if_pos rfl, hg]; exact e1 1
    have g1 : getL (insL L ⟨p, 1⟩) p.key = some ⟨p, 1⟩ := ins_get hs ⟨p, 1⟩
    have a3 : appE (insL L ⟨p, 1⟩) 40 ⟨2, p⟩ = 0 := by unfold appE; rw [if_neg r2, if_neg n21, if_pos rfl, g1]; rfl
    have a4 : appL (insL L ⟨p, 1⟩) 40 ⟨2, p⟩ = insL L ⟨p, 2⟩ := by
      unfold appL; rw [if_neg r2, if_neg n21, if_pos rfl, g1]; exact ins_ins hs rfl
    simp only [Bool.false_eq_true, if_false]
    rw [a1]; exact ⟨a2, a3, a4⟩
  | true =>
    have a1 : appL L 40 ⟨2, p⟩ = insL L ⟨p, 2⟩ := by unfold appL; rw [if_neg r2, if_neg n21, if_pos rfl, hg]; exact e2 2
    have a2 : appE L 40 ⟨2, p⟩ = 0 := by unfold appE; rw [if_neg r2, if_neg n21, if_pos rfl, hg]; exact e1 2
    have g1 : getL (insL L ⟨p, 2⟩) p.key = some ⟨p, 2⟩ := ins_get hs ⟨p, 2⟩
    have a3 : appE (insL L ⟨p, 2⟩) 40 ⟨1, p⟩ = 0 := by unfold appE; rw [if_neg r1, if_pos rfl, g1]; rfl
    have a4 : appL (insL L ⟨p, 2⟩) 40 ⟨1, p⟩ = insL L ⟨p, 2⟩ := by unfold appL; rw [if_neg r1, if_pos rfl, g1]; rfl
    simp only [if_true]
    rw [a1]; exact ⟨a2, a3, a4⟩
theorem end_app (L : List It) {p : Pk} (hr : p.right = true) (kd : Int) (hk : kd = 3 ∨ kd = 4) : appE L 40 ⟨kd, p⟩ = 0 ∧ appL L 40 ⟨kd, p⟩ = delL L p.key := by
  have r3 : ¬ (⟨kd, p⟩ : Nt).right = false := by unfold Nt.right; rw [hr]; rcases hk with rfl | rfl <;> simp
  have n1 : ¬ kd = 1 := by omega
  have n2 : ¬ kd = 2 := by omega
  exact ⟨by unfold appE; rw [if_neg r3, if_neg n1, if_neg n2], by unfold appL; rw [if_neg r3, if_neg n1, if_neg n2]⟩

def NB (h : PH) (r : Nat) (n : Nt) : Prop := h r = some (.cells n.cells.toArray T_api_Note (0, 0))
theorem NB.bx {h : PH} {r : Nat} {n : Nt} (H : NB h r n) : Bx h r n.cells := ⟨_, H⟩
theorem nt_build (kd : Int) (p : Pk) : SemP PG (Instr.build T_api_Note #[(0, .int .i64 kd), (1, .agg p.cells.toArray)]) = some (.agg (Nt.cells ⟨kd, p⟩).toArray) := by kernel_rfl

theorem k231_ok {h : PH} {a r : Nat} {L L' : List It} {F G : List Nat} {v12 : Value} {p : Pk} {kd : Int} (H : TAt h a L' 40 F) (hO : OwnR h T_api_Item 5 v12 (L.map It.cells) G) (dj : ∀ b ∈ G, b ∉ F) (hn : NB h r ⟨kd, p⟩) (hrF : r ∉ F) (hL : L.length ≤ 1000)
    (hr : p.right = true) (hkd : kd = 3 ∨ kd = 4) (hd : delL L' p.key = L) {k : Value → PH → Prop} (hk : ∀ h', Upd F h h' → k (.bool true) h') :
    carracklaw15_TableLives_k231 k (.pointer (some ⟨a, 0, none⟩)) v12 (.pointer (some ⟨r, 0, none⟩)) h := by
  unfold carracklaw15_TableLives_k231
  obtain ⟨e1, e2⟩ := end_app L' hr kd hkd
  obtain ⟨e3, e4⟩ := end_app L hr kd hkd
  have z : ((0 : Int) == 0) = true := by decide
  simp only [hn.bx.nt, popO_some, bindH_eq, condV_bool, condV_true, condV_false, yV_bool, gopV_tt, gopV_ff, gopV_tf, gopV_ft, pickV_t, pickV_f, pickV_bool, nilS_ptr, add_eq, sub_eq, mul_eq, lss_eq, leq_eq, gtr_eq, geq_eq, not_eq, minI_eq, maxI_eq, extract_0, extract_1, extract_2, eqlI, neqI, makeFunc_eq, decide_true, decide_false, if_true, if_false, Bool.false_eq_true, Bool.not_true, Bool.not_false, reduceIte, List.getElem?_toArray, List.getElem?_cons_zero, List.getElem?_cons_succ, Option.isSome_none, List.length_map]
  refine Apply_ok H ⟨kd, p⟩ fun h1 H1 u1 => ?_
  rw [e2, hd] at H1
  have n1 : NB h1 r ⟨kd, p⟩ := u1.get hn hrF
  simp only [e1, z, n1.bx.nt, popO_some, bindH_eq, condV_bool, condV_true, condV_false, yV_bool, gopV_tt, gopV_ff, gopV_tf, gopV_ft, pickV_t, pickV_f, pickV_bool, nilS_ptr, add_eq, sub_eq, mul_eq, lss_eq, leq_eq, gtr_eq, geq_eq, not_eq, minI_eq, maxI_eq, extract_0, extract_1, extract_2, eqlI, neqI, makeFunc_eq, decide_true, decide_false, if_true, if_false, Bool.false_eq_true, Bool.not_true, Bool.not_false, reduceIte, List.getElem?_toArray, List.getElem?_cons_zero, List.getElem?_cons_succ, Option.isSome_none, List.length_map]
  refine Apply_ok H1 ⟨kd, p⟩ fun h2 H2 u2 => ?_
  have hdd : delL L p.key = L := by rw [← hd, del_del]
  rw [e4, hdd] at H2
  simp only [e3, z, popO_some, bindH_eq, condV_bool, condV_true, condV_false, yV_bool, gopV_tt, gopV_ff, gopV_tf, gopV_ft, pickV_t, pickV_f, pickV_bool, nilS_ptr, add_eq, sub_eq, mul_eq, lss_eq, leq_eq, gtr_eq, geq_eq, not_eq, minI_eq, maxI_eq, extract_0, extract_1, extract_2, eqlI, neqI, makeFunc_eq, decide_true, decide_false, if_true, if_false, Bool.false_eq_true, Bool.not_true, Bool.not_false, reduceIte, List.getElem?_toArray, List.getElem?_cons_zero, List.getElem?_cons_succ, Option.isSome_none, List.length_map]
  refine Items_ok H2 (by omega) fun v3 h3 G3 hO3 f3 u3 => ?_
  try simp only [popO_some, bindH_eq, condV_bool, condV_true, condV_false, yV_bool, gopV_tt, gopV_ff, gopV_tf, gopV_ft, pickV_t, pickV_f, pickV_bool, nilS_ptr, add_eq, sub_eq, mul_eq, lss_eq, leq_eq, gtr_eq, geq_eq, not_eq, minI_eq, maxI_eq, extract_0, extract_1, extract_2, eqlI, neqI, makeFunc_eq, decide_true, decide_false, if_true, if_false, Bool.false_eq_true, Bool.not_true, Bool.not_false, reduceIte, List.getElem?_toArray, List.getElem?_cons_zero, List.getElem?_cons_succ, Option.isSome_none, List.length_map]
  refine Same_ok hO3.slR (((hO.upd u1 dj).upd u2 dj).ext u3).slR (by omega) ?_
  have e5 : decide (L = L) = true := by simp
  simp only [e5, popO_some, bindH_eq, condV_bool, condV_true, condV_false, yV_bool, gopV_tt, gopV_ff, gopV_tf, gopV_ft, pickV_t, pickV_f, pickV_bool, nilS_ptr, add_eq, sub_eq, mul_eq, lss_eq, leq_eq, gtr_eq, geq_eq, not_eq, minI_eq, maxI_eq, extract_0, extract_1, extract_2, eqlI, neqI, makeFunc_eq, decide_true, decide_false, if_true, if_false, Bool.false_eq_true, Bool.not_true, Bool.not_false, reduceIte, List.getElem?_toArray, List.getElem?_cons_zero, List.getElem?_cons_succ, Option.isSome_none, List.length_map]
  exact hk h3 (Upd.then (Upd.then u1 u2 fun b hb => .inl hb) (Ext.upd u3) fun b hb => .inl hb)

theorem it_build2 (p : Pk) : SemP PG (Instr.build T_api_Item #[(0, .agg p.cells.toArray), (1, (Value.int IntKind.i64 2))]) = some (It.val ⟨p, 2⟩) := it_build p 2
set_option maxHeartbeats 1000000 in
theorem k145_ok {h : PH} {a rp r1 r2 : Nat} {L : List It} {F G : List Nat} {v12 : Value} {p : Pk} {tu ti : Bool} (H : TAt h a L 40 F) (hO : OwnR h T_api_Item 5 v12 (L.map It.cells) G) (dj : ∀ b ∈ G, b ∉ F) (hp : Bx h rp p.cells) (hpF : rp ∉ F)
    (hn1 : NB h r1 ⟨if tu then 2 else 1, p⟩) (h1F : r1 ∉ F) (hn2 : NB h r2 ⟨if tu then 1 else 2, p⟩) (h2F : r2 ∉ F) (hr : p.right = true) (hg : getL L p.key = none) (hl : L.length < 40) {k : Value → PH → Prop} (hk : ∀ h', Upd F h h' → k (.bool true) h') :
    carracklaw15_TableLives_k145 k (.bool ti) (.pointer (some ⟨rp, 0, none⟩)) (.pointer (some ⟨a, 0, none⟩)) v12 (.pointer (some ⟨r1, 0, none⟩)) (.pointer (some ⟨r2, 0, none⟩)) h := by
  unfold carracklaw15_TableLives_k145
  have hs := H.srt
  obtain ⟨e1, e2, e3⟩ := two_app hs hr hg hl tu
  have z : ((0 : Int) != 0) = false := by decide
  simp only [hn1.bx.nt, popO_some, bindH_eq, condV_bool, condV_true, condV_false, yV_bool, gopV_tt, gopV_ff, gopV_tf, gopV_ft, pickV_t, pickV_f, pickV_bool, nilS_ptr, add_eq, sub_eq, mul_eq, lss_eq, leq_eq, gtr_eq, geq_eq, not_eq, minI_eq, maxI_eq, extract_0, extract_1, extract_2, eqlI, neqI, makeFunc_eq, decide_true, decide_false, if_true, if_false, Bool.false_eq_true, Bool.not_true, Bool.not_false, reduceIte, List.getElem?_toArray, List.getElem?_cons_zero, List.getElem?_cons_succ, Option.isSome_none, List.length_map]
  refine Apply_ok H _ fun h1 H1 u1 => ?_
  have n2 : NB h1 r2 _ := u1.get hn2 h2F
  simp only [e1, n2.bx.nt, popO_some, bindH_eq, condV_bool, condV_true, condV_false, yV_bool, gopV_tt, gopV_ff, gopV_tf, gopV_ft, pickV_t, pickV_f, pickV_bool, nilS_ptr, add_eq, sub_eq, mul_eq, lss_eq, leq_eq, gtr_eq, geq_eq, not_eq, minI_eq, maxI_eq, extract_0, extract_1, extract_2, eqlI, neqI, makeFunc_eq, decide_true, decide_false, if_true, if_false, Bool.false_eq_true, Bool.not_true, Bool.not_false, reduceIte, List.getElem?_toArray, List.getElem?_cons_zero, List.getElem?_cons_succ, Option.isSome_none, List.length_map]
  refine Apply_ok H1 _ fun h2 H2 u2 => ?_
  rw [e3] at H2
  have U2 : Upd F h h2 := Upd.then u1 u2 fun b hb => .inl hb
  have p2 := hp.upd U2 hpF
  have c0 : cellH h2 ⟨rp, 0, none⟩ = some (.int .i64 p.f) := p2.cell 0
  have c1 : cellH h2 ⟨rp, 0 + 1, none⟩ = some (.int .u64 p.s) := p2.cell 1
  simp only [e2, T_api_Packet.f0, T_api_Packet.f1, T_int.load, T_uint64.load, c0, c1, popO_some, bindH_eq, condV_bool, condV_true, condV_false, yV_bool, gopV_tt, gopV_ff, gopV_tf, gopV_ft, pickV_t, pickV_f, pickV_bool, nilS_ptr, add_eq, sub_eq, mul_eq, lss_eq, leq_eq, gtr_eq, geq_eq, not_eq, minI_eq, maxI_eq, extract_0, extract_1, extract_2, eqlI, neqI, makeFunc_eq, decide_true, decide_false, if_true, if_false, Bool.false_eq_true, Bool.not_true, Bool.not_false, reduceIte, List.getElem?_toArray, List.getElem?_cons_zero, List.getElem?_cons_succ, Option.isSome_none, List.length_map]
  refine Get_ok H2 p.key fun h3 u3 => ?_
  have hget : getL (insL L ⟨p, 2⟩) p.key = some ⟨p, 2⟩ := ins_get hs ⟨p, 2⟩
  rw [hget]
  simp only [Option.getD_some, Option.isSome_some, popO_some, bindH_eq, condV_bool, condV_true, condV_false, yV_bool, gopV_tt, gopV_ff, gopV_tf, gopV_ft, pickV_t, pickV_f, pickV_bool, nilS_ptr, add_eq, sub_eq, mul_eq, lss_eq, leq_eq, gtr_eq, geq_eq, not_eq, minI_eq, maxI_eq, extract_0, extract_1, extract_2, eqlI, neqI, makeFunc_eq, decide_true, decide_false, if_true, if_false, Bool.false_eq_true, Bool.not_true, Bool.not_false, reduceIte, List.getElem?_toArray, List.getElem?_cons_zero, List.getElem?_cons_succ, Option.isSome_none, List.length_map]
  intro r4 hr4
  try rw [bindH_eq]
  refine put_it hr4 ⟨p, 2⟩ fun h5 b5 u5 => ?_
  have U5 : Ext h2 h5 := u3.trans u5
  have p5 := (p2.ext U5).pk (o := 0) (p := p) rfl
  have lO := ((hO.upd U2 dj).ext U5).slR.len (t' := T_int) T_sl_api_Item.und
  rw [List.length_map] at lO
  have e6 : (!decide ((⟨p, 2⟩ : It) = ⟨p, 2⟩)) = false := by simp
  have ew : IntKind.i64.wrap ((L.length : Int) + 1) = ((L.length + 1 : Nat) : Int) := by rw [i64_wrap (by omega) (by omega)]; omega
  have el : (insL L ⟨p, 2⟩).length = L.length + 1 := by
    rw [ins_length_of hs]
    have : (getL L (⟨p, 2⟩ : It).key).isSome = false := by show (getL L p.key).isSome = false; rw [hg]; rfl
    rw [this]; rfl
  simp only [z, b5.it, p5, it_build2, It.neq, e6, lO, ew, popO_some, bindH_eq, condV_bool, condV_true, condV_false, yV_bool, gopV_tt, gopV_ff, gopV_tf, gopV_ft, pickV_t, pickV_f, pickV_bool, nilS_ptr, add_eq, sub_eq, mul_eq, lss_eq, leq_eq, gtr_eq, geq_eq, not_eq, minI_eq, maxI_eq, extract_0, extract_1, extract_2, eqlI, neqI, makeFunc_eq, decide_true, decide_false, if_true, if_false, Bool.false_eq_true, Bool.not_true, Bool.not_false, reduceIte, List.getElem?_toArray, List.getElem?_cons_zero, List.getElem?_cons_succ, Option.isSome_none, List.length_map]
  refine Len_ok (H2.ext U5) ?_
  have e7 : (((insL L ⟨p, 2⟩).length : Int) != ((L.length + 1 : Nat) : Int)) = false := by rw [el]; simp
  simp only [e7, p5, nt_build, popO_some, bindH_eq, condV_bool, condV_true, condV_false, yV_bool, gopV_tt, gopV_ff, gopV_tf, gopV_ft, pickV_t, pickV_f, pickV_bool, nilS_ptr, add_eq, sub_eq, mul_eq, lss_eq, leq_eq, gtr_eq, geq_eq, not_eq, minI_eq, maxI_eq, extract_0, extract_1, extract_2, eqlI, neqI, makeFunc_eq, decide_true, decide_false, if_true, if_false, Bool.false_eq_true, Bool.not_true, Bool.not_false, reduceIte, List.getElem?_toArray, List.getElem?_cons_zero, List.getElem?_cons_succ, Option.isSome_none, List.length_map]
  intro r6 hr6
  try rw [bindH_eq]
  refine put_nt hr6 ⟨3, p⟩ fun h7 b7 b7' u7 => ?_
  have hdel : delL (insL L ⟨p, 2⟩) p.key = L := by
    have h1 := del_ins hs ⟨p, 2⟩
    have h2 : delL L p.key = L := del_none hg
    exact h1.trans h2
  have U7 : Ext h2 h7 := U5.trans u7
  have h6F : r6 ∉ F := fun hm => (H2.ext U5).known r6 hm hr6
  have hO7 := (hO.upd U2 dj).ext U7
  have UU : Upd F h h7 := Upd.then U2 (Ext.upd U7) fun b hb => .inl hb
  cases ti with
  | false =>
    simp only [popO_some, bindH_eq, condV_bool, condV_true, condV_false, yV_bool, gopV_tt, gopV_ff, gopV_tf, gopV_ft, pickV_t, pickV_f, pickV_bool, nilS_ptr, add_eq, sub_eq, mul_eq, lss_eq, leq_eq, gtr_eq, geq_eq, not_eq, minI_eq, maxI_eq, extract_0, extract_1, extract_2, eqlI, neqI, makeFunc_eq, decide_true, decide_false, if_true, if_false, Bool.false_eq_true, Bool.not_true, Bool.not_false, reduceIte, List.getElem?_toArray, List.getElem?_cons_zero, List.getElem?_cons_succ, Option.isSome_none, List.length_map]
    exact k231_ok (H2.ext U7) hO7 dj b7' h6F (by omega) hr (.inl rfl) hdel fun h8 u8 => hk h8 (Upd.then UU u8 fun b hb => .inl hb)
  | true =>
    simp only [T_api_Note.f0, popO_some, bindH_eq, condV_bool, condV_true, condV_false, yV_bool, gopV_tt, gopV_ff, gopV_tf, gopV_ft, pickV_t, pickV_f, pickV_bool, nilS_ptr, add_eq, sub_eq, mul_eq, lss_eq, leq_eq, gtr_eq, geq_eq, not_eq, minI_eq, maxI_eq, extract_0, extract_1, extract_2, eqlI, neqI, makeFunc_eq, decide_true, decide_false, if_true, if_false, Bool.false_eq_true, Bool.not_true, Bool.not_false, reduceIte, List.getElem?_toArray, List.getElem?_cons_zero, List.getElem?_cons_succ, Option.isSome_none, List.length_map]
    refine store_cell T_int.und rfl b7' (by simp [Nt.cells]) rfl T_int.info T_int.size ?_
    have u8 : Upd [r6] h7 (h7.set r6 (.cells ((Nt.cells ⟨3, p⟩).toArray.setIfInBounds 0 (.int .i64 4)) T_api_Note (0, 0))) := Upd.set (by simp)
    have b8 : NB (h7.set r6 (.cells ((Nt.cells ⟨3, p⟩).toArray.setIfInBounds 0 (.int .i64 4)) T_api_Note (0, 0))) r6 ⟨4, p⟩ := by unfold NB; rw [set_same]; rfl
    generalize h7.set r6 (.cells ((Nt.cells ⟨3, p⟩).toArray.setIfInBounds 0 (.int .i64 4)) T_api_Note (0, 0)) = h8 at *
    have n6 : h5 r6 = none := hr6
    have E8 : Ext h2 h8 := U5.trans (u7.fresh u8 (Fresh.one n6))
    have hO8 := (hO.upd U2 dj).ext E8
    exact k231_ok (H2.ext E8) hO8 dj b8 h6F (by omega) hr (.inr rfl) hdel fun h9 u9 => hk h9 (Upd.then (Upd.then U2 (Ext.upd E8) fun b hb => .inl hb) u9 fun b hb => .inl hb)

set_option maxHeartbeats 2000000 in
theorem lives_ok {h0 : PH} {x : Value} {al : List Ac} {p : Pk} {tu ti : Bool} (hx : SlR h0 6 x (al.map Ac.cells)) (hok : p.ok) {k : Value → PH → Prop}
    (hk : ∀ h', Ext h0 h' → k (.bool true) h') : CallsH PG id_carracklaw15_TableLives #[x, .agg p.cells.toArray, .bool tu, .bool ti] h0 k := by
  have lx := hx.len (t' := T_int) T_sl_carrackref15_Act.und
  rw [List.length_map] at lx
  apply carracklaw15_TableLives.call
  unfold carracklaw15_TableLives
  intro rp hrp
  rw [bindH_eq]
  have u0 : Ext h0 (h0.set rp (.cells (Value.cells (.agg p.cells.toArray)) T_api_Packet)) := Upd.new hrp
  have b0 : Bx (h0.set rp (.cells (Value.cells (.agg p.cells.toArray)) T_api_Packet)) rp p.cells := Bx.new
  generalize h0.set rp (.cells (Value.cells (.agg p.cells.toArray)) T_api_Packet) = h00 at *
  refine awake_ok fun h1 u1 => ?_
  have w1 := u0.trans u1
  by_cases hl : 100 < al.length
  · have d1 : ((100 : Int) < (al.length : Int)) = True := by apply eq_true; omega
    simp only [lx, d1, popO_some, bindH_eq, condV_bool, condV_true, condV_false, yV_bool, gopV_tt, gopV_ff, gopV_tf, gopV_ft, pickV_t, pickV_f, pickV_bool, nilS_ptr, add_eq, sub_eq, mul_eq, lss_eq, leq_eq, gtr_eq, geq_eq, not_eq, minI_eq, maxI_eq, extract_0, extract_1, extract_2, eqlI, neqI, makeFunc_eq, decide_true, decide_false, if_true, if_false, Bool.false_eq_true, Bool.not_true, Bool.not_false, reduceIte, List.getElem?_toArray, List.getElem?_cons_zero, List.getElem?_cons_succ, Option.isSome_none, List.length_map]
    exact hk h1 w1
  have d1 : ((100 : Int) < (al.length : Int)) = False := by apply eq_false; omega
  simp only [lx, d1, popO_some, bindH_eq, condV_bool, condV_true, condV_false, yV_bool, gopV_tt, gopV_ff, gopV_tf, gopV_ft, pickV_t, pickV_f, pickV_bool, nilS_ptr, add_eq, sub_eq, mul_eq, lss_eq, leq_eq, gtr_eq, geq_eq, not_eq, minI_eq, maxI_eq, extract_0, extract_1, extract_2, eqlI, neqI, makeFunc_eq, decide_true, decide_false, if_true, if_false, Bool.false_eq_true, Bool.not_true, Bool.not_false, reduceIte, List.getElem?_toArray, List.getElem?_cons_zero, List.getElem?_cons_succ, Option.isSome_none, List.length_map]
  refine notes_ok (hx.ext w1) (by omega) fun v h2 F2 hO2 f2 u2 => ?_
  refine few_ok hO2.slR fun b _ => ?_
  have w2 := w1.trans u2
  cases b with
  | false => simp only [popO_some, bindH_eq, condV_bool, condV_true, condV_false, yV_bool, gopV_tt, gopV_ff, gopV_tf, gopV_ft, pickV_t, pickV_f, pickV_bool, nilS_ptr, add_eq, sub_eq, mul_eq, lss_eq, leq_eq, gtr_eq, geq_eq, not_eq, minI_eq, maxI_eq, extract_0, extract_1, extract_2, eqlI, neqI, makeFunc_eq, decide_true, decide_false, if_true, if_false, Bool.false_eq_true, Bool.not_true, Bool.not_false, reduceIte, List.getElem?_toArray, List.getElem?_cons_zero, List.getElem?_cons_succ, Option.isSome_none, List.length_map]; exact hk h2 w2
  | true =>
  have b2 := b0.ext (u1.trans u2)
  have c0 : cellH h2 ⟨rp, 0, none⟩ = some (.int .i64 p.f) := b2.cell 0
  have c1 : cellH h2 ⟨rp, 0 + 1, none⟩ = some (.int .u64 p.s) := b2.cell 1
  have c2 : cellH h2 ⟨rp, 0 + 2, none⟩ = some (.int .u64 p.t) := b2.cell 2
  have c3 : cellH h2 ⟨rp, 0 + 3, none⟩ = some (.string p.d) := b2.cell 3
  by_cases g1 : (64 : Int) < (p.d.size : Int)
  · simp only [T_api_Packet.f0, T_api_Packet.f1, T_api_Packet.f2, T_api_Packet.f3, T_int.load, T_uint64.load, T_string.load, c0, c1, c2, c3, len_string T_string.und, g1, popO_some, bindH_eq, condV_bool, condV_true, condV_false, yV_bool, gopV_tt, gopV_ff, gopV_tf, gopV_ft, pickV_t, pickV_f, pickV_bool, nilS_ptr, add_eq, sub_eq, mul_eq, lss_eq, leq_eq, gtr_eq, geq_eq, not_eq, minI_eq, maxI_eq, extract_0, extract_1, extract_2, eqlI, neqI, makeFunc_eq, decide_true, decide_false, if_true, if_false, Bool.false_eq_true, Bool.not_true, Bool.not_false, reduceIte, List.getElem?_toArray, List.getElem?_cons_zero, List.getElem?_cons_succ, Option.isSome_none, List.length_map]
    exact hk h2 w2
  by_cases g2 : p.f < 0
  · simp only [T_api_Packet.f0, T_api_Packet.f1, T_api_Packet.f2, T_api_Packet.f3, T_int.load, T_uint64.load, T_string.load, c0, c1, c2, c3, len_string T_string.und, g1, g2, popO_some, bindH_eq, condV_bool, condV_true, condV_false, yV_bool, gopV_tt, gopV_ff, gopV_tf, gopV_ft, pickV_t, pickV_f, pickV_bool, nilS_ptr, add_eq, sub_eq, mul_eq, lss_eq, leq_eq, gtr_eq, geq_eq, not_eq, minI_eq, maxI_eq, extract_0, extract_1, extract_2, eqlI, neqI, makeFunc_eq, decide_true, decide_false, if_true, if_false, Bool.false_eq_true, Bool.not_true, Bool.not_false, reduceIte, List.getElem?_toArray, List.getElem?_cons_zero, List.getElem?_cons_succ, Option.isSome_none, List.length_map]
    exact hk h2 w2
  by_cases g3 : 1 < p.f
  · simp only [T_api_Packet.f0, T_api_Packet.f1, T_api_Packet.f2, T_api_Packet.f3, T_int.load, T_uint64.load, T_string.load, c0, c1, c2, c3, len_string T_string.und, g1, g2, g3, popO_some, bindH_eq, condV_bool, condV_true, condV_false, yV_bool, gopV_tt, gopV_ff, gopV_tf, gopV_ft, pickV_t, pickV_f, pickV_bool, nilS_ptr, add_eq, sub_eq, mul_eq, lss_eq, leq_eq, gtr_eq, geq_eq, not_eq, minI_eq, maxI_eq, extract_0, extract_1, extract_2, eqlI, neqI, makeFunc_eq, decide_true, decide_false, if_true, if_false, Bool.false_eq_true, Bool.not_true, Bool.not_false, reduceIte, List.getElem?_toArray, List.getElem?_cons_zero, List.getElem?_cons_succ, Option.isSome_none, List.length_map]
    exact hk h2 w2
  by_cases g4 : p.s = 0
  · have g4' : (p.s == 0) = true := by simp [g4]
    simp only [T_api_Packet.f0, T_api_Packet.f1, T_api_Packet.f2, T_api_Packet.f3, T_int.load, T_uint64.load, T_string.load, c0, c1, c2, c3, len_string T_string.und, g1, g2, g3, g4', popO_some, bindH_eq, condV_bool, condV_true, condV_false, yV_bool, gopV_tt, gopV_ff, gopV_tf, gopV_ft, pickV_t, pickV_f, pickV_bool, nilS_ptr, add_eq, sub_eq, mul_eq, lss_eq, leq_eq, gtr_eq, geq_eq, not_eq, minI_eq, maxI_eq, extract_0, extract_1, extract_2, eqlI, neqI, makeFunc_eq, decide_true, decide_false, if_true, if_false, Bool.false_eq_true, Bool.not_true, Bool.not_false, reduceIte, List.getElem?_toArray, List.getElem?_cons_zero, List.getElem?_cons_succ, Option.isSome_none, List.length_map]
    exact hk h2 w2
  have g4' : (p.s == 0) = false := by simp [g4]
  by_cases g5 : p.t = 0
  · have g5' : (p.t == 0) = true := by simp [g5]
    simp only [T_api_Packet.f0, T_api_Packet.f1, T_api_Packet.f2, T_api_Packet.f3, T_int.load, T_uint64.load, T_string.load, c0, c1, c2, c3, len_string T_string.und, g1, g2, g3, g4', g5', popO_some, bindH_eq, condV_bool, condV_true, condV_false, yV_bool, gopV_tt, gopV_ff, gopV_tf, gopV_ft, pickV_t, pickV_f, pickV_bool, nilS_ptr, add_eq, sub_eq, mul_eq, lss_eq, leq_eq, gtr_eq, geq_eq, not_eq, minI_eq, maxI_eq, extract_0, extract_1, extract_2, eqlI, neqI, makeFunc_eq, decide_true, decide_false, if_true, if_false, Bool.false_eq_true, Bool.not_true, Bool.not_false, reduceIte, List.getElem?_toArray, List.getElem?_cons_zero, List.getElem?_cons_succ, Option.isSome_none, List.length_map]
    exact hk h2 w2
  have g5' : (p.t == 0) = false := by simp [g5]
  have hr : p.right = true := by
    unfold Pk.right
    simp only [Bool.and_eq_true, decide_eq_true_eq]
    refine ⟨⟨⟨⟨by omega, by omega⟩, g4⟩, g5⟩, by omega⟩
  simp only [T_api_Packet.f0, T_api_Packet.f1, T_api_Packet.f2, T_api_Packet.f3, T_int.load, T_uint64.load, T_string.load, c0, c1, c2, c3, len_string T_string.und, g1, g2, g3, g4', g5', popO_some, bindH_eq, condV_bool, condV_true, condV_false, yV_bool, gopV_tt, gopV_ff, gopV_tf, gopV_ft, pickV_t, pickV_f, pickV_bool, nilS_ptr, add_eq, sub_eq, mul_eq, lss_eq, leq_eq, gtr_eq, geq_eq, not_eq, minI_eq, maxI_eq, extract_0, extract_1, extract_2, eqlI, neqI, makeFunc_eq, decide_true, decide_false, if_true, if_false, Bool.false_eq_true, Bool.not_true, Bool.not_false, reduceIte, List.getElem?_toArray, List.getElem?_cons_zero, List.getElem?_cons_succ, Option.isSome_none, List.length_map]
  have z0 : ((0 : Int) != 0) = false := by decide
  refine New_ok 40 (fun hbad => by omega) fun _ _ a h3 F3 H3 f3 u3 => ?_
  have w3 := w2.trans u3
  simp only [z0, ptrNil, popO_some, bindH_eq, condV_bool, condV_true, condV_false, yV_bool, gopV_tt, gopV_ff, gopV_tf, gopV_ft, pickV_t, pickV_f, pickV_bool, nilS_ptr, add_eq, sub_eq, mul_eq, lss_eq, leq_eq, gtr_eq, geq_eq, not_eq, minI_eq, maxI_eq, extract_0, extract_1, extract_2, eqlI, neqI, makeFunc_eq, decide_true, decide_false, if_true, if_false, Bool.false_eq_true, Bool.not_true, Bool.not_false, reduceIte, List.getElem?_toArray, List.getElem?_cons_zero, List.getElem?_cons_succ, Option.isSome_none, List.length_map]
  have b3 := b2.ext u3
  have hpF : rp ∉ F3 := fun hm => b2.known (f3 rp hm)
  have f3' : Fresh h0 F3 := fun b hb => w2.none (f3 b hb)
  refine ⟨fun vs h' => ∃ (i : Nat) (L : List It), i ≤ al.length ∧ vs = [x, .bool tu, .bool ti, .pointer (some ⟨rp, 0, none⟩), .pointer (some ⟨a, 0, none⟩), .int .i64 i] ∧ TAt h' a L 40 F3 ∧ L.length ≤ (40 : Int) ∧ Bx h' rp p.cells ∧ Ext h0 h',
    upTo al.length 5, ⟨0, [], by omega, rfl, H3, by simp, b3, w3⟩, ?_⟩
  rintro ρ h' ⟨i, L, hi, hvs, HT, hLr, bp, w⟩
  simp only [List.map_cons, List.map_nil, List.cons.injEq, and_true] at hvs
  obtain ⟨e0, e1, e2, e3, e4, e5⟩ := hvs
  rw [e0, e1, e2, e3, e4, e5]
  unfold carracklaw15_TableLives_b109
  by_cases hlt : i < al.length
  · have hd : ((i : Int) < (al.length : Int)) = True := by apply eq_true; omega
    obtain ⟨c, hc⟩ : ∃ m, al[i]? = some m := ⟨_, List.getElem?_eq_getElem hlt⟩
    have ei : IntKind.i64.wrap ((i : Int) + 1) = ((i + 1 : Nat) : Int) := by rw [i64_wrap (by omega) (by omega)]; omega
    obtain ⟨q, q1, q2⟩ := (hx.ext w).ac (k := .i64) hc
    simp only [lx, hd, q1, q2, popO_some, bindH_eq, condV_bool, condV_true, condV_false, yV_bool, gopV_tt, gopV_ff, gopV_tf, gopV_ft, pickV_t, pickV_f, pickV_bool, nilS_ptr, add_eq, sub_eq, mul_eq, lss_eq, leq_eq, gtr_eq, geq_eq, not_eq, minI_eq, maxI_eq, extract_0, extract_1, extract_2, eqlI, neqI, makeFunc_eq, decide_true, decide_false, if_true, if_false, Bool.false_eq_true, Bool.not_true, Bool.not_false, reduceIte, List.getElem?_toArray, List.getElem?_cons_zero, List.getElem?_cons_succ, Option.isSome_none, List.length_map]
    refine do_ok HT c fun h4 H4 u4 => ?_
    simp only [ei, popO_some, bindH_eq, condV_bool, condV_true, condV_false, yV_bool, gopV_tt, gopV_ff, gopV_tf, gopV_ft, pickV_t, pickV_f, pickV_bool, nilS_ptr, add_eq, sub_eq, mul_eq, lss_eq, leq_eq, gtr_eq, geq_eq, not_eq, minI_eq, maxI_eq, extract_0, extract_1, extract_2, eqlI, neqI, makeFunc_eq, decide_true, decide_false, if_true, if_false, Bool.false_eq_true, Bool.not_true, Bool.not_false, reduceIte, List.getElem?_toArray, List.getElem?_cons_zero, List.getElem?_cons_succ, Option.isSome_none, List.length_map]
    exact ⟨⟨i + 1, _, by omega, rfl, H4, act_len HT.srt hLr c, bp.upd u4 hpF, w.fresh u4 f3'⟩, by simp [upTo, e5]; omega⟩
  · have hd : ((i : Int) < (al.length : Int)) = False := by apply eq_false; omega
    have c0 : cellH h' ⟨rp, 0, none⟩ = some (.int .i64 p.f) := bp.cell 0
    have c1 : cellH h' ⟨rp, 0 + 1, none⟩ = some (.int .u64 p.s) := bp.cell 1
    simp only [lx, hd, T_api_Packet.f0, T_api_Packet.f1, T_int.load, T_uint64.load, c0, c1, popO_some, bindH_eq, condV_bool, condV_true, condV_false, yV_bool, gopV_tt, gopV_ff, gopV_tf, gopV_ft, pickV_t, pickV_f, pickV_bool, nilS_ptr, add_eq, sub_eq, mul_eq, lss_eq, leq_eq, gtr_eq, geq_eq, not_eq, minI_eq, maxI_eq, extract_0, extract_1, extract_2, eqlI, neqI, makeFunc_eq, decide_true, decide_false, if_true, if_false, Bool.false_eq_true, Bool.not_true, Bool.not_false, reduceIte, List.getElem?_toArray, List.getElem?_cons_zero, List.getElem?_cons_succ, Option.isSome_none, List.length_map]
    refine Drop_ok HT p.key fun h4 H4 u4 => ?_
    have w4 := w.fresh u4 f3'
    have hLd : (delL L p.key).length ≤ 40 := by have := del_len L p.key; omega
    refine Items_ok H4 (by omega) fun v5 h5 G5 hO5 f5 u5 => ?_
    have w5 := w4.trans u5
    have l5 := hO5.slR.len (t' := T_int) T_sl_api_Item.und
    rw [List.length_map] at l5
    by_cases hfull : (delL L p.key).length = 40
    · have e6 : (((delL L p.key).length : Int) == 40) = true := by simp [hfull]
      simp only [l5, e6, popO_some, bindH_eq, condV_bool, condV_true, condV_false, yV_bool, gopV_tt, gopV_ff, gopV_tf, gopV_ft, pickV_t, pickV_f, pickV_bool, nilS_ptr, add_eq, sub_eq, mul_eq, lss_eq, leq_eq, gtr_eq, geq_eq, not_eq, minI_eq, maxI_eq, extract_0, extract_1, extract_2, eqlI, neqI, makeFunc_eq, decide_true, decide_false, if_true, if_false, Bool.false_eq_true, Bool.not_true, Bool.not_false, reduceIte, List.getElem?_toArray, List.getElem?_cons_zero, List.getElem?_cons_succ, Option.isSome_none, List.length_map]
      exact hk h5 w5
    · have e6 : (((delL L p.key).length : Int) == 40) = false := by simp; omega
      have b5 := (bp.upd u4 hpF).ext u5
      have p5 := b5.pk (o := 0) (p := p) rfl
      simp only [l5, e6, p5, nt_build, popO_some, bindH_eq, condV_bool, condV_true, condV_false, yV_bool, gopV_tt, gopV_ff, gopV_tf, gopV_ft, pickV_t, pickV_f, pickV_bool, nilS_ptr, add_eq, sub_eq, mul_eq, lss_eq, leq_eq, gtr_eq, geq_eq, not_eq, minI_eq, maxI_eq, extract_0, extract_1, extract_2, eqlI, neqI, makeFunc_eq, decide_true, decide_false, if_true, if_false, Bool.false_eq_true, Bool.not_true, Bool.not_false, reduceIte, List.getElem?_toArray, List.getElem?_cons_zero, List.getElem?_cons_succ, Option.isSome_none, List.length_map]
      intro r1 hr1
      try rw [bindH_eq]
      refine put_nt hr1 ⟨1, p⟩ fun h6 c6 n6 u6 => ?_
      have p6 := (b5.ext u6).pk (o := 0) (p := p) rfl
      simp only [p6, nt_build, popO_some, bindH_eq, condV_bool, condV_true, condV_false, yV_bool, gopV_tt, gopV_ff, gopV_tf, gopV_ft, pickV_t, pickV_f, pickV_bool, nilS_ptr, add_eq, sub_eq, mul_eq, lss_eq, leq_eq, gtr_eq, geq_eq, not_eq, minI_eq, maxI_eq, extract_0, extract_1, extract_2, eqlI, neqI, makeFunc_eq, decide_true, decide_false, if_true, if_false, Bool.false_eq_true, Bool.not_true, Bool.not_false, reduceIte, List.getElem?_toArray, List.getElem?_cons_zero, List.getElem?_cons_succ, Option.isSome_none, List.length_map]
      intro r2 hr2
      try rw [bindH_eq]
      refine put_nt hr2 ⟨2, p⟩ fun h7 c7 n7 u7 => ?_
      have n6' : NB h7 r1 ⟨1, p⟩ := u7.get n6
      have n7' : NB h7 r2 ⟨2, p⟩ := n7
      have U7 : Ext h5 h7 := u6.trans u7
      have H7 := (H4.ext u5).ext U7
      have h1F : r1 ∉ F3 := fun hm => (H4.ext u5).known r1 hm hr1
      have h2F : r2 ∉ F3 := fun hm => ((H4.ext u5).ext u6).known r2 hm hr2
      have dj : ∀ b ∈ G5, b ∉ F3 := fun b hb hm => absurd (f5 b hb) (H4.known b hm)
      have w7 := w5.trans U7
      have f50 : h0 r1 = none := w5.none hr1
      cases tu with
      | false =>
        simp only [popO_some, bindH_eq, condV_bool, condV_true, condV_false, yV_bool, gopV_tt, gopV_ff, gopV_tf, gopV_ft, pickV_t, pickV_f, pickV_bool, nilS_ptr, add_eq, sub_eq, mul_eq, lss_eq, leq_eq, gtr_eq, geq_eq, not_eq, minI_eq, maxI_eq, extract_0, extract_1, extract_2, eqlI, neqI, makeFunc_eq, decide_true, decide_false, if_true, if_false, Bool.false_eq_true, Bool.not_true, Bool.not_false, reduceIte, List.getElem?_toArray, List.getElem?_cons_zero, List.getElem?_cons_succ, Option.isSome_none, List.length_map]
        exact k145_ok (tu := false) H7 (hO5.ext U7) dj (b5.ext U7) hpF n6' h1F n7' h2F hr get_del (by omega) fun h8 u8 => hk h8 (w7.fresh u8 f3')
      | true =>
        simp only [n7'.bx.nt, n6'.bx.nt, popO_some, bindH_eq, condV_bool, condV_true, condV_false, yV_bool, gopV_tt, gopV_ff, gopV_tf, gopV_ft, pickV_t, pickV_f, pickV_bool, nilS_ptr, add_eq, sub_eq, mul_eq, lss_eq, leq_eq, gtr_eq, geq_eq, not_eq, minI_eq, maxI_eq, extract_0, extract_1, extract_2, eqlI, neqI, makeFunc_eq, decide_true, decide_false, if_true, if_false, Bool.false_eq_true, Bool.not_true, Bool.not_false, reduceIte, List.getElem?_toArray, List.getElem?_cons_zero, List.getElem?_cons_succ, Option.isSome_none, List.length_map]
        refine store_box n6' T_api_Note.info (by show 5 = 5; rfl) (by show 0 < 5; decide) rfl (by simp [Nt.cells, isCell]) ?_
        have u8 : Upd [r1] h7 (h7.set r1 (.cells (Nt.cells ⟨2, p⟩).toArray T_api_Note (0, 0))) := Upd.set (by simp)
        have n8 : NB (h7.set r1 (.cells (Nt.cells ⟨2, p⟩).toArray T_api_Note (0, 0))) r1 ⟨2, p⟩ := set_same
        have n12 : r2 ≠ r1 := by rintro rfl; rw [n6] at hr2; cases hr2
        generalize h7.set r1 (.cells (Nt.cells ⟨2, p⟩).toArray T_api_Note (0, 0)) = h8 at *
        have n78 : NB h8 r2 ⟨2, p⟩ := u8.get n7' (by simpa using n12)
        refine store_box n78 T_api_Note.info (by show 5 = 5; rfl) (by show 0 < 5; decide) rfl (by simp [Nt.cells, isCell]) ?_
        have u9 : Upd [r2] h8 (h8.set r2 (.cells (Nt.cells ⟨1, p⟩).toArray T_api_Note (0, 0))) := Upd.set (by simp)
        have n9 : NB (h8.set r2 (.cells (Nt.cells ⟨1, p⟩).toArray T_api_Note (0, 0))) r2 ⟨1, p⟩ := set_same
        generalize h8.set r2 (.cells (Nt.cells ⟨1, p⟩).toArray T_api_Note (0, 0)) = h9 at *
        have n89 : NB h9 r1 ⟨2, p⟩ := u9.get n8 (by simpa using Ne.symm n12)
        have E8 : Ext h5 h8 := U7.fresh u8 (Fresh.one hr1)
        have E9 : Ext h5 h9 := E8.fresh u9 (Fresh.one (u6.none hr2))
        exact k145_ok (tu := true) ((H4.ext u5).ext E9) (hO5.ext E9) dj (b5.ext E9) hpF n89 h1F n9 h2F hr get_del (by omega) fun h10 u10 => hk h10 ((w5.trans E9).fresh u10 f3')
theorem TableLives_ok {h : PH} {x : Value} {r1 : List (List Value)} {cs : Array Value} (hx : SlR h 6 x r1) (tu ti : Bool) {al : List Ac} (e1 : r1 = al.map Ac.cells ∧ ∀ c ∈ al, c.n.p.ok) {p : Pk} (e2 : cs.toList = p.cells ∧ p.ok)
    {k : Value → PH → Prop} (hk : ∀ h', Ext h h' → k (.bool true) h') : CallsH PG id_carracklaw15_TableLives #[x, .agg cs, .bool tu, .bool ti] h k := by
  obtain ⟨rfl, h1⟩ := e1
  obtain ⟨e, h2⟩ := e2
  have : cs = p.cells.toArray := by rw [← e]
  subst this
  exact lives_ok hx h2 hk
end Go.Proofs.Ytdgcpeinkjnncaa
