/- chain: the card of ChainFollows: a log that is read bit by bit tells each note once, in order. -/
import Derived.Test.YtcoajnpchhmgjaaGreatDoorChFVC6
import Derived.Test.YtcoajnpchhmgjaaGreatDoorCards
import Derived.Test.YtcoajnpchhmgjaaGreatDoorTie
import Derived.WalkKit
import Derived.ProofKit
set_option linter.unusedSimpArgs false
set_option linter.unusedVariables false
set_option linter.unusedSectionVars false
namespace Go.Proofs.YtcoajnpchhmgjaaGreatDoor
open Go
set_option maxRecDepth 20000
theorem rl_lit6 (f0 f1 f2 f3 f4 f5 : Value) (e0 e1 e2 e3 e4 e5 : Int) : SemA PG (Instr.buildSlice T_sl_chain_rule 6 #[(0, .agg #[f0, .int .i64 e0]), (1, .agg #[f1, .int .i64 e1]), (2, .agg #[f2, .int .i64 e2]), (3, .agg #[f3, .int .i64 e3]), (4, .agg #[f4, .int .i64 e4]), (5, .agg #[f5, .int .i64 e5])]) = some (.cells #[f0, .int .i64 e0, f1, .int .i64 e1, f2, .int .i64 e2, f3, .int .i64 e3, f4, .int .i64 e4, f5, .int .i64 e5] T_chain_rule, fun r => pure (.slice (some ⟨r, 0, none⟩) 6 6)) := by kernel_rfl
theorem ssetL_len (L : List Pr) (p : Pr) : (ssetL L p).length ≤ L.length + 1 := by
  have : ∀ L : List Pr, (L.filter fun q => decide (q.k < p.k)).length + (L.filter fun q => decide (p.k < q.k)).length ≤ L.length := by
    intro L
    induction L with
    | nil => simp
    | cons a L ih =>
      by_cases h1 : a.k < p.k
      · have h2 : ¬ p.k < a.k := fun h => List.lt_irrefl _ (List.lt_trans h1 h)
        rw [List.filter_cons_of_pos (by simpa using h1), List.filter_cons_of_neg (by simpa using h2), List.length_cons, List.length_cons]
        omega
      · by_cases h2 : p.k < a.k
        · rw [List.filter_cons_of_neg (by simpa using h1), List.filter_cons_of_pos (by simpa using h2), List.length_cons, List.length_cons]
          omega
        · rw [List.filter_cons_of_neg (by simpa using h1), List.filter_cons_of_neg (by simpa using h2), List.length_cons]
          omega
  have h := this L
  unfold ssetL
  rw [List.length_append, List.length_cons]
  omega
theorem ansP_len (p : Pk) : (ansP p).length ≤ 64 := by
  unfold ansP digK
  split
  · exact Nat.le_trans (Nat.le_of_eq rfl) (show 32 ≤ 64 by decide)
  · simp
noncomputable def recvL (s : Ch) (p : Pk) (pf : Tx) (x : Int) : List (Int × Bool) := [(1, p.right && (p.f == 1 - s.id)), (10, decide (IntKind.u64.wrap ((s.st.height : Int) + 1) < p.t)), (4, !(sgetL s.st.now (keyP 114 p.s.toNat)).isSome), (11, (rootL s.cl x).isSome), (9, hasP (rootB s.cl x) pf (keyP 99 p.s.toNat) (commP p)), (2, decide (s.st.now.length + 2 ≤ 4096))]
def Ch.received (s : Ch) (p : Pk) : Ch := ((s.put (keyP 114 p.s.toNat) [1]).put (keyP 97 p.s.toNat) (ansP p)).add ⟨2, p⟩
theorem CRecv_ok {h : PH} {c : Nat} {s : Ch} {F : List Nat} (hK : KAt h) (H : ChA c s h F) (h0F : 0 ∉ F) {p : Pk} (w : p.wf) {pf : Tx} {x : Int} (hl : s.nts.length < 1000000) {kk : Value → PH → Prop}
    (hbad : allE s (recvL s p pf x) ≠ 0 → ∀ h', ChA c s h' F → Ext h h' → kk (.int .i64 (allE s (recvL s p pf x))) h')
    (hk : allE s (recvL s p pf x) = 0 → ∀ h' F', ChA c (s.received p) h' F' → Step h F h' F' → kk (.int .i64 0) h') :
    CallsH PG id_chain_Chain_Recv #[.pointer (some ⟨c, 0, none⟩), p.v, .string (tx pf), .int .u64 x] h kk := by
  apply chain_Chain_Recv.call
  unfold chain_Chain_Recv
  obtain ⟨n, hn⟩ := Int.eq_ofNat_of_zero_le w.1
  have hn2 : n < 18446744073709551616 := by have := w.2.1; omega
  intro r1 hr1
  try rw [bindH_eq]
  have u1 : Ext h (h.set r1 (.cells (Value.cells (.pointer (some ⟨c, 0, none⟩))) T_p_chain_Chain)) := Upd.new hr1
  have B1 : Bx (h.set r1 (.cells (Value.cells (.pointer (some ⟨c, 0, none⟩))) T_p_chain_Chain)) r1 [.pointer (some ⟨c, 0, none⟩)] := Bx.new
  generalize h.set r1 (.cells (Value.cells (.pointer (some ⟨c, 0, none⟩))) T_p_chain_Chain) = h1 at *
  intro r3 hr3
  try rw [bindH_eq]
  have u3 : Ext h1 (h1.set r3 (.cells (Value.cells p.v) T_api_Packet)) := Upd.new hr3
  have B3 : Bx (h1.set r3 (.cells (Value.cells p.v) T_api_Packet)) r3 p.cells := Bx.new
  generalize h1.set r3 (.cells (Value.cells p.v) T_api_Packet) = h3 at *
  intro r5 hr5
  try rw [bindH_eq]
  have u5 : Ext h3 (h3.set r5 (.cells (Value.cells (.string (tx pf))) T_string)) := Upd.new hr5
  have B5 : Bx (h3.set r5 (.cells (Value.cells (.string (tx pf))) T_string)) r5 [.string (tx pf)] := Bx.new
  generalize h3.set r5 (.cells (Value.cells (.string (tx pf))) T_string) = h5 at *
  have e5 := (u1.trans u3).trans u5
  have C1 := (B1.ext u3).ext u5
  have C3 := B3.ext u5
  have H5 := (ChA.good c s).ext H e5
  have k1 : h r1 = none := hr1
  have k3 : h r3 = none := u1.none hr3
  have lc : ∀ {h'' : PH}, Ext h5 h'' → SemE PG h'' (Instr.loadAt T_p_chain_Chain (.pointer (some ⟨r1, 0, none⟩))) = some (.pointer (some ⟨c, 0, none⟩)) := fun v => by rw [T_p_chain_Chain.load, (C1.ext v).cell]; rfl
  have lpk : ∀ {h'' : PH}, Ext h5 h'' → SemE PG h'' (Instr.loadAt T_api_Packet (.pointer (some ⟨r3, 0, none⟩))) = some p.v := fun v => (C3.ext v).pk rfl
  have ls : ∀ {h'' : PH}, Ext h5 h'' → SemE PG h'' (Instr.loadAt T_uint64 (.pointer (some ⟨r3, 1, none⟩))) = some (.int .u64 (n : Int)) := fun v => by rw [T_uint64.load, (C3.ext v).cell, ← hn]; rfl
  have lt : ∀ {h'' : PH}, Ext h5 h'' → SemE PG h'' (Instr.loadAt T_uint64 (.pointer (some ⟨r3, 2, none⟩))) = some (.int .u64 p.t) := fun v => by rw [T_uint64.load, (C3.ext v).cell]; rfl
  have lpf : ∀ {h'' : PH}, Ext h5 h'' → SemE PG h'' (Instr.loadAt T_string (.pointer (some ⟨r5, 0, none⟩))) = some (.string (tx pf)) := fun v => by rw [T_string.load, (B5.ext v).cell]; rfl
  simp only [lc Upd.refl, makeFunc_eq, zSS, reduceIte, zZZ, Nat.reduceAdd]
  refine Proved_ok (f := fun root => hasP root pf (keyP 99 p.s.toNat) (commP p)) H5 rfl (fun h' u root k' hk' => ?_) fun h4 f1 f2 c1 c2 R1 R2 u4 => ?_
  · show CallsH PG id_chain_Chain_Recv_1 #[.string (tx root), .pointer (some ⟨r5, 0, none⟩), .pointer (some ⟨r3, 0, none⟩)] h' k'
    apply chain_Chain_Recv_1.call
    unfold chain_Chain_Recv_1
    simp only [lpf u, lpk u, T_api_Packet.f1, Nat.zero_add, ls u, zSS, reduceIte, zZZ, Nat.reduceAdd]
    refine Sent_ok hn2 fun h6 u6 => ?_
    refine ⟨lpk (u.trans u6), lpf (u.trans u6), ?_⟩
    refine Commitment_ok w (hK.ext ((e5.trans u).trans u6)) fun h7 u7 => ?_
    refine ⟨lpf ((u.trans u6).trans u7), ?_⟩
    refine Has_ok (hK.ext (((e5.trans u).trans u6).trans u7)) fun h8 u8 => ?_
    have := hk' h8 ((u6.trans u7).trans u8)
    rw [hn] at this
    exact this
  have e4 := e5.trans u4
  simp only [zSS, reduceIte, zZZ, Nat.reduceAdd]
  intro r13 hr13
  try rw [bindH_eq]
  have u6 : Ext h4 (h4.set r13 (.cells (zcells PG T_chain_rule) T_chain_rule)) := Upd.new hr13
  have Z13 := T_chain_rule.zbox (h := h4) (r := r13)
  generalize h4.set r13 (.cells (zcells PG T_chain_rule) T_chain_rule) = h6 at *
  intro r15 hr15
  try rw [bindH_eq]
  have u7 : Ext h6 (h6.set r15 (.cells (zcells PG T_chain_rule) T_chain_rule)) := Upd.new hr15
  have Z15 := T_chain_rule.zbox (h := h6) (r := r15)
  have n1315 : r13 ≠ r15 := Z13.apart hr15
  have Y13 := Z13.ext u7
  generalize h6.set r15 (.cells (zcells PG T_chain_rule) T_chain_rule) = h7 at *
  have k13 : h4 r13 = none := hr13
  have k15 : h4 r15 = none := u6.none hr15
  refine T_chain_rule.put (vs := [f1, .int .i64 11]) Y13 (o := 0) rfl (by show 0 + 2 ≤ 2; decide) (by simp only [List.mem_cons, List.not_mem_nil, or_false]; rintro z (rfl | rfl); exact c1; rfl) fun h8 B8 u8 => ?_
  refine T_chain_rule.put (vs := [f2, .int .i64 9]) (Z15.upd u8 (by simpa using n1315.symm)) (o := 0) rfl (by show 0 + 2 ≤ 2; decide) (by simp only [List.mem_cons, List.not_mem_nil, or_false]; rintro z (rfl | rfl); exact c2; rfl) fun h9 B9 u9 => ?_
  have e49 : Ext h4 h9 := ((u6.trans u7).fresh u8 (Fresh.one k13)).fresh u9 (Fresh.one k15)
  have D13 := B8.upd u9 (by simpa using n1315)
  have v59 : Ext h5 h9 := u4.trans e49
  have H9 := (ChA.good c s).ext H5 v59
  obtain ⟨sp, m, cp, nv, bv, lk, P, perm, ok⟩ := H9
  have H9 : ChA c s h9 F := ⟨sp, m, cp, nv, bv, lk, P, perm, ok⟩
  have hid := ok.id
  have w1 : IntKind.i64.wrap (1 - s.id) = 1 - s.id := i64_wrap (by omega) (by omega)
  have l13 : ∀ {h'' : PH}, Ext h9 h'' → SemE PG h'' (Instr.loadAt T_chain_rule (.pointer (some ⟨r13, 0, none⟩))) = some (.agg #[f1, .int .i64 11]) := fun v => T_chain_rule.agg (D13.ext v) (by show 0 + 2 ≤ 2; decide)
  have l15 : ∀ {h'' : PH}, Ext h9 h'' → SemE PG h'' (Instr.loadAt T_chain_rule (.pointer (some ⟨r15, 0, none⟩))) = some (.agg #[f2, .int .i64 9]) := fun v => T_chain_rule.agg (B9.ext v) (by show 0 + 2 ≤ 2; decide)
  simp only [lc v59, lpk v59, T_chain_Chain.f1, Nat.zero_add, Ch.load5 P.cell, w1, makeFunc_eq, rule_b, l13 Upd.refl, l15 Upd.refl, zSS, reduceIte, zZZ, Nat.reduceAdd]
  refine CFrom_ok fun h10 f0 c0 R0 u10 => ?_
  have v510 := v59.trans u10
  refine ⟨l15 u10, l13 u10, lc v510, ?_⟩
  simp only [rl_lit6, zSS, reduceIte, zZZ, Nat.reduceAdd]
  intro r38 hr38
  refine popO_pure ?_
  try rw [bindH_eq]
  obtain ⟨rs, hrs⟩ : ∃ rs : List RuV, rs = [(f0, 1, p.right && (p.f == 1 - s.id)), (.func (.func id_chain_Chain_Recv_2) #[] #[.pointer (some ⟨r3, 0, none⟩), .pointer (some ⟨r1, 0, none⟩)], 10, decide (IntKind.u64.wrap ((s.st.height : Int) + 1) < p.t)), (.func (.func id_chain_Chain_Recv_3) #[] #[.pointer (some ⟨r1, 0, none⟩), .pointer (some ⟨r3, 0, none⟩)], 4, !(sgetL s.st.now (keyP 114 p.s.toNat)).isSome), (f1, 11, (rootL s.cl x).isSome), (f2, 9, hasP (rootB s.cl x) pf (keyP 99 p.s.toNat) (commP p)), (.func (.func id_chain_Chain_Recv_4) #[] #[.pointer (some ⟨r1, 0, none⟩)], 2, decide (s.st.now.length + 2 ≤ 4096))] := ⟨_, rfl⟩
  have ecells : (#[f0, .int .i64 1, .func (.func id_chain_Chain_Recv_2) #[] #[.pointer (some ⟨r3, 0, none⟩), .pointer (some ⟨r1, 0, none⟩)], .int .i64 10, .func (.func id_chain_Chain_Recv_3) #[] #[.pointer (some ⟨r1, 0, none⟩), .pointer (some ⟨r3, 0, none⟩)], .int .i64 4, f1, .int .i64 11, f2, .int .i64 9, .func (.func id_chain_Chain_Recv_4) #[] #[.pointer (some ⟨r1, 0, none⟩)], .int .i64 2] : Array Value) = (rs.map rlrow).flatten.toArray := by rw [hrs]; rfl
  have ers : allP s rs = allE s (recvL s p pf x) := by rw [allP_eq, hrs]; rfl
  rw [ecells]
  have u11 : Ext h10 (h10.set r38 (.cells (rs.map rlrow).flatten.toArray T_chain_rule)) := Upd.new hr38
  have S11 : SlR (h10.set r38 (.cells (rs.map rlrow).flatten.toArray T_chain_rule)) 2 (.slice (some ⟨r38, 0, none⟩) 6 6) (rs.map rlrow) := (OwnR.lit (rlrow.rows rs) set_same (by rw [hrs]; simp) (by decide) (by simp)).slR
  generalize h10.set r38 (.cells (rs.map rlrow).flatten.toArray T_chain_rule) = h11 at *
  have v511 := v510.trans u11
  have e411 := (e49.trans u10).trans u11
  have H11 := (ChA.good c s).ext H5 v511
  have hrules : RlsAt h11 rs := fun y hy => by
    rw [hrs] at hy
    simp only [List.mem_cons, List.not_mem_nil, or_false] at hy
    rcases hy with rfl | rfl | rfl | rfl | rfl | rfl
    · exact ⟨c0, R0.ext u11⟩
    · refine ⟨rfl, fun h' u k' hk' => ?_⟩
      show CallsH PG id_chain_Chain_Recv_2 #[.pointer (some ⟨r3, 0, none⟩), .pointer (some ⟨r1, 0, none⟩)] h' k'
      apply chain_Chain_Recv_2.call
      unfold chain_Chain_Recv_2
      obtain ⟨sp, m, cp, nv, bv, lk, P, perm, ok⟩ := (ChA.good c s).ext H11 u
      obtain ⟨Fs, St, -, -⟩ := P.fSt
      simp only [lt (v511.trans u), lc (v511.trans u), T_chain_Chain.f0, T_chain_ledger.f0, T_api_Packet.f2, Nat.zero_add, Ch.load0 P.cell, zSS, reduceIte, zZZ, Nat.reduceAdd]
      refine Height_ok St ?_
      refine ⟨lt (v511.trans u), ?_⟩
      simp only [zSS, reduceIte, zZZ, Nat.reduceAdd]
      exact hk' h' Upd.refl
    · refine ⟨rfl, fun h' u k' hk' => ?_⟩
      show CallsH PG id_chain_Chain_Recv_3 #[.pointer (some ⟨r1, 0, none⟩), .pointer (some ⟨r3, 0, none⟩)] h' k'
      apply chain_Chain_Recv_3.call
      unfold chain_Chain_Recv_3
      obtain ⟨sp, m, cp, nv, bv, lk, P, perm, ok⟩ := (ChA.good c s).ext H11 u
      simp only [lc (v511.trans u), T_chain_Chain.f0, T_chain_ledger.f0, T_api_Packet.f1, Nat.zero_add, Ch.load0 P.cell, ls (v511.trans u), zSS, reduceIte, zZZ, Nat.reduceAdd]
      refine Received_ok hn2 fun h12 u12 => ?_
      have P12 := parts.good.ext P u12
      refine ⟨Ch.load0 P12.cell, lc ((v511.trans u).trans u12), ?_⟩
      obtain ⟨Fs, St, -, -⟩ := P12.fSt
      refine SGet_ok St _ ?_
      simp only [zSS, reduceIte, zZZ, Nat.reduceAdd]
      have := hk' h12 u12
      rw [hn] at this
      exact this
    · exact ⟨c1, R1.ext e411⟩
    · exact ⟨c2, R2.ext e411⟩
    · refine ⟨rfl, fun h' u k' hk' => ?_⟩
      show CallsH PG id_chain_Chain_Recv_4 #[.pointer (some ⟨r1, 0, none⟩)] h' k'
      apply chain_Chain_Recv_4.call
      unfold chain_Chain_Recv_4
      simp only [lc (v511.trans u), T_chain_Chain.f0, zSS, reduceIte, zZZ, Nat.reduceAdd]
      exact LRoom_ok (n := 2) ((ChA.good c s).ext H11 u) (by decide) (hk' h' Upd.refl)
  refine Call_ok H11 S11 hrules (by rw [hrs]; simp) fun h12 u12 => ?_
  rw [ers]
  have H12 := (ChA.good c s).ext H11 u12
  have v512 := v511.trans u12
  have e12 := e5.trans v512
  unfold chain_Chain_Recv_k70
  by_cases he : allE s (recvL s p pf x) = 0
  case neg =>
    have q : (allE s (recvL s p pf x) == 0) = false := by simpa using he
    simp only [eqlI, q, zSS, reduceIte, zZZ, Nat.reduceAdd]
    exact hbad he h12 H12 e12
  obtain ⟨-, hall⟩ := allE_zero he (by
    intro y hy
    simp only [recvL, List.mem_cons, List.not_mem_nil, or_false] at hy
    rcases hy with rfl | rfl | rfl | rfl | rfl | rfl <;> simp)
  have broom : s.st.now.length + 2 ≤ 4096 := by
    have := hall (2, decide (s.st.now.length + 2 ≤ 4096)) (by simp [recvL])
    simpa using this
  have q1 : ({ data := #[1] } : ByteArray) = tx [1] := rfl
  simp only [he, eqlI, lc v512, T_chain_Chain.f0, T_api_Packet.f1, Nat.zero_add, ls v512, q1, zSS, reduceIte, zZZ, Nat.reduceAdd]
  refine Received_ok hn2 fun h13 u13 => ?_
  refine ⟨lc (v512.trans u13), ?_⟩
  have H13 := (ChA.good c s).ext H12 u13
  have v513 := v512.trans u13
  refine LSet_ok H13 (by rw [keyP_len]; decide) (by rw [keyP_len]; decide) (by decide) (sgetL_room (n := 2) (by decide) broom) fun h14 F14 H14 s14 => ?_
  have nF : ∀ {r : Nat}, h r = none → r ∉ F := fun hr hm => (ChA.good c s).known H _ hm hr
  have D1 := (C1.ext v513).upd s14.upd (nF k1)
  have D3 := (C3.ext v513).upd s14.upd (nF k3)
  have m1 : r1 ∉ F14 := fun hm => by
    rcases s14.grow _ hm with hx | hx
    · exact nF k1 hx
    · exact (C1.ext v513).known hx
  have m3 : r3 ∉ F14 := fun hm => by
    rcases s14.grow _ hm with hx | hx
    · exact nF k3 hx
    · exact (C3.ext v513).known hx
  have lc14 : ∀ {h'' : PH}, Ext h14 h'' → SemE PG h'' (Instr.loadAt T_p_chain_Chain (.pointer (some ⟨r1, 0, none⟩))) = some (.pointer (some ⟨c, 0, none⟩)) := fun v => by rw [T_p_chain_Chain.load, (D1.ext v).cell]; rfl
  have lp14 : ∀ {h'' : PH}, Ext h14 h'' → SemE PG h'' (Instr.loadAt T_api_Packet (.pointer (some ⟨r3, 0, none⟩))) = some p.v := fun v => (D3.ext v).pk rfl
  have ls14 : SemE PG h14 (Instr.loadAt T_uint64 (.pointer (some ⟨r3, 1, none⟩))) = some (.int .u64 (n : Int)) := by rw [T_uint64.load, D3.cell, ← hn]; rfl
  simp only [lc14 Upd.refl, T_chain_Chain.f0, T_api_Packet.f1, Nat.zero_add, ls14, lp14 Upd.refl, zSS, reduceIte, zZZ, Nat.reduceAdd]
  refine Answered_ok hn2 fun h15 u15 => ?_
  refine ⟨lp14 u15, lc14 u15, ?_⟩
  have K14 : KAt h14 := by
    obtain ⟨tt, fr, h0⟩ := hK.ext (e5.trans v513)
    exact ⟨tt, fr, s14.upd.get h0 h0F⟩
  refine Answer_ok w (K14.ext u15) fun h16 u16 => ?_
  have u1416 := u15.trans u16
  refine ⟨lc14 u1416, ?_⟩
  have H16 := (ChA.good c _).ext H14 u1416
  have hlen := ssetL_len s.st.now ⟨keyP 114 n, [1]⟩
  refine LSet_ok H16 (by rw [keyP_len]; decide) (by rw [keyP_len]; decide) (ansP_len _) (fun ⟨_, hx⟩ => by
    have : 4096 ≤ (ssetL s.st.now ⟨keyP 114 n, [1]⟩).length := hx
    omega) fun h17 F17 H17 s17 => ?_
  have E1 := (D1.ext u1416).upd s17.upd m1
  have E3 := (D3.ext u1416).upd s17.upd m3
  have lc17 : SemE PG h17 (Instr.loadAt T_p_chain_Chain (.pointer (some ⟨r1, 0, none⟩))) = some (.pointer (some ⟨c, 0, none⟩)) := by rw [T_p_chain_Chain.load, E1.cell]; rfl
  have lp17 : SemE PG h17 (Instr.loadAt T_api_Packet (.pointer (some ⟨r3, 0, none⟩))) = some p.v := E3.pk rfl
  simp only [lc17, lp17, zSS, reduceIte, zZZ, Nat.reduceAdd]
  refine CNote_ok H17 2 w hl fun h18 F18 H18 s18 => ?_
  have es : ((s.put (keyP 114 n) [1]).put (keyP 97 n) (ansP p)).add ⟨2, p⟩ = s.received p := by unfold Ch.received; rw [hn]; rfl
  rw [es] at H18
  exact hk he h18 F18 H18 (((((Step.ext (e5.trans v513)).trans s14).trans (Step.ext u1416)).trans s17).trans s18)
end Go.Proofs.YtcoajnpchhmgjaaGreatDoor
namespace Go.Proofs.YtcoajnpchhmgjaaGreatDoor
open Go
set_option maxRecDepth 20000
def Ch.told (s : Ch) (x : Int) (root : Tx) : Ch := { s with cl := (setK s.cl ⟨x, tx root⟩).2 }
theorem CUpdate_ok {h : PH} {c : Nat} {s : Ch} {F : List Nat} (H : ChA c s h F) (x : Int) (root : Tx) {kk : Value → PH → Prop}
    (hk : ∀ h' F', ChA c (s.told x root) h' F' → Step h F h' F' → kk (.int .i64 (setK s.cl ⟨x, tx root⟩).1) h') : CallsH PG id_chain_Chain_Update #[.pointer (some ⟨c, 0, none⟩), .int .u64 x, .string (tx root)] h kk := by
  apply chain_Chain_Update.call
  unfold chain_Chain_Update
  obtain ⟨sp, m, cp, nv, bv, lk, P, perm, ok⟩ := H
  simp only [T_chain_Chain.f2, Nat.zero_add, Ch.load6 P.cell, zSS, reduceIte, zZZ, Nat.reduceAdd]
  obtain ⟨Fc, ⟨hs, C⟩, hFc, back⟩ := P.fCli
  refine Set_ok C ⟨x, tx root⟩ fun h1 hs1 F1 C1 u1 g1 => ?_
  obtain ⟨F2, P2, s2⟩ := back (cliA cp (setK s.cl ⟨x, tx root⟩).2) h1 F1 ⟨hs1, C1⟩ ⟨u1, g1⟩
  exact hk h1 F2 ⟨sp, m, cp, nv, bv, lk, P2, perm, ⟨ok.id, ok.len, ok.first, ok.seq, ok.seq1, ok.nts, ok.wf, ok.bwf⟩⟩ s2
def proveP (s : St) (key : Tx) (x : Nat) : Tx × Int := match sAt s x with
  | none => ([], 3)
  | some b => if (sgetL b key).isSome then pfBytes (proofP b key) else if 1 ≤ key.length ∧ key.length ≤ 16 then pfBytes (proofP b key) else ([], 1)
theorem St.Ok.mok {s : St} (H : s.Ok) {x : Nat} {b : List Pr} (hb : sAt s x = some b) : MOk b := by
  have hm : b ∈ s.blocks := List.mem_of_getElem? (sAt_lt hb).2
  obtain ⟨h1, h2, h3⟩ := H.blk b hm
  exact ⟨h1, h3, fun p hp => by have := h2 p hp; unfold SFit at this; omega, fun p hp => by have := h2 p hp; unfold SFit at this; omega⟩
theorem CProve_ok {h : PH} {c : Nat} {s : Ch} {F : List Nat} (hK : KAt h) (H : ChA c s h F) (key : Tx) {x : Nat} (hx : x < 18446744073709551616) {kk : Value → PH → Prop}
    (hk : ∀ h', Ext h h' → kk (.tuple #[.string (tx (proveP s.st key x).1), .int .i64 (proveP s.st key x).2]) h') : CallsH PG id_chain_Chain_Prove #[.pointer (some ⟨c, 0, none⟩), .string (tx key), .int .u64 (x : Int)] h kk := by
  apply chain_Chain_Prove.call
  unfold chain_Chain_Prove
  obtain ⟨sp, m, cp, nv, bv, lk, P, perm, ok⟩ := H
  have hst := P.okst
  simp only [T_chain_Chain.f0, T_chain_ledger.f0, Ch.load0 P.cell, zSS, reduceIte, zZZ, Nat.reduceAdd]
  obtain ⟨Fs, S, -, -⟩ := P.fSt
  have q0 : ({ data := #[] } : ByteArray) = tx [] := rfl
  unfold proveP at hk
  refine At_ok S x hx (fun e v h1 F1 O1 f1 u1 => ?_) (fun b v h1 F1 e O1 f1 u1 => ?_)
  · rw [e] at hk
    have q : ((3 : Int) != 0) = true := by decide
    simp only [neqI, q, q0, zSS, reduceIte, zZZ, Nat.reduceAdd]
    exact hk h1 u1
  · rw [e] at hk
    simp only at hk
    have M := hst.mok e
    have B1 := O1.slR
    simp only [neqI, zSS, reduceIte, zZZ, Nat.reduceAdd]
    -- the end
    have fin : ∀ {h4 : PH} {ab : Bool} {v4 : Value} {r : Nat}, Ext h1 h4 → Bx h4 r [.bool ab, v4] → LsAt h1 h4 v4 (proofP b key).lv → ab = (proofP b key).ab → (∀ h', Ext h h' → kk (.tuple #[.string (tx (pfBytes (proofP b key)).1), .int .i64 (pfBytes (proofP b key)).2]) h') → chain_Chain_Prove_k25 kk (.int .i64 0) (.pointer (some ⟨r, 0, none⟩)) h4 := by
      intro h4 ab v4 r u4 B4 L4 eab hk
      unfold chain_Chain_Prove_k25
      have l4 : SemE PG h4 (Instr.loadAt T_api_Proof (.pointer (some ⟨r, 0, none⟩))) = some (Pf.val ab v4) := T_api_Proof.agg B4 (by show 0 + 2 ≤ 2; decide)
      simp only [neqI, l4, zSS, reduceIte, zZZ, Nat.reduceAdd]
      obtain ⟨l, F', el, O, -, L⟩ := L4.here
      have epf : (⟨ab, l.map (·.1)⟩ : Pf) = proofP b key := by rw [el, eab]
      have hpf := proofP_ok M key
      refine PBytes_ok O.slR L.lfs (by
        have : l.length = (proofP b key).lv.length := by rw [← el]; simp
        have := hpf.1; omega) (fun y hy => by
        have hm : y.1 ∈ (proofP b key).lv := by rw [← el]; exact List.mem_map_of_mem hy
        obtain ⟨j, hj, ej⟩ := hpf.2 _ hm
        have := (leafOf_ok M hj).m
        rw [ej]; omega) fun h5 u5 => ?_
      rw [epf]
      simp only [zSS, reduceIte, zZZ, Nat.reduceAdd]
      exact hk h5 ((u1.trans u4).trans u5)
    refine Present_ok M (hK.ext u1) B1 (fun hno h2 u2 => ?_) (fun hyes h2 v2 L2 u2 => ?_)
    · have hns : (sgetL b key).isSome = false := by rw [hno]; rfl
      rw [hns] at hk
      simp only [Bool.false_eq_true, if_false] at hk
      simp only [zSS, reduceIte, zZZ, Nat.reduceAdd]
      intro r14 hr14
      try rw [bindH_eq]
      refine T_api_Proof.fill (vs := [.bool false, .slice none 0 0]) hr14 rfl (by simp [isCell]) fun h3 B3 u3 => ?_
      have q : ((3 : Int) != 0) = true := by decide
      have e3 := u2.trans u3
      simp only [neqI, q, zSS, reduceIte, zZZ, Nat.reduceAdd]
      have bad : ∀ {h4 : PH} {e : Int}, Ext h3 h4 → e ≠ 0 → (∀ h', Ext h h' → kk (.tuple #[.string (tx []), .int .i64 e]) h') → SemH PG (storeS T_api_Proof (.pointer (some ⟨r14, 0, none⟩)) (Pf.val false (.slice none 0 0))) h4 fun v23 h24 => chain_Chain_Prove_k25 kk (.int .i64 e) (.pointer (some ⟨r14, 0, none⟩)) h24 := by
        intro h4 e u4 hne hk
        refine T_api_Proof.put (vs := [.bool false, .slice none 0 0]) (B3.ext u4) (o := 0) rfl (by show 0 + 2 ≤ 2; decide) (by simp [isCell]) fun h5 B5 u5 => ?_
        unfold chain_Chain_Prove_k25
        have q : (e != 0) = true := by simpa using hne
        simp only [neqI, q, q0, zSS, reduceIte, zZZ, Nat.reduceAdd]
        exact hk h5 (((u1.trans e3).trans u4).fresh u5 (Fresh.one ((u1.trans u2).none hr14)))
      refine Absent_ok M ((hK.ext u1).ext e3) (B1.ext e3) (fun hb h4 u4 => ?_) (fun hs h4 u4 => ?_) (fun h1' h2' _ h4 v4 L4 u4 => ?_)
      · rw [if_neg hb] at hk
        simp only [zSS, reduceIte, zZZ, Nat.reduceAdd]
        exact bad u4 (by decide) hk
      · rw [hns] at hs; cases hs
      · rw [if_pos ⟨h1', h2'⟩] at hk
        simp only [zSS, reduceIte, zZZ, Nat.reduceAdd]
        refine T_api_Proof.put (vs := [.bool true, v4]) (B3.ext u4) (o := 0) rfl (by show 0 + 2 ≤ 2; decide) (by
          have := L4.isc
          simp [isCell]; exact this) fun h5 B5 u5 => ?_
        have hab : (proofP b key).ab = true := by
          unfold proofP
          rw [if_neg (by rw [hns]; decide)]
          split
          · rfl
          · split
            · rfl
            · split <;> rfl
        have L5 : LsAt h3 h5 v4 (proofP b key).lv := L4.upd u5 (fun b hb => by simp only [List.mem_singleton] at hb; rw [hb]; exact B3.known)
        exact fin ((e3.trans u4).fresh u5 (Fresh.one (u2.none hr14))) B5 (L5.of e3) hab.symm hk
    · rw [hyes] at hk
      simp only [if_true] at hk
      simp only [zSS, reduceIte, zZZ, Nat.reduceAdd]
      intro r14 hr14
      try rw [bindH_eq]
      refine T_api_Proof.fill (vs := [.bool false, v2]) hr14 rfl (by
        have := L2.isc
        simp [isCell]; exact this) fun h3 B3 u3 => ?_
      have epf : proofP b key = ⟨false, [leafOf b (placeP b key)]⟩ := by unfold proofP; rw [if_pos hyes]
      exact fin (u2.trans u3) B3 (by rw [epf]; exact L2.upd u3 (fun b hb => by cases hb)) (by rw [epf]) hk
end Go.Proofs.YtcoajnpchhmgjaaGreatDoor
namespace Go.Proofs.YtcoajnpchhmgjaaGreatDoor
open Go
set_option maxRecDepth 20000
def Ch.committed (s : Ch) : Ch := if (sCom s.st).2.2 = 0 then { s with st := (sCom s.st).1, blk := s.blk ++ [s.nts], nts := [] } else s
theorem ns_lit1 (a : Option Addr) (n c : Nat) : SemA PG (Instr.buildSlice T_sl_sl_api_Note 1 #[(0, .slice a n c)]) = some (.cells #[.slice a n c] T_sl_api_Note, fun r => pure (.slice (some ⟨r, 0, none⟩) 1 1)) := by kernel_rfl
theorem sCom_bad {s : St} (h : (sCom s).2.2 ≠ 0) : (sCom s).1 = s := by
  unfold sCom at h ⊢
  split
  · rfl
  · rename_i h1
    rw [if_neg h1] at h
    split
    · rfl
    · rename_i h2
      rw [if_neg h2] at h
      exact absurd rfl h
theorem sCom_good {s : St} (h : (sCom s).2.2 = 0) : (sCom s).1 = { s with blocks := s.blocks ++ [s.now], height := s.height + 1 } ∧ (sCom s).2.1 = s.height + 1 := by
  unfold sCom at h ⊢
  split
  · rename_i h1; rw [if_pos h1] at h; cases h
  · rename_i h1
    rw [if_neg h1] at h
    split
    · rename_i h2; rw [if_pos h2] at h; cases h
    · exact ⟨rfl, rfl⟩
theorem CCommit_ok {h : PH} {c : Nat} {s : Ch} {F : List Nat} (hK : KAt h) (H : ChA c s h F) {kk : Value → PH → Prop}
    (hk : ∀ h' F', ChA c s.committed h' F' → Step h F h' F' → kk (.tuple #[.int .u64 ((sCom s.st).2.1 : Int), .int .i64 (sCom s.st).2.2]) h') : CallsH PG id_chain_Chain_Commit #[.pointer (some ⟨c, 0, none⟩)] h kk := by
  apply chain_Chain_Commit.call
  unfold chain_Chain_Commit chain_Chain_Commit_k34
  obtain ⟨sp, m, cp, nv, bv, lk, P, perm, ok⟩ := H
  have hst := P.okst
  simp only [T_chain_Chain.f0, T_chain_ledger.f0, Ch.load0 P.cell, zSS, reduceIte, zZZ, Nat.reduceAdd]
  obtain ⟨Fs, S, hFs, back⟩ := P.fSt
  refine Commit_ok hK S fun h1 F1 S1 u1 g1 => ?_
  obtain ⟨F2, P2, s2⟩ := back (stA sp (sCom s.st).1) h1 F1 S1 ⟨u1, g1⟩
  unfold Ch.committed at hk
  by_cases he : (sCom s.st).2.2 = 0
  case neg =>
    have q : ((sCom s.st).2.2 == 0) = false := by simpa using he
    rw [if_neg he] at hk
    simp only [eqlI, q, zSS, reduceIte, zZZ, Nat.reduceAdd]
    refine hk h1 F2 ⟨sp, m, cp, nv, bv, lk, ?_, perm, ok⟩ s2
    rw [sCom_bad he] at P2
    exact P2
  have q : ((sCom s.st).2.2 == 0) = true := by simpa using he
  rw [if_pos he] at hk
  obtain ⟨ec, -⟩ := sCom_good he
  have P2 : parts c (s.cells sp bv nv m cp) sp (sCom s.st).1 m lk cp s.cl nv s.nts bv s.blk h1 F2 := P2
  obtain ⟨Ft, ⟨Fn, Fb', rfl, On, ⟨bl, Fb, G, Ob, Sb, ebl, rfl, hG⟩, hd⟩, hFt, back2⟩ := P2.fTwo
  have On : OwnR h1 T_api_Note 5 nv (s.nts.map Nt.cells) Fn := On
  obtain ⟨na, nc, env, -⟩ := On.slR.here
  rw [List.length_map] at env
  have e2 := P2.cell
  simp only [eqlI, q, T_chain_Chain.f0, T_chain_ledger.f2, T_chain_ledger.f3, Nat.zero_add, Ch.load2 P2.cell, Ch.load3 P2.cell, zSS, reduceIte, zZZ, Nat.reduceAdd]
  rw [env]
  simp only [ns_lit1, zSS, reduceIte, zZZ, Nat.reduceAdd]
  rw [← env]
  intro r18 hr18
  refine popO_pure ?_
  try rw [bindH_eq]
  have u3 : Ext h1 (h1.set r18 (.cells #[nv] T_sl_api_Note)) := Upd.new hr18
  have s3 : SlR (h1.set r18 (.cells #[nv] T_sl_api_Note)) 1 (.slice (some ⟨r18, 0, none⟩) 1 1) ([(nv, s.nts)].map nrow) := (OwnR.lit (nrow.rows [(nv, s.nts)]) set_same (by simp) (by decide) (by simp [nrow])).slR
  generalize h1.set r18 (.cells #[nv] T_sl_api_Note) = h3 at *
  have hbl : bl.length ≤ 4096 := by
    have h1 := hst.h2
    have h2 := ok.len
    have h3 : bl.length = s.blk.length := by rw [← ebl]; simp
    omega
  refine append_own T_sl_sl_api_Note.und T_sl_sl_api_Note.und T_sl_api_Note.info T_sl_api_Note.size T_sl_api_Note.bytes T_sl_api_Note.zero rfl (by decide) (Ob.ext u3) s3 (fun r hr u hu => by
    obtain ⟨y, hy, rfl⟩ := List.mem_map.1 hr
    simp only [List.mem_singleton] at hy
    subst hy
    simp only [nrow, List.mem_singleton] at hu
    subst hu
    exact On.slR.isc) (by simp; omega) ?_
  intro v4 h4 F4 O4 u4 g4 _
  rw [← List.map_append] at O4
  have nFb : ∀ b ∈ Fn, b ∉ Fb := fun b hb hb' => hd b hb (by simp [hb'])
  have On4 : OwnR h4 T_api_Note 5 nv (s.nts.map Nt.cells) Fn := (On.ext u3).upd u4 nFb
  have A4 : blkA v4 (s.blk ++ [s.nts]) h4 (F4 ++ (Fn ++ G)) := by
    refine ⟨bl ++ [(nv, s.nts)], F4, Fn ++ G, O4, fun x hx => ?_, by rw [List.map_append, ebl]; rfl, rfl, fun g hg => ?_⟩
    · rcases List.mem_append.1 hx with hx | hx
      · refine ⟨((Sb x hx).1.ext u3).upd u4 fun a n c ev => (hG _ ((Sb x hx).2 a n c ev)).1, fun a n c ev => ?_⟩
        have := (Sb x hx).2 a n c ev
        simp [this]
      · simp only [List.mem_singleton] at hx
        subst hx
        refine ⟨On4.slR, fun a n c ev => ?_⟩
        have := inB_own On a n c ev
        simp [this]
    · rcases List.mem_append.1 hg with hg | hg
      · refine ⟨fun hx => ?_, On4.known g hg⟩
        rcases g4 g hx with hx | hx
        · exact nFb g hg hx
        · exact (On.ext u3).known g hg hx
      · obtain ⟨y1, y2⟩ := hG g hg
        obtain ⟨o, ho⟩ := Option.ne_none_iff_exists'.1 y2
        have h3g := u3.get ho
        refine ⟨fun hx => ?_, by rw [u4.get h3g y1]; simp⟩
        rcases g4 g hx with hx | hx
        · exact y1 hx
        · rw [hx] at h3g; cases h3g
  have st4 : Step h1 (Fn ++ (Fb ++ G)) h4 (F4 ++ (Fn ++ G)) := by
    refine ⟨fun b o hb hn => u4 b o (u3.get hb) (fun hm => hn (by simp [hm])), fun b hb => ?_⟩
    rcases List.mem_append.1 hb with hb | hb
    · rcases g4 b hb with hx | hx
      · exact .inl (by simp [hx])
      · exact .inr (u3.none hx)
    · rcases List.mem_append.1 hb with hb | hb
      · exact .inl (by simp [hb])
      · exact .inl (by simp [hb])
  have T4 : (star (owned T_api_Note 5 (.slice none 0 0) (([] : List Nt).map Nt.cells)) (blkA v4 (s.blk ++ [s.nts]))) h4 ([] ++ (F4 ++ (Fn ++ G))) := star.mk (OwnR.nil) A4 (fun b hb => by cases hb)
  rw [List.nil_append] at T4
  obtain ⟨F5, P5, s5⟩ := back2 _ h4 _ T4 st4
  have P5 : parts c (s.cells sp bv nv m cp) sp (sCom s.st).1 m lk cp s.cl (.slice none 0 0) [] v4 (s.blk ++ [s.nts]) h4 F5 := P5
  try simp only [T_chain_Chain.f0, T_chain_ledger.f2, Nat.zero_add, zSS, reduceIte, zZZ, Nat.reduceAdd]
  obtain ⟨Fb6, ⟨rfl, B6⟩, hF6, back3⟩ := P5.fBox
  refine T_sl_sl_api_Note.put B6 (o := 2) (by show 2 < 8; decide) O4.slR.isc fun h6 B6' u6 => ?_
  try simp only [T_chain_Chain.f0, T_chain_ledger.f3, Nat.zero_add, zSS, reduceIte, zZZ, Nat.reduceAdd]
  refine T_sl_api_Note.put B6' (o := 3) (by show 3 < 8; decide) rfl fun h7 B7 u7 => ?_
  have u67 : Upd [c] h4 h7 := u6.trans u7
  obtain ⟨F7, P7, s7⟩ := back3 (box c (s.cells sp v4 (.slice none 0 0) m cp)) h7 [c] ⟨rfl, B7⟩ ⟨u67, fun b hb => .inl hb⟩
  refine hk h7 F7 ⟨sp, m, cp, .slice none 0 0, v4, lk, P7, ?_, ⟨ok.id, ?_, ?_, ok.seq, ok.seq1, by simp, by simp, ?_⟩⟩ ((s2.trans s5).trans s7)
  · show lk.Perm (sCom s.st).1.now
    rw [ec]; exact perm
  · show (s.blk ++ [s.nts]).length = (sCom s.st).1.blocks.length
    rw [ec, List.length_append, List.length_append, ok.len]; rfl
  · show s.first + ((s.blk ++ [s.nts]).length - 1) = (sCom s.st).1.height
    have h1 := ok.len
    have h2 := ok.first
    have h3 := hst.h1
    rw [ec, List.length_append]
    show s.first + (s.blk.length + 1 - 1) = s.st.height + 1
    omega
  · intro b hb
    rcases List.mem_append.1 hb with hb | hb
    · exact ok.bwf b hb
    · simp only [List.mem_singleton] at hb
      subst hb
      exact ⟨ok.nts, ok.wf⟩
end Go.Proofs.YtcoajnpchhmgjaaGreatDoor
namespace Go.Proofs.YtcoajnpchhmgjaaGreatDoor
open Go
set_option maxRecDepth 20000
def Ch.new (id : Int) (n seq : Nat) : Ch := ⟨id, ⟨[], [[]], n⟩, n, [[]], [], [], seq⟩
theorem lg_b (sp r m n : Nat) : SemP PG (Instr.build T_chain_ledger #[(0, .pointer (some ⟨sp, 0, none⟩)), (1, .int .u64 (n : Int)), (2, .slice (some ⟨r, 0, none⟩) 1 1), (4, .map (some m))]) = some (.agg #[.pointer (some ⟨sp, 0, none⟩), .int .u64 (n : Int), .slice (some ⟨r, 0, none⟩) 1 1, .slice none 0 0, .map (some m)]) := by kernel_rfl
theorem ch_b (sp r m cp n seq : Nat) (id : Int) : SemP PG (Instr.build T_chain_Chain #[(0, .agg #[.pointer (some ⟨sp, 0, none⟩), .int .u64 (n : Int), .slice (some ⟨r, 0, none⟩) 1 1, .slice none 0 0, .map (some m)]), (1, .int .i64 id), (2, .pointer (some ⟨cp, 0, none⟩)), (3, .int .u64 (seq : Int))]) = some (.agg ((Ch.new id n seq).cells sp (.slice (some ⟨r, 0, none⟩) 1 1) (.slice none 0 0) m cp).toArray) := by kernel_rfl
theorem ms1 : ∃ zs : Array Value, SemA PG (Instr.makeSlice T_sl_sl_api_Note (.int .i64 1) (.int .i64 1)) = some (.cells zs T_sl_api_Note (0, 0), fun r => pure (.slice (some ⟨r, 0, none⟩) 1 1)) ∧ zs.toList = [.slice none 0 0] := by
  obtain ⟨zs, h1, h2⟩ := makeSlice_eq (P := PG) (n := 1) T_sl_sl_api_Note.und T_sl_api_Note.info T_sl_api_Note.size T_sl_api_Note.bytes T_sl_api_Note.zero rfl (by decide) (by decide) (by decide)
  exact ⟨zs, h1, by rw [h2]; rfl⟩
theorem CNewCh_ok {h : PH} (hK : KAt h) (id : Int) {n seq : Nat} (hn : n < 18446744073709551616) (hs : seq < 18446744073709551616) {kk : Value → PH → Prop}
    (hbad : (id < 0 ∨ 1 < id ∨ seq = 0) → kk (.tuple #[.pointer none, .int .i64 1]) h)
    (hk : ¬ (id < 0 ∨ 1 < id ∨ seq = 0) → ∀ h' c F, ChA c (Ch.new id n seq) h' F → Fresh h F → Ext h h' → kk (.tuple #[.pointer (some ⟨c, 0, none⟩), .int .i64 0]) h') :
    CallsH PG id_chain_New #[.int .i64 id, .int .u64 (n : Int), .int .u64 (seq : Int)] h kk := by
  apply chain_New.call
  unfold chain_New
  by_cases c1 : id < 0
  · have g1 := eq_true c1
    simp only [g1, zSS, reduceIte, zZZ, Nat.reduceAdd]
    exact hbad (.inl c1)
  have g1 := eq_false c1
  by_cases c2 : 1 < id
  · have g2 := eq_true c2
    simp only [g1, g2, zSS, reduceIte, zZZ, Nat.reduceAdd]
    exact hbad (.inr (.inl c2))
  have g2 := eq_false c2
  by_cases c3 : seq = 0
  · have g3 : ((seq : Int) == 0) = true := by rw [c3]; rfl
    simp only [g1, g2, eqlI, g3, zSS, reduceIte, zZZ, Nat.reduceAdd]
    exact hbad (.inr (.inr c3))
  have g3 : ((seq : Int) == 0) = false := by rw [beq_eq_false_iff_ne]; omega
  have hk := hk (by omega)
  simp only [g1, g2, eqlI, g3, zSS, reduceIte, zZZ, Nat.reduceAdd]
  refine StNew_ok n hn hK fun sp h1 F1 S1 f1 u1 => ?_
  refine CNew_ok fun cp h2 F2 C2 u2 f2 => ?_
  obtain ⟨zs, m1, m2⟩ := ms1
  simp only [m1, makeMap_eq, zSS, reduceIte, zZZ, Nat.reduceAdd]
  intro r22 hr22
  refine popO_pure ?_
  try rw [bindH_eq]
  have u3 : Ext h2 (h2.set r22 (.cells zs T_sl_api_Note (0, 0))) := Upd.new hr22
  have O3 : OwnR (h2.set r22 (.cells zs T_sl_api_Note (0, 0))) T_sl_api_Note 1 (.slice (some ⟨r22, 0, none⟩) 1 1) ([(Value.slice none 0 0, ([] : List Nt))].map nrow) [r22] := OwnR.lit (nrow.rows _) set_same (by simp) (by decide) (by rw [m2]; rfl)
  generalize h2.set r22 (.cells zs T_sl_api_Note (0, 0)) = h3 at *
  try simp only [makeMap_eq, zSS, reduceIte, zZZ, Nat.reduceAdd]
  intro r26 hr26
  refine popO_pure ?_
  try rw [bindH_eq]
  have u4 : Ext h3 (h3.set r26 (.map #[] 0)) := Upd.new hr26
  have M4 : SMAt (h3.set r26 (.map #[] 0)) r26 [] := MapAt.new
  generalize h3.set r26 (.map #[] 0) = h4 at *
  simp only [lg_b, ch_b, zSS, reduceIte, zZZ, Nat.reduceAdd]
  intro r32 hr32
  try rw [bindH_eq]
  have u5 : Ext h4 (h4.set r32 (.cells (Value.cells (.agg ((Ch.new id n seq).cells sp (.slice (some ⟨r22, 0, none⟩) 1 1) (.slice none 0 0) r26 cp).toArray)) T_chain_Chain)) := Upd.new hr32
  have B5 : Bx (h4.set r32 (.cells (Value.cells (.agg ((Ch.new id n seq).cells sp (.slice (some ⟨r22, 0, none⟩) 1 1) (.slice none 0 0) r26 cp).toArray)) T_chain_Chain)) r32 ((Ch.new id n seq).cells sp (.slice (some ⟨r22, 0, none⟩) 1 1) (.slice none 0 0) r26 cp) := Bx.new
  generalize h4.set r32 (.cells (Value.cells (.agg ((Ch.new id n seq).cells sp (.slice (some ⟨r22, 0, none⟩) 1 1) (.slice none 0 0) r26 cp).toArray)) T_chain_Chain) = h5 at *
  have e25 := (u3.trans u4).trans u5
  have A : blkA (.slice (some ⟨r22, 0, none⟩) 1 1) [[]] h5 [r22] := by
    refine ⟨[(Value.slice none 0 0, [])], [r22], [], (O3.ext u4).ext u5, fun x hx => ?_, rfl, rfl, fun g hg => by cases hg⟩
    simp only [List.mem_singleton] at hx
    subst hx
    exact ⟨(OwnR.nil (e := T_api_Note) (size := 5)).slR, fun a n c e => by cases e⟩
  have k22 : ∀ b ∈ F2, b ≠ r22 := fun b hb e => C2.known b hb (e ▸ hr22)
  have k22' : ∀ b ∈ F1, b ≠ r22 := fun b hb e => by
    have := StAt.known (S1.ext u2) b hb
    rw [e] at this; exact this hr22
  have k12 : ∀ b ∈ F1, b ∉ F2 := fun b hb hb' => S1.known b hb (f2 b hb')
  have k26a : ∀ b ∈ F1, b ≠ r26 := fun b hb e => by
    have := StAt.known ((S1.ext u2).ext u3) b hb
    rw [e] at this; exact this hr26
  have k26b : ∀ b ∈ F2, b ≠ r26 := fun b hb e => (C2.ext u3).known b hb (e ▸ hr26)
  have k26c : r22 ≠ r26 := fun e => by
    have := O3.known r22 (by simp)
    rw [e] at this; exact this hr26
  have k32a : ∀ b ∈ F1, b ≠ r32 := fun b hb e => by
    have := StAt.known (((S1.ext u2).ext u3).ext u4) b hb
    rw [e] at this; exact this hr32
  have k32b : ∀ b ∈ F2, b ≠ r32 := fun b hb e => ((C2.ext u3).ext u4).known b hb (e ▸ hr32)
  have k32c : r22 ≠ r32 := fun e => by
    have := (O3.ext u4).known r22 (by simp)
    rw [e] at this; exact this hr32
  have k32d : r26 ≠ r32 := fun e => by
    have := MapAt.known M4
    rw [e] at this; exact this hr32
  have T5 : (star (owned T_api_Note 5 (.slice none 0 0) (([] : List Nt).map Nt.cells)) (blkA (.slice (some ⟨r22, 0, none⟩) 1 1) [[]])) h5 ([] ++ [r22]) := star.mk OwnR.nil A (fun b hb => by cases hb)
  have T4 : (star (cliA cp []) (star (owned T_api_Note 5 (.slice none 0 0) (([] : List Nt).map Nt.cells)) (blkA (.slice (some ⟨r22, 0, none⟩) 1 1) [[]]))) h5 (F2 ++ ([] ++ [r22])) := star.mk ⟨[], C2.ext e25⟩ T5 (fun b hb => by simpa using k22 b hb)
  have T3 : (star (mapA r26 []) (star (cliA cp []) (star (owned T_api_Note 5 (.slice none 0 0) (([] : List Nt).map Nt.cells)) (blkA (.slice (some ⟨r22, 0, none⟩) 1 1) [[]])))) h5 ([r26] ++ (F2 ++ ([] ++ [r22]))) := star.mk ⟨rfl, MapAt.ext M4 u5⟩ T4 (fun b hb => by
    simp only [List.mem_singleton] at hb
    subst hb
    simp only [List.nil_append, List.mem_append, List.mem_singleton, not_or]
    exact ⟨fun hx => k26b b hx rfl, fun e => k26c e.symm⟩)
  have T2 : (star (stA sp ⟨[], [[]], n⟩) (star (mapA r26 []) (star (cliA cp []) (star (owned T_api_Note 5 (.slice none 0 0) (([] : List Nt).map Nt.cells)) (blkA (.slice (some ⟨r22, 0, none⟩) 1 1) [[]]))))) h5 (F1 ++ ([r26] ++ (F2 ++ ([] ++ [r22])))) := star.mk ((S1.ext u2).ext e25) T3 (fun b hb => by
    simp only [List.nil_append, List.mem_append, List.mem_singleton, not_or]
    exact ⟨k26a b hb, k12 b hb, k22' b hb⟩)
  have T1 : parts r32 ((Ch.new id n seq).cells sp (.slice (some ⟨r22, 0, none⟩) 1 1) (.slice none 0 0) r26 cp) sp ⟨[], [[]], n⟩ r26 [] cp [] (.slice none 0 0) [] (.slice (some ⟨r22, 0, none⟩) 1 1) [[]] h5 ([r32] ++ (F1 ++ ([r26] ++ (F2 ++ ([] ++ [r22]))))) := star.mk ⟨rfl, B5⟩ T2 (fun b hb => by
    simp only [List.mem_singleton] at hb
    subst hb
    simp only [List.nil_append, List.mem_append, List.mem_singleton, not_or]
    exact ⟨fun hx => k32a b hx rfl, fun e => k32d e.symm, fun hx => k32b b hx rfl, fun e => k32c e.symm⟩)
  refine hk h5 r32 _ ⟨sp, r26, cp, .slice none 0 0, _, [], T1, List.Perm.refl _, ⟨by show id = 0 ∨ id = 1; omega, rfl, rfl, hs, by show 1 ≤ seq; omega, by show 0 ≤ _; omega, (fun x hx => by cases hx), (fun b hb => ?_)⟩⟩ ?_ ((u1.trans u2).trans e25)
  · have : b = [] := by simpa [Ch.new] using hb
    subst this
    exact ⟨by simp, by simp⟩
  · intro b hb
    simp only [List.nil_append, List.mem_append, List.mem_singleton] at hb
    rcases hb with rfl | hb | rfl | hb | rfl
    · exact ((u1.trans u2).trans (u3.trans u4)).none hr32
    · exact f1 b hb
    · exact ((u1.trans u2).trans u3).none hr26
    · exact u1.none (f2 b hb)
    · exact (u1.trans u2).none hr22
end Go.Proofs.YtcoajnpchhmgjaaGreatDoor
namespace Go.Proofs.YtcoajnpchhmgjaaGreatDoor
open Go Bld
set_option maxRecDepth 20000
structure Cut (L : List Pr) (k : Tx) (A M B : List Pr) : Prop where
  eq : L = A ++ (M ++ B)
  lo : ∀ p ∈ A, p.k < k
  hi : ∀ p ∈ B, k < p.k
  mid : M = [] ∨ ∃ p, M = [p] ∧ p.k = k
theorem SUp.cut (k : Tx) : ∀ {L : List Pr}, SUp L → ∃ A M B, Cut L k A M B
  | [], _ => ⟨[], [], [], rfl, by simp, by simp, .inl rfl⟩
  | p :: L, h => by
    unfold SUp at h
    rw [List.pairwise_cons] at h
    obtain ⟨h1, h2⟩ := h
    rcases tx_total p.k k with e | e | e
    · obtain ⟨A, M, B, c⟩ := SUp.cut k h2
      refine ⟨p :: A, M, B, by rw [c.eq]; rfl, fun q hq => ?_, c.hi, c.mid⟩
      rcases List.mem_cons.1 hq with rfl | hq
      · exact e
      · exact c.lo q hq
    · exact ⟨[], [p], L, rfl, by simp, fun q hq => by rw [← e]; exact h1 q hq, .inr ⟨p, rfl, e⟩⟩
    · refine ⟨[], [], p :: L, rfl, by simp, fun q hq => ?_, .inl rfl⟩
      rcases List.mem_cons.1 hq with rfl | hq
      · exact e
      · exact List.lt_trans e (h1 q hq)
theorem Cut.set {L A M B : List Pr} {k v : Tx} (c : Cut L k A M B) (h : SUp L) : ssetL L ⟨k, v⟩ = A ++ ⟨k, v⟩ :: B := by
  unfold ssetL
  have fA : A.filter (fun q => decide (q.k < k)) = A := List.filter_eq_self.2 fun p hp => by simpa using c.lo p hp
  have fA2 : A.filter (fun q => decide (k < q.k)) = [] := List.filter_eq_nil_iff.2 fun p hp => by simpa using List.lt_asymm (c.lo p hp)
  have fB : B.filter (fun q => decide (k < q.k)) = B := List.filter_eq_self.2 fun p hp => by simpa using c.hi p hp
  have fB2 : B.filter (fun q => decide (q.k < k)) = [] := List.filter_eq_nil_iff.2 fun p hp => by simpa using List.lt_asymm (c.hi p hp)
  have fM : M.filter (fun q => decide (q.k < k)) = [] := List.filter_eq_nil_iff.2 fun p hp => by
    rcases c.mid with e | ⟨q, e, e2⟩
    · rw [e] at hp; cases hp
    · rw [e] at hp; simp only [List.mem_singleton] at hp; subst hp; rw [e2]; simp [List.lt_irrefl]
  have fM2 : M.filter (fun q => decide (k < q.k)) = [] := List.filter_eq_nil_iff.2 fun p hp => by
    rcases c.mid with e | ⟨q, e, e2⟩
    · rw [e] at hp; cases hp
    · rw [e] at hp; simp only [List.mem_singleton] at hp; subst hp; rw [e2]; simp [List.lt_irrefl]
  rw [c.eq, List.filter_append, List.filter_append, List.filter_append, List.filter_append]
  simp only [fA, fA2, fB, fB2, fM, fM2, List.append_nil, List.nil_append]
theorem Cut.del {L A M B : List Pr} {k : Tx} (c : Cut L k A M B) : sdelL L k = A ++ B := by
  unfold sdelL
  have fA : A.filter (fun q => decide (q.k ≠ k)) = A := List.filter_eq_self.2 fun p hp => by
    have := c.lo p hp
    simp only [decide_eq_true_eq]; intro e; rw [e] at this; exact List.lt_irrefl _ this
  have fB : B.filter (fun q => decide (q.k ≠ k)) = B := List.filter_eq_self.2 fun p hp => by
    have := c.hi p hp
    simp only [decide_eq_true_eq]; intro e; rw [e] at this; exact List.lt_irrefl _ this
  have fM : M.filter (fun q => decide (q.k ≠ k)) = [] := List.filter_eq_nil_iff.2 fun p hp => by
    rcases c.mid with e | ⟨q, e, e2⟩
    · rw [e] at hp; cases hp
    · rw [e] at hp; simp only [List.mem_singleton] at hp; subst hp; simp [e2]
  rw [c.eq, List.filter_append, List.filter_append, fA, fB, fM, List.nil_append]
theorem Cut.get {L A M B : List Pr} {k : Tx} (c : Cut L k A M B) (h : SUp L) : (sgetL L k).isSome = decide (M ≠ []) := by
  rcases c.mid with e | ⟨q, e, e2⟩
  · subst e
    have : sgetL L k = none := sgetL_none.2 fun p hp e => by
      rw [c.eq, List.nil_append, List.mem_append] at hp
      rcases hp with hp | hp
      · have := c.lo p hp; rw [e] at this; exact List.lt_irrefl _ this
      · have := c.hi p hp; rw [e] at this; exact List.lt_irrefl _ this
    rw [this]; rfl
  · subst e
    have : sgetL L k = some q := (sgetL_some h).2 ⟨by rw [c.eq]; simp, e2⟩
    rw [this]; rfl
def vcell (x : Value × List Pr) : List Value := [x.1]
theorem vcell.rows (l : List (Value × List Pr)) : Rows 1 (l.map vcell) := fun r hr => by
  obtain ⟨p, -, rfl⟩ := List.mem_map.1 hr; rfl
structure RsAt (h : PH) (b : Nat) (s : St) (G : List Nat) : Prop where
  here : ∃ (nv bv : Value) (bl : List (Value × List Pr)), h b = some (.cells #[nv, .int .u64 ((s.height - (s.blocks.length - 1) : Nat) : Int), bv] T_carrackref11_Store (0, 0)) ∧ SlR h 2 nv (s.now.map Pr.cells) ∧ SlR h 1 bv (bl.map vcell) ∧
    (∀ x ∈ bl, SlR h 2 x.1 (x.2.map Pr.cells) ∧ inBlocks x.1 G) ∧ bl.map (·.2) = s.blocks ∧ inBlocks nv G ∧ inBlocks bv G ∧ b ∉ G ∧ ∀ g ∈ G, h g ≠ none
  ok : s.Ok
theorem RsAt.upd {h h' : PH} {b : Nat} {s : St} {G K : List Nat} (H : RsAt h b s G) (u : Upd K h h') (hb : b ∉ K) (hd : ∀ g ∈ G, g ∉ K) : RsAt h' b s G := by
  obtain ⟨nv, bv, bl, h1, h2, h3, h4, h5, h6, h7, h8, h9⟩ := H.here
  refine ⟨⟨nv, bv, bl, u.get h1 hb, h2.upd u fun a n c e => hd _ (h6 a n c e), h3.upd u fun a n c e => hd _ (h7 a n c e), fun x hx => ⟨(h4 x hx).1.upd u fun a n c e => hd _ ((h4 x hx).2 a n c e), (h4 x hx).2⟩, h5, h6, h7, h8, fun g hg => ?_⟩, H.ok⟩
  obtain ⟨o, ho⟩ := Option.ne_none_iff_exists'.1 (h9 g hg)
  rw [u.get ho (hd g hg)]; simp
theorem RsAt.ext {h h' : PH} {b : Nat} {s : St} {G : List Nat} (H : RsAt h b s G) (u : Ext h h') : RsAt h' b s G := H.upd u (by simp) (by simp)
theorem RsAt.known {h : PH} {b : Nat} {s : St} {G : List Nat} (H : RsAt h b s G) : ∀ g ∈ b :: G, h g ≠ none := by
  obtain ⟨nv, bv, bl, h1, h2, h3, h4, h5, h6, h7, h8, h9⟩ := H.here
  intro g hg
  rcases List.mem_cons.1 hg with rfl | hg
  · rw [h1]; simp
  · exact h9 g hg
theorem RNew_ok {h : PH} (n : Nat) (hn : n < 18446744073709551616) {k : Value → PH → Prop} (hk : ∀ b h' G, RsAt h' b ⟨[], [[]], n⟩ G → Fresh h (b :: G) → Ext h h' → k (.pointer (some ⟨b, 0, none⟩)) h') : CallsH PG id_carrackref11_New #[.int .u64 (n : Int)] h k := by
  apply carrackref11_New.call
  unfold carrackref11_New
  have b1 : SemA PG (Instr.buildSlice T_sl_sl_api_Pair 1 #[(0, (Value.slice none 0 0))]) = some (.cells #[.slice none 0 0] T_sl_api_Pair, fun r => pure (.slice (some ⟨r, 0, none⟩) 1 1)) := by kernel_rfl
  simp only [b1, zSS, reduceIte]
  intro r hr
  refine popO_pure ?_
  try rw [bindH_eq]
  have u1 : Ext h (h.set r (.cells #[.slice none 0 0] T_sl_api_Pair)) := Upd.new hr
  have O1 : OwnR (h.set r (.cells #[.slice none 0 0] T_sl_api_Pair)) T_sl_api_Pair 1 (.slice (some ⟨r, 0, none⟩) 1 1) ([((.slice none 0 0 : Value), ([] : List Pr))].map vcell) [r] := OwnR.lit (n := 1) (vcell.rows [((.slice none 0 0 : Value), ([] : List Pr))]) set_same (by simp) (by decide) rfl
  generalize h.set r (.cells #[.slice none 0 0] T_sl_api_Pair) = h1 at *
  have b2 : SemP PG (Instr.build T_carrackref11_Store #[(1, .int .u64 (n : Int)), (2, .slice (some ⟨r, 0, none⟩) 1 1)]) = some (.agg #[.slice none 0 0, .int .u64 (n : Int), .slice (some ⟨r, 0, none⟩) 1 1]) := by kernel_rfl
  simp only [b2, zSS, reduceIte]
  intro b hb
  try rw [bindH_eq]
  have u2 : Ext h1 (h1.set b (.cells (Value.cells (.agg #[.slice none 0 0, .int .u64 (n : Int), .slice (some ⟨r, 0, none⟩) 1 1])) T_carrackref11_Store)) := Upd.new hb
  have hrb : b ≠ r := by rintro rfl; exact O1.known _ (by simp) hb
  refine hk b _ [r] ⟨⟨.slice none 0 0, .slice (some ⟨r, 0, none⟩) 1 1, [(.slice none 0 0, [])], set_same, (OwnR.nil (e := T_api_Pair)).slR, (O1.ext u2).slR, ?_, rfl, (fun y m c e => by cases e), inB_own O1, by simpa using hrb, ?_⟩, St.Ok.new n hn⟩ (fun g hg => ?_) (u1.trans u2)
  · intro x hx
    simp only [List.mem_singleton] at hx
    subst hx
    exact ⟨(OwnR.nil (e := T_api_Pair)).slR, fun x n c e => by cases e⟩
  · intro g hg
    exact (O1.ext u2).known g hg
  · simp only [List.mem_cons, List.not_mem_nil, or_false] at hg
    rcases hg with rfl | rfl
    · exact u1.none hb
    · exact hr
end Go.Proofs.YtcoajnpchhmgjaaGreatDoor
namespace Go.Proofs.YtcoajnpchhmgjaaGreatDoor
open Go
set_option maxRecDepth 20000
theorem r13_b (b s c r : Nat) (id n : Int) : ∃ v : Value, SemP PG (Instr.build T_carrackref13_Chain #[(0, .pointer (some ⟨b, 0, none⟩)), (1, .int .i64 id), (2, .pointer (some ⟨s, 0, none⟩)), (3, .pointer (some ⟨c, 0, none⟩)), (4, .int .u64 n), (5, .slice (some ⟨r, 0, none⟩) 1 1)]) = some v := ⟨.agg #[.pointer (some ⟨b, 0, none⟩), .int .i64 id, .pointer (some ⟨s, 0, none⟩), .pointer (some ⟨c, 0, none⟩), .int .u64 n, .slice (some ⟨r, 0, none⟩) 1 1, .slice none 0 0], by kernel_rfl⟩
theorem ns_lit0 : SemA PG (Instr.buildSlice T_sl_sl_api_Note 1 #[(0, .slice none 0 0)]) = some (.cells #[.slice none 0 0] T_sl_api_Note, fun r => pure (.slice (some ⟨r, 0, none⟩) 1 1)) := by kernel_rfl
theorem R13New_ok {h : PH} {b : Nat} (id : Int) {n : Nat} (hn : n < 18446744073709551616) (seq : Int) {k : Value → PH → Prop} (hk : ∀ h' r, Ext h h' → k (.pointer (some ⟨r, 0, none⟩)) h') : CallsH PG id_carrackref13_New #[.pointer (some ⟨b, 0, none⟩), .int .i64 id, .int .u64 (n : Int), .int .u64 seq] h k := by
  apply carrackref13_New.call
  unfold carrackref13_New
  refine RNew_ok n hn fun s h1 G _ _ u1 => ?_
  simp only [T_carrackref12_Client.build0, zSS, reduceIte, zZZ, Nat.reduceAdd]
  intro r4 hr4
  try rw [bindH_eq]
  have u2 : Ext h1 (h1.set r4 (.cells (Value.cells (.agg #[.slice none 0 0])) T_carrackref12_Client)) := Upd.new hr4
  generalize h1.set r4 (.cells (Value.cells (.agg #[.slice none 0 0])) T_carrackref12_Client) = h2 at *
  simp only [ns_lit0, zSS, reduceIte, zZZ, Nat.reduceAdd]
  intro r6 hr6
  refine popO_pure ?_
  try rw [bindH_eq]
  have u3 : Ext h2 (h2.set r6 (.cells #[.slice none 0 0] T_sl_api_Note)) := Upd.new hr6
  generalize h2.set r6 (.cells #[.slice none 0 0] T_sl_api_Note) = h3 at *
  obtain ⟨v, ev⟩ := r13_b b s r4 r6 id seq
  simp only [ev, zSS, reduceIte, zZZ, Nat.reduceAdd]
  intro r11 hr11
  try rw [bindH_eq]
  exact hk _ r11 (((Ext.trans u1 u2).trans u3).trans (Upd.new hr11))
theorem ix2u {r o i : Nat} (hi : i < 2) : SemP PG (Instr.indexAt T_2_uint64 (.pointer (some ⟨r, o, none⟩)) (.int .i64 (i : Int))) = some (.pointer (some ⟨r, o + i, none⟩)) := by
  have ix := indexAt_array (P := PG) (t := T_2_uint64) (b := r) (o := o) (k := .i64) (j := (i : Int)) T_2_uint64.und T_uint64.info T_uint64.size (by omega) (by omega)
  rw [ix, Int.toNat_natCast, Nat.mul_one]
theorem ix2c {r o i : Nat} (hi : i < 2) : SemP PG (Instr.indexAt T_2_p_chain_Chain (.pointer (some ⟨r, o, none⟩)) (.int .i64 (i : Int))) = some (.pointer (some ⟨r, o + i, none⟩)) := by
  have ix := indexAt_array (P := PG) (t := T_2_p_chain_Chain) (b := r) (o := o) (k := .i64) (j := (i : Int)) T_2_p_chain_Chain.und T_p_chain_Chain.info T_p_chain_Chain.size (by omega) (by omega)
  rw [ix, Int.toNat_natCast, Nat.mul_one]
def u2v (a b : Nat) : Value := .agg #[.int .u64 (a : Int), .int .u64 (b : Int)]
def u2c (a b : Nat) : List Value := [.int .u64 (a : Int), .int .u64 (b : Int)]
theorem tw_b (a b : Nat) : ∃ v : Value, SemP PG (Instr.build T_2_p_carrackref13_Chain #[(0, .pointer (some ⟨a, 0, none⟩)), (1, .pointer (some ⟨b, 0, none⟩))]) = some v ∧ ∃ w : Value, SemP PG (Instr.build T_carrackref13_Two #[(0, v)]) = some w := ⟨.agg #[.pointer (some ⟨a, 0, none⟩), .pointer (some ⟨b, 0, none⟩)], by kernel_rfl, .agg #[.pointer (some ⟨a, 0, none⟩), .pointer (some ⟨b, 0, none⟩)], by kernel_rfl⟩
theorem Both_ok {h : PH} {bk : Nat} {a b s0 s1 : Nat} (ha : a < 18446744073709551616) (hb : b < 18446744073709551616) {k : Value → PH → Prop} (hk : ∀ h' r, Ext h h' → k (.pointer (some ⟨r, 0, none⟩)) h') : CallsH PG id_carrackref13_Both #[.pointer (some ⟨bk, 0, none⟩), u2v a b, u2v s0 s1] h k := by
  apply carrackref13_Both.call
  unfold carrackref13_Both
  intro r1 hr1
  try rw [bindH_eq]
  have u1 : Ext h (h.set r1 (.cells (Value.cells (u2v a b)) T_2_uint64)) := Upd.new hr1
  have B1 : Bx (h.set r1 (.cells (Value.cells (u2v a b)) T_2_uint64)) r1 (u2c a b) := Bx.new
  generalize h.set r1 (.cells (Value.cells (u2v a b)) T_2_uint64) = h1 at *
  intro r3 hr3
  try rw [bindH_eq]
  have u3 : Ext h1 (h1.set r3 (.cells (Value.cells (u2v s0 s1)) T_2_uint64)) := Upd.new hr3
  have B3 : Bx (h1.set r3 (.cells (Value.cells (u2v s0 s1)) T_2_uint64)) r3 (u2c s0 s1) := Bx.new
  have C1 := B1.ext u3
  generalize h1.set r3 (.cells (Value.cells (u2v s0 s1)) T_2_uint64) = h3 at *
  have i0 : ∀ {r : Nat}, SemP PG (Instr.indexAt T_2_uint64 (.pointer (some ⟨r, 0, none⟩)) (.int .i64 0)) = some (.pointer (some ⟨r, 0, none⟩)) := ix2u (i := 0) (by decide)
  have i1 : ∀ {r : Nat}, SemP PG (Instr.indexAt T_2_uint64 (.pointer (some ⟨r, 0, none⟩)) (.int .i64 1)) = some (.pointer (some ⟨r, 1, none⟩)) := fun {r} => by have := ix2u (r := r) (o := 0) (i := 1) (by decide); rw [Nat.zero_add] at this; exact this
  have l10 : ∀ {h'' : PH}, Ext h3 h'' → SemE PG h'' (Instr.loadAt T_uint64 (.pointer (some ⟨r1, 0, none⟩))) = some (.int .u64 (a : Int)) := fun v => by rw [T_uint64.load, (C1.ext v).cell]; rfl
  have l11 : ∀ {h'' : PH}, Ext h3 h'' → SemE PG h'' (Instr.loadAt T_uint64 (.pointer (some ⟨r1, 1, none⟩))) = some (.int .u64 (b : Int)) := fun v => by rw [T_uint64.load, (C1.ext v).cell]; rfl
  have l30 : ∀ {h'' : PH}, Ext h3 h'' → SemE PG h'' (Instr.loadAt T_uint64 (.pointer (some ⟨r3, 0, none⟩))) = some (.int .u64 (s0 : Int)) := fun v => by rw [T_uint64.load, (B3.ext v).cell]; rfl
  have l31 : ∀ {h'' : PH}, Ext h3 h'' → SemE PG h'' (Instr.loadAt T_uint64 (.pointer (some ⟨r3, 1, none⟩))) = some (.int .u64 (s1 : Int)) := fun v => by rw [T_uint64.load, (B3.ext v).cell]; rfl
  simp only [i0, i1, l10 Upd.refl, l11 Upd.refl, l30 Upd.refl, l31 Upd.refl, zSS, reduceIte, zZZ, Nat.reduceAdd]
  refine R13New_ok 0 ha (s0 : Int) fun h4 p u4 => ?_
  refine ⟨l31 u4, l11 u4, ?_⟩
  refine R13New_ok 1 hb (s1 : Int) fun h5 q u5 => ?_
  obtain ⟨v, e1, w, e2⟩ := tw_b p q
  simp only [e1, e2, zSS, reduceIte, zZZ, Nat.reduceAdd]
  intro r19 hr19
  try rw [bindH_eq]
  exact hk _ r19 ((((u1.trans u3).trans u4).trans u5).trans (Upd.new hr19))
def TwoA (t : Nat) (a b : Ch) : Asrt := fun h F => ∃ (c0 c1 m : Nat), (star (box t [.pointer (some ⟨c0, 0, none⟩), .pointer (some ⟨c1, 0, none⟩), .pointer (some ⟨m, 0, none⟩)]) (star (ChA c0 a) (ChA c1 b))) h F
theorem TwoA.good (t : Nat) (a b : Ch) : Good (TwoA t a b) where
  known := fun ⟨_, _, _, H⟩ => ((box.good _ _).star ((ChA.good _ _).star (ChA.good _ _))).known H
  upd := fun ⟨c0, c1, m, H⟩ u hK => ⟨c0, c1, m, ((box.good _ _).star ((ChA.good _ _).star (ChA.good _ _))).upd H u hK⟩
theorem tw13_b (m : Nat) : SemP PG (Instr.build T_carracklaw13_two #[(1, .pointer (some ⟨m, 0, none⟩))]) = some (.agg #[.pointer none, .pointer none, .pointer (some ⟨m, 0, none⟩)]) := by kernel_rfl
theorem made_ok {h : PH} (hK : KAt h) {a b s0 s1 : Nat} (ha : a < 18446744073709551616) (hb : b < 18446744073709551616) (hs0 : s0 < 18446744073709551616) (hs1 : s1 < 18446744073709551616) (z0 : s0 ≠ 0) (z1 : s1 ≠ 0) {k : Value → PH → Prop}
    (hk : ∀ h' t F, TwoA t (Ch.new 0 a s0) (Ch.new 1 b s1) h' F → Fresh h F → Ext h h' → k (.pointer (some ⟨t, 0, none⟩)) h') : CallsH PG id_carracklaw13_made #[u2v a b, u2v s0 s1] h k := by
  apply carracklaw13_made.call
  unfold carracklaw13_made
  intro r1 hr1
  try rw [bindH_eq]
  have u1 : Ext h (h.set r1 (.cells (Value.cells (u2v a b)) T_2_uint64)) := Upd.new hr1
  have B1 : Bx (h.set r1 (.cells (Value.cells (u2v a b)) T_2_uint64)) r1 (u2c a b) := Bx.new
  generalize h.set r1 (.cells (Value.cells (u2v a b)) T_2_uint64) = h1 at *
  intro r3 hr3
  try rw [bindH_eq]
  have u3 : Ext h1 (h1.set r3 (.cells (Value.cells (u2v s0 s1)) T_2_uint64)) := Upd.new hr3
  have B3 : Bx (h1.set r3 (.cells (Value.cells (u2v s0 s1)) T_2_uint64)) r3 (u2c s0 s1) := Bx.new
  have C1 := B1.ext u3
  generalize h1.set r3 (.cells (Value.cells (u2v s0 s1)) T_2_uint64) = h3 at *
  have e3 := u1.trans u3
  have la : ∀ {h'' : PH}, Ext h3 h'' → SemE PG h'' (Instr.loadAt T_2_uint64 (.pointer (some ⟨r1, 0, none⟩))) = some (u2v a b) := fun v => T_2_uint64.agg (C1.ext v) (by show 0 + 2 ≤ 2; decide)
  have ls : ∀ {h'' : PH}, Ext h3 h'' → SemE PG h'' (Instr.loadAt T_2_uint64 (.pointer (some ⟨r3, 0, none⟩))) = some (u2v s0 s1) := fun v => T_2_uint64.agg (B3.ext v) (by show 0 + 2 ≤ 2; decide)
  simp only [la Upd.refl, ls Upd.refl, zSS, reduceIte, zZZ, Nat.reduceAdd]
  refine BNew_ok fun h4 bk _ _ _ _ u4 => ?_
  refine ⟨ls u4, la u4, ?_⟩
  refine Both_ok ha hb fun h5 m u5 => ?_
  have e35 := u4.trans u5
  simp only [tw13_b, zSS, reduceIte, zZZ, Nat.reduceAdd]
  intro r12 hr12
  try rw [bindH_eq]
  have u6 : Ext h5 (h5.set r12 (.cells (Value.cells (.agg #[.pointer none, .pointer none, .pointer (some ⟨m, 0, none⟩)])) T_carracklaw13_two)) := Upd.new hr12
  have B6 : Bx (h5.set r12 (.cells (Value.cells (.agg #[.pointer none, .pointer none, .pointer (some ⟨m, 0, none⟩)])) T_carracklaw13_two)) r12 [.pointer none, .pointer none, .pointer (some ⟨m, 0, none⟩)] := Bx.new
  generalize h5.set r12 (.cells (Value.cells (.agg #[.pointer none, .pointer none, .pointer (some ⟨m, 0, none⟩)])) T_carracklaw13_two) = h6 at *
  have e36 := e35.trans u6
  have k12 : h3 r12 = none := e35.none hr12
  -- what stands behind i chains
  refine ⟨fun vs h' => ∃ i : Nat, vs = [.pointer (some ⟨r1, 0, none⟩), .pointer (some ⟨r3, 0, none⟩), .pointer (some ⟨r12, 0, none⟩), .int .i64 (i : Int)] ∧ Ext h3 h' ∧ ((i = 0 ∧ Bx h' r12 [.pointer none, .pointer none, .pointer (some ⟨m, 0, none⟩)]) ∨ (i = 1 ∧ ∃ c0 F0, Bx h' r12 [.pointer (some ⟨c0, 0, none⟩), .pointer none, .pointer (some ⟨m, 0, none⟩)] ∧ ChA c0 (Ch.new 0 a s0) h' F0 ∧ Fresh h3 F0 ∧ r12 ∉ F0) ∨ (i = 2 ∧ ∃ F, TwoA r12 (Ch.new 0 a s0) (Ch.new 1 b s1) h' F ∧ Fresh h3 F)), upTo 2 3, ⟨0, rfl, e36, .inl ⟨rfl, B6⟩⟩, ?_⟩
  rintro ρ h' ⟨i, hvs, w, hc⟩
  simp only [List.map_cons, List.map_nil, List.cons.injEq, and_true] at hvs
  obtain ⟨v0, v1, v2, v3⟩ := hvs
  unfold carracklaw13_made_b15
  rw [v0, v1, v2, v3]
  have i0 : ∀ {r : Nat}, SemP PG (Instr.indexAt T_2_uint64 (.pointer (some ⟨r, 0, none⟩)) (.int .i64 0)) = some (.pointer (some ⟨r, 0, none⟩)) := ix2u (i := 0) (by decide)
  have i1 : ∀ {r : Nat}, SemP PG (Instr.indexAt T_2_uint64 (.pointer (some ⟨r, 0, none⟩)) (.int .i64 1)) = some (.pointer (some ⟨r, 1, none⟩)) := fun {r} => by have := ix2u (r := r) (o := 0) (i := 1) (by decide); rw [Nat.zero_add] at this; exact this
  have j0 : ∀ {r : Nat}, SemP PG (Instr.indexAt T_2_p_chain_Chain (.pointer (some ⟨r, 0, none⟩)) (.int .i64 0)) = some (.pointer (some ⟨r, 0, none⟩)) := ix2c (i := 0) (by decide)
  have j1 : ∀ {r : Nat}, SemP PG (Instr.indexAt T_2_p_chain_Chain (.pointer (some ⟨r, 0, none⟩)) (.int .i64 1)) = some (.pointer (some ⟨r, 1, none⟩)) := fun {r} => by have := ix2c (r := r) (o := 0) (i := 1) (by decide); rw [Nat.zero_add] at this; exact this
  have l10 : SemE PG h' (Instr.loadAt T_uint64 (.pointer (some ⟨r1, 0, none⟩))) = some (.int .u64 (a : Int)) := by rw [T_uint64.load, (C1.ext w).cell]; rfl
  have l11 : SemE PG h' (Instr.loadAt T_uint64 (.pointer (some ⟨r1, 1, none⟩))) = some (.int .u64 (b : Int)) := by rw [T_uint64.load, (C1.ext w).cell]; rfl
  have l30 : SemE PG h' (Instr.loadAt T_uint64 (.pointer (some ⟨r3, 0, none⟩))) = some (.int .u64 (s0 : Int)) := by rw [T_uint64.load, (B3.ext w).cell]; rfl
  have l31 : SemE PG h' (Instr.loadAt T_uint64 (.pointer (some ⟨r3, 1, none⟩))) = some (.int .u64 (s1 : Int)) := by rw [T_uint64.load, (B3.ext w).cell]; rfl
  have nilN : ∀ {h'' : PH} {x y : Operand} {c : Nat}, SemE PG h'' (binS .eql T_p_chain_Chain x y (.pointer (some ⟨c, 0, none⟩)) (.pointer none)) = some (.bool false) := eqlPtrNil T_p_chain_Chain.und
  have K' : KAt h' := hK.ext (e3.trans w)
  rcases hc with ⟨rfl, B⟩ | ⟨rfl, c0, F0, B, A0, f0, n0⟩ | ⟨rfl, F, T, f⟩
  · have g : (((0 : Nat) : Int) < 2) = True := eq_true (by decide)
    simp only [g, show ((0 : Nat) : Int) = 0 from rfl, i0, l10, l30, zSS, reduceIte, zZZ, Nat.reduceAdd]
    refine CNewCh_ok K' 0 ha hs0 (fun hb => absurd hb (by omega)) fun _ h7 c F A f u7 => ?_
    simp only [neqI, nilN, T_carracklaw13_two.f0, j0, zSS, reduceIte, zZZ, Nat.reduceAdd]
    have B7 := B.ext u7
    have nF : r12 ∉ F := fun hm => B.known (f _ hm)
    refine T_p_chain_Chain.put B7 (o := 0) (by show 0 < 3; decide) rfl fun h8 B8 u8 => ?_
    have ei : IntKind.i64.wrap ((0 : Int) + 1) = ((1 : Nat) : Int) := rfl
    simp only [ei, zSS, reduceIte, zZZ, Nat.reduceAdd]
    exact ⟨⟨1, rfl, (w.trans u7).fresh u8 (Fresh.one k12), .inr (.inl ⟨rfl, c, F, B8, (ChA.good _ _).upd A u8 (fun b hb => by simp only [List.mem_singleton]; rintro rfl; exact nF hb), f.of w, nF⟩)⟩, by simp [upTo, v3]⟩
  · have g : (((1 : Nat) : Int) < 2) = True := eq_true (by decide)
    simp only [g, show ((1 : Nat) : Int) = 1 from rfl, i1, l11, l31, zSS, reduceIte, zZZ, Nat.reduceAdd]
    refine CNewCh_ok K' 1 hb hs1 (fun hb => absurd hb (by omega)) fun _ h7 c F A f u7 => ?_
    simp only [neqI, nilN, T_carracklaw13_two.f0, j1, zSS, reduceIte, zZZ, Nat.reduceAdd]
    have B7 := B.ext u7
    have nF : r12 ∉ F := fun hm => B.known (f _ hm)
    have A07 := (ChA.good _ _).ext A0 u7
    have d0 : ∀ b ∈ F0, b ∉ F := fun b hb hm => (ChA.good _ _).known A0 b hb (f b hm)
    refine T_p_chain_Chain.put B7 (o := 1) (by show 1 < 3; decide) rfl fun h8 B8 u8 => ?_
    have ei : IntKind.i64.wrap ((1 : Int) + 1) = ((2 : Nat) : Int) := rfl
    simp only [ei, zSS, reduceIte, zZZ, Nat.reduceAdd]
    have A08 := (ChA.good _ _).upd A07 u8 (fun b hb => by simp only [List.mem_singleton]; rintro rfl; exact n0 hb)
    have A8 := (ChA.good _ _).upd A u8 (fun b hb => by simp only [List.mem_singleton]; rintro rfl; exact nF hb)
    have T : TwoA r12 (Ch.new 0 a s0) (Ch.new 1 b s1) h8 ([r12] ++ (F0 ++ F)) := ⟨c0, c, m, star.mk ⟨rfl, B8⟩ (star.mk A08 A8 d0) (fun b hb => by
      simp only [List.mem_singleton] at hb
      subst hb
      simp only [List.mem_append, not_or]
      exact ⟨n0, nF⟩)⟩
    exact ⟨⟨2, rfl, (w.trans u7).fresh u8 (Fresh.one k12), .inr (.inr ⟨rfl, _, T, fun b hb => by
      simp only [List.mem_append, List.mem_singleton] at hb
      rcases hb with rfl | hb | hb
      · exact k12
      · exact f0 b hb
      · exact w.none (f b hb)⟩)⟩, by simp [upTo, v3]⟩
  · have g : (((2 : Nat) : Int) < 2) = False := eq_false (by decide)
    simp only [g, zSS, reduceIte, zZZ, Nat.reduceAdd]
    exact hk h' r12 F T (f.of e3) (e3.trans w)
end Go.Proofs.YtcoajnpchhmgjaaGreatDoor
namespace Go.Proofs.YtcoajnpchhmgjaaGreatDoor
open Go
set_option maxRecDepth 20000
structure TAc where
  kind : Int
  id : Int
  h : Nat
  d : Tx
  p : Pk
  sp : Bool
def TAc.cells (a : TAc) : List Value := [.int .i64 a.kind, .int .i64 a.id, .int .u64 (a.h : Int), .string (tx a.d), .int .i64 a.p.f, .int .u64 a.p.s, .int .u64 a.p.t, .string a.p.d, .bool a.sp]
def TAc.v (a : TAc) : Value := .agg a.cells.toArray
structure TAc.wf (a : TAc) : Prop where
  h : a.h < 18446744073709551616
  p : a.p.wf
def actKey (a : TAc) : Tx := if a.kind = 2 then keyP 99 a.p.s.toNat else if a.kind = 3 then keyP 97 a.p.s.toNat else keyP 114 a.p.s.toNat
def sideP (id : Int) : Nat := if id = 1 then 1 else 0
def pfOf (o : Ch) (a : TAc) : Tx := if a.sp = false ∧ 2 ≤ a.kind ∧ a.kind ≤ 4 then (proveP o.st (actKey a) a.h).1 else a.d
noncomputable def doP (c o : Ch) (a : TAc) : Ch × (Pk × Nat × Int) :=
  if a.kind = 0 then (if sendE c a.d a.h = 0 then (c.sent (sendPk c a.d a.h), (sendPk c a.d a.h, 0, 0)) else (c, (default, 0, sendE c a.d a.h)))
  else if a.kind = 1 then (match sAt o.st a.h with
    | none => (c, (default, 0, 3))
    | some b => (c.told (a.h : Int) (rootP b), (default, 0, (setK c.cl ⟨(a.h : Int), tx (rootP b)⟩).1)))
  else if a.kind = 2 then (if allE c (recvL c a.p (pfOf o a) (a.h : Int)) = 0 then (c.received a.p, (default, 0, 0)) else (c, (default, 0, allE c (recvL c a.p (pfOf o a) (a.h : Int)))))
  else if a.kind = 3 then (if settleE c a.p (ackL c a.p (pfOf o a) (a.h : Int)) = 0 then (c.settled 3 a.p, (default, 0, 0)) else (c, (default, 0, settleE c a.p (ackL c a.p (pfOf o a) (a.h : Int)))))
  else if a.kind = 4 then (if settleE c a.p (timeL c a.p (pfOf o a) (a.h : Int)) = 0 then (c.settled 4 a.p, (default, 0, 0)) else (c, (default, 0, settleE c a.p (timeL c a.p (pfOf o a) (a.h : Int)))))
  else if a.kind = 5 then (c.committed, (default, (sCom c.st).2.1, (sCom c.st).2.2))
  else (c, (default, 0, 0))
theorem Side_ok {h : PH} (id : Int) {k : Value → PH → Prop} (hk : k (.int .i64 ((sideP id : Nat) : Int)) h) : CallsH PG id_carrackref13_Side #[.int .i64 id] h k := by
  apply carrackref13_Side.call
  unfold carrackref13_Side
  unfold sideP at hk
  by_cases e : id = 1
  · have q : (id == 1) = true := by simp [e]
    rw [if_pos e] at hk
    simp only [eqlI, q, zSS, reduceIte, zZZ, Nat.reduceAdd]
    exact hk
  · have q : (id == 1) = false := by simp [e]
    rw [if_neg e] at hk
    simp only [eqlI, q, zSS, reduceIte, zZZ, Nat.reduceAdd]
    exact hk
theorem ActKey_ok {h : PH} {a : TAc} (w : a.wf) {k : Value → PH → Prop} (hk : ∀ h', Ext h h' → k (.string (tx (actKey a))) h') : CallsH PG id_carrackref13_Act_Key #[a.v] h k := by
  apply carrackref13_Act_Key.call
  unfold carrackref13_Act_Key
  obtain ⟨n, hn⟩ := Int.eq_ofNat_of_zero_le w.p.1
  have hn2 : n < 18446744073709551616 := by have := w.p.2.1; omega
  intro r1 hr1
  try rw [bindH_eq]
  have u1 : Ext h (h.set r1 (.cells (Value.cells a.v) T_carrackref13_Act)) := Upd.new hr1
  have B1 : Bx (h.set r1 (.cells (Value.cells a.v) T_carrackref13_Act)) r1 a.cells := Bx.new
  generalize h.set r1 (.cells (Value.cells a.v) T_carrackref13_Act) = h1 at *
  have lk : SemE PG h1 (Instr.loadAt T_int (.pointer (some ⟨r1, 0, none⟩))) = some (.int .i64 a.kind) := by rw [T_int.load, B1.cell]; rfl
  have ls : SemE PG h1 (Instr.loadAt T_uint64 (.pointer (some ⟨r1, 5, none⟩))) = some (.int .u64 (n : Int)) := by rw [T_uint64.load, B1.cell, ← hn]; rfl
  have q99 : ({ data := #[99] } : ByteArray) = tx [99] := rfl
  have q97 : ({ data := #[97] } : ByteArray) = tx [97] := rfl
  have q114 : ({ data := #[114] } : ByteArray) = tx [114] := rfl
  unfold actKey at hk
  rw [hn, Int.toNat_natCast] at hk
  by_cases e2 : a.kind = 2
  · have q : (a.kind == 2) = true := by simp [e2]
    rw [if_pos e2] at hk
    simp only [T_carrackref13_Act.f0, T_carrackref13_Act.f4, T_api_Packet.f1, Nat.zero_add, Nat.reduceAdd, lk, eqlI, q, ls, q99, zSS, reduceIte, zZZ, Nat.reduceAdd]
    exact RKey_ok hn2 fun h2 u2 => hk h2 (u1.trans u2)
  have q2 : (a.kind == 2) = false := by simp [e2]
  rw [if_neg e2] at hk
  by_cases e3 : a.kind = 3
  · have q : (a.kind == 3) = true := by simp [e3]
    rw [if_pos e3] at hk
    simp only [T_carrackref13_Act.f0, T_carrackref13_Act.f4, T_api_Packet.f1, Nat.zero_add, Nat.reduceAdd, lk, eqlI, q2, q, ls, q97, zSS, reduceIte, zZZ, Nat.reduceAdd]
    exact RKey_ok hn2 fun h2 u2 => hk h2 (u1.trans u2)
  have q3 : (a.kind == 3) = false := by simp [e3]
  rw [if_neg e3] at hk
  simp only [T_carrackref13_Act.f0, T_carrackref13_Act.f4, T_api_Packet.f1, Nat.zero_add, Nat.reduceAdd, lk, eqlI, q2, q3, ls, q114, zSS, reduceIte, zZZ, Nat.reduceAdd]
  exact RKey_ok hn2 fun h2 u2 => hk h2 (u1.trans u2)
end Go.Proofs.YtcoajnpchhmgjaaGreatDoor
namespace Go.Proofs.YtcoajnpchhmgjaaGreatDoor
open Go
set_option maxRecDepth 20000
theorem do62_ok {h : PH} {F : List Nat} {c : Nat} {s : Ch} {W : Asrt → Asrt} (f : Focus h F (ChA c s) W) (gW : ∀ s', Good (W (ChA c s'))) {o : Nat} {so : Ch} {Fo : List Nat} (HO : ChA o so h Fo) (hK : KAt h) (h0F : 0 ∉ F) {a : TAc} (wa : a.wf) {r1 r3 : Nat} (B1 : Bx h r1 a.cells) {cs : List Value} (hcs : cs.length = 4) (B3 : Bx h r3 cs) (n3 : r3 ∉ F) (hl : s.nts.length < 1000000) {R : Value → PH → Prop}
    (hR : ∀ h' F', W (ChA c (doP s so a).1) h' F' → Upd (r3 :: F) h h' → (∀ b ∈ F', b ∈ F ∨ h b = none) → R (.tuple #[(doP s so a).2.1.v, .int .u64 ((doP s so a).2.2.1 : Int), .int .i64 (doP s so a).2.2.2]) h') :
    carracklaw13_two_do_k62 R (.pointer (some ⟨r1, 0, none⟩)) (.pointer (some ⟨r3, 0, none⟩)) (.pointer (some ⟨c, 0, none⟩)) (.pointer (some ⟨o, 0, none⟩)) (.string (tx (pfOf so a))) h := by
  unfold carracklaw13_two_do_k62
  have fin : ∀ {h1 : PH} {F1 : List Nat} {s' : Ch} {pk : Pk} {hh : Nat} {e : Int}, W (ChA c s') h1 F1 → Step h F h1 F1 → doP s so a = (s', (pk, hh, e)) → SemH PG (storeS T_api_Packet (.pointer (some ⟨r3, 0, none⟩)) pk.v) h1 fun _ h80 => popO (SemE PG h80 (Instr.loadAt T_api_Packet (.pointer (some ⟨r3, 0, none⟩)))) fun v81 => R (.tuple #[v81, .int .u64 (hh : Int), .int .i64 e]) h80 := by
    intro h1 F1 s' pk hh e H1 s1 ed
    have B31 := B3.upd s1.upd n3
    refine T_api_Packet.put (vs := pk.cells) B31 (o := 0) rfl (by omega) (Pk.isC _) fun h2 B2 u2 => ?_
    have l2 : SemE PG h2 (Instr.loadAt T_api_Packet (.pointer (some ⟨r3, 0, none⟩))) = some pk.v := B2.pk (by simp [Pk.cells])
    simp only [l2, zSS, reduceIte, zZZ, Nat.reduceAdd]
    have m3 : r3 ∉ F1 := fun hm => by
      rcases s1.grow _ hm with hx | hx
      · exact n3 hx
      · exact B3.known hx
    rw [ed] at hR
    exact hR h2 F1 ((gW s').upd H1 u2 (fun b hb hb' => by simp only [List.mem_singleton] at hb'; exact m3 (hb' ▸ hb))) (fun b ob hb hn => by
      simp only [List.mem_cons, not_or] at hn
      exact u2 b ob (s1.upd b ob hb hn.2) (by simpa using hn.1)) s1.grow
  have lk : SemE PG h (Instr.loadAt T_int (.pointer (some ⟨r1, 0, none⟩))) = some (.int .i64 a.kind) := by rw [T_int.load, B1.cell]; rfl
  have lh : SemE PG h (Instr.loadAt T_uint64 (.pointer (some ⟨r1, 2, none⟩))) = some (.int .u64 (a.h : Int)) := by rw [T_uint64.load, B1.cell]; rfl
  have ld : SemE PG h (Instr.loadAt T_string (.pointer (some ⟨r1, 3, none⟩))) = some (.string (tx a.d)) := by rw [T_string.load, B1.cell]; rfl
  have lp : SemE PG h (Instr.loadAt T_api_Packet (.pointer (some ⟨r1, 4, none⟩))) = some a.p.v := B1.pk rfl
  obtain ⟨Fa, HA, hFa, back⟩ := f
  have h0a : 0 ∉ Fa := fun hm => h0F (hFa _ hm)
  have hd : doP s so a = if a.kind = 0 then (if sendE s a.d a.h = 0 then (s.sent (sendPk s a.d a.h), (sendPk s a.d a.h, 0, 0)) else (s, (default, 0, sendE s a.d a.h)))
      else if a.kind = 1 then (match sAt so.st a.h with
        | none => (s, (default, 0, 3))
        | some b => (s.told (a.h : Int) (rootP b), (default, 0, (setK s.cl ⟨(a.h : Int), tx (rootP b)⟩).1)))
      else if a.kind = 2 then (if allE s (recvL s a.p (pfOf so a) (a.h : Int)) = 0 then (s.received a.p, (default, 0, 0)) else (s, (default, 0, allE s (recvL s a.p (pfOf so a) (a.h : Int)))))
      else if a.kind = 3 then (if settleE s a.p (ackL s a.p (pfOf so a) (a.h : Int)) = 0 then (s.settled 3 a.p, (default, 0, 0)) else (s, (default, 0, settleE s a.p (ackL s a.p (pfOf so a) (a.h : Int)))))
      else if a.kind = 4 then (if settleE s a.p (timeL s a.p (pfOf so a) (a.h : Int)) = 0 then (s.settled 4 a.p, (default, 0, 0)) else (s, (default, 0, settleE s a.p (timeL s a.p (pfOf so a) (a.h : Int)))))
      else if a.kind = 5 then (s.committed, (default, (sCom s.st).2.1, (sCom s.st).2.2))
      else (s, (default, 0, 0)) := rfl
  by_cases k0 : a.kind = 0
  · have q : (a.kind == 0) = true := by simp [k0]
    rw [if_pos k0] at hd
    simp only [T_carrackref13_Act.f0, T_carrackref13_Act.f2, T_carrackref13_Act.f3, Nat.zero_add, lk, ld, lh, eqlI, q, zSS, reduceIte, zZZ, Nat.reduceAdd]
    have last : ∀ {h1 : PH} {F1 : List Nat} {s' : Ch} {pk : Pk} {e : Int}, W (ChA c s') h1 F1 → Step h F h1 F1 → doP s so a = (s', (pk, 0, e)) → ∀ r74, h1 r74 = none → bindH (PH.set h1 r74 (.cells (zcells PG T_api_Packet) T_api_Packet)) fun h75 =>
        SemH PG (storeS T_api_Packet (.pointer (some ⟨r74, 0, none⟩)) pk.v) h75 fun v76 h77 =>
        popO (SemE PG h77 (Instr.loadAt T_api_Packet (.pointer (some ⟨r74, 0, none⟩)))) fun v78 =>
        SemH PG (storeS T_api_Packet (.pointer (some ⟨r3, 0, none⟩)) v78) h77 fun v79 h80 =>
        popO (SemE PG h80 (Instr.loadAt T_api_Packet (.pointer (some ⟨r3, 0, none⟩)))) fun v81 =>
        R (.tuple #[v81, (Value.int IntKind.u64 0), .int .i64 e]) h80 := by
      intro h1 F1 s' pk e H1 s1 ed r74 hr74
      try rw [bindH_eq]
      refine T_api_Packet.fill (vs := pk.cells) hr74 rfl (Pk.isC _) fun h2 B2 u2 => ?_
      have l2 : SemE PG h2 (Instr.loadAt T_api_Packet (.pointer (some ⟨r74, 0, none⟩))) = some pk.v := B2.pk rfl
      simp only [l2, zSS, reduceIte, zZZ, Nat.reduceAdd]
      exact fin (hh := 0) ((gW s').ext H1 u2) (s1.trans (Step.ext u2)) ed
    refine CSend_ok hK HA a.d wa.h hl (fun he h1 F1 H1 s1 _ => ?_) (fun he h1 F1 H1 s1 => ?_)
    · rw [if_neg he] at hd
      obtain ⟨F2, W2, s2⟩ := back _ h1 F1 H1 s1
      have := last W2 s2 hd
      simp only [zSS, reduceIte, zZZ, Nat.reduceAdd] at this ⊢
      exact this
    · rw [if_pos he] at hd
      obtain ⟨F2, W2, s2⟩ := back _ h1 F1 H1 s1
      have := last W2 s2 hd
      simp only [zSS, reduceIte, zZZ, Nat.reduceAdd] at this ⊢
      exact this
  have q0 : (a.kind == 0) = false := by simp [k0]
  rw [if_neg k0] at hd
  by_cases k1 : a.kind = 1
  · have q : (a.kind == 1) = true := by simp [k1]
    rw [if_pos k1] at hd
    obtain ⟨sp, m, cp, nv, bv, lk', P, perm, ok⟩ := HO
    obtain ⟨Fs, St, -, -⟩ := P.fSt
    simp only [T_carrackref13_Act.f0, T_carrackref13_Act.f2, T_chain_Chain.f0, T_chain_ledger.f0, Nat.zero_add, lk, lh, Ch.load0 P.cell, eqlI, q0, q, zSS, reduceIte, zZZ, Nat.reduceAdd]
    refine StRoot_ok St a.h wa.h (fun e h1 u1 => ?_) (fun b h1 e u1 => ?_)
    · rw [e] at hd
      obtain ⟨F2, W2, s2⟩ := back _ h1 Fa ((ChA.good c s).ext HA u1) (Step.ext u1)
      have qe : ((3 : Int) != 0) = true := by decide
      simp only [neqI, qe, Pk.zb, zSS, reduceIte, zZZ, Nat.reduceAdd]
      exact fin (hh := 0) W2 s2 hd
    · rw [e] at hd
      have lh1 : SemE PG h1 (Instr.loadAt T_uint64 (.pointer (some ⟨r1, 2, none⟩))) = some (.int .u64 (a.h : Int)) := by rw [T_uint64.load, (B1.ext u1).cell]; rfl
      simp only [neqI, Pk.zb, T_carrackref13_Act.f2, Nat.zero_add, lh1, zSS, reduceIte, zZZ, Nat.reduceAdd]
      refine CUpdate_ok ((ChA.good c s).ext HA u1) (a.h : Int) (rootP b) fun h2 F2 H2 s2 => ?_
      obtain ⟨F3, W3, s3⟩ := back _ h2 F2 H2 ((Step.ext u1).trans s2)
      exact fin (hh := 0) W3 s3 hd
  have q1 : (a.kind == 1) = false := by simp [k1]
  rw [if_neg k1] at hd
  by_cases k2 : a.kind = 2
  · have q : (a.kind == 2) = true := by simp [k2]
    rw [if_pos k2] at hd
    simp only [T_carrackref13_Act.f0, T_carrackref13_Act.f2, T_carrackref13_Act.f4, Nat.zero_add, lk, lh, lp, eqlI, q0, q1, q, Pk.zb, zSS, reduceIte, zZZ, Nat.reduceAdd]
    refine CRecv_ok hK HA h0a wa.p hl (fun he h1 H1 u1 => ?_) (fun he h1 F1 H1 s1 => ?_)
    · rw [if_neg he] at hd
      obtain ⟨F2, W2, s2⟩ := back _ h1 Fa H1 (Step.ext u1)
      exact fin (hh := 0) W2 s2 hd
    · rw [if_pos he] at hd
      obtain ⟨F2, W2, s2⟩ := back _ h1 F1 H1 s1
      exact fin (hh := 0) W2 s2 hd
  have q2 : (a.kind == 2) = false := by simp [k2]
  rw [if_neg k2] at hd
  by_cases k3 : a.kind = 3
  · have q : (a.kind == 3) = true := by simp [k3]
    rw [if_pos k3] at hd
    simp only [T_carrackref13_Act.f0, T_carrackref13_Act.f2, T_carrackref13_Act.f4, Nat.zero_add, lk, lh, lp, eqlI, q0, q1, q2, q, Pk.zb, zSS, reduceIte, zZZ, Nat.reduceAdd]
    refine CAck_ok hK HA wa.p hl (fun he h1 H1 u1 => ?_) (fun he h1 F1 H1 s1 => ?_)
    · rw [if_neg he] at hd
      obtain ⟨F2, W2, s2⟩ := back _ h1 Fa H1 (Step.ext u1)
      exact fin (hh := 0) W2 s2 hd
    · rw [if_pos he] at hd
      obtain ⟨F2, W2, s2⟩ := back _ h1 F1 H1 s1
      exact fin (hh := 0) W2 s2 hd
  have q3 : (a.kind == 3) = false := by simp [k3]
  rw [if_neg k3] at hd
  by_cases k4 : a.kind = 4
  · have q : (a.kind == 4) = true := by simp [k4]
    rw [if_pos k4] at hd
    simp only [T_carrackref13_Act.f0, T_carrackref13_Act.f2, T_carrackref13_Act.f4, Nat.zero_add, lk, lh, lp, eqlI, q0, q1, q2, q3, q, Pk.zb, zSS, reduceIte, zZZ, Nat.reduceAdd]
    refine CTimeout_ok hK HA wa.p hl (fun he h1 H1 u1 => ?_) (fun he h1 F1 H1 s1 => ?_)
    · rw [if_neg he] at hd
      obtain ⟨F2, W2, s2⟩ := back _ h1 Fa H1 (Step.ext u1)
      exact fin (hh := 0) W2 s2 hd
    · rw [if_pos he] at hd
      obtain ⟨F2, W2, s2⟩ := back _ h1 F1 H1 s1
      exact fin (hh := 0) W2 s2 hd
  have q4 : (a.kind == 4) = false := by simp [k4]
  rw [if_neg k4] at hd
  by_cases k5 : a.kind = 5
  · have q : (a.kind == 5) = true := by simp [k5]
    rw [if_pos k5] at hd
    simp only [T_carrackref13_Act.f0, Nat.zero_add, lk, eqlI, q0, q1, q2, q3, q4, q, zSS, reduceIte, zZZ, Nat.reduceAdd]
    refine CCommit_ok hK HA fun h1 F1 H1 s1 => ?_
    obtain ⟨F2, W2, s2⟩ := back _ h1 F1 H1 s1
    simp only [Pk.zb, zSS, reduceIte, zZZ, Nat.reduceAdd]
    exact fin W2 s2 hd
  · have q : (a.kind == 5) = false := by simp [k5]
    rw [if_neg k5] at hd
    obtain ⟨F2, W2, s2⟩ := back _ h Fa HA Step.refl
    simp only [T_carrackref13_Act.f0, Nat.zero_add, lk, eqlI, q0, q1, q2, q3, q4, q, Pk.zb, zSS, reduceIte, zZZ, Nat.reduceAdd]
    exact fin (hh := 0) W2 s2 hd
end Go.Proofs.YtcoajnpchhmgjaaGreatDoor
namespace Go.Proofs.YtcoajnpchhmgjaaGreatDoor
open Go
set_option maxRecDepth 20000
noncomputable def twStep (a b : Ch) (x : TAc) : (Ch × Ch) × (Pk × Nat × Int) := if x.id = 1 then ((a, (doP b a x).1), (doP b a x).2) else (((doP a b x).1, b), (doP a b x).2)
def twCells (c0 c1 m : Nat) : List Value := [.pointer (some ⟨c0, 0, none⟩), .pointer (some ⟨c1, 0, none⟩), .pointer (some ⟨m, 0, none⟩)]
def Two3 (t c0 c1 m : Nat) (a b : Ch) : Asrt := star (box t (twCells c0 c1 m)) (star (ChA c0 a) (ChA c1 b))
theorem Two3.good (t c0 c1 m : Nat) (a b : Ch) : Good (Two3 t c0 c1 m a b) := (box.good _ _).star ((ChA.good _ _).star (ChA.good _ _))
theorem two_side (t c0 c1 m : Nat) (a b : Ch) (x : TAc) : ∃ (c o : Nat) (s so : Ch) (W : Asrt → Asrt), (∀ s', Good (W (ChA c s'))) ∧ (twCells c0 c1 m)[sideP x.id]? = some (.pointer (some ⟨c, 0, none⟩)) ∧ (twCells c0 c1 m)[1 - sideP x.id]? = some (.pointer (some ⟨o, 0, none⟩)) ∧ (s = a ∨ s = b) ∧ (doP s so x).2 = (twStep a b x).2 ∧
    (∀ {h F}, W (ChA c (doP s so x).1) h F → Two3 t c0 c1 m (twStep a b x).1.1 (twStep a b x).1.2 h F) ∧ ∀ {h F}, Two3 t c0 c1 m a b h F → Focus h F (ChA c s) W ∧ (∃ Fo, ChA o so h Fo) ∧ Bx h t (twCells c0 c1 m) := by
  by_cases e : x.id = 1
  · refine ⟨c1, c0, b, a, fun X => star (box t (twCells c0 c1 m)) (star (ChA c0 a) X), fun s' => (box.good _ _).star ((ChA.good _ _).star (ChA.good _ _)), by unfold sideP; rw [if_pos e]; rfl, by unfold sideP; rw [if_pos e]; rfl, .inr rfl, by unfold twStep; rw [if_pos e], fun {h F} H => ?_, fun {h F} H => ⟨?_, ?_, ?_⟩⟩
    · unfold twStep
      rw [if_pos e]
      exact H
    · exact (star.right (box.good _ _) H).comp fun _ H => star.right (ChA.good _ _) H
    · obtain ⟨_, _, _, _, ⟨Fo, _, _, HO, _, _⟩, _⟩ := H
      exact ⟨Fo, HO⟩
    · obtain ⟨_, _, _, ⟨_, B⟩, _, _⟩ := H
      exact B
  · refine ⟨c0, c1, a, b, fun X => star (box t (twCells c0 c1 m)) (star X (ChA c1 b)), fun s' => (box.good _ _).star ((ChA.good _ _).star (ChA.good _ _)), by unfold sideP; rw [if_neg e]; rfl, by unfold sideP; rw [if_neg e]; rfl, .inl rfl, by unfold twStep; rw [if_neg e], fun {h F} H => ?_, fun {h F} H => ⟨?_, ?_, ?_⟩⟩
    · unfold twStep
      rw [if_neg e]
      exact H
    · exact (star.right (box.good _ _) H).comp fun _ H => star.left (ChA.good _ _) H
    · obtain ⟨_, _, _, _, ⟨_, Fo, _, _, HO, _⟩, _⟩ := H
      exact ⟨Fo, HO⟩
    · obtain ⟨_, _, _, ⟨_, B⟩, _, _⟩ := H
      exact B
theorem side_le (id : Int) : sideP id < 2 := by unfold sideP; split <;> decide
theorem Do3_ok {h : PH} {t c0 c1 m : Nat} {a b : Ch} {F : List Nat} (S : Two3 t c0 c1 m a b h F) (hK : KAt h) (h0F : 0 ∉ F) {x : TAc} (wx : x.wf) (hla : a.nts.length < 1000000) (hlb : b.nts.length < 1000000) {kk : Value → PH → Prop}
    (hk : ∀ h' F', Two3 t c0 c1 m (twStep a b x).1.1 (twStep a b x).1.2 h' F' → Step h F h' F' → kk (.tuple #[(twStep a b x).2.1.v, .int .u64 ((twStep a b x).2.2.1 : Int), .int .i64 (twStep a b x).2.2.2]) h') :
    CallsH PG id_carracklaw13_two_do #[.pointer (some ⟨t, 0, none⟩), x.v] h kk := by
  apply carracklaw13_two_do.call
  unfold carracklaw13_two_do
  obtain ⟨c, o, s, so, W, gW, hc, ho, hs, e2, hW, get⟩ := two_side t c0 c1 m a b x
  have hl : s.nts.length < 1000000 := by rcases hs with rfl | rfl <;> assumption
  intro r1 hr1
  try rw [bindH_eq]
  have u1 : Ext h (h.set r1 (.cells (Value.cells x.v) T_carrackref13_Act)) := Upd.new hr1
  have B1 : Bx (h.set r1 (.cells (Value.cells x.v) T_carrackref13_Act)) r1 x.cells := Bx.new
  generalize h.set r1 (.cells (Value.cells x.v) T_carrackref13_Act) = h1 at *
  intro r3 hr3
  try rw [bindH_eq]
  have u3 : Ext h1 (h1.set r3 (.cells (zcells PG T_api_Packet) T_api_Packet)) := Upd.new hr3
  have Z3 := T_api_Packet.zbox (h := h1) (r := r3)
  have C1 := B1.ext u3
  generalize h1.set r3 (.cells (zcells PG T_api_Packet) T_api_Packet) = h3 at *
  have e3 := u1.trans u3
  have k3 : h r3 = none := u1.none hr3
  have n3 : r3 ∉ F := fun hm => (Two3.good _ _ _ _ _ _).known S _ hm k3
  have li : ∀ {h'' : PH}, Ext h3 h'' → SemE PG h'' (Instr.loadAt T_int (.pointer (some ⟨r1, 1, none⟩))) = some (.int .i64 x.id) := fun v => by rw [T_int.load, (C1.ext v).cell]; rfl
  have hsd := side_le x.id
  have w1 : IntKind.i64.wrap (1 - ((sideP x.id : Nat) : Int)) = ((1 - sideP x.id : Nat) : Int) := by rw [i64_wrap (by omega) (by omega)]; omega
  have S3 := (Two3.good _ _ _ _ _ _).ext S e3
  obtain ⟨-, ⟨Fo, HO⟩, Bt⟩ := get S3
  have lc : SemE PG h3 (Instr.loadAt T_p_chain_Chain (.pointer (some ⟨t, sideP x.id, none⟩))) = some (.pointer (some ⟨c, 0, none⟩)) := by rw [T_p_chain_Chain.load, Bt.cell]; exact hc
  have lo : SemE PG h3 (Instr.loadAt T_p_chain_Chain (.pointer (some ⟨t, 1 - sideP x.id, none⟩))) = some (.pointer (some ⟨o, 0, none⟩)) := by rw [T_p_chain_Chain.load, Bt.cell]; exact ho
  have ix1 := ix2c (r := t) (o := 0) (i := sideP x.id) hsd
  have ix2 := ix2c (r := t) (o := 0) (i := 1 - sideP x.id) (by omega)
  rw [Nat.zero_add] at ix1 ix2
  have lk : SemE PG h3 (Instr.loadAt T_int (.pointer (some ⟨r1, 0, none⟩))) = some (.int .i64 x.kind) := by rw [T_int.load, C1.cell]; rfl
  have lh : ∀ {h'' : PH}, Ext h3 h'' → SemE PG h'' (Instr.loadAt T_uint64 (.pointer (some ⟨r1, 2, none⟩))) = some (.int .u64 (x.h : Int)) := fun v => by rw [T_uint64.load, (C1.ext v).cell]; rfl
  have ld : SemE PG h3 (Instr.loadAt T_string (.pointer (some ⟨r1, 3, none⟩))) = some (.string (tx x.d)) := by rw [T_string.load, C1.cell]; rfl
  have lsp : SemE PG h3 (Instr.loadAt T_bool (.pointer (some ⟨r1, 8, none⟩))) = some (.bool x.sp) := by rw [T_bool.load, C1.cell]; rfl
  have lx : SemE PG h3 (Instr.loadAt T_carrackref13_Act (.pointer (some ⟨r1, 0, none⟩))) = some x.v := T_carrackref13_Act.agg C1 (by show 0 + 9 ≤ 9; decide)
  -- the second half
  have tail : ∀ {h5 : PH}, Ext h3 h5 → carracklaw13_two_do_k62 kk (.pointer (some ⟨r1, 0, none⟩)) (.pointer (some ⟨r3, 0, none⟩)) (.pointer (some ⟨c, 0, none⟩)) (.pointer (some ⟨o, 0, none⟩)) (.string (tx (pfOf so x))) h5 := by
    intro h5 u5
    obtain ⟨f, ⟨Fo5, HO5⟩, -⟩ := get ((Two3.good _ _ _ _ _ _).ext S3 u5)
    refine do62_ok f gW HO5 (hK.ext (e3.trans u5)) h0F wx (C1.ext u5) rfl (Z3.ext u5) n3 hl fun h6 F6 W6 u6 g6 => ?_
    rw [e2]
    refine hk h6 F6 (hW W6) ⟨fun bk ob hb hn => u6 bk ob ((e3.trans u5).get hb) (fun hm => ?_), fun bk hb => ?_⟩
    · rcases List.mem_cons.1 hm with rfl | hm
      · rw [k3] at hb; cases hb
      · exact hn hm
    · rcases g6 bk hb with hx | hx
      · exact .inl hx
      · exact .inr ((e3.trans u5).none hx)
  simp only [T_carrackref13_Act.f1, T_carracklaw13_two.f0, Nat.zero_add, li Upd.refl, zSS, reduceIte, zZZ, Nat.reduceAdd]
  refine Side_ok x.id ?_
  refine ⟨li Upd.refl, ?_⟩
  simp only [ix1, lc, zSS, reduceIte, zZZ, Nat.reduceAdd]
  refine Side_ok x.id ?_
  refine ⟨lc, ?_⟩
  simp only [w1, ix2, lo, T_carrackref13_Act.f0, T_carrackref13_Act.f2, T_carrackref13_Act.f3, T_carrackref13_Act.f5, Nat.zero_add, ld, lsp, zSS, reduceIte, zZZ, Nat.reduceAdd]
  have plain : ¬ (x.sp = false ∧ 2 ≤ x.kind ∧ x.kind ≤ 4) → carracklaw13_two_do_k62 kk (.pointer (some ⟨r1, 0, none⟩)) (.pointer (some ⟨r3, 0, none⟩)) (.pointer (some ⟨c, 0, none⟩)) (.pointer (some ⟨o, 0, none⟩)) (.string (tx x.d)) h3 := fun hn => by
    have := tail (h5 := h3) Upd.refl
    unfold pfOf at this
    rw [if_neg hn] at this
    exact this
  cases hsp : x.sp with
  | true =>
    simp only [zSS, reduceIte, zZZ, Nat.reduceAdd]
    exact plain (by rw [hsp]; simp)
  | false =>
    by_cases d1 : 2 ≤ x.kind
    · have g1 := eq_true d1
      by_cases d2 : x.kind ≤ 4
      · have g2 := eq_true d2
        simp only [T_carrackref13_Act.f0, T_carrackref13_Act.f2, Nat.zero_add, lk, g1, g2, lx, lh Upd.refl, zSS, reduceIte, zZZ, Nat.reduceAdd]
        refine ActKey_ok wx fun h4 u4 => ?_
        refine ⟨lh u4, ?_⟩
        refine CProve_ok (hK.ext (e3.trans u4)) ((ChA.good _ _).ext HO u4) (actKey x) wx.h fun h5 u5 => ?_
        simp only [zSS, reduceIte, zZZ, Nat.reduceAdd]
        have := tail (u4.trans u5)
        unfold pfOf at this
        rw [if_pos ⟨hsp, d1, d2⟩] at this
        exact this
      · have g2 := eq_false d2
        simp only [T_carrackref13_Act.f0, lk, g1, g2, zSS, reduceIte, zZZ, Nat.reduceAdd]
        exact plain (by simp [d2])
    · have g1 := eq_false d1
      simp only [T_carrackref13_Act.f0, lk, g1, zSS, reduceIte, zZZ, Nat.reduceAdd]
      exact plain (by simp [d1])
theorem Do_ok {h : PH} {t : Nat} {a b : Ch} {F : List Nat} (H : TwoA t a b h F) (hK : KAt h) (h0F : 0 ∉ F) {x : TAc} (wx : x.wf) (hla : a.nts.length < 1000000) (hlb : b.nts.length < 1000000) {kk : Value → PH → Prop}
    (hk : ∀ h' F', TwoA t (twStep a b x).1.1 (twStep a b x).1.2 h' F' → Step h F h' F' → kk (.tuple #[(twStep a b x).2.1.v, .int .u64 ((twStep a b x).2.2.1 : Int), .int .i64 (twStep a b x).2.2.2]) h') :
    CallsH PG id_carracklaw13_two_do #[.pointer (some ⟨t, 0, none⟩), x.v] h kk := by
  obtain ⟨c0, c1, m, S⟩ := H
  exact Do3_ok S hK h0F wx hla hlb fun h' F' H' s => hk h' F' ⟨c0, c1, m, H'⟩ s
end Go.Proofs.YtcoajnpchhmgjaaGreatDoor
namespace Go.Proofs.YtcoajnpchhmgjaaGreatDoor
open Go
set_option maxRecDepth 20000
def xa : Ch := Ch.new 0 5 1
def xb : Ch := Ch.new 1 9 1
def xp : Pk := sendPk xa [120] 20
theorem xp_right : xp.right = true := by decide
theorem xp_wf : xp.wf := ⟨by decide, by decide, by decide, by decide⟩
theorem latK_nil : latK [] = 0 := by
  rw [latK_eq (hs := []) ⟨List.Perm.refl _, List.Pairwise.nil⟩]; rfl
theorem x_send : sendE xa [120] 20 = 0 := by
  have h1 : decide (latK xa.cl < ((20 : Nat) : Int)) = true := by
    rw [show xa.cl = [] from rfl, latK_nil]; decide
  have h2 : (sendPk xa [120] 20).right = true := xp_right
  unfold sendE allE
  rw [if_neg (by decide), h1, h2]
  rfl
def xq : Pr := ⟨keyP 99 1, commP xp⟩
def xa1 : Ch := xa.sent xp
theorem x_com : sCom xa1.st = (⟨[xq], [[], [xq]], 6⟩, (6, 0)) := rfl
def xa2 : Ch := xa1.committed
theorem x_at : sAt xa2.st 6 = some [xq] := rfl
def xc1 : TAc := ⟨1, 1, 6, [], default, false⟩
def xc2 : TAc := ⟨2, 1, 6, [], xp, false⟩
def xr : Tx := rootP [xq]
theorem x_setK : setK xb.cl ⟨6, tx xr⟩ = (0, [⟨6, tx xr⟩]) := by
  unfold setK
  rw [if_neg (by rw [tx_size]; exact fun h => h rfl), if_neg (by simp [hts, xb, Ch.new]), if_neg (by decide)]
  rfl
def xb1 : Ch := xb.told 6 xr
theorem xb1_cl : xb1.cl = [⟨6, tx xr⟩] := by
  show (setK xb.cl ⟨6, tx xr⟩).2 = _
  rw [x_setK]
theorem x_step1 : twStep xa2 xb xc1 = ((xa2, xb1), (default, 0, 0)) := by
  unfold twStep
  rw [if_pos (show xc1.id = 1 from rfl)]
  have : doP xb xa2 xc1 = (xb1, (default, 0, 0)) := by
    unfold doP
    rw [if_neg (show ¬ xc1.kind = 0 by decide), if_pos (show xc1.kind = 1 from rfl), show xc1.h = 6 from rfl, x_at]
    show (xb.told 6 xr, _) = _
    have : (setK xb.cl ⟨((6 : Nat) : Int), tx (rootP [xq])⟩).1 = 0 := by
      rw [show (⟨((6 : Nat) : Int), tx (rootP [xq])⟩ : Known) = ⟨6, tx xr⟩ from rfl, x_setK]
    rw [this]; rfl
  rw [this]
theorem x_mok : MOk [xq] := ⟨List.pairwise_singleton _ _, by decide, fun p hp => by
  simp only [List.mem_singleton] at hp; subst hp; show (keyP 99 1).length ≤ 16; rw [keyP_len]; decide, fun p hp => by
  simp only [List.mem_singleton] at hp; subst hp; exact commP_len xp⟩
theorem x_get : sgetL [xq] (keyP 99 1) = some xq := by
  rw [sgetL_some (List.pairwise_singleton _ _)]
  exact ⟨by simp, rfl⟩
theorem x_pf : pfOf xa2 xc2 = pfBs (proofP [xq] (keyP 99 1)) := by
  unfold pfOf
  rw [if_pos ⟨rfl, by decide, by decide⟩]
  have ek : actKey xc2 = keyP 99 1 := rfl
  rw [ek, show xc2.h = 6 from rfl]
  unfold proveP
  rw [x_at]
  simp only
  rw [if_pos (by rw [x_get]; rfl), (proofP_bytes x_mok _).1]
theorem x_root : rootB xb1.cl 6 = xr := by
  unfold rootB
  rw [xb1_cl]
  show (tx xr).data.toList = xr
  simp [tx]
theorem x_known : (rootL xb1.cl 6).isSome = true := by rw [xb1_cl]; rfl
theorem x_recv : allE xb1 (recvL xb1 xp (pfOf xa2 xc2) 6) = 0 := by
  have h5 : hasP (rootB xb1.cl 6) (pfOf xa2 xc2) (keyP 99 xp.s.toNat) (commP xp) = true := by
    rw [x_root, x_pf]
    exact (proves_has x_mok x_get).1
  unfold allE recvL
  rw [if_neg (by decide), x_known, h5, xp_right]
  rfl
def xb2 : Ch := xb1.received xp
theorem x_step2 : twStep xa2 xb1 xc2 = ((xa2, xb2), (default, 0, 0)) := by
  unfold twStep
  rw [if_pos (show xc2.id = 1 from rfl)]
  have : doP xb1 xa2 xc2 = (xb2, (default, 0, 0)) := by
    unfold doP
    rw [if_neg (show ¬ xc2.kind = 0 by decide), if_neg (show ¬ xc2.kind = 1 by decide), if_pos (show xc2.kind = 2 from rfl), show xc2.p = xp from rfl, show ((xc2.h : Nat) : Int) = 6 from rfl, x_recv, if_pos rfl]
    rfl
  rw [this]
theorem x_twice : allE xb2 (recvL xb2 xp (pfOf xa2 xc2) 6) = 4 := by
  have h3 : (sgetL xb2.st.now (keyP 114 xp.s.toNat)).isSome = true := by
    have e : xb2.st.now = ssetL (ssetL [] ⟨keyP 114 1, [1]⟩) ⟨keyP 97 1, ansP xp⟩ := rfl
    have up : SUp (ssetL (ssetL [] ⟨keyP 114 1, [1]⟩) ⟨keyP 97 1, ansP xp⟩) := (SUp.set (SUp.set List.Pairwise.nil _) _)
    have : sgetL xb2.st.now (keyP 114 1) = some ⟨keyP 114 1, [1]⟩ := by
      rw [e, sgetL_some up]
      refine ⟨smem_setL.2 (.inr ⟨smem_setL.2 (.inl rfl), fun h => ?_⟩), rfl⟩
      have := congrArg (fun l : Tx => l.head?) h
      simp [keyP] at this
    show (sgetL xb2.st.now (keyP 114 1)).isSome = true
    rw [this]; rfl
  unfold allE recvL
  rw [if_neg (by decide), h3, xp_right]
  rfl
theorem x_step3 : twStep xa2 xb2 xc2 = ((xa2, xb2), (default, 0, 4)) := by
  unfold twStep
  rw [if_pos (show xc2.id = 1 from rfl)]
  have : doP xb2 xa2 xc2 = (xb2, (default, 0, 4)) := by
    unfold doP
    rw [if_neg (show ¬ xc2.kind = 0 by decide), if_neg (show ¬ xc2.kind = 1 by decide), if_pos (show xc2.kind = 2 from rfl), show xc2.p = xp from rfl, show ((xc2.h : Nat) : Int) = 6 from rfl, x_twice, if_neg (by decide)]
  rw [this]
end Go.Proofs.YtcoajnpchhmgjaaGreatDoor
namespace Go.Proofs.YtcoajnpchhmgjaaGreatDoor
open Go
set_option maxRecDepth 20000
structure Now (h0 h : PH) (F : List Nat) : Prop where
  ext : Ext h0 h
  fr : Fresh h0 F
theorem Now.step {h0 h h' : PH} {F F' : List Nat} (N : Now h0 h F) (s : Step h F h' F') : Now h0 h' F' := ⟨N.ext.fresh s.upd N.fr, N.fr.grow N.ext s.grow⟩
theorem Now.more {h0 h h' : PH} {F : List Nat} (N : Now h0 h F) (u : Ext h h') : Now h0 h' F := ⟨N.ext.trans u, N.fr⟩
theorem Now.k {h0 h : PH} {F : List Nat} (N : Now h0 h F) (K : KAt h0) : KAt h := K.ext N.ext
theorem Now.z {h0 h : PH} {F : List Nat} (N : Now h0 h F) (K : KAt h0) : 0 ∉ F := fun hm => by
  obtain ⟨t, fr, hb⟩ := K
  rw [N.fr 0 hm] at hb; cases hb
theorem keepBx {h h' : PH} {F F' : List Nat} {r : Nat} {cs : List Value} (B : Bx h r cs) (n : r ∉ F) (s : Step h F h' F') : Bx h' r cs ∧ r ∉ F' := ⟨B.upd s.upd n, fun hm => by
  rcases s.grow _ hm with hx | hx
  · exact n hx
  · exact B.known hx⟩
theorem xb_2 : SemP PG (Instr.build T_2_uint64 #[(0, (Value.int IntKind.u64 5)), (1, (Value.int IntKind.u64 9))]) = some (u2v 5 9) := by kernel_rfl
theorem xb_1 : SemP PG (Instr.build T_2_uint64 #[(0, (Value.int IntKind.u64 1)), (1, (Value.int IntKind.u64 1))]) = some (u2v 1 1) := by kernel_rfl
theorem xc1_b : SemP PG (Instr.build T_carrackref13_Act #[(0, (Value.int IntKind.i64 1)), (1, (Value.int IntKind.i64 1)), (2, (Value.int IntKind.u64 ((6 : Nat) : Int)))]) = some xc1.v := by kernel_rfl
theorem xc2_b (p : Pk) : SemP PG (Instr.build T_carrackref13_Act #[(0, (Value.int IntKind.i64 2)), (1, (Value.int IntKind.i64 1)), (2, (Value.int IntKind.u64 ((6 : Nat) : Int))), (4, p.v)]) = some (TAc.v ⟨2, 1, 6, [], p, false⟩) := by kernel_rfl
theorem awake13_ok {h : PH} (hK : KAt h) {k : Value → PH → Prop} (hk : ∀ h', Ext h h' → k (.bool true) h') : CallsH PG id_carracklaw13_awake #[] h k := by
  apply carracklaw13_awake.call
  unfold carracklaw13_awake
  simp only [xb_2, xb_1, zSS, reduceIte, zZZ, Nat.reduceAdd]
  refine made_ok hK (by decide) (by decide) (by decide) (by decide) (by decide) (by decide) fun h1 t F1 T1 f1 u1 => ?_
  have N1 : Now h h1 F1 := ⟨u1, f1⟩
  have nilT : ∀ {h'' : PH} {x y : Operand} {c : Nat}, SemE PG h'' (binS .eql T_p_carracklaw13_two x y (.pointer (some ⟨c, 0, none⟩)) (.pointer none)) = some (.bool false) := eqlPtrNil T_p_carracklaw13_two.und
  obtain ⟨c0, c1, m, S1⟩ := T1
  have S1 : Two3 t c0 c1 m xa xb h1 F1 := S1
  have bt : ∀ {a b : Ch} {h' F'}, Two3 t c0 c1 m a b h' F' → SemE PG h' (Instr.loadAt T_p_chain_Chain (.pointer (some ⟨t, 0, none⟩))) = some (.pointer (some ⟨c0, 0, none⟩)) := fun S => by
    obtain ⟨_, _, _, ⟨_, B⟩, _, _⟩ := S
    rw [T_p_chain_Chain.load, B.cell]; rfl
  have j0 : SemP PG (Instr.indexAt T_2_p_chain_Chain (.pointer (some ⟨t, 0, none⟩)) (.int .i64 0)) = some (.pointer (some ⟨t, 0, none⟩)) := ix2c (i := 0) (by decide)
  have foc : ∀ {a b : Ch} {h' F'}, Two3 t c0 c1 m a b h' F' → Focus h' F' (ChA c0 a) (fun X => star (box t (twCells c0 c1 m)) (star X (ChA c1 b))) := fun S => (star.right (box.good _ _) S).comp fun _ H => star.left (ChA.good _ _) H
  have q120 : ({ data := #[120] } : ByteArray) = tx [120] := rfl
  simp only [nilT, T_carracklaw13_two.f0, j0, bt S1, q120, zSS, reduceIte, zZZ, Nat.reduceAdd]
  obtain ⟨Fa, HA, hFa, back⟩ := foc S1
  refine CSend_ok (t := 20) (N1.k hK) HA [120] (by decide) (by decide) (fun he => absurd x_send he) fun _ h2 F2 H2 s2 => ?_
  obtain ⟨F3, W3, s3⟩ := back _ h2 F2 H2 s2
  have S3 : Two3 t c0 c1 m xa1 xb h2 F3 := W3
  have N3 := N1.step s3
  simp only [zSS, reduceIte, zZZ, Nat.reduceAdd]
  intro r14 hr14
  try rw [bindH_eq]
  refine T_api_Packet.fill (vs := xp.cells) hr14 rfl (Pk.isC _) fun h4 B4 u4 => ?_
  have n4 : r14 ∉ F3 := fun hm => (Two3.good _ _ _ _ _ _).known S3 _ hm hr14
  have S4 := (Two3.good _ _ _ _ _ _).ext S3 u4
  have N4 := N3.more u4
  simp only [T_carracklaw13_two.f0, j0, bt S4, zSS, reduceIte, zZZ, Nat.reduceAdd]
  obtain ⟨Fb, HB, hFb, back2⟩ := foc S4
  refine CCommit_ok (N4.k hK) HB fun h5 F5 H5 s5 => ?_
  obtain ⟨F6, W6, s6⟩ := back2 _ h5 F5 H5 s5
  have S6 : Two3 t c0 c1 m xa2 xb h5 F6 := W6
  have N6 := N4.step s6
  obtain ⟨B6, n6⟩ := keepBx B4 n4 s6
  simp only [x_com, xc1_b, zSS, reduceIte, zZZ, Nat.reduceAdd]
  refine Do_ok ⟨c0, c1, m, S6⟩ (N6.k hK) (N6.z hK) (x := xc1) ⟨by decide, ⟨by decide, by decide, by decide, by decide⟩⟩ (by decide) (by decide) fun h7 F7 T7 s7 => ?_
  rw [x_step1] at T7 ⊢
  have N7 := N6.step s7
  obtain ⟨B7, n7⟩ := keepBx B6 n6 s7
  simp only [zSS, reduceIte, zZZ, Nat.reduceAdd]
  intro r32 hr32
  try rw [bindH_eq]
  refine T_api_Packet.fill (vs := Pk.cells default) hr32 rfl (Pk.isC _) fun h8 B8 u8 => ?_
  have T8 := (TwoA.good _ _ _).ext T7 u8
  have N8 := N7.more u8
  have C8 := B7.ext u8
  have l8 : SemE PG h8 (Instr.loadAt T_api_Packet (.pointer (some ⟨r14, 0, none⟩))) = some xp.v := C8.pk rfl
  simp only [l8, xc2_b, zSS, reduceIte, zZZ, Nat.reduceAdd]
  have w2 : xc2.wf := ⟨by decide, xp_wf⟩
  refine Do_ok T8 (N8.k hK) (N8.z hK) (x := xc2) w2 (by decide) (by decide) fun h9 F9 T9 s9 => ?_
  rw [x_step2] at T9 ⊢
  have N9 := N8.step s9
  obtain ⟨B9, n9⟩ := keepBx C8 n7 s9
  simp only [zSS, reduceIte, zZZ, Nat.reduceAdd]
  intro r43 hr43
  try rw [bindH_eq]
  refine T_api_Packet.fill (vs := Pk.cells default) hr43 rfl (Pk.isC _) fun h10 B10 u10 => ?_
  have T10 := (TwoA.good _ _ _).ext T9 u10
  have N10 := N9.more u10
  have C10 := B9.ext u10
  have l10 : SemE PG h10 (Instr.loadAt T_api_Packet (.pointer (some ⟨r14, 0, none⟩))) = some xp.v := C10.pk rfl
  simp only [l10, xc2_b, zSS, reduceIte, zZZ, Nat.reduceAdd]
  refine Do_ok T10 (N10.k hK) (N10.z hK) (x := xc2) w2 (by decide) (by decide) fun h11 F11 T11 s11 => ?_
  rw [x_step3] at T11 ⊢
  have N11 := N10.step s11
  obtain ⟨B11, n11⟩ := keepBx C10 n9 s11
  simp only [zSS, reduceIte, zZZ, Nat.reduceAdd]
  intro r54 hr54
  try rw [bindH_eq]
  refine T_api_Packet.fill (vs := Pk.cells default) hr54 rfl (Pk.isC _) fun h12 B12 u12 => ?_
  have ls : SemE PG h12 (Instr.loadAt T_uint64 (.pointer (some ⟨r14, 1, none⟩))) = some (.int .u64 1) := by rw [T_uint64.load, (B11.ext u12).cell]; rfl
  have q1 : ((0 : Int) == 0) = true := by decide
  have q2 : ((1 : Int) == 1) = true := by decide
  have q3 : (((6 : Nat) : Int) == 6) = true := by decide
  have q4 : ((4 : Int) == 4) = true := by decide
  simp only [eqlI, q1, q2, q3, q4, T_api_Packet.f1, Nat.zero_add, ls, zSS, reduceIte, zZZ, Nat.reduceAdd]
  exact hk h12 (N11.more u12).ext
end Go.Proofs.YtcoajnpchhmgjaaGreatDoor
namespace Go.Proofs.YtcoajnpchhmgjaaGreatDoor
open Go
set_option maxRecDepth 20000
theorem TAc.rows (l : List TAc) : Rows 9 (l.map TAc.cells) := fun r hr => by obtain ⟨m, _, rfl⟩ := List.mem_map.1 hr; rfl
theorem SlR.tac {h : PH} {v : Value} {l : List TAc} (S : SlR h 9 v (l.map TAc.cells)) {j : Nat} {x : TAc} (hx : l[j]? = some x) :
    ∃ b o, SemP PG (Instr.indexAt T_sl_carrackref13_Act v (.int .i64 (j : Int))) = some (.pointer (some ⟨b, o, none⟩)) ∧ cellH h ⟨b, o + 3, none⟩ = some (.string (tx x.d)) ∧ cellH h ⟨b, o + 7, none⟩ = some (.string x.p.d) ∧ SemE PG h (Instr.loadAt T_carrackref13_Act (.pointer (some ⟨b, o, none⟩))) = some x.v := by
  obtain ⟨b, o, h1, h2, h3⟩ := S.fields T_sl_carrackref13_Act.und T_carrackref13_Act.info T_carrackref13_Act.size (k := .i64) (j := j) (r := x.cells) (by rw [List.getElem?_map, hx]; rfl)
  exact ⟨b, o, h1, h2 3 _ rfl, h2 7 _ rfl, h3 _ T_carrackref13_Act.und rfl⟩
theorem tac_len {h : PH} {v : Value} {l : List TAc} (S : SlR h 9 v (l.map TAc.cells)) : SemP PG (Builtin.len_ #[T_sl_carrackref13_Act] T_int #[v]) = some (.int .i64 l.length) := by
  have := S.len (t' := T_int) T_sl_carrackref13_Act.und
  rw [List.length_map] at this
  exact this
theorem few13_ok {h : PH} {s0 s1 : Nat} {v : Value} {l : List TAc} (S : SlR h 9 v (l.map TAc.cells)) {k : Value → PH → Prop} (hk : ∀ h' b, (b = true → s0 ≠ 0 ∧ s1 ≠ 0 ∧ l.length ≤ 50) → Ext h h' → k (.bool b) h') : CallsH PG id_carracklaw13_few #[u2v s0 s1, v] h k := by
  apply carracklaw13_few.call
  unfold carracklaw13_few
  intro r1 hr1
  try rw [bindH_eq]
  have u1 : Ext h (h.set r1 (.cells (Value.cells (u2v s0 s1)) T_2_uint64)) := Upd.new hr1
  have B1 : Bx (h.set r1 (.cells (Value.cells (u2v s0 s1)) T_2_uint64)) r1 (u2c s0 s1) := Bx.new
  generalize h.set r1 (.cells (Value.cells (u2v s0 s1)) T_2_uint64) = h1 at *
  have i0 : SemP PG (Instr.indexAt T_2_uint64 (.pointer (some ⟨r1, 0, none⟩)) (.int .i64 0)) = some (.pointer (some ⟨r1, 0, none⟩)) := ix2u (i := 0) (by decide)
  have i1 : SemP PG (Instr.indexAt T_2_uint64 (.pointer (some ⟨r1, 0, none⟩)) (.int .i64 1)) = some (.pointer (some ⟨r1, 1, none⟩)) := by have := ix2u (r := r1) (o := 0) (i := 1) (by decide); rw [Nat.zero_add] at this; exact this
  have l0 : SemE PG h1 (Instr.loadAt T_uint64 (.pointer (some ⟨r1, 0, none⟩))) = some (.int .u64 (s0 : Int)) := by rw [T_uint64.load, B1.cell]; rfl
  have l1 : SemE PG h1 (Instr.loadAt T_uint64 (.pointer (some ⟨r1, 1, none⟩))) = some (.int .u64 (s1 : Int)) := by rw [T_uint64.load, B1.cell]; rfl
  have ll := tac_len S
  have no : k (.bool false) h1 := hk h1 false (fun e => by cases e) u1
  by_cases z0 : s0 = 0
  · have q : ((s0 : Int) == 0) = true := by rw [z0]; rfl
    simp only [i0, l0, eqlI, q, zSS, reduceIte, zZZ, Nat.reduceAdd]
    exact no
  have q0 : ((s0 : Int) == 0) = false := by rw [beq_eq_false_iff_ne]; omega
  by_cases z1 : s1 = 0
  · have q : ((s1 : Int) == 0) = true := by rw [z1]; rfl
    simp only [i0, l0, i1, l1, eqlI, q0, q, zSS, reduceIte, zZZ, Nat.reduceAdd]
    exact no
  have q1 : ((s1 : Int) == 0) = false := by rw [beq_eq_false_iff_ne]; omega
  by_cases z2 : 50 < l.length
  · have g : ((50 : Int) < (l.length : Int)) = True := eq_true (by omega)
    simp only [i0, l0, i1, l1, eqlI, q0, q1, ll, g, zSS, reduceIte, zZZ, Nat.reduceAdd]
    exact no
  have g : ((50 : Int) < (l.length : Int)) = False := eq_false (by omega)
  simp only [i0, l0, i1, l1, eqlI, q0, q1, ll, g, zSS, reduceIte, zZZ, Nat.reduceAdd]
  refine ⟨fun vs h' => ∃ i : Nat, i ≤ l.length ∧ vs = [v, .int .i64 (i : Int)] ∧ h' = h1, upTo l.length 1, ⟨0, by omega, rfl, rfl⟩, ?_⟩
  rintro ρ h' ⟨i, hi, hvs, rfl⟩
  simp only [List.map_cons, List.map_nil, List.cons.injEq, and_true] at hvs
  obtain ⟨v0, v1⟩ := hvs
  unfold carracklaw13_few_b32
  rw [v0, v1]
  by_cases hlt : i < l.length
  · have g1 : ((i : Int) < (l.length : Int)) = True := eq_true (by omega)
    have gi : IntKind.i64.wrap ((i : Int) + 1) = ((i + 1 : Nat) : Int) := by rw [i64_wrap (by omega) (by omega)]; omega
    obtain ⟨x, hx⟩ : ∃ x, l[i]? = some x := ⟨_, List.getElem?_eq_getElem hlt⟩
    obtain ⟨b, o, a1, a2, a3, -⟩ := (S.ext u1).tac hx
    have ld : SemP PG (Builtin.len_ #[T_string] T_int #[.string (tx x.d)]) = some (.int .i64 (x.d.length : Int)) := by rw [len_string T_string.und, tx_size]
    have lp : SemP PG (Builtin.len_ #[T_string] T_int #[.string x.p.d]) = some (.int .i64 (x.p.d.size : Int)) := len_string T_string.und
    by_cases y1 : 2000 < x.d.length
    · have g2 : ((2000 : Int) < (x.d.length : Int)) = True := eq_true (by omega)
      simp only [ll, g1, a1, T_carrackref13_Act.f3, T_string.load, a2, ld, g2, zSS, reduceIte, zZZ, Nat.reduceAdd]
      exact no
    have g2 : ((2000 : Int) < (x.d.length : Int)) = False := eq_false (by omega)
    by_cases y2 : 300 < x.p.d.size
    · have g3 : ((300 : Int) < (x.p.d.size : Int)) = True := eq_true (by omega)
      simp only [ll, g1, a1, T_carrackref13_Act.f3, T_carrackref13_Act.f4, T_api_Packet.f3, Nat.add_assoc, Nat.reduceAdd, T_string.load, a2, a3, ld, lp, g2, g3, zSS, reduceIte, zZZ, Nat.reduceAdd]
      exact no
    have g3 : ((300 : Int) < (x.p.d.size : Int)) = False := eq_false (by omega)
    simp only [ll, g1, a1, T_carrackref13_Act.f3, T_carrackref13_Act.f4, T_api_Packet.f3, Nat.add_assoc, Nat.reduceAdd, T_string.load, a2, a3, ld, lp, g2, g3, gi, zSS, reduceIte, zZZ, Nat.reduceAdd]
    exact ⟨⟨i + 1, by omega, rfl, by first | rfl | trivial⟩, by simp [upTo, v1]; omega⟩
  · have g1 : ((i : Int) < (l.length : Int)) = False := eq_false (by omega)
    simp only [ll, g1, zSS, reduceIte, zZZ, Nat.reduceAdd]
    exact hk _ true (fun _ => ⟨z0, z1, by omega⟩) u1
end Go.Proofs.YtcoajnpchhmgjaaGreatDoor
namespace Go.Proofs.YtcoajnpchhmgjaaGreatDoor
open Go
set_option maxRecDepth 20000
theorem doP_nts (c o : Ch) (a : TAc) : (doP c o a).1.nts.length ≤ c.nts.length + 1 := by
  have put : ∀ (s : Ch) (n : Nt), (s.add n).nts.length ≤ s.nts.length + 1 := fun s n => by
    show (s.nts ++ [n]).length ≤ _
    rw [List.length_append]; simp
  unfold doP
  split
  · split
    · exact put _ _
    · exact Nat.le_succ _
  · split
    · split
      · exact Nat.le_succ _
      · exact Nat.le_succ _
    · split
      · split
        · exact put _ _
        · exact Nat.le_succ _
      · split
        · split
          · exact put _ _
          · exact Nat.le_succ _
        · split
          · split
            · exact put _ _
            · exact Nat.le_succ _
          · split
            · show (Ch.committed c).nts.length ≤ _
              unfold Ch.committed
              split
              · exact Nat.zero_le _
              · exact Nat.le_succ _
            · exact Nat.le_succ _
theorem twStep_nts (a b : Ch) (x : TAc) {n : Nat} (ha : a.nts.length ≤ n) (hb : b.nts.length ≤ n) : (twStep a b x).1.1.nts.length ≤ n + 1 ∧ (twStep a b x).1.2.nts.length ≤ n + 1 := by
  unfold twStep
  split
  · have := doP_nts b a x
    exact ⟨by show a.nts.length ≤ _; omega, by show (doP b a x).1.nts.length ≤ _; omega⟩
  · have := doP_nts a b x
    exact ⟨by show (doP a b x).1.nts.length ≤ _; omega, by show b.nts.length ≤ _; omega⟩
end Go.Proofs.YtcoajnpchhmgjaaGreatDoor
namespace Go.Proofs.YtcoajnpchhmgjaaGreatDoor
open Go
set_option maxRecDepth 20000
end Go.Proofs.YtcoajnpchhmgjaaGreatDoor
namespace Go.Proofs.YtcoajnpchhmgjaaGreatDoor
open Go Go.RowKit Go.ChangeShapes
set_option maxRecDepth 20000
theorem T_int.cells : PG.cellsOf T_int = 1 := by kernel_rfl
theorem T_uint64.cells : PG.cellsOf T_uint64 = 1 := by kernel_rfl
theorem T_string.cells : PG.cellsOf T_string = 1 := by kernel_rfl
theorem T_bool.cells : PG.cellsOf T_bool = 1 := by kernel_rfl
theorem T_api_Packet.cells : PG.cellsOf T_api_Packet = 4 := by kernel_rfl
theorem T_2_uint64.cells : PG.cellsOf T_2_uint64 = 2 := by kernel_rfl
theorem T_carrackref13_Act.cells : PG.cellsOf T_carrackref13_Act = 9 := by kernel_rfl
section
variable {H : Type} {enc : TypeId × Value → H} {w : World} {spare : Nat → Bool} {held : Bool}
theorem Pk.rd {cs : List Value} (h : Rd enc PG w spare held T_api_Packet cs) : ∃ p : Pk, cs = p.cells ∧ p.wf := by
  obtain ⟨hl, hf⟩ := rd_struct T_api_Packet.und h
  rw [T_api_Packet.cells] at hl
  match cs, hl with
  | [c0, c1, c2, c3], _ =>
    have f0 : Rd enc PG w spare held T_int (([c0, c1, c2, c3].drop 0).take (PG.cellsOf T_int)) := hf 0 _ rfl
    rw [T_int.cells] at f0
    have f1 : Rd enc PG w spare held T_uint64 (([c0, c1, c2, c3].drop 1).take (PG.cellsOf T_uint64)) := hf 1 _ rfl
    rw [T_uint64.cells] at f1
    have f2 : Rd enc PG w spare held T_uint64 (([c0, c1, c2, c3].drop 2).take (PG.cellsOf T_uint64)) := hf 2 _ rfl
    rw [T_uint64.cells] at f2
    have f3 : Rd enc PG w spare held T_string (([c0, c1, c2, c3].drop 3).take (PG.cellsOf T_string)) := hf 3 _ rfl
    rw [T_string.cells] at f3
    obtain ⟨n0, e0, -⟩ := rd_int T_int.und f0
    obtain ⟨n1, e1, w1⟩ := rd_int T_uint64.und f1
    have w1 := wf_u64 w1
    obtain ⟨n2, e2, w2⟩ := rd_int T_uint64.und f2
    have w2 := wf_u64 w2
    obtain ⟨n3, e3, -⟩ := rd_string T_string.und f3
    simp only [List.drop_succ_cons, List.drop_zero, List.take_succ_cons, List.take_zero, List.cons.injEq, and_true] at e0 e1 e2 e3
    subst e0 e1 e2 e3
    exact ⟨⟨n0, n1, n2, n3⟩, rfl, w1.1, by show n1 < _; omega, w2.1, by show n2 < _; omega⟩
theorem TAc.rd {cs : List Value} (h : Rd enc PG w spare held T_carrackref13_Act cs) : ∃ p : TAc, cs = p.cells ∧ p.wf := by
  obtain ⟨hl, hf⟩ := rd_struct T_carrackref13_Act.und h
  rw [T_carrackref13_Act.cells] at hl
  match cs, hl with
  | [c0, c1, c2, c3, c4, c5, c6, c7, c8], _ =>
    have f0 : Rd enc PG w spare held T_int (([c0, c1, c2, c3, c4, c5, c6, c7, c8].drop 0).take (PG.cellsOf T_int)) := hf 0 _ rfl
    rw [T_int.cells] at f0
    have f1 : Rd enc PG w spare held T_int (([c0, c1, c2, c3, c4, c5, c6, c7, c8].drop 1).take (PG.cellsOf T_int)) := hf 1 _ rfl
    rw [T_int.cells] at f1
    have f2 : Rd enc PG w spare held T_uint64 (([c0, c1, c2, c3, c4, c5, c6, c7, c8].drop 2).take (PG.cellsOf T_uint64)) := hf 2 _ rfl
    rw [T_uint64.cells] at f2
    have f3 : Rd enc PG w spare held T_string (([c0, c1, c2, c3, c4, c5, c6, c7, c8].drop 3).take (PG.cellsOf T_string)) := hf 3 _ rfl
    rw [T_string.cells] at f3
    have f4 : Rd enc PG w spare held T_api_Packet (([c0, c1, c2, c3, c4, c5, c6, c7, c8].drop 4).take (PG.cellsOf T_api_Packet)) := hf 4 _ rfl
    rw [T_api_Packet.cells] at f4
    have f5 : Rd enc PG w spare held T_bool (([c0, c1, c2, c3, c4, c5, c6, c7, c8].drop 8).take (PG.cellsOf T_bool)) := hf 5 _ rfl
    rw [T_bool.cells] at f5
    obtain ⟨n0, e0, -⟩ := rd_int T_int.und f0
    obtain ⟨n1, e1, -⟩ := rd_int T_int.und f1
    obtain ⟨n2, e2, w2⟩ := rd_int T_uint64.und f2
    have w2 := wf_u64 w2
    obtain ⟨n3, e3, -⟩ := rd_string T_string.und f3
    obtain ⟨n4, e4, w4⟩ := Pk.rd f4
    obtain ⟨n5, e5⟩ := rd_bool T_bool.und f5
    simp only [List.drop_succ_cons, List.drop_zero, List.take_succ_cons, List.take_zero, List.cons.injEq, and_true, Pk.cells] at e0 e1 e2 e3 e4 e5
    obtain ⟨rfl, rfl, rfl, rfl⟩ := e4
    subst e0 e1 e2 e3 e5
    exact by
      obtain ⟨m, rfl⟩ := Int.eq_ofNat_of_zero_le w2.1
      exact ⟨⟨n0, n1, m, n3.data.toList, n4, n5⟩, by rw [TAc.cells, tx_list], by show m < _; omega, w4⟩
theorem TAc.rds : ∀ {rows : List (List Value)}, (∀ r ∈ rows, Rd enc PG w spare held T_carrackref13_Act r) → ∃ xs : List TAc, rows = xs.map TAc.cells ∧ ∀ x ∈ xs, x.wf
  | [], _ => ⟨[], rfl, by simp⟩
  | r :: rs, h => by
    obtain ⟨m, rfl, hm⟩ := TAc.rd (h r (by simp))
    obtain ⟨xs, rfl, hx⟩ := TAc.rds (rows := rs) (fun x hx => h x (by simp [hx]))
    exact ⟨m :: xs, rfl, fun x hx' => by rcases List.mem_cons.1 hx' with rfl | h; exact hm; exact hx x h⟩
theorem u2c.rd {cs : List Value} (h : Rd enc PG w spare held T_2_uint64 cs) : ∃ a b : Nat, cs = u2c a b ∧ a < 18446744073709551616 ∧ b < 18446744073709551616 := by
  obtain ⟨hl, hf⟩ := rd_array T_2_uint64.und h
  rw [T_2_uint64.cells] at hl
  match cs, hl with
  | [c0, c1], _ =>
    have f0 : Rd enc PG w spare held T_uint64 (([c0, c1].drop (0 * PG.cellsOf T_uint64)).take (PG.cellsOf T_uint64)) := hf 0 (by decide)
    have f1 : Rd enc PG w spare held T_uint64 (([c0, c1].drop (1 * PG.cellsOf T_uint64)).take (PG.cellsOf T_uint64)) := hf 1 (by decide)
    rw [T_uint64.cells] at f0 f1
    obtain ⟨m0, q0, w0⟩ := rd_int T_uint64.und f0
    obtain ⟨m1, q1, w1⟩ := rd_int T_uint64.und f1
    have w0 := wf_u64 w0
    have w1 := wf_u64 w1
    simp only [Nat.zero_mul, Nat.one_mul, List.drop_succ_cons, List.drop_zero, List.take_succ_cons, List.take_zero, List.cons.injEq, and_true] at q0 q1
    subst q0 q1
    obtain ⟨n0, rfl⟩ := Int.eq_ofNat_of_zero_le w0.1
    obtain ⟨n1, rfl⟩ := Int.eq_ofNat_of_zero_le w1.1
    exact ⟨n0, n1, rfl, by omega, by omega⟩
theorem open_u2 {r : Reach} {base : Nat} {v : Value} {d : DataW H} {p : List MemPlace} (hval : Value.okWide PG w r base T_2_uint64 v) (hd : DataW.Trod enc PG w 0 spare held T_2_uint64 v d p) :
    ∃ a b : Nat, v = u2v a b ∧ a < 18446744073709551616 ∧ b < 18446744073709551616 := by
  have hu : PG.underlying T_2_uint64 = some (.array 2 T_uint64) := T_2_uint64.und
  simp only [Value.okWide, hu] at hval
  obtain ⟨cs, rfl, _⟩ := hval
  obtain ⟨a, b, e, ha, hb⟩ := u2c.rd (open_any hd)
  refine ⟨a, b, ?_, ha, hb⟩
  rw [u2v]
  congr 1
  exact Array.toList_inj.1 e
end
def laidL : List (String × DataW Unit) := [("carrack/sha.k", Rows.laid_carrack_sha_k)]
theorem door_met (os : Os) (args : Array Value) : laidMetH Tryz.prog laidL ((World.doorLaid Tryz.prog 400 os).forCall (fun _ _ => 0) ⟨#[], args, []⟩).memory :=
  laidMetH_of_parts3 (fuel := 8) (laidMet_of_run' 8 (by kernel_rfl) (by kernel_rfl)) (by kernel_rfl) (by kernel_rfl)
theorem kOf {W : World} (h : laidMetH Tryz.prog laidL W) : KAt (heapOf W) := by
  rw [MakeChecks.laidMetH_plain _ _ _ (by kernel_rfl)] at h
  obtain ⟨ps, h1, _⟩ := h
  obtain ⟨e, fr, hh⟩ := laid_cells (m := 3) (g := 0) (t := T_64_uint32) h1 (List.mem_cons_self ..) (by kernel_rfl) (by kernel_rfl) (by kernel_rfl)
  have hk : (flatW (Rows.laid_carrack_sha_k : DataW Unit)).toArray = (kT.map wv).toArray := by kernel_rfl
  rw [hk] at hh
  exact ⟨e, fr, hh⟩
end Go.Proofs.YtcoajnpchhmgjaaGreatDoor
namespace Go.Proofs.YtcoajnpchhmgjaaGreatDoor
open Go Go.Sort Go.Shelf
set_option maxRecDepth 20000
def Pl.v (q : Pl) : Value := .agg q.cells.toArray
theorem Pl.isC (q : Pl) : ∀ v ∈ q.cells, Go.Proofs.YtcoajnpchhmgjaaGreatDoor.isCell v = true := by
  intro v hv
  simp only [Pl.cells, List.mem_cons, List.not_mem_nil, or_false] at hv
  rcases hv with rfl | rfl <;> rfl
theorem place_b (x : Nat) : SemP PG (Instr.build T_api_Place #[(0, .int .u64 (x : Int))]) = some (Pl.v ⟨(x : Int), 0⟩) := by kernel_rfl
theorem Bx.place {h : PH} {r : Nat} {q : Pl} (B : Bx h r q.cells) : SemE PG h (Instr.loadAt T_api_Place (.pointer (some ⟨r, 0, none⟩))) = some q.v := T_api_Place.agg B (by show 0 + 2 ≤ 2; decide)
theorem CFirst_ok {h : PH} {c : Nat} {s : Ch} {F : List Nat} (H : ChA c s h F) {kk : Value → PH → Prop} (hk : ∀ h', Ext h h' → kk (Pl.v ⟨(s.first : Int), 0⟩) h') : CallsH PG id_chain_ledger_First #[.pointer (some ⟨c, 0, none⟩)] h kk := by
  apply chain_ledger_First.call
  unfold chain_ledger_First
  obtain ⟨sp, m, cp, nv, bv, lk, P, perm, ok⟩ := H
  intro r1 hr1
  try rw [bindH_eq]
  have u1 : Ext h (h.set r1 (.cells (zcells PG T_api_Place) T_api_Place)) := Upd.new hr1
  have l1 : SemE PG (h.set r1 (.cells (zcells PG T_api_Place) T_api_Place)) (Instr.loadAt T_uint64 (.pointer (some ⟨c, 1, none⟩))) = some (.int .u64 s.first) := Ch.load1 (P.cell.ext u1)
  simp only [T_chain_ledger.f1, l1, place_b, zSS, reduceIte, zZZ, Nat.reduceAdd]
  refine T_api_Place.fill (vs := Pl.cells ⟨(s.first : Int), 0⟩) hr1 rfl (Pl.isC _) fun h2 B2 u2 => ?_
  simp only [B2.place, zSS, reduceIte, zZZ, Nat.reduceAdd]
  exact hk h2 u2
end Go.Proofs.YtcoajnpchhmgjaaGreatDoor
namespace Go.Proofs.YtcoajnpchhmgjaaGreatDoor
open Go
set_option maxRecDepth 20000
def logGo : List (List Nt) → Nat → Nat → Nat → List Nt × Nat × Nat
  | [], H, i, _ => ([], H, i)
  | b :: bs, H, i, n => if i + min (b.length - i) n < b.length ∨ bs = [] then ((b.drop i).take (min (b.length - i) n), H, i + min (b.length - i) n) else
      ((b.drop i).take (min (b.length - i) n) ++ (logGo bs (H + 1) 0 (n - min (b.length - i) n)).1, (logGo bs (H + 1) 0 (n - min (b.length - i) n)).2)
def clampI (I : Int) (b : List Nt) : Nat := if I < 0 then 0 else if (b.length : Int) < I then b.length else I.toNat
theorem clampI_le (I : Int) (b : List Nt) : clampI I b ≤ b.length := by
  unfold clampI
  split
  · omega
  · split <;> omega
def logR (s : Ch) (H : Nat) (I : Int) (n : Nat) : List Nt × Nat × Nat := logGo (s.blk.drop (H - s.first)) H (clampI I ((s.blk[H - s.first]?).getD [])) n
def logP (s : Ch) (q : Pl) (most : Int) : List Nt × Pl :=
  if q.h < s.first ∨ (s.st.height : Int) < q.h then ([], q) else ((logR s q.h.toNat q.i most.toNat).1, ⟨((logR s q.h.toNat q.i most.toNat).2.1 : Nat), ((logR s q.h.toNat q.i most.toNat).2.2 : Nat)⟩)
theorem clampI_0 (b : List Nt) : clampI 0 b = 0 := by
  unfold clampI
  split
  · rfl
  · split <;> omega
theorem clampI_eq (I : Int) (b : List Nt) : (if 0 < (if (b.length : Int) < I then (b.length : Int) else I) then (if (b.length : Int) < I then (b.length : Int) else I) else 0) = (clampI I b : Nat) := by
  unfold clampI
  by_cases h1 : I < 0
  · rw [if_pos h1, if_neg (show ¬ (b.length : Int) < I by omega), if_neg (by omega)]; rfl
  · rw [if_neg h1]
    by_cases h2 : (b.length : Int) < I
    · rw [if_pos h2, if_pos h2]; split <;> omega
    · rw [if_neg h2, if_neg h2]; split <;> omega
theorem take_eq (m : Int) (o L i : Nat) (hi : i ≤ L) (hm : (o : Int) ≤ if m < 0 then 0 else m) : (if 0 < (if m - (o : Int) < ((L - i : Nat) : Int) then m - (o : Int) else ((L - i : Nat) : Int)) then (if m - (o : Int) < ((L - i : Nat) : Int) then m - (o : Int) else ((L - i : Nat) : Int)) else 0) = ((min (L - i) (m.toNat - o) : Nat) : Int) := by
  by_cases h1 : m < 0
  · rw [if_pos h1] at hm
    have ho : o = 0 := by omega
    subst ho
    rw [if_pos (show m - ((0 : Nat) : Int) < ((L - i : Nat) : Int) by omega), if_neg (by omega), show m.toNat = 0 by omega]
    simp
  · rw [if_neg h1] at hm
    by_cases h2 : m - (o : Int) < ((L - i : Nat) : Int)
    · rw [if_pos h2]; split <;> omega
    · rw [if_neg h2]; split <;> omega
theorem Ch.Ok.pos {s : Ch} (ok : s.Ok) (h1 : 1 ≤ s.st.blocks.length) : s.st.height + 1 = s.first + s.blk.length := by
  have := ok.len
  have := ok.first
  omega
def leftAt (n r : Nat) (h : PH) : Nat := match cellH h ⟨r, 0, none⟩ with
  | some (.int _ x) => n - x.toNat
  | _ => 0
theorem leftAt_eq {n r : Nat} {h : PH} {X : Nat} {I : Int} (B : Bx h r (Pl.cells ⟨(X : Int), I⟩)) : leftAt n r h = n - X := by
  have c : cellH h ⟨r, 0, none⟩ = some (.int .u64 (X : Int)) := B.cell 0
  unfold leftAt
  rw [c]; rfl
theorem CLog_ok {h : PH} {c : Nat} {s : Ch} {F : List Nat} (H : ChA c s h F) {q : Pl} (wq1 : 0 ≤ q.h) (wq2 : q.h < 18446744073709551616) (wq3 : -9223372036854775808 ≤ q.i) (wq4 : q.i < 9223372036854775808) {most : Int} (m1 : -9223372036854775808 ≤ most) (m2 : most < 9223372036854775808) {kk : Value → PH → Prop}
    (hk : ∀ h' v Fl, OwnR h' T_api_Note 5 v ((logP s q most).1.map Nt.cells) Fl → Fresh h Fl → Ext h h' → kk (.tuple #[v, (logP s q most).2.v]) h') : CallsH PG id_chain_ledger_Log #[.pointer (some ⟨c, 0, none⟩), q.v, .int .i64 most] h kk := by
  apply chain_ledger_Log.call
  unfold chain_ledger_Log
  obtain ⟨sp, m, cp, nv, bv, lk, P, perm, ok⟩ := H
  have hst := P.okst
  have hpos := ok.pos hst.h1
  have hb2 := hst.h2
  have hb4 := hst.h4
  have hlen := ok.len
  intro r1 hr1
  try rw [bindH_eq]
  have u1 : Ext h (h.set r1 (.cells (Value.cells q.v) T_api_Place)) := Upd.new hr1
  have B1 : Bx (h.set r1 (.cells (Value.cells q.v) T_api_Place)) r1 q.cells := Bx.new
  generalize h.set r1 (.cells (Value.cells q.v) T_api_Place) = h1 at *
  intro r3 hr3
  try rw [bindH_eq]
  have u3 : Ext h1 (h1.set r3 (.cells (zcells PG T_api_Place) T_api_Place)) := Upd.new hr3
  have B3 : Bx (h1.set r3 (.cells (zcells PG T_api_Place) T_api_Place)) r3 (Pl.cells ⟨0, 0⟩) := T_api_Place.zbox
  have C1 := B1.ext u3
  have n13 : r1 ≠ r3 := B1.apart hr3
  generalize h1.set r3 (.cells (zcells PG T_api_Place) T_api_Place) = h3 at *
  have e3 := u1.trans u3
  have k3 : h r3 = none := u1.none hr3
  have P3 := parts.good.ext P e3
  have lf : ∀ {h'' : PH}, Ext h3 h'' → SemE PG h'' (Instr.loadAt T_uint64 (.pointer (some ⟨c, 1, none⟩))) = some (.int .u64 s.first) := fun v => Ch.load1 (P3.cell.ext v)
  have ls : ∀ {h'' : PH}, Ext h3 h'' → SemE PG h'' (Instr.loadAt T_p_store_Store (.pointer (some ⟨c, 0, none⟩))) = some (.pointer (some ⟨sp, 0, none⟩)) := fun v => Ch.load0 (P3.cell.ext v)
  have lb : ∀ {h'' : PH}, Ext h3 h'' → SemE PG h'' (Instr.loadAt T_sl_sl_api_Note (.pointer (some ⟨c, 2, none⟩))) = some bv := fun v => Ch.load2 (P3.cell.ext v)
  have lq : SemE PG h3 (Instr.loadAt T_uint64 (.pointer (some ⟨r1, 0, none⟩))) = some (.int .u64 q.h) := by rw [T_uint64.load, C1.cell]; rfl
  obtain ⟨Fs, S3, hFs, -⟩ := P3.fSt
  -- out of range
  have bad : (q.h < s.first ∨ (s.st.height : Int) < q.h) → ∀ {h4 : PH}, Ext h3 h4 → popO (SemE PG h4 (Instr.loadAt T_api_Place (.pointer (some ⟨r1, 0, none⟩)))) fun v44 => SemH PG (storeS T_api_Place (Value.pointer (some ⟨r3, 0, none⟩)) v44) h4 fun v45 h46 => popO (SemE PG h46 (Instr.loadAt T_api_Place (Value.pointer (some ⟨r3, 0, none⟩)))) fun v47 => kk (Value.tuple #[(Value.slice none 0 0), v47]) h46 := fun hb h4 u4 => by
    have hl : logP s q most = ([], q) := by unfold logP; rw [if_pos hb]
    rw [hl] at hk
    simp only [(C1.ext u4).place, zSS, reduceIte, zZZ, Nat.reduceAdd]
    refine T_api_Place.put (B3.ext u4) (o := 0) (vs := q.cells) rfl (by show 0 + 2 ≤ 2; decide) (Pl.isC q) fun h5 B5 u5 => ?_
    have B5 : Bx h5 r3 q.cells := B5
    simp only [B5.place, zSS, reduceIte, zZZ, Nat.reduceAdd]
    exact hk h5 _ [] OwnR.nil (fun b hb => by cases hb) ((e3.trans u4).fresh u5 (Fresh.one k3))
  simp only [T_api_Place.f0, T_chain_ledger.f1, Nat.zero_add, lq, lf Upd.refl, zSS, reduceIte, zZZ, Nat.reduceAdd]
  by_cases d1 : q.h < (s.first : Int)
  · have g1 := eq_true d1
    simp only [g1, zSS, reduceIte, zZZ, Nat.reduceAdd]
    exact ⟨fun h => by simp at h, bad (.inl d1) Upd.refl⟩
  have g1 := eq_false d1
  simp only [g1, T_api_Place.f0, T_chain_ledger.f0, Nat.zero_add, lq, ls Upd.refl, zSS, reduceIte, zZZ, Nat.reduceAdd]
  refine Height_ok S3 ?_
  refine ⟨fun _ => lq, ?_⟩
  by_cases d2 : (s.st.height : Int) < q.h
  · have g2 := eq_true d2
    simp only [g2, zSS, reduceIte, zZZ, Nat.reduceAdd]
    exact bad (.inr d2) Upd.refl
  have g2 := eq_false d2
  simp only [g2, zSS, reduceIte, zZZ, Nat.reduceAdd]
  have hlp : logP s q most = ((logR s q.h.toNat q.i most.toNat).1, ⟨((logR s q.h.toNat q.i most.toNat).2.1 : Nat), ((logR s q.h.toNat q.i most.toNat).2.2 : Nat)⟩) := by unfold logP; rw [if_neg (by omega)]
  refine ⟨fun vs h' => ∃ (X : Nat) (I : Int) (out : List Nt) (v : Value) (Fl : List Nat), vs = [.pointer (some ⟨c, 0, none⟩), .int .i64 most, .pointer (some ⟨r1, 0, none⟩), .pointer (some ⟨r3, 0, none⟩), v] ∧ Bx h' r1 (Pl.cells ⟨(X : Int), I⟩) ∧ Bx h' r3 (Pl.cells ⟨0, 0⟩) ∧ OwnR h' T_api_Note 5 v (out.map Nt.cells) Fl ∧ Fresh h3 Fl ∧ Upd [r1] h3 h' ∧ s.first ≤ X ∧ X ≤ s.st.height ∧ -9223372036854775808 ≤ I ∧ I < 9223372036854775808 ∧ out.length ≤ (X - s.first) * 1000000 ∧ out.length ≤ most.toNat ∧
    (out ++ (logR s X I (most.toNat - out.length)).1, (logR s X I (most.toNat - out.length)).2) = logR s q.h.toNat q.i most.toNat, fun _ h' => leftAt (s.st.height + 1) r1 h', ⟨q.h.toNat, q.i, [], _, [], rfl, by rw [Int.toNat_of_nonneg wq1]; exact C1, B3, OwnR.nil, (fun b hb => by cases hb), Upd.refl, by omega, by omega, wq3, wq4, by simp, by simp, by simp⟩, ?_⟩
  rintro ρ h' ⟨X, I, out, v, Fl, hvs, BX, BR, O, fl, u, x1, x2, i1, i2, o1, o2, hr⟩
  simp only [List.map_cons, List.map_nil, List.cons.injEq, and_true] at hvs
  obtain ⟨v0, v2, v4, v7, v8⟩ := hvs
  simp only [v0, v2, v4, v7, v8, List.map_cons, List.map_nil]
  unfold chain_ledger_Log_b49
  have P4 : parts c (s.cells sp bv nv m cp) sp s.st m lk cp s.cl nv s.nts bv s.blk h' F := parts.good.upd P3 u fun b hb => by
    simp only [List.mem_singleton]; rintro rfl; exact parts.good.known P _ hb hr1
  have cX : cellH h' ⟨r1, 0, none⟩ = some (.int .u64 (X : Int)) := BX.cell 0
  have cI : cellH h' ⟨r1, 1, none⟩ = some (.int .i64 I) := BX.cell 1
  obtain ⟨Ft, ⟨Fn, Fb, rfl, On, ⟨bl, Fb', G, Ob, Sb, ebl, rfl, hG⟩, hd⟩, hFt, -⟩ := P4.fTwo
  have hGF : ∀ g ∈ G, g ∈ F := fun g hg => hFt g (by simp [hg])
  have hbl : bl.length = s.blk.length := by rw [← ebl]; simp
  obtain ⟨j, hj⟩ : ∃ j, j = X - s.first := ⟨_, rfl⟩
  have hjl : j < bl.length := by omega
  have wj : IntKind.u64.wrap ((X : Int) - (s.first : Int)) = ((j : Nat) : Int) := by rw [u64_wrap (by omega) (by omega)]; omega
  have hrow : (bl.map nrow)[((j : Nat) : Int).toNat]? = some [bl[j].1] := by rw [Int.toNat_natCast, List.getElem?_map, List.getElem?_eq_getElem hjl]; rfl
  obtain ⟨pa, hpa, hload⟩ := Ob.slR.loadCell (t := T_sl_sl_api_Note) (k := .u64) (j := ((j : Nat) : Int)) T_sl_sl_api_Note.und T_sl_api_Note.info T_sl_api_Note.size T_sl_api_Note.und rfl (by omega) hrow
  obtain ⟨Sj, Gj⟩ := Sb bl[j] (List.getElem_mem hjl)
  have hat : s.blk[j]? = some bl[j].2 := by rw [← ebl, List.getElem?_map, List.getElem?_eq_getElem hjl]; rfl
  have hdr : s.blk.drop j = bl[j].2 :: s.blk.drop (j + 1) := by
    have hj2 : j < s.blk.length := by omega
    rw [List.drop_eq_getElem_cons hj2]
    congr 1
    rw [List.getElem?_eq_getElem hj2] at hat
    exact Option.some.inj hat
  have hbw := (ok.bwf _ (List.mem_of_getElem? hat)).1
  generalize bl[j] = y at *
  obtain ⟨yv, b⟩ := y
  simp only at Sj Gj hat hdr hbw hload
  have lnb := Sj.len (t' := T_int) T_sl_api_Note.und
  rw [List.length_map] at lnb
  have lout := O.slR.len (t' := T_int) T_sl_api_Note.und
  rw [List.length_map] at lout
  have hob : out.length ≤ 4096000000 := by
    have : (X - s.first) * 1000000 ≤ 4096 * 1000000 := Nat.mul_le_mul_right _ (by omega)
    omega
  obtain ⟨i, hi⟩ : ∃ i, i = clampI I b := ⟨_, rfl⟩
  have hib : i ≤ b.length := by rw [hi]; exact clampI_le _ _
  have ec := clampI_eq I b
  rw [← hi] at ec
  simp only [T_chain_ledger.f2, T_chain_ledger.f1, T_api_Place.f0, T_api_Place.f1, Nat.zero_add, T_uint64.load, T_int.load, cX, cI, Ch.load1 P4.cell, Ch.load2 P4.cell, wj, hpa, hload, lnb, minI_eq, maxI_eq, ec, zSS, reduceIte, zZZ, Nat.reduceAdd]
  have nF1 : r1 ∉ F := fun hm => parts.good.known P _ hm hr1
  have nl1 : r1 ∉ Fl := fun hm => C1.known (fl _ hm)
  have nl3 : r3 ∉ Fl := fun hm => B3.known (fl _ hm)
  refine T_int.put BX (o := 1) (by show 1 < 2; decide) rfl fun h5 B5 u5 => ?_
  have B5 : Bx h5 r1 (Pl.cells ⟨(X : Int), ((i : Nat) : Int)⟩) := B5
  have O5 := O.upd u5 (fun b hb => by simp only [List.mem_singleton]; rintro rfl; exact nl1 hb)
  have S5 := Sj.upd u5 (fun a n c e => by simp only [List.mem_singleton]; intro e2; exact nF1 (e2 ▸ hGF _ (Gj a n c e)))
  have R5 := BR.upd u5 (by simp only [List.mem_singleton]; exact n13.symm)
  have c51 : cellH h5 ⟨r1, 1, none⟩ = some (.int .i64 ((i : Nat) : Int)) := B5.cell 1
  have w1 : IntKind.i64.wrap ((b.length : Int) - ((i : Nat) : Int)) = ((b.length - i : Nat) : Int) := by rw [i64_wrap (by omega) (by omega)]; omega
  have w2 : IntKind.i64.wrap (most - (out.length : Int)) = most - (out.length : Int) := i64_wrap (by omega) (by omega)
  obtain ⟨t, ht⟩ : ∃ t, t = min (b.length - i) (most.toNat - out.length) := ⟨_, rfl⟩
  have et := take_eq most out.length b.length i hib (by split <;> omega)
  rw [← ht] at et
  have htb : t ≤ b.length - i := by omega
  have w3 : IntKind.i64.wrap (((i : Nat) : Int) + ((t : Nat) : Int)) = ((i + t : Nat) : Int) := by rw [i64_wrap (by omega) (by omega)]; omega
  obtain ⟨cv, hcv, Sc, -⟩ := S5.cut (t := T_sl_api_Note) T_sl_api_Note.und T_api_Note.info T_api_Note.size (lo := some (.int .i64 ((i : Nat) : Int))) (hi := some (.int .i64 ((i + t : Nat) : Int))) (l := i) (m := i + t) (.inr ⟨_, rfl⟩) (.inr ⟨_, rfl⟩) (by omega) (by rw [List.length_map]; omega)
  have ecut : ((b.map Nt.cells).take (i + t)).drop i = ((b.drop i).take t).map Nt.cells := by
    rw [List.drop_take, Nat.add_sub_cancel_left, List.map_take, List.map_drop]
  rw [ecut] at Sc
  simp only [T_api_Place.f1, Nat.zero_add, T_int.load, c51, lnb, lout, w1, w2, minI_eq, maxI_eq, et, w3, hcv, zSS, reduceIte, zZZ, Nat.reduceAdd]
  have htl : ((b.drop i).take t).length = t := by rw [List.length_take, List.length_drop]; omega
  refine append_own T_sl_api_Note.und T_sl_api_Note.und T_api_Note.info T_api_Note.size T_api_Note.bytes T_api_Note.zero rfl (by decide) O5 Sc (Nt.isC _) (by rw [List.length_map, List.length_map, htl]; omega) ?_
  intro v6 h6 F6 O6 u6 g6 _
  rw [← List.map_append] at O6
  have B6 := B5.upd u6 nl1
  have R6 := R5.upd u6 nl3
  have c61 : cellH h6 ⟨r1, 1, none⟩ = some (.int .i64 ((i : Nat) : Int)) := B6.cell 1
  have n35 : ∀ b, h5 b = none → h3 b = none := fun b hb => by
    cases e : h3 b with
    | none => rfl
    | some o =>
      exfalso
      by_cases hbr : b = r1
      · subst hbr; exact B5.known hb
      · have := (u.trans u5) b o e (by simp [hbr])
        rw [hb] at this; cases this
  simp only [T_api_Place.f1, Nat.zero_add, T_int.load, c61, w3, zSS, reduceIte, zZZ, Nat.reduceAdd]
  refine T_int.put B6 (o := 1) (by show 1 < 2; decide) rfl fun h7 B7 u7 => ?_
  have B7 : Bx h7 r1 (Pl.cells ⟨(X : Int), ((i + t : Nat) : Int)⟩) := B7
  have R7 := R6.upd u7 (by simp only [List.mem_singleton]; exact n13.symm)
  have n6 : r1 ∉ F6 := fun hm => by
    rcases g6 _ hm with hx | hx
    · exact nl1 hx
    · exact B5.known hx
  have m6 : r3 ∉ F6 := fun hm => by
    rcases g6 _ hm with hx | hx
    · exact nl3 hx
    · exact R5.known hx
  have O7 := O6.upd u7 (fun b hb => by simp only [List.mem_singleton]; rintro rfl; exact n6 hb)
  have c70 : cellH h7 ⟨r1, 0, none⟩ = some (.int .u64 (X : Int)) := B7.cell 0
  have c71 : cellH h7 ⟨r1, 1, none⟩ = some (.int .i64 ((i + t : Nat) : Int)) := B7.cell 1
  have f6 : Fresh h3 F6 := fun b hb => by
    rcases g6 b hb with hx | hx
    · exact fl b hx
    · exact n35 b hx
  have u37 : Upd [r1] h3 h7 := ((u.trans u5).then u6 (fun b hb => .inr (fl b hb))).trans u7
  have P7 : parts c (s.cells sp bv nv m cp) sp s.st m lk cp s.cl nv s.nts bv s.blk h7 F := parts.good.upd P3 u37 fun b hb => by
    simp only [List.mem_singleton]; rintro rfl; exact nF1 hb
  obtain ⟨Fs7, S7, hFs7, -⟩ := P7.fSt
  have eR : ∀ n, logR s X I n = logGo (b :: s.blk.drop (j + 1)) X i n := fun n => by
    unfold logR
    rw [← hj, hat, hdr, Option.getD_some, ← hi]
  rw [eR] at hr
  simp only [T_api_Place.f1, Nat.zero_add, T_int.load, c71, lnb, zSS, reduceIte, zZZ, Nat.reduceAdd]
  -- the end
  have stop : (i + t < b.length ∨ s.blk.drop (j + 1) = []) → popO (SemE PG h7 (Instr.loadAt T_api_Place (.pointer (some ⟨r1, 0, none⟩)))) fun v128 => SemH PG (storeS T_api_Place (Value.pointer (some ⟨r3, 0, none⟩)) v128) h7 fun v129 h130 => popO (SemE PG h130 (Instr.loadAt T_api_Place (Value.pointer (some ⟨r3, 0, none⟩)))) fun v131 => kk (Value.tuple #[v6, v131]) h130 := fun hs => by
    have hg : logGo (b :: s.blk.drop (j + 1)) X i (most.toNat - out.length) = ((b.drop i).take t, X, i + t) := by
      unfold logGo
      rw [← ht, if_pos hs]
    rw [hg] at hr
    rw [hlp, ← hr] at hk
    simp only [B7.place, zSS, reduceIte, zZZ, Nat.reduceAdd]
    refine T_api_Place.put R7 (o := 0) (vs := Pl.cells ⟨(X : Int), ((i + t : Nat) : Int)⟩) rfl (by show 0 + 2 ≤ 2; decide) (Pl.isC _) fun h8 B8 u8 => ?_
    have B8 : Bx h8 r3 (Pl.cells ⟨(X : Int), ((i + t : Nat) : Int)⟩) := B8
    simp only [B8.place, zSS, reduceIte, zZZ, Nat.reduceAdd]
    refine hk h8 v6 F6 (O7.upd u8 (fun b hb => by simp only [List.mem_singleton]; rintro rfl; exact m6 hb)) (f6.of e3) ?_
    have e7 : Ext h h7 := e3.fresh u37 (Fresh.one hr1)
    exact e7.fresh u8 (Fresh.one k3)
  by_cases c1 : i + t < b.length
  · have g : (((i + t : Nat) : Int) < (b.length : Int)) = True := eq_true (by omega)
    simp only [g, zSS, reduceIte, zZZ, Nat.reduceAdd]
    exact ⟨fun h => by simp at h, stop (.inl c1)⟩
  have g : (((i + t : Nat) : Int) < (b.length : Int)) = False := eq_false (by omega)
  simp only [g, T_api_Place.f0, T_chain_ledger.f0, Nat.zero_add, T_uint64.load, c70, Ch.load0 P7.cell, zSS, reduceIte, zZZ, Nat.reduceAdd]
  refine Height_ok S7 ?_
  refine ⟨fun _ => c70, ?_⟩
  by_cases c2 : X = s.st.height
  · have g2 : ((X : Int) == (s.st.height : Int)) = true := by rw [beq_iff_eq]; omega
    simp only [eqlI, g2, zSS, reduceIte, zZZ, Nat.reduceAdd]
    exact stop (.inr (List.drop_eq_nil_of_le (by omega)))
  have g2 : ((X : Int) == (s.st.height : Int)) = false := by rw [beq_eq_false_iff_ne]; omega
  have w4 : IntKind.u64.wrap ((X : Int) + 1) = ((X + 1 : Nat) : Int) := by rw [u64_wrap (by omega) (by omega)]; omega
  simp only [eqlI, g2, T_api_Place.f0, T_uint64.load, c70, w4, place_b, zSS, reduceIte, zZZ, Nat.reduceAdd]
  refine T_api_Place.put B7 (o := 0) (vs := Pl.cells ⟨((X + 1 : Nat) : Int), 0⟩) rfl (by show 0 + 2 ≤ 2; decide) (Pl.isC _) fun h8 B8 u8 => ?_
  have B8 : Bx h8 r1 (Pl.cells ⟨((X + 1 : Nat) : Int), 0⟩) := B8
  have hne : s.blk.drop (j + 1) ≠ [] := fun e => by
    have := List.drop_eq_nil_iff.1 e
    omega
  refine ⟨⟨X + 1, 0, out ++ (b.drop i).take t, v6, F6, rfl, B8, R7.upd u8 (by simp only [List.mem_singleton]; exact n13.symm), O7.upd u8 (fun b hb => by simp only [List.mem_singleton]; rintro rfl; exact n6 hb), f6, u37.trans u8, by omega, by omega, by omega, by omega, ?_, ?_, ?_⟩, ?_⟩
  · rw [List.length_append, htl, show X + 1 - s.first = (X - s.first) + 1 by omega, Nat.add_mul]
    omega
  · rw [List.length_append, htl]
    omega
  · rw [← hr]
    have hg : logGo (b :: s.blk.drop (j + 1)) X i (most.toNat - out.length) = ((b.drop i).take t ++ (logGo (s.blk.drop (j + 1)) (X + 1) 0 (most.toNat - out.length - t)).1, (logGo (s.blk.drop (j + 1)) (X + 1) 0 (most.toNat - out.length - t)).2) := by
      rw [logGo, ← ht, if_neg (by rintro (h | h); exact c1 h; exact hne h)]
    have eL : logR s (X + 1) 0 (most.toNat - (out ++ (b.drop i).take t).length) = logGo (s.blk.drop (j + 1)) (X + 1) 0 (most.toNat - out.length - t) := by
      unfold logR
      rw [clampI_0, show X + 1 - s.first = j + 1 by omega, List.length_append, htl, Nat.sub_add_eq]
    rw [hg, eL, List.append_assoc]
  · rw [leftAt_eq B8, leftAt_eq BX]
    omega
end Go.Proofs.YtcoajnpchhmgjaaGreatDoor
namespace Go.Proofs.YtcoajnpchhmgjaaGreatDoor
open Go
set_option maxRecDepth 20000
theorem logGo_list : ∀ (bs : List (List Nt)) (H i n : Nat), i ≤ (bs.head?.getD []).length → (logGo bs H i n).1 = (bs.flatten.drop i).take n
  | [], H, i, n, h => by simp [logGo]
  | b :: bs, H, i, n, h => by
    have h : i ≤ b.length := h
    rw [logGo]
    by_cases c : i + min (b.length - i) n < b.length ∨ bs = []
    · rw [if_pos c]
      rw [List.flatten_cons, List.drop_append_of_le_length h]
      rcases c with c | rfl
      · have e : min (b.length - i) n = n := by omega
        rw [e, List.take_append_of_le_length (by rw [List.length_drop]; omega)]
      · rw [List.flatten_nil, List.append_nil]
        by_cases hn : n ≤ b.length - i
        · rw [Nat.min_eq_right hn]
        · rw [Nat.min_eq_left (by omega), List.take_of_length_le (by rw [List.length_drop]; omega), List.take_of_length_le (by rw [List.length_drop]; omega)]
    · rw [if_neg c]
      have e : min (b.length - i) n = b.length - i := by
        have : ¬ (i + min (b.length - i) n < b.length) := fun h => c (.inl h)
        omega
      have hn : b.length - i ≤ n := by omega
      have e2 : (b.drop i).take (b.length - i) = b.drop i := List.take_of_length_le (by rw [List.length_drop]; omega)
      rw [e]
      simp only [e2]
      rw [logGo_list bs (H + 1) 0 (n - (b.length - i)) (Nat.zero_le _), List.flatten_cons, List.drop_append_of_le_length h, List.take_append, List.drop_zero, List.length_drop, List.take_of_length_le (i := n) (l := b.drop i) (by rw [List.length_drop]; omega)]
theorem logGo_place : ∀ (bs : List (List Nt)) (H i n : Nat), bs ≠ [] → i ≤ (bs.head?.getD []).length → ∃ d, (logGo bs H i n).2.1 = H + d ∧ d < bs.length ∧ (logGo bs H i n).2.2 ≤ ((bs.drop d).head?.getD []).length ∧ ((bs.take d).flatten).length + (logGo bs H i n).2.2 = i + (logGo bs H i n).1.length ∧ (i + n ≥ bs.flatten.length → d + 1 = bs.length ∧ (logGo bs H i n).2.2 = (bs.getLast?.getD []).length)
  | [], H, i, n, h0, h => absurd rfl h0
  | b :: bs, H, i, n, h0, h => by
    have h : i ≤ b.length := h
    rw [logGo]
    by_cases c : i + min (b.length - i) n < b.length ∨ bs = []
    · rw [if_pos c]
      refine ⟨0, rfl, by simp, ?_, ?_, fun hn => ?_⟩
      · show i + min (b.length - i) n ≤ b.length
        omega
      · simp only [List.take_zero, List.flatten_nil, List.length_nil, Nat.zero_add, List.length_take, List.length_drop]
        omega
      · rcases c with c | rfl
        · rw [List.flatten_cons, List.length_append] at hn
          omega
        · refine ⟨rfl, ?_⟩
          rw [List.flatten_cons, List.length_append, List.flatten_nil, List.length_nil] at hn
          show i + min (b.length - i) n = b.length
          omega
    · rw [if_neg c]
      have hne : bs ≠ [] := fun e => c (.inr e)
      have e : min (b.length - i) n = b.length - i := by
        have : ¬ (i + min (b.length - i) n < b.length) := fun h => c (.inl h)
        omega
      rw [e]
      obtain ⟨d, p1, p2, p3, p4, p5⟩ := logGo_place bs (H + 1) 0 (n - (b.length - i)) hne (Nat.zero_le _)
      refine ⟨d + 1, by rw [p1]; omega, by simp only [List.length_cons]; omega, p3, ?_, fun hn => ?_⟩
      · simp only [List.take_succ_cons, List.flatten_cons, List.length_append, List.length_take, List.length_drop]
        omega
      · rw [List.flatten_cons, List.length_append] at hn
        obtain ⟨q1, q2⟩ := p5 (by omega)
        refine ⟨by simp only [List.length_cons]; omega, ?_⟩
        rw [q2]
        cases bs with
        | nil => exact absurd rfl hne
        | cons x xs => rw [List.getLast?_cons_cons]
structure AtPl (s : Ch) (q : Pl) (p : Nat) : Prop where
  here : ∃ d i : Nat, q = ⟨((s.first + d : Nat) : Int), ((i : Nat) : Int)⟩ ∧ d < s.blk.length ∧ i ≤ ((s.blk.drop d).head?.getD []).length ∧ ((s.blk.take d).flatten).length + i = p
theorem flat_split (bs : List (List Nt)) (d : Nat) : bs.flatten = (bs.take d).flatten ++ (bs.drop d).flatten := by
  rw [← List.flatten_append, List.take_append_drop]
theorem AtPl.first {s : Ch} (h : s.blk ≠ []) : AtPl s ⟨(s.first : Int), 0⟩ 0 := ⟨⟨0, 0, rfl, List.length_pos_iff.2 h, Nat.zero_le _, by simp⟩⟩
theorem clampI_nat {i : Nat} {b : List Nt} (h : i ≤ b.length) : clampI (i : Int) b = i := by
  unfold clampI
  rw [if_neg (by omega), if_neg (by omega)]
  omega
def endPl (s : Ch) : Pl := ⟨((s.first + (s.blk.length - 1) : Nat) : Int), (((s.blk.getLast?.getD []).length : Nat) : Int)⟩
theorem AtPl.log {s : Ch} (hf : s.first + (s.blk.length - 1) = s.st.height) {q : Pl} {p : Nat} (A : AtPl s q p) (n : Nat) :
    (logP s q (n : Int)).1 = (s.blk.flatten.drop p).take n ∧ AtPl s (logP s q (n : Int)).2 (p + ((s.blk.flatten.drop p).take n).length) ∧ q.h ≤ (logP s q (n : Int)).2.h ∧ ((logP s q (n : Int)).2.h = q.h → (logP s q (n : Int)).2.i = q.i + (((s.blk.flatten.drop p).take n).length : Int)) ∧
    (s.blk.flatten.length ≤ p + n → (logP s q (n : Int)).2 = endPl s) := by
  obtain ⟨d, i, rfl, hd, hi, hp⟩ := A.here
  have hdr : s.blk.drop d = (s.blk[d]?.getD []) :: s.blk.drop (d + 1) := by
    rw [List.drop_eq_getElem_cons hd, List.getElem?_eq_getElem hd]; rfl
  have hhd : (s.blk.drop d).head?.getD [] = s.blk[d]?.getD [] := by rw [hdr]; rfl
  have hne : s.blk.drop d ≠ [] := by rw [hdr]; simp
  have hl : logP s ⟨((s.first + d : Nat) : Int), ((i : Nat) : Int)⟩ (n : Int) = ((logGo (s.blk.drop d) (s.first + d) i n).1, ⟨((logGo (s.blk.drop d) (s.first + d) i n).2.1 : Nat), ((logGo (s.blk.drop d) (s.first + d) i n).2.2 : Nat)⟩) := by
    unfold logP
    rw [if_neg (by simp only; omega)]
    unfold logR
    simp only [Int.toNat_natCast, Nat.add_sub_cancel_left]
    rw [clampI_nat (by rw [← hhd]; exact hi)]
  rw [hl]
  have e1 := logGo_list (s.blk.drop d) (s.first + d) i n hi
  obtain ⟨x, p1, p2, p3, p4, p5⟩ := logGo_place (s.blk.drop d) (s.first + d) i n hne hi
  have hfl : s.blk.flatten.drop p = (s.blk.drop d).flatten.drop i := by
    rw [flat_split s.blk d, ← hp, List.drop_append]
    rw [List.drop_of_length_le (by omega), List.nil_append]
    congr 1
    omega
  have hlen : s.blk.flatten.length = ((s.blk.take d).flatten).length + ((s.blk.drop d).flatten).length := by rw [flat_split s.blk d, List.length_append]
  rw [hfl]
  refine ⟨e1, ⟨⟨d + x, (logGo (s.blk.drop d) (s.first + d) i n).2.2, by rw [p1, Nat.add_assoc], ?_, ?_, ?_⟩⟩, ?_, fun h => ?_, fun h => ?_⟩
  · rw [List.length_drop] at p2; omega
  · rw [List.drop_drop] at p3; exact p3
  · rw [← e1, List.take_add, List.flatten_append, List.length_append]
    omega
  · simp only [p1]; omega
  · simp only [p1] at h
    have hx : x = 0 := by omega
    subst hx
    simp only [List.take_zero, List.flatten_nil, List.length_nil, Nat.zero_add] at p4
    rw [p4, e1]
    simp
  · obtain ⟨q1, q2⟩ := p5 (by omega)
    rw [List.length_drop] at q1
    unfold endPl
    rw [p1, q2]
    have hlast : (s.blk.drop d).getLast? = s.blk.getLast? := by
      rw [List.getLast?_drop, if_neg (by omega)]
    rw [hlast, show s.first + d + x = s.first + (s.blk.length - 1) by omega]
def Ch.tot (s : Ch) : Nat := s.blk.flatten.length + s.nts.length
theorem tot_add (s : Ch) (n : Nt) : (s.add n).tot = s.tot + 1 := by
  unfold Ch.tot Ch.add
  simp only [List.length_append, List.length_cons, List.length_nil]
  omega
theorem tot_com (s : Ch) : s.committed.tot = s.tot := by
  unfold Ch.tot Ch.committed
  split
  · simp only [List.flatten_append, List.length_append, List.flatten_cons, List.flatten_nil, List.append_nil, List.length_nil]
    omega
  · rfl
theorem setK_bad {l : List Known} {x : Known} (h : (setK l x).1 ≠ 0) : (setK l x).2 = l := by
  unfold setK at h ⊢
  split
  · rfl
  · rename_i h1
    rw [if_neg h1] at h
    split
    · rfl
    · rename_i h2
      rw [if_neg h2] at h
      split
      · rfl
      · rename_i h3
        rw [if_neg h3] at h
        exact absurd rfl h
def counts (x : TAc) : Prop := x.kind = 0 ∨ (2 ≤ x.kind ∧ x.kind ≤ 4)
instance (x : TAc) : Decidable (counts x) := by unfold counts; infer_instance
theorem doP_stays (c o : Ch) (x : TAc) : ((doP c o x).2.2.2 ≠ 0 → (doP c o x).1 = c) ∧ (doP c o x).1.tot = c.tot + (if (doP c o x).2.2.2 = 0 ∧ counts x then 1 else 0) := by
  have t1 : ∀ (s : Ch) (e : Int), s.tot = c.tot → e ≠ 0 → s.tot = c.tot + (if e = 0 ∧ counts x then 1 else 0) := fun s e h he => by rw [if_neg (fun hh => he hh.1), h]; rfl
  have t2 : ∀ (s : Ch) (e : Int), s.tot = c.tot → ¬ counts x → s.tot = c.tot + (if e = 0 ∧ counts x then 1 else 0) := fun s e h he => by rw [if_neg (fun hh => he hh.2), h]; rfl
  have t3 : ∀ (s : Ch) (n : Nt), s.tot = c.tot → counts x → (s.add n).tot = c.tot + (if (0 : Int) = 0 ∧ counts x then 1 else 0) := fun s n h he => by rw [if_pos ⟨rfl, he⟩, tot_add, h]
  unfold doP
  by_cases k0 : x.kind = 0
  · rw [if_pos k0]
    by_cases e : sendE c x.d x.h = 0
    · rw [if_pos e]
      exact ⟨fun h => absurd rfl h, t3 ((c.put _ _).next) _ rfl (.inl k0)⟩
    · rw [if_neg e]
      exact ⟨fun _ => rfl, t1 c _ rfl e⟩
  rw [if_neg k0]
  by_cases k1 : x.kind = 1
  · rw [if_pos k1]
    have nc : ¬ counts x := by unfold counts; omega
    cases sAt o.st x.h with
    | none => exact ⟨fun _ => rfl, t2 c _ rfl nc⟩
    | some b =>
      refine ⟨fun h => ?_, t2 _ _ rfl nc⟩
      show c.told _ _ = c
      unfold Ch.told
      rw [setK_bad h]
  rw [if_neg k1]
  by_cases k2 : x.kind = 2
  · rw [if_pos k2]
    split
    · exact ⟨fun h => absurd rfl h, t3 ((c.put _ _).put _ _) _ rfl (.inr (by omega))⟩
    · rename_i e
      exact ⟨fun _ => rfl, t1 c _ rfl e⟩
  rw [if_neg k2]
  by_cases k3 : x.kind = 3
  · rw [if_pos k3]
    split
    · exact ⟨fun h => absurd rfl h, t3 (c.del _) _ rfl (.inr (by omega))⟩
    · rename_i e
      exact ⟨fun _ => rfl, t1 c _ rfl e⟩
  rw [if_neg k3]
  by_cases k4 : x.kind = 4
  · rw [if_pos k4]
    split
    · exact ⟨fun h => absurd rfl h, t3 (c.del _) _ rfl (.inr (by omega))⟩
    · rename_i e
      exact ⟨fun _ => rfl, t1 c _ rfl e⟩
  rw [if_neg k4]
  have nc : ¬ counts x := by unfold counts; omega
  by_cases k5 : x.kind = 5
  · rw [if_pos k5]
    refine ⟨fun h => ?_, t2 _ _ (tot_com c) nc⟩
    show c.committed = c
    unfold Ch.committed
    rw [if_neg h]
  · rw [if_neg k5]
    exact ⟨fun _ => rfl, t2 c _ rfl nc⟩
end Go.Proofs.YtcoajnpchhmgjaaGreatDoor
namespace Go.Proofs.YtcoajnpchhmgjaaGreatDoor
open Go
set_option maxRecDepth 20000
theorem ext_cell {h h' : PH} (u : Ext h h') {a : Addr} {v : Value} (hc : cellH h a = some v) : cellH h' a = some v := by
  unfold cellH at hc ⊢
  cases e : h a.block with
  | none => rw [e] at hc; cases hc
  | some o => rw [u.get e]; rw [e] at hc; exact hc
def wc (a b : Ch) : List Value := [.int .i64 ((a.tot : Nat) : Int), .int .i64 ((b.tot : Nat) : Int)]
theorem two_foc (t c0 c1 m : Nat) (a b : Ch) (x : TAc) : ∃ (c : Nat) (s so : Ch) (W : Asrt → Asrt), (twCells c0 c1 m)[sideP x.id]? = some (.pointer (some ⟨c, 0, none⟩)) ∧ (s = a ∨ s = b) ∧ (doP s so x).2 = (twStep a b x).2 ∧
    (∀ {h F}, Two3 t c0 c1 m a b h F → Focus h F (ChA c s) W ∧ Bx h t (twCells c0 c1 m)) ∧ (∀ {h F}, Two3 t c0 c1 m (twStep a b x).1.1 (twStep a b x).1.2 h F → Focus h F (ChA c (doP s so x).1) W ∧ Bx h t (twCells c0 c1 m)) ∧
    (wc a b)[sideP x.id]? = some (.int .i64 ((s.tot : Nat) : Int)) ∧ (wc a b).set (sideP x.id) (.int .i64 ((s.tot : Nat) : Int)) = wc a b ∧ wc (twStep a b x).1.1 (twStep a b x).1.2 = (wc a b).set (sideP x.id) (.int .i64 (((doP s so x).1.tot : Nat) : Int)) ∧ (∀ {h F}, W (ChA c (doP s so x).1) h F → Two3 t c0 c1 m (twStep a b x).1.1 (twStep a b x).1.2 h F) := by
  by_cases e : x.id = 1
  · have f : ∀ (s : Ch) {h F}, Two3 t c0 c1 m a s h F → Focus h F (ChA c1 s) (fun X => star (box t (twCells c0 c1 m)) (star (ChA c0 a) X)) ∧ Bx h t (twCells c0 c1 m) := fun s {h F} H => ⟨(star.right (box.good _ _) H).comp fun _ H => star.right (ChA.good _ _) H, by
      obtain ⟨_, _, _, ⟨_, B⟩, _, _⟩ := H
      exact B⟩
    have es : sideP x.id = 1 := by unfold sideP; rw [if_pos e]
    have et : twStep a b x = ((a, (doP b a x).1), (doP b a x).2) := by unfold twStep; rw [if_pos e]
    rw [es, et]
    exact ⟨c1, b, a, _, rfl, .inr rfl, rfl, f b, f _, rfl, rfl, rfl, fun H => H⟩
  · have f : ∀ (s : Ch) {h F}, Two3 t c0 c1 m s b h F → Focus h F (ChA c0 s) (fun X => star (box t (twCells c0 c1 m)) (star X (ChA c1 b))) ∧ Bx h t (twCells c0 c1 m) := fun s {h F} H => ⟨(star.right (box.good _ _) H).comp fun _ H => star.left (ChA.good _ _) H, by
      obtain ⟨_, _, _, ⟨_, B⟩, _, _⟩ := H
      exact B⟩
    have es : sideP x.id = 0 := by unfold sideP; rw [if_neg e]
    have et : twStep a b x = (((doP a b x).1, b), (doP a b x).2) := by unfold twStep; rw [if_neg e]
    rw [es, et]
    exact ⟨c0, a, b, _, rfl, .inl rfl, rfl, f a, f _, rfl, rfl, rfl, fun H => H⟩
end Go.Proofs.YtcoajnpchhmgjaaGreatDoor
namespace Go.Proofs.YtcoajnpchhmgjaaGreatDoor
open Go
set_option maxRecDepth 20000
structure NtsOk (s : Ch) : Prop where
  blk : ∀ b ∈ s.blk, ∀ n ∈ b, n.right = true
  nts : ∀ n ∈ s.nts, n.right = true
theorem firstE_true : ∀ {l : List (Int × Bool)}, (∀ x ∈ l, x.1 ≠ 0) → firstE l = 0 → ∀ x ∈ l, x.2 = true
  | [], _, _, x, hx => by cases hx
  | y :: l, hz, h, x, hx => by
    rw [firstE] at h
    cases hy : y.2 with
    | true =>
      rw [hy, if_pos rfl] at h
      rcases List.mem_cons.1 hx with rfl | hx
      · exact hy
      · exact firstE_true (fun z hz' => hz z (by simp [hz'])) h x hx
    | false =>
      rw [hy, if_neg (by decide)] at h
      exact absurd h (hz y (by simp))
theorem allE_true {s : Ch} {l : List (Int × Bool)} (hz : ∀ x ∈ l, x.1 ≠ 0) (h : allE s l = 0) : (∀ x ∈ l, x.2 = true) ∧ s.st.height ≠ 18446744073709551615 := by
  unfold allE at h
  by_cases c : s.st.height = 18446744073709551615
  · rw [if_pos c] at h; cases h
  · rw [if_neg c] at h
    exact ⟨firstE_true hz h, c⟩
theorem send_true {s : Ch} {d : Tx} {t : Nat} (h : sendE s d t = 0) : s.seq < 18446744073709551615 ∧ (sendPk s d t).right = true ∧ latK s.cl < (t : Int) ∧ s.st.now.length + 1 ≤ 4096 ∧ s.st.height ≠ 18446744073709551615 := by
  obtain ⟨h1, h2⟩ := allE_true (by simp) h
  simp only [List.mem_cons, List.not_mem_nil, or_false, forall_eq_or_imp, forall_eq, decide_eq_true_eq] at h1
  exact ⟨h1.1, h1.2.1, h1.2.2.1, h1.2.2.2, h2⟩
theorem recv_true {s : Ch} {p : Pk} {pf : Tx} {x : Int} (h : allE s (recvL s p pf x) = 0) : p.right = true ∧ p.f = 1 - s.id ∧ IntKind.u64.wrap ((s.st.height : Int) + 1) < p.t ∧ (sgetL s.st.now (keyP 114 p.s.toNat)).isSome = false ∧ (rootL s.cl x).isSome = true ∧ hasP (rootB s.cl x) pf (keyP 99 p.s.toNat) (commP p) = true ∧ s.st.height ≠ 18446744073709551615 := by
  obtain ⟨h1, h2⟩ := allE_true (by unfold recvL; simp) h
  unfold recvL at h1
  simp only [List.mem_cons, List.not_mem_nil, or_false, forall_eq_or_imp, forall_eq, Bool.and_eq_true, beq_iff_eq, decide_eq_true_eq, Bool.not_eq_true'] at h1
  obtain ⟨⟨a, b⟩, c, d, e, f, -⟩ := h1
  exact ⟨a, b, c, d, e, f, h2⟩
theorem settle_true {s : Ch} {p : Pk} {l : List (Int × Bool)} (hz : ∀ x ∈ l, x.1 ≠ 0) (h : settleE s p l = 0) : p.right = true ∧ p.f = s.id ∧ sentP s p = true ∧ (∀ x ∈ l, x.2 = true) ∧ s.st.height ≠ 18446744073709551615 := by
  obtain ⟨h1, h2⟩ := allE_true (by
    intro x hx
    simp only [List.cons_append, List.nil_append, List.mem_cons] at hx
    rcases hx with rfl | rfl | hx
    · show (1 : Int) ≠ 0; decide
    · show (3 : Int) ≠ 0; decide
    · exact hz x hx) h
  have a := h1 (1, p.right && (p.f == s.id)) (by simp)
  have b := h1 (3, sentP s p) (by simp)
  simp only [Bool.and_eq_true, beq_iff_eq] at a
  exact ⟨a.1, a.2, b, fun x hx => h1 x (by simp [hx]), h2⟩
theorem NtsOk.add {s : Ch} (H : NtsOk s) {n : Nt} (h : n.right = true) : NtsOk (s.add n) := ⟨H.blk, fun m hm => by
  rcases List.mem_append.1 hm with hm | hm
  · exact H.nts m hm
  · simp only [List.mem_singleton] at hm
    subst hm; exact h⟩
theorem NtsOk.com {s : Ch} (H : NtsOk s) : NtsOk s.committed := by
  unfold Ch.committed
  split
  · refine ⟨fun b hb => ?_, fun n hn => by cases hn⟩
    rcases List.mem_append.1 hb with hb | hb
    · exact H.blk b hb
    · simp only [List.mem_singleton] at hb
      subst hb; exact H.nts
  · exact H
theorem NtsOk.new {id : Int} {n seq : Nat} : NtsOk (Ch.new id n seq) := by
  refine ⟨fun b hb n hn => ?_, fun n hn => by cases hn⟩
  simp only [Ch.new, List.mem_singleton] at hb
  subst hb
  cases hn
theorem nt_right {k : Int} {p : Pk} (h1 : 1 ≤ k) (h2 : k ≤ 4) (h : p.right = true) : Nt.right ⟨k, p⟩ = true := by
  unfold Nt.right
  simp [h1, h2, h]
theorem NtsOk.doP {c : Ch} (H : NtsOk c) (o : Ch) (x : TAc) : NtsOk (doP c o x).1 := by
  unfold Go.Proofs.YtcoajnpchhmgjaaGreatDoor.doP
  by_cases k0 : x.kind = 0
  · rw [if_pos k0]
    split
    · rename_i e
      exact NtsOk.add (s := (c.put _ _).next) ⟨H.blk, H.nts⟩ (nt_right (by decide) (by decide) (send_true e).2.1)
    · exact H
  rw [if_neg k0]
  by_cases k1 : x.kind = 1
  · rw [if_pos k1]
    split
    · exact H
    · exact ⟨H.blk, H.nts⟩
  rw [if_neg k1]
  by_cases k2 : x.kind = 2
  · rw [if_pos k2]
    split
    · rename_i e
      exact NtsOk.add (s := (c.put _ _).put _ _) ⟨H.blk, H.nts⟩ (nt_right (by decide) (by decide) (recv_true e).1)
    · exact H
  rw [if_neg k2]
  by_cases k3 : x.kind = 3
  · rw [if_pos k3]
    split
    · rename_i e
      exact NtsOk.add (s := c.del _) ⟨H.blk, H.nts⟩ (nt_right (by decide) (by decide) (settle_true (by unfold ackL; simp) e).1)
    · exact H
  rw [if_neg k3]
  by_cases k4 : x.kind = 4
  · rw [if_pos k4]
    split
    · rename_i e
      exact NtsOk.add (s := c.del _) ⟨H.blk, H.nts⟩ (nt_right (by decide) (by decide) (settle_true (by unfold timeL; simp) e).1)
    · exact H
  rw [if_neg k4]
  by_cases k5 : x.kind = 5
  · rw [if_pos k5]
    exact H.com
  · rw [if_neg k5]
    exact H
theorem NtsOk.step {a b : Ch} (A : NtsOk a) (B : NtsOk b) (x : TAc) : NtsOk (twStep a b x).1.1 ∧ NtsOk (twStep a b x).1.2 := by
  unfold twStep
  split
  · exact ⟨A, B.doP a x⟩
  · exact ⟨A.doP b x, B⟩
theorem tot_step (a b : Ch) (x : TAc) {n : Nat} (ha : a.tot ≤ n) (hb : b.tot ≤ n) : (twStep a b x).1.1.tot ≤ n + 1 ∧ (twStep a b x).1.2.tot ≤ n + 1 := by
  unfold twStep
  split
  · have := (doP_stays b a x).2
    exact ⟨by show a.tot ≤ _; omega, by show (Go.Proofs.YtcoajnpchhmgjaaGreatDoor.doP b a x).1.tot ≤ _; rw [this]; split <;> omega⟩
  · have := (doP_stays a b x).2
    exact ⟨by show (Go.Proofs.YtcoajnpchhmgjaaGreatDoor.doP a b x).1.tot ≤ _; rw [this]; split <;> omega, by show b.tot ≤ _; omega⟩
theorem ntNeqSelf {h : PH} {x y : Operand} (m : Nt) : SemE PG h (binS .neq T_api_Note x y (.agg m.cells.toArray) (.agg m.cells.toArray)) = some (.bool false) := by
  have e : SemE PG h (Op.equalIn (9999 + 1) T_api_Note (.agg m.cells.toArray) (.agg m.cells.toArray)) = some ((m.k == m.k) && (decide (m.p = m.p) && true)) := by
    refine eqIn_struct T_api_Note.und (by kernel_rfl) (fun f => match f.offset with | 0 => m.k == m.k | _ => decide (m.p = m.p)) ?_
    intro f hf
    simp only [List.mem_cons, List.not_mem_nil, or_false] at hf
    rcases hf with rfl | rfl
    · exact ⟨by decide, _, _, part_cell T_int.und rfl rfl, part_cell T_int.und rfl rfl, eqIn_int T_int.und⟩
    · exact ⟨by decide, _, _, part_agg T_api_Packet.und rfl T_api_Packet.info T_api_Packet.size, part_agg T_api_Packet.und rfl T_api_Packet.info T_api_Packet.size, Pk.eqD (d := 9997) m.p m.p⟩
  have := neqStruct (x := x) (y := y) (by kernel_rfl) e
  rw [show (!((m.k == m.k) && (decide (m.p = m.p) && true))) = false by simp] at this
  exact this
theorem Notes_same {h : PH} {v w : Value} {l : List Nt} (S : SlR h 5 v (l.map Nt.cells)) (S' : SlR h 5 w (l.map Nt.cells)) (hl : l.length ≤ 1000000) {k : Value → PH → Prop} (hk : k (.bool true) h) : CallsH PG id_carrackref13_Notes #[v, w] h k := by
  apply carrackref13_Notes.call
  unfold carrackref13_Notes
  have l1 := S.len (t' := T_int) T_sl_api_Note.und
  have l2 := S'.len (t' := T_int) T_sl_api_Note.und
  rw [List.length_map] at l1 l2
  simp only [l1, l2, neqI, zSS, reduceIte, zZZ, Nat.reduceAdd]
  refine ⟨fun vs h' => ∃ i : Nat, i ≤ l.length ∧ vs = [v, w, .int .i64 (i : Int)] ∧ h' = h, upTo l.length 2, ⟨0, by omega, rfl, rfl⟩, ?_⟩
  rintro ρ h' ⟨i, hi, hvs, rfl⟩
  simp only [List.map_cons, List.map_nil, List.cons.injEq, and_true] at hvs
  obtain ⟨v0, v1, v2⟩ := hvs
  unfold carrackref13_Notes_b5
  rw [v0, v1, v2]
  by_cases hlt : i < l.length
  · have g : ((i : Int) < (l.length : Int)) = True := eq_true (by omega)
    have gi : IntKind.i64.wrap ((i : Int) + 1) = ((i + 1 : Nat) : Int) := by rw [i64_wrap (by omega) (by omega)]; omega
    have hr : (l.map Nt.cells)[((i : Nat) : Int).toNat]? = some l[i].cells := by rw [Int.toNat_natCast, List.getElem?_map, List.getElem?_eq_getElem hlt]; rfl
    obtain ⟨p, hp1, hp2⟩ := S.loadAgg (t := T_sl_api_Note) (k := .i64) (j := ((i : Nat) : Int)) T_sl_api_Note.und T_api_Note.info T_api_Note.size T_api_Note.und rfl (by omega) hr
    obtain ⟨q, hq1, hq2⟩ := S'.loadAgg (t := T_sl_api_Note) (k := .i64) (j := ((i : Nat) : Int)) T_sl_api_Note.und T_api_Note.info T_api_Note.size T_api_Note.und rfl (by omega) hr
    simp only [l1, g, hp1, hp2, hq1, hq2, ntNeqSelf, gi, zSS, reduceIte, zZZ, Nat.reduceAdd]
    exact ⟨⟨i + 1, by omega, rfl, by trivial⟩, by simp [upTo, v2]; omega⟩
  · have g : ((i : Int) < (l.length : Int)) = False := eq_false (by omega)
    simp only [l1, g, zSS, reduceIte, zZZ, Nat.reduceAdd]
    exact hk
end Go.Proofs.YtcoajnpchhmgjaaGreatDoor
namespace Go.Proofs.YtcoajnpchhmgjaaGreatDoor
open Go
set_option maxRecDepth 20000
theorem plIn {h : PH} {d : Nat} (q q' : Pl) : SemE PG h (Op.equalIn (d + 1 + 1) T_api_Place q.v q'.v) = some (decide (q = q')) := by
  unfold Pl.v
  rw [eqIn_struct T_api_Place.und (by kernel_rfl) (fun f => match f.offset with | 0 => q.h == q'.h | _ => q.i == q'.i)]
  · congr 1
    rw [Bool.eq_iff_iff]
    obtain ⟨a, b⟩ := q
    obtain ⟨a', b'⟩ := q'
    simp
  · intro f hf
    simp only [List.mem_cons, List.not_mem_nil, or_false] at hf
    rcases hf with rfl | rfl
    · exact ⟨by decide, _, _, part_cell T_uint64.und rfl rfl, part_cell T_uint64.und rfl rfl, eqIn_int T_uint64.und⟩
    · exact ⟨by decide, _, _, part_cell T_int.und rfl rfl, part_cell T_int.und rfl rfl, eqIn_int T_int.und⟩
theorem plNeq {h : PH} {x y : Operand} (q q' : Pl) : SemE PG h (binS .neq T_api_Place x y q.v q'.v) = some (.bool (!decide (q = q'))) := neqStruct (by kernel_rfl) (plIn (d := 9998) q q')
end Go.Proofs.YtcoajnpchhmgjaaGreatDoor
namespace Go.Proofs.YtcoajnpchhmgjaaGreatDoor
open Go
set_option maxRecDepth 20000
theorem SlR.ntc {h : PH} {v : Value} {l : List Nt} (S : SlR h 5 v (l.map Nt.cells)) {j : Nat} {x : Nt} (hx : l[j]? = some x) :
    ∃ b o, SemP PG (Instr.indexAt T_sl_api_Note v (.int .i64 (j : Int))) = some (.pointer (some ⟨b, o, none⟩)) ∧ cellH h ⟨b, o, none⟩ = some (.int .i64 x.k) ∧ SemE PG h (Instr.loadAt T_api_Packet (.pointer (some ⟨b, o + 1, none⟩))) = some (.agg x.p.cells.toArray) := by
  obtain ⟨b, o, cs, e', fr, h1, hb, hle, hex⟩ := S.at T_sl_api_Note.und T_api_Note.info T_api_Note.size (k := .i64) (j := (j : Int)) (r := x.cells) (by omega) (by rw [List.getElem?_map, Int.toNat_natCast, hx]; rfl)
  refine ⟨b, o, h1, ?_, ?_⟩
  · obtain ⟨b', o', g1, g2, -⟩ := S.fields T_sl_api_Note.und T_api_Note.info T_api_Note.size (k := .i64) (j := j) (r := x.cells) (by rw [List.getElem?_map, hx]; rfl)
    have e : (some (Value.pointer (some ⟨b, o, none⟩))) = some (.pointer (some ⟨b', o', none⟩)) := h1.symm.trans g1
    simp only [Option.some.injEq, Value.pointer.injEq, Addr.mk.injEq, and_true] at e
    rw [e.1, e.2]
    exact g2 0 _ rfl
  · rw [loadAt_agg T_api_Packet.und rfl T_api_Packet.info T_api_Packet.size hb (by omega)]
    congr 2
    apply Array.ext'
    have hq : ((cs.extract o (o + 5)).toList.drop 1) = x.p.cells := by rw [hex]; rfl
    rw [← hq]
    simp only [Array.toList_extract, List.extract_eq_take_drop, List.drop_take, List.drop_drop]
    congr 1
theorem follows3_ok {h0 h : PH} (u : Ext h0 h) {v : Value} {l : List Nt} (S : SlR h 5 v (l.map Nt.cells)) (hl : l.length ≤ 1000) (hr : ∀ n ∈ l, n.right = true) {t i : Nat} {st : Int} (hi : i < 2) {R : Value → PH → Prop} {n26 : List Value → PH → Prop} (hn : ∀ h', Ext h0 h' → n26 [.int .u8 st, .pointer (some ⟨t, 0, none⟩), .int .i64 ((i + 1 : Nat) : Int)] h') :
    LoopL [3, 9, 11, 13, 20] (fun n185 ρ h => carracklaw13_ChainFollows_b186 R n26 n185 (ρ 3) (ρ 9) (ρ 11) (ρ 13) (ρ 20) h) [.int .u8 st, .pointer (some ⟨t, 0, none⟩), .int .i64 (i : Int), v, .int .i64 0] h := by
  refine ⟨fun vs h' => ∃ j : Nat, j ≤ l.length ∧ vs = [.int .u8 st, .pointer (some ⟨t, 0, none⟩), .int .i64 (i : Int), v, .int .i64 (j : Int)] ∧ Ext h h', upTo l.length 4, ⟨0, by omega, rfl, Upd.refl⟩, ?_⟩
  rintro ρ h' ⟨j, hj, hvs, w⟩
  simp only [List.map_cons, List.map_nil, List.cons.injEq, and_true] at hvs
  obtain ⟨v0, v1, v2, v3, v4⟩ := hvs
  unfold carracklaw13_ChainFollows_b186
  rw [v0, v1, v2, v3, v4]
  have ll := S.len (t' := T_int) T_sl_api_Note.und
  rw [List.length_map] at ll
  by_cases hlt : j < l.length
  · have g : ((j : Int) < (l.length : Int)) = True := eq_true (by omega)
    have gi : IntKind.i64.wrap ((j : Int) + 1) = ((j + 1 : Nat) : Int) := by rw [i64_wrap (by omega) (by omega)]; omega
    obtain ⟨x, hx⟩ : ∃ x, l[j]? = some x := ⟨_, List.getElem?_eq_getElem hlt⟩
    obtain ⟨b, o, a1, a2, a3⟩ := (S.ext w).ntc hx
    have hxr := hr x (List.mem_of_getElem? hx)
    unfold Nt.right at hxr
    simp only [Bool.and_eq_true, decide_eq_true_eq] at hxr
    simp only [ll, g, a1, T_api_Note.f1, a3, zSS, reduceIte, zZZ, Nat.reduceAdd]
    refine Check_ok x.p fun h2 u2 => ?_
    have c2 := ext_cell u2 a2
    have g1 : (x.k < 1) = False := eq_false (by omega)
    have g2 : (4 < x.k) = False := eq_false (by omega)
    simp only [hxr.2, if_true, neqI, T_api_Note.f0, T_int.load, a1, c2, g1, g2, gi, zSS, reduceIte, zZZ, Nat.reduceAdd]
    exact ⟨⟨j + 1, by omega, rfl, w.trans u2⟩, by simp [upTo, v4]; omega⟩
  · have g : ((j : Int) < (l.length : Int)) = False := eq_false (by omega)
    have gi : IntKind.i64.wrap ((i : Int) + 1) = ((i + 1 : Nat) : Int) := by rw [i64_wrap (by omega) (by omega)]; omega
    simp only [ll, g, gi, zSS, reduceIte, zZZ, Nat.reduceAdd]
    exact hn h' (u.trans w)
theorem follows2_ok {h0 h : PH} (u : Ext h0 h) {c : Nat} {s : Ch} {F : List Nat} (H : ChA c s h F) (hok : NtsOk s) (ht : s.tot ≤ 50) {v : Value} (S : SlR h 5 v (s.blk.flatten.map Nt.cells)) {r43 r51 : Nat} (B43 : Bx h r43 (endPl s).cells) (B51 : Bx h r51 (Pl.cells ⟨(s.first : Int), 0⟩)) (n51 : r51 ∉ F) (hr51 : h0 r51 = none) {t i : Nat} {st : Int} (s1 : 0 ≤ st) (s2 : st < 256) (hi : i < 2) {R : Value → PH → Prop} {n26 : List Value → PH → Prop} (hn : ∀ h', Ext h0 h' → n26 [.int .u8 st, .pointer (some ⟨t, 0, none⟩), .int .i64 ((i + 1 : Nat) : Int)] h') (nS : ∀ h', Upd [r51] h h' → SlR h' 5 v (s.blk.flatten.map Nt.cells)) (n4351 : r43 ≠ r51) :
    LoopL [3, 9, 11, 12, 13, 14, 15, 16, 17] (fun n55 ρ h => carracklaw13_ChainFollows_b56 R n26 n55 (ρ 3) (ρ 9) (ρ 11) (ρ 12) (ρ 13) (ρ 14) (ρ 15) (ρ 16) (ρ 17) h) [.int .u8 st, .pointer (some ⟨t, 0, none⟩), .int .i64 (i : Int), .pointer (some ⟨c, 0, none⟩), v, .pointer (some ⟨r43, 0, none⟩), .slice none 0 0, .pointer (some ⟨r51, 0, none⟩), .int .i64 0] h := by
  obtain ⟨m, hm⟩ : ∃ m : Nat, st.tmod 4 + 1 = (m : Int) := ⟨(st.tmod 4 + 1).toNat, by have := Int.tmod_nonneg 4 s1; omega⟩
  have hm4 : 1 ≤ m ∧ m ≤ 4 := by
    have h1 := Int.tmod_nonneg 4 s1
    have h2 := Int.tmod_lt_of_pos st (show (0 : Int) < 4 by decide)
    omega
  obtain ⟨_, _, _, _, _, _, P, _, ok⟩ := id H
  have hst := P.okst
  have hpos := ok.pos hst.h1
  have hb1 := hst.h1
  have hb4 := hst.h4
  have hlen := ok.len
  have hne : s.blk ≠ [] := by
    intro e
    rw [e, List.length_nil] at hlen
    omega
  have htot : s.blk.flatten.length ≤ 50 := by
    have : s.tot = s.blk.flatten.length + s.nts.length := rfl
    omega
  refine ⟨fun vs h' => ∃ (n p : Nat) (q : Pl) (v15 : Value) (Fg : List Nat), n ≤ 200 ∧ vs = [.int .u8 st, .pointer (some ⟨t, 0, none⟩), .int .i64 (i : Int), .pointer (some ⟨c, 0, none⟩), v, .pointer (some ⟨r43, 0, none⟩), v15, .pointer (some ⟨r51, 0, none⟩), .int .i64 (n : Int)] ∧ Upd [r51] h h' ∧ Bx h' r51 q.cells ∧ OwnR h' T_api_Note 5 v15 ((s.blk.flatten.take p).map Nt.cells) Fg ∧ Fresh h Fg ∧ AtPl s q p ∧ p ≤ s.blk.flatten.length ∧ (n ≤ p ∨ p = s.blk.flatten.length) ∧ (0 < n → p = s.blk.flatten.length → q = endPl s), upTo 200 8, ⟨0, 0, _, _, [], by omega, rfl, Upd.refl, B51, OwnR.nil, (fun b hb => by cases hb), AtPl.first hne, by omega, by omega, fun h => absurd h (by omega)⟩, ?_⟩
  rintro ρ h' ⟨n, p, q, v15, Fg, hn2, hvs, w, B, O, fg, A, hp, hnp, hend⟩
  simp only [List.map_cons, List.map_nil, List.cons.injEq, and_true] at hvs
  obtain ⟨v0, v1, v2, v3, v4, v5, v6, v7, v8⟩ := hvs
  unfold carracklaw13_ChainFollows_b56
  rw [v0, v1, v2, v3, v4, v5, v6, v7, v8]
  have H' := (ChA.good _ _).upd H w (fun b hb => by simp only [List.mem_singleton]; rintro rfl; exact n51 hb)
  have B43' := B43.upd w (by simp only [List.mem_singleton]; exact n4351)
  have Sv := nS h' w
  have nFg : r51 ∉ Fg := fun hm => B51.known (fg _ hm)
  by_cases hlt : n < 200
  · have g : ((n : Int) < 200) = True := eq_true (by omega)
    have gi : IntKind.i64.wrap ((n : Int) + 1) = ((n + 1 : Nat) : Int) := by rw [i64_wrap (by omega) (by omega)]; omega
    have w4 : IntKind.i64.wrap (st.tmod 4) = st.tmod 4 := i64_wrap (by omega) (by omega)
    have w5 : IntKind.i64.wrap (st.tmod 4 + 1) = (m : Int) := by rw [i64_wrap (by omega) (by omega)]; exact hm
    have rm : ∀ {t : TypeId}, SemP PG (binOp .rem t (.int .u8 st) (.int .u8 4)) = some (.int .u8 (st.tmod 4)) := rem_eq (by decide)
    obtain ⟨d, ii, eq, hd1, hd2, hd3⟩ := id A.here
    have hbi : ii ≤ s.blk.flatten.length := by omega
    have q1 : 0 ≤ q.h ∧ q.h < 18446744073709551616 := by rw [eq]; simp only; omega
    have q2 : -9223372036854775808 ≤ q.i ∧ q.i < 9223372036854775808 := by rw [eq]; simp only; omega
    obtain ⟨L1, L2, L3, L4, L5⟩ := A.log ok.first m
    simp only [g, T_chain_Chain.f0, B.place, rm, cv_8_int, w4, w5, zSS, reduceIte, zZZ, Nat.reduceAdd]
    refine CLog_ok H' (q := q) (most := (m : Int)) q1.1 q1.2 q2.1 q2.2 (by omega) (by omega) fun h2 v2' F2 O2 f2 u2 => ?_
    generalize hlg : logP s q (m : Int) = lg at *
    obtain ⟨more, nx⟩ := lg
    simp only at L1 L2 L3 L4 L5 O2 ⊢
    subst L1
    obtain ⟨ml, hml⟩ : ∃ ml, ((s.blk.flatten.drop p).take m).length = ml := ⟨_, rfl⟩
    have hml2 : ml = min m (s.blk.flatten.length - p) := by rw [← hml, List.length_take, List.length_drop]
    rw [hml] at L2 L4
    obtain ⟨d', ii', eq', hd1', hd2', hd3'⟩ := id L2.here
    have l2 : ∀ {t' : TypeId}, SemP PG (Builtin.len_ #[T_sl_api_Note] t' #[v2']) = some (.int .i64 ((ml : Nat) : Int)) := fun {t'} => by
      have := O2.slR.len (t' := t') T_sl_api_Note.und
      rw [List.length_map, hml] at this
      exact this
    simp only [zSS, reduceIte, zZZ, Nat.reduceAdd]
    intro r68 hr68
    try rw [bindH_eq]
    refine T_api_Place.fill (vs := nx.cells) hr68 rfl (Pl.isC _) fun h3 B3 u3 => ?_
    have u23 := u2.trans u3
    have B' := B.ext u23
    have c0 : cellH h3 ⟨r68, 0, none⟩ = some (.int .u64 nx.h) := B3.cell 0
    have c1 : cellH h3 ⟨r68, 1, none⟩ = some (.int .i64 nx.i) := B3.cell 1
    have d0 : cellH h3 ⟨r51, 0, none⟩ = some (.int .u64 q.h) := B'.cell 0
    have d1 : cellH h3 ⟨r51, 1, none⟩ = some (.int .i64 q.i) := B'.cell 1
    have g1 : (nx.h < q.h) = False := eq_false (by omega)
    have g3 : ((m : Int) < (ml : Int)) = False := eq_false (by omega)
    have last : ∀ K : Value → PH → Prop, (∀ v163 h167, (∃ (n' p : Nat) (q : Pl) (v15 : Value) (Fg : List Nat), n' ≤ 200 ∧ ([.int .u8 st, .pointer (some ⟨t, 0, none⟩), .int .i64 (i : Int), .pointer (some ⟨c, 0, none⟩), v, .pointer (some ⟨r43, 0, none⟩), v163, .pointer (some ⟨r51, 0, none⟩), .int .i64 ((n + 1 : Nat) : Int)] : List Value) = [.int .u8 st, .pointer (some ⟨t, 0, none⟩), .int .i64 (i : Int), .pointer (some ⟨c, 0, none⟩), v, .pointer (some ⟨r43, 0, none⟩), v15, .pointer (some ⟨r51, 0, none⟩), .int .i64 (n' : Int)] ∧ Upd [r51] h h167 ∧ Bx h167 r51 q.cells ∧ OwnR h167 T_api_Note 5 v15 ((s.blk.flatten.take p).map Nt.cells) Fg ∧ Fresh h Fg ∧ AtPl s q p ∧ p ≤ s.blk.flatten.length ∧ (n' ≤ p ∨ p = s.blk.flatten.length) ∧ (0 < n' → p = s.blk.flatten.length → q = endPl s)) → K v163 h167) → SemH PG (Builtin.append_ #[T_sl_api_Note, T_sl_api_Note] T_sl_api_Note #[v15, v2']) h3 fun v163 h164 =>
      popO (SemE PG h164 (Instr.loadAt T_api_Place (Value.pointer (some ⟨r68, 0, none⟩)))) fun v165 =>
      SemH PG (storeS T_api_Place (Value.pointer (some ⟨r51, 0, none⟩)) v165) h164 fun v166 h167 => K v163 h167 := by
      intro K hK
      refine append_own T_sl_api_Note.und T_sl_api_Note.und T_api_Note.info T_api_Note.size T_api_Note.bytes T_api_Note.zero rfl (by decide) (O.ext u23) (O2.ext u3).slR (Nt.isC _) (by simp only [List.length_map, List.length_take, List.length_drop]; omega) ?_
      intro v4' h4 F4 O4 u4 k4 _
      have n68 : r68 ∉ Fg := fun hm => (O.ext u2).known _ hm hr68
      have B4 := B3.upd u4 n68
      simp only [B4.place, zSS, reduceIte, zZZ, Nat.reduceAdd]
      refine T_api_Place.put (B'.upd u4 nFg) (o := 0) (vs := nx.cells) rfl (by show 0 + 2 ≤ 2; decide) (Pl.isC _) fun h5 B5 u5 => ?_
      have B5 : Bx h5 r51 nx.cells := B5
      have n4 : r51 ∉ F4 := fun hm => by
        rcases k4 _ hm with hx | hx
        · exact nFg hx
        · exact B'.known hx
      have uw : Upd [r51] h h5 := ((w.trans u23.upd).then u4 (fun b hb => .inr (fg b hb))).trans u5
      have f4 : Fresh h F4 := fun b hb => by
        rcases k4 b hb with hx | hx
        · exact fg b hx
        · cases e : h b with
          | none => rfl
          | some o =>
            exfalso
            by_cases hbr : b = r51
            · subst hbr; exact B'.known hx
            · have := (w.trans u23.upd) b o e (by simp [hbr])
              rw [hx] at this; cases this
      refine hK _ _ ⟨n + 1, p + ml, nx, v4', F4, by omega, rfl, uw, B5, ?_, f4, L2, by omega, by omega, fun _ hpe => L5 (by omega)⟩
      have O5 := O4.upd u5 (fun b hb => by simp only [List.mem_singleton]; rintro rfl; exact n4 hb)
      rw [← List.map_append] at O5
      have et : s.blk.flatten.take p ++ (s.blk.flatten.drop p).take m = s.blk.flatten.take (p + ml) := by
        rw [List.take_add]
        congr 1
        rw [hml2]
        by_cases hc : m ≤ s.blk.flatten.length - p
        · rw [Nat.min_eq_left hc]
        · rw [Nat.min_eq_right (by omega), List.take_of_length_le (by rw [List.length_drop]; omega), List.take_of_length_le (by rw [List.length_drop]; omega)]
      rw [et] at O5
      exact O5
    have w6 : IntKind.i64.wrap (q.i + (ml : Int)) = q.i + (ml : Int) := by
      rw [eq]
      exact i64_wrap (by simp only; omega) (by simp only; omega)
    by_cases hq : nx.h = q.h
    · have e1 : (nx.h == q.h) = true := by rw [beq_iff_eq]; exact hq
      have e2 : (nx.i < q.i + (ml : Int)) = False := eq_false (by have := L4 hq; omega)
      simp only [T_api_Place.f0, T_api_Place.f1, T_uint64.load, T_int.load, c0, c1, d0, d1, g1, eqlI, e1, l2, w6, e2, rm, cv_8_int, w4, w5, g3, gi, zSS, reduceIte, zZZ, Nat.reduceAdd]
      exact last _ fun v163 h167 hx => ⟨hx, by simp [upTo, v8]; omega⟩
    · have e1 : (nx.h == q.h) = false := by rw [beq_eq_false_iff_ne]; exact hq
      simp only [T_api_Place.f0, T_api_Place.f1, T_uint64.load, T_int.load, c0, d0, g1, eqlI, e1, l2, rm, cv_8_int, w4, w5, g3, gi, zSS, reduceIte, zZZ, Nat.reduceAdd]
      exact last _ fun v163 h167 hx => ⟨hx, by simp [upTo, v8]; omega⟩
  · have g : ((n : Int) < 200) = False := eq_false (by omega)
    have hpt : p = s.blk.flatten.length := by omega
    have hqe : q = endPl s := hend (by omega) hpt
    rw [hpt, List.take_length] at O
    simp only [g, zSS, reduceIte, zZZ, Nat.reduceAdd]
    refine Notes_same O.slR Sv (by omega) ?_
    have dq : decide (q = endPl s) = true := by rw [decide_eq_true_eq]; exact hqe
    simp only [B.place, B43'.place, plNeq, dq, zSS, reduceIte, zZZ, Nat.reduceAdd]
    refine follows3_ok (u.fresh w (Fresh.one hr51)) Sv (by omega) (fun x hx => ?_) hi hn
    obtain ⟨bb, hb, hx⟩ := List.mem_flatten.1 hx
    exact hok.blk bb hb x hx
end Go.Proofs.YtcoajnpchhmgjaaGreatDoor
namespace Go.Proofs.YtcoajnpchhmgjaaGreatDoor
open Go
set_option maxRecDepth 20000
theorem follows1_ok {h0 h : PH} (u0 : Ext h0 h) {t c0 c1 m : Nat} {a b : Ch} {F : List Nat} (T : Two3 t c0 c1 m a b h F) (oa : NtsOk a) (ob : NtsOk b) (ta : a.tot ≤ 50) (tb : b.tot ≤ 50) {st : Int} (s1 : 0 ≤ st) (s2 : st < 256) {R : Value → PH → Prop} (hR : ∀ h', Ext h0 h' → R (.bool true) h') :
    LoopL [3, 9, 11] (fun n26 ρ h => carracklaw13_ChainFollows_b27 R n26 (ρ 3) (ρ 9) (ρ 11) h) [.int .u8 st, .pointer (some ⟨t, 0, none⟩), .int .i64 0] h := by
  refine ⟨fun vs h' => ∃ i : Nat, i ≤ 2 ∧ vs = [.int .u8 st, .pointer (some ⟨t, 0, none⟩), .int .i64 (i : Int)] ∧ Ext h h', upTo 2 2, ⟨0, by omega, rfl, Upd.refl⟩, ?_⟩
  rintro ρ h' ⟨i, hi, hvs, w⟩
  simp only [List.map_cons, List.map_nil, List.cons.injEq, and_true] at hvs
  obtain ⟨v0, v1, v2⟩ := hvs
  unfold carracklaw13_ChainFollows_b27
  rw [v0, v1, v2]
  by_cases hlt : i < 2
  · have g : ((i : Int) < 2) = True := eq_true (by omega)
    obtain ⟨c, s, so, W, hc, hs, -, foc, -⟩ := two_foc t c0 c1 m a b ⟨5, (i : Int), 0, [], default, false⟩
    have es : sideP (i : Int) = i := by
      have : i = 0 ∨ i = 1 := by omega
      rcases this with rfl | rfl <;> rfl
    have hc : (twCells c0 c1 m)[i]? = some (.pointer (some ⟨c, 0, none⟩)) := by rw [← es]; exact hc
    have oks : NtsOk s := by rcases hs with rfl | rfl <;> assumption
    have ts : s.tot ≤ 50 := by rcases hs with rfl | rfl <;> assumption
    obtain ⟨⟨Fa, HA, hFa, -⟩, Bt⟩ := foc ((Two3.good _ _ _ _ _ _).ext T w)
    have ix := ix2c (r := t) (o := 0) hlt
    rw [Nat.zero_add] at ix
    have lc : SemE PG h' (Instr.loadAt T_p_chain_Chain (.pointer (some ⟨t, i, none⟩))) = some (.pointer (some ⟨c, 0, none⟩)) := by rw [T_p_chain_Chain.load, Bt.cell]; exact hc
    simp only [g, T_carracklaw13_two.f0, ix, lc, T_chain_Chain.f0, zSS, reduceIte, zZZ, Nat.reduceAdd]
    refine CFirst_ok HA fun h3 u3 => ?_
    have H3 := (ChA.good _ _).ext HA u3
    obtain ⟨_, _, _, _, _, _, P3, _, ok3⟩ := id H3
    have hb3 := P3.okst.h4
    have hfst := ok3.first
    have hne : s.blk ≠ [] := by
      intro e
      have h1 := P3.okst.h1
      have h2 := ok3.len
      rw [e, List.length_nil] at h2
      omega
    have htot : s.blk.flatten.length ≤ 50 := by
      have : s.tot = s.blk.flatten.length + s.nts.length := rfl
      omega
    refine CLog_ok H3 (q := ⟨(s.first : Int), 0⟩) (most := 1000) (by show (0 : Int) ≤ (s.first : Int); omega) (by show (s.first : Int) < _; omega) (by show _ ≤ (0 : Int); decide) (by show (0 : Int) < _; decide) (by decide) (by decide) fun h4 v4 F4 O4 f4 u4 => ?_
    obtain ⟨L1, -, -, -, L5⟩ := (AtPl.first hne).log hfst 1000
    have e1 : (logP s ⟨(s.first : Int), 0⟩ 1000).1 = s.blk.flatten := by
      have : (logP s ⟨(s.first : Int), 0⟩ 1000).1 = (s.blk.flatten.drop 0).take 1000 := L1
      rw [this, List.drop_zero, List.take_of_length_le (by omega)]
    have e2 : (logP s ⟨(s.first : Int), 0⟩ 1000).2 = endPl s := L5 (by omega)
    rw [e1] at O4
    rw [e2]
    simp only [zSS, reduceIte, zZZ, Nat.reduceAdd]
    intro r43 hr43
    try rw [bindH_eq]
    refine T_api_Place.fill (vs := (endPl s).cells) hr43 rfl (Pl.isC _) fun h5 B5 u5 => ?_
    have e35 := (u3.trans u4).trans u5
    have H5 := (ChA.good _ _).ext HA e35
    refine CFirst_ok H5 fun h6 u6 => ?_
    intro r51 hr51
    try rw [bindH_eq]
    refine T_api_Place.fill (vs := Pl.cells ⟨(s.first : Int), 0⟩) hr51 rfl (Pl.isC _) fun h7 B7 u7 => ?_
    have e7 := (e35.trans u6).trans u7
    have H7 := (ChA.good _ _).ext HA e7
    have O7 := ((O4.ext u5).ext u6).ext u7
    have n51 : r51 ∉ Fa := fun hm => (ChA.good _ _).known (((ChA.good _ _).ext H5 u6)) _ hm hr51
    have n4 : r51 ∉ F4 := fun hm => ((O4.ext u5).ext u6).known _ hm hr51
    have hk0 : h r51 = none := (w.trans (e35.trans u6)).none hr51
    refine follows2_ok (w.trans e7) H7 oks ts O7.slR ((B5.ext u6).ext u7) B7 n51 hk0 s1 s2 hlt (fun h8 u8 => ?_) (fun h8 u8 => (O7.upd u8 (fun b hb => by simp only [List.mem_singleton]; rintro rfl; exact n4 hb)).slR) ((B5.ext u6).apart hr51)
    exact ⟨⟨i + 1, by omega, rfl, u8⟩, by simp [upTo, v2]; omega⟩
  · have g : ((i : Int) < 2) = False := eq_false (by omega)
    simp only [g, zSS, reduceIte, zZZ, Nat.reduceAdd]
    exact hR h' (u0.trans w)
theorem ChainFollows_ok {h : PH} (hK : KAt h) {a b s0 s1 : Nat} (ha : a < 18446744073709551616) (hb : b < 18446744073709551616) (hs0 : s0 < 18446744073709551616) (hs1 : s1 < 18446744073709551616) {v : Value} {l : List TAc} (S : SlR h 9 v (l.map TAc.cells)) (w : ∀ x ∈ l, x.wf) {st : Int} (t1 : 0 ≤ st) (t2 : st < 256) {k : Value → PH → Prop} (hk : ∀ h', Ext h h' → k (.bool true) h') :
    CallsH PG id_carracklaw13_ChainFollows #[u2v a b, u2v s0 s1, v, .int .u8 st] h k := by
  apply carracklaw13_ChainFollows.call
  unfold carracklaw13_ChainFollows
  intro r1 hr1
  try rw [bindH_eq]
  have u1 : Ext h (h.set r1 (.cells (Value.cells (u2v a b)) T_2_uint64)) := Upd.new hr1
  have B1 : Bx (h.set r1 (.cells (Value.cells (u2v a b)) T_2_uint64)) r1 (u2c a b) := Bx.new
  generalize h.set r1 (.cells (Value.cells (u2v a b)) T_2_uint64) = h1 at *
  intro r3 hr3
  try rw [bindH_eq]
  have u3 : Ext h1 (h1.set r3 (.cells (Value.cells (u2v s0 s1)) T_2_uint64)) := Upd.new hr3
  have B3 : Bx (h1.set r3 (.cells (Value.cells (u2v s0 s1)) T_2_uint64)) r3 (u2c s0 s1) := Bx.new
  have C1 := B1.ext u3
  generalize h1.set r3 (.cells (Value.cells (u2v s0 s1)) T_2_uint64) = h3 at *
  have e3 := u1.trans u3
  have la : ∀ {h'' : PH}, Ext h3 h'' → SemE PG h'' (Instr.loadAt T_2_uint64 (.pointer (some ⟨r1, 0, none⟩))) = some (u2v a b) := fun v => T_2_uint64.agg (C1.ext v) (by show 0 + 2 ≤ 2; decide)
  have ls : ∀ {h'' : PH}, Ext h3 h'' → SemE PG h'' (Instr.loadAt T_2_uint64 (.pointer (some ⟨r3, 0, none⟩))) = some (u2v s0 s1) := fun v => T_2_uint64.agg (B3.ext v) (by show 0 + 2 ≤ 2; decide)
  refine awake13_ok (hK.ext e3) fun h4 u4 => ?_
  simp only [ls u4, zSS, reduceIte, zZZ, Nat.reduceAdd]
  refine few13_ok (S.ext (e3.trans u4)) fun h5 bb hbb u5 => ?_
  have e35 := u4.trans u5
  have e5 := e3.trans e35
  cases bb with
  | false =>
    simp only [zSS, reduceIte, zZZ, Nat.reduceAdd]
    exact hk h5 e5
  | true =>
    obtain ⟨z0, z1, hl⟩ := hbb rfl
    simp only [la e35, ls e35, zSS, reduceIte, zZZ, Nat.reduceAdd]
    refine made_ok (hK.ext e5) ha hb hs0 hs1 z0 z1 fun h6 t F6 T6 f6 u6 => ?_
    have nilT : ∀ {h'' : PH} {x y : Operand} {c : Nat}, SemE PG h'' (binS .eql T_p_carracklaw13_two x y (.pointer (some ⟨c, 0, none⟩)) (.pointer none)) = some (.bool false) := eqlPtrNil T_p_carracklaw13_two.und
    have K5 := hK.ext e5
    have ll := tac_len S
    simp only [nilT, zSS, reduceIte, zZZ, Nat.reduceAdd]
    refine ⟨fun vs h' => ∃ (i : Nat) (x y : Ch) (F : List Nat), i ≤ l.length ∧ vs = [v, .int .u8 st, .pointer (some ⟨t, 0, none⟩), .int .i64 (i : Int)] ∧ Now h5 h' F ∧ TwoA t x y h' F ∧ x.nts.length ≤ i ∧ y.nts.length ≤ i ∧ x.tot ≤ i ∧ y.tot ≤ i ∧ NtsOk x ∧ NtsOk y, upTo l.length 3, ⟨0, _, _, F6, by omega, rfl, ⟨u6, f6⟩, T6, Nat.le_refl _, Nat.le_refl _, Nat.le_refl _, Nat.le_refl _, NtsOk.new, NtsOk.new⟩, ?_⟩
    rintro ρ h' ⟨i, x, y, F, hi, hvs, N, T, hx, hy, tx, ty, ox, oy⟩
    simp only [List.map_cons, List.map_nil, List.cons.injEq, and_true] at hvs
    obtain ⟨v0, v1, v2, v3⟩ := hvs
    unfold carracklaw13_ChainFollows_b18
    rw [v0, v1, v2, v3]
    by_cases hlt : i < l.length
    · have g : ((i : Int) < (l.length : Int)) = True := eq_true (by omega)
      have gi : IntKind.i64.wrap ((i : Int) + 1) = ((i + 1 : Nat) : Int) := by rw [i64_wrap (by omega) (by omega)]; omega
      obtain ⟨c, hc⟩ : ∃ c, l[i]? = some c := ⟨_, List.getElem?_eq_getElem hlt⟩
      obtain ⟨bk, o, a1, -, -, a2⟩ := (S.ext (e5.trans N.ext)).tac hc
      obtain ⟨n1, n2⟩ := twStep_nts x y c hx hy
      obtain ⟨m1, m2⟩ := tot_step x y c tx ty
      obtain ⟨o1, o2⟩ := ox.step oy c
      simp only [ll, g, a1, a2, zSS, reduceIte, zZZ, Nat.reduceAdd]
      refine Do_ok T (N.k K5) (N.z K5) (w c (List.mem_of_getElem? hc)) (by omega) (by omega) fun h7 F7 T7 s7 => ?_
      simp only [gi, zSS, reduceIte, zZZ, Nat.reduceAdd]
      exact ⟨⟨i + 1, _, _, F7, by omega, rfl, N.step s7, T7, n1, n2, m1, m2, o1, o2⟩, by simp [upTo, v3]; omega⟩
    · have g : ((i : Int) < (l.length : Int)) = False := eq_false (by omega)
      simp only [ll, g, zSS, reduceIte, zZZ, Nat.reduceAdd]
      obtain ⟨c0, c1, m, T⟩ := T
      have T : Two3 t c0 c1 m x y h' F := T
      exact follows1_ok N.ext T ox oy (by omega) (by omega) t1 t2 fun h8 u8 => hk h8 (e5.trans u8)
end Go.Proofs.YtcoajnpchhmgjaaGreatDoor
namespace Go.Proofs.YtcoajnpchhmgjaaGreatDoor
open Go
theorem wf_u8 {n : Int} (h : (Lit.int .u8 n).wf = true) : 0 ≤ n ∧ n < 256 := by
  simp [Lit.wf, IntKind.min, IntKind.max, IntKind.signed, IntKind.bits] at h
  omega
theorem ChainFollows_row {h : PH} (hK : KAt h) {v : Value} {rows : List (List Value)} (S : SlR h 9 v rows) (st : Int) {a b s0 s1 : Nat} (ha : a < 18446744073709551616) (hb : b < 18446744073709551616) (hs0 : s0 < 18446744073709551616) (hs1 : s1 < 18446744073709551616) (e : ∃ l : List TAc, rows = l.map TAc.cells ∧ ∀ x ∈ l, x.wf) (wst : (Lit.int .u8 st).wf = true) {k : Value → PH → Prop} (hk : ∀ h', Ext h h' → k (.bool true) h') :
    CallsH PG id_carracklaw13_ChainFollows #[u2v a b, u2v s0 s1, v, .int .u8 st] h k := by
  obtain ⟨l, rfl, w⟩ := e
  obtain ⟨t1, t2⟩ := wf_u8 wst
  exact ChainFollows_ok hK ha hb hs0 hs1 S w t1 t2 hk
end Go.Proofs.YtcoajnpchhmgjaaGreatDoor
namespace Go.Proofs.YtcoajnpchhmgjaaGreatDoor.chainFollows
open Go Go.ChangeShapes Go.WideShapes Go.ChangeAt Go.WideMaps Go.WideElems Go.RowKit
theorem own : ownKnob Tryz.prog.godebug = none := by kernel_rfl
set_option maxRecDepth 100000 in
theorem lifted (os : Os) (started : os.Started) (H : Type) (enc : TypeId × Value → H) :
    ReturnsInHanded {} Tryz.checked os 6 .any (fun w args => (Rows.chainFollowsSpec.pre enc Tryz.prog Tryz.f6 [] false w args ∧ laidMetH Tryz.prog laidL w) ∧ sizedMet enc Tryz.prog Tryz.f6 (OpenSpec.ofChange Rows.chainFollowsSpec) false w args)
      (Rows.chainFollowsSpec.post enc Tryz.prog Tryz.f6 false true false false) := by
  refine returnsInHanded_of_change_and (C := Tryz.checked) (X := fun w _ => laidMetH Tryz.prog laidL w) (fun _ _ _ hh h => h.of_heap hh) own started (by kernel_rfl) Tryz.func6
    (ChangeSpec.witness_shaped (enc := enc) (C := Tryz.checked) (os := os) (X := fun w _ => laidMetH Tryz.prog laidL w) false (World.doorLaid Tryz.prog 400 os) #[.agg #[.int .u64 0, .int .u64 0], .agg #[.int .u64 0, .int .u64 0], .slice none 0 0, .int .u8 0] 8 rfl (World.shaped_of_RefB (by kernel_rfl) (by kernel_rfl)) (by kernel_rfl) (by kernel_rfl) (by kernel_rfl) (door_met os _)) ?_
  intro W base args ds gs before hval0 hW _ _ hL _
  have hval : ∀ (j : Nat) t v, Tryz.f6.params[j]? = some t → args[j]? = some v → Value.okWide Tryz.prog W .any base t v := hval0
  have hW' := hW
  obtain ⟨p, q, hA0, hV, rfl, hfz, hnd⟩ := hW
  have hA : DataW.TrodAll enc Tryz.prog W 0 (fun _ => true) true Tryz.f6.params.toList args.toList ds p := hA0
  rw [Tryz.params6] at hA hval
  obtain ⟨v0, vs0, d0, ds0, p0, q0, hargs, rfl, rfl, h0, r0⟩ := trodAll_cons hA
  obtain ⟨v1, vs1, d1, ds1, p1, q1, rfl, rfl, rfl, h1, r1⟩ := trodAll_cons r0
  obtain ⟨v2, vs2, d2, ds2, p2, q2, rfl, rfl, rfl, h2, r2⟩ := trodAll_cons r1
  obtain ⟨v3, vs3, d3, ds3, p3, q3, rfl, rfl, rfl, h3, r3⟩ := trodAll_cons r2
  obtain ⟨rfl, rfl, rfl⟩ := trodAll_nil r3
  obtain rfl : args = #[v0, v1, v2, v3] := by cases args; simp_all
  obtain ⟨rfl, rfl⟩ := trodVars_none hV
  obtain ⟨x0, y0, rfl, m0, n0⟩ := open_u2 (hval 0 23 v0 rfl rfl) h0
  obtain ⟨x1, y1, rfl, m1, n1⟩ := open_u2 (hval 1 23 v1 rfl rfl) h1
  obtain ⟨rows2, s2, o2⟩ := open_rd T_sl_carrackref13_Act.und (by rw [T_carrackref13_Act.cells]; decide) (hval 2 _ v2 rfl rfl) h2
  rw [T_carrackref13_Act.cells] at s2
  have e2 := TAc.rds o2
  obtain ⟨a3, rfl, rfl, rfl, w3⟩ := open_int Tryz.underlying5 (hval 3 5 v3 rfl rfl) h3
  refine (calls_kept (ChainFollows_row (kOf hL) s2 a3 m0 n0 m1 n1 e2 w3 fun h' hx => ⟨rfl, hx⟩)).mono fun e W' ⟨he, hk⟩ => ?_
  subst he
  exact ⟨_, rfl, post_of_kept kidsPG fullPG (by rw [Tryz.params6]; decide +kernel) Tryz.underlying4 (by kernel_rfl) rfl hW' hk rfl rfl rfl⟩
theorem over : Rows.chainFollowsRow.holds Tryz.pinned (OpenSpec.ofChange Rows.chainFollowsSpec) :=
  OpenClaim.holds_of_wide 6 Tryz.f6 rfl rfl rfl rfl rfl rfl rfl ⟨rfl, rfl, rfl, rfl, rfl⟩ rfl rfl rfl rfl rfl (by kernel_rfl) Tryz.func6 (by kernel_rfl)
    (of_decide_eq_true (by kernel_rfl)) (by unfold Func.isWrapper; first | (rw [if_pos (by decide +kernel)]; kernel_rfl) | (rw [if_neg (by decide +kernel)]; exact ⟨rfl, rfl⟩))
    (fun os started H enc _ => lifted os started H enc)
theorem proved : Rows.ChainFollowsCardSaid :=
  Claim7.holds_tied_plain_at .later [] [.data] true (true, "ffc9c4e58fb005edcfc3584b561f2ad7ef77368ac970e35ab2fb2d70755663e1") false
    over (fun _ h => by cases h) (by kernel_rfl) (fun _ h => by cases h) chainFollows_row_tie rfl ⟨rfl, rfl⟩ (by kernel_rfl) rfl
    (fun f fn hf hfn => by
      obtain rfl : f = 6 := Option.some.inj ((show Tryz.prog.funcNamed Rows.chainFollowsRow.func = some 6 by kernel_rfl).symm.trans hf) |>.symm
      obtain rfl : fn = Tryz.f6 := (Option.some.inj (Tryz.func6.symm.trans hfn)).symm
      exact ⟨by kernel_rfl, fun j t ht => by
        have hall : (Tryz.f6.params.toList.all fun u => !Tryz.prog.wantsStandIn u) = true := by kernel_rfl
        have hm : t ∈ Tryz.f6.params.toList := by simpa using Array.mem_of_getElem? ht
        exact (show Tryz.prog.wantsStandIn t = false by simpa using List.all_eq_true.1 hall t hm)⟩)
    (by kernel_rfl)
#print axioms proved
end Go.Proofs.YtcoajnpchhmgjaaGreatDoor.chainFollows
