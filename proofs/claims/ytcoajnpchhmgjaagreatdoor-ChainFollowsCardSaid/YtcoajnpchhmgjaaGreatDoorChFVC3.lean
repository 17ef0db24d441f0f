/- The texts of this claim, put together. -/
import Derived.Test.YtcoajnpchhmgjaaGreatDoorChFVC2
set_option linter.unusedSimpArgs false
set_option linter.unusedVariables false
set_option linter.unusedSectionVars false
set_option maxRecDepth 100000
namespace Go.Proofs.YtcoajnpchhmgjaaGreatDoor
open Go
def chain_Chain_settle_k32 (R : Value → PH → Prop) (t9 : Value) (h0 : PH) : Prop :=
 R t9 h0
def chain_Chain_settle (t0 : Value) (t1 : Value) (t2 : Value) (t3 : Value) (h0 : PH) (R : Value → PH → Prop) : Prop :=
 ∀ r1, h0 r1 = none → bindH (PH.set h0 r1 (.cells (Value.cells t2) T_api_Packet)) fun h2 =>
 popO (SemE PG h2 (Instr.loadAt T_api_Packet (Value.pointer (some ⟨r1, 0, none⟩)))) fun v3 =>
 popO (SemP PG (nilS t0)) fun v4 =>
 popO (SemP PG (Instr.fieldAt T_chain_Chain v4 1)) fun v5 =>
 popO (SemE PG h2 (Instr.loadAt T_int v5)) fun v6 =>
 popO (SemE PG h2 (Instr.loadAt T_api_Packet (Value.pointer (some ⟨r1, 0, none⟩)))) fun v7 =>
 CallsH PG id_chain_from #[v3, v6] h2 fun v8 h9 =>
 SemE PG h9 (Instr.loadAt T_api_Packet (Value.pointer (some ⟨r1, 0, none⟩))) = some v7 ∧ (CallsH PG id_chain_Chain_sent #[t0, v7] h9 fun v10 h11 =>
 (popO (SemA PG (Instr.buildSlice T_sl_chain_rule 2 #[(0, v8), (1, v10)])) fun x13 => ∀ r12, h11 r12 = none → popO (SemP PG (x13.2 r12)) fun v14 => bindH (PH.set h11 r12 x13.1) fun h15 =>
 SemH PG (Builtin.append_ #[T_sl_chain_rule, T_sl_chain_rule] T_sl_chain_rule #[v14, t3]) h15 fun v16 h17 =>
 (CallsH PG id_chain_Chain_all #[t0, v16] h17 fun v18 h19 =>
 (popO (SemE PG h19 (binS BinOp.eql T_api_Errno (.tmp 24) (.const (Value.int IntKind.i64 0)) v18 (Value.int IntKind.i64 0))) fun v20 =>
 condV v20
 (popO (SemP PG (nilS t0)) fun v21 =>
 popO (SemP PG (Instr.fieldAt T_chain_Chain v21 0)) fun v22 =>
 popO (SemP PG (Instr.fieldAt T_api_Packet (Value.pointer (some ⟨r1, 0, none⟩)) 1)) fun v23 =>
 popO (SemE PG h19 (Instr.loadAt T_uint64 v23)) fun v24 =>
 CallsH PG id_packet_Sent #[v24] h19 fun v25 h26 =>
 (CallsH PG id_chain_ledger_drop #[v22, v25] h26 fun v27 h28 =>
 (popO (SemE PG h28 (Instr.loadAt T_api_Packet (Value.pointer (some ⟨r1, 0, none⟩)))) fun v29 =>
 CallsH PG id_chain_Chain_note #[t0, t1, v29] h28 fun v30 h31 =>
 chain_Chain_settle_k32 R v18 h31)))
 (chain_Chain_settle_k32 R v18 h19)))))
def chain_Chain_settle.ann : Ann := { b := fun i => match i with | 1 => #[0, 0, 0, 4, 12, 28, 62, 0, 0, 510, 1022, 0, 4094, 8191, 16383] | 3 => #[0, 1, 3, 0, 8, 24, 63] | _ => #[], ord := fun i => match i with | 1 => [0, 1, 2, 3, 4, 5, 7, 8, 11, 6, 9, 10, 12, 13, 14] | 3 => [0, 1, 2, 3, 4, 5, 6] | _ => [], keep := fun i => match i with  | _ => [], n := 38 }
theorem chain_Chain_settle.call {t0 : Value} {t1 : Value} {t2 : Value} {t3 : Value} {h0 : PH} {R : Value → PH → Prop} (H : chain_Chain_settle t0 t1 t2 t3 h0 R) : CallsH PG id_chain_Chain_settle #[t0, t1, t2, t3] h0 R :=
  callsF_by chain_Chain_settle.ann 200 mix Tryz.func87 (by kernel_rfl) (by kernel_rfl) (by kernel_rfl) (by kernel_rfl) (by simp [Tryz.ntmps87]) (by kernel_rfl) H
def chain_Chain_sent (t0 : Value) (t1 : Value) (h0 : PH) (R : Value → PH → Prop) : Prop :=
 ∀ r1, h0 r1 = none → bindH (PH.set h0 r1 (.cells (Value.cells t0) T_p_chain_Chain)) fun h2 =>
 ∀ r3, h2 r3 = none → bindH (PH.set h2 r3 (.cells (Value.cells t1) T_api_Packet)) fun h4 =>
 ∀ r5, h4 r5 = none → bindH (PH.set h4 r5 (.cells (zcells PG T_chain_rule) T_chain_rule)) fun h6 =>
 popO (SemP PG (Instr.makeFunc (Fn.func id_chain_Chain_sent_1) #[] #[(Value.pointer (some ⟨r1, 0, none⟩)), (Value.pointer (some ⟨r3, 0, none⟩))])) fun v7 =>
 popO (SemP PG (Instr.build T_chain_rule #[(0, v7), (1, (Value.int IntKind.i64 3))])) fun v8 =>
 SemH PG (storeS T_chain_rule (Value.pointer (some ⟨r5, 0, none⟩)) v8) h6 fun v9 h10 =>
 popO (SemE PG h10 (Instr.loadAt T_chain_rule (Value.pointer (some ⟨r5, 0, none⟩)))) fun v11 =>
 R v11 h10
theorem chain_Chain_sent.call {t0 : Value} {t1 : Value} {h0 : PH} {R : Value → PH → Prop} (H : chain_Chain_sent t0 t1 h0 R) : CallsH PG id_chain_Chain_sent #[t0, t1] h0 R :=
  callsF_by (an0 7) 200 mix Tryz.func147 (by kernel_rfl) (by kernel_rfl) (by kernel_rfl) (by kernel_rfl) (by simp [Tryz.ntmps147]) (by kernel_rfl) H
def chain_Chain_sent_1 (t0 : Value) (t1 : Value) (h0 : PH) (R : Value → PH → Prop) : Prop :=
 popO (SemE PG h0 (Instr.loadAt T_p_chain_Chain t0)) fun v1 =>
 popO (SemP PG (nilS v1)) fun v2 =>
 popO (SemP PG (Instr.fieldAt T_chain_Chain v2 0)) fun v3 =>
 popO (SemP PG (Instr.fieldAt T_chain_ledger v3 0)) fun v4 =>
 popO (SemE PG h0 (Instr.loadAt T_p_store_Store v4)) fun v5 =>
 popO (SemP PG (Instr.fieldAt T_api_Packet t1 1)) fun v6 =>
 popO (SemE PG h0 (Instr.loadAt T_uint64 v6)) fun v7 =>
 CallsH PG id_packet_Sent #[v7] h0 fun v8 h9 =>
 SemE PG h9 (Instr.loadAt T_p_store_Store v4) = some v5 ∧ SemE PG h9 (Instr.loadAt T_p_chain_Chain t0) = some v1 ∧ (CallsH PG id_store_Store_Get #[v5, v8] h9 fun v10 h11 =>
 (popO (SemP PG (Instr.extract v10 0)) fun v12 =>
 popO (SemP PG (Instr.extract v10 1)) fun v13 =>
 gopV (yV v13) true (fun k16 => k16 v12 h11) h11 fun v14 h15 =>
 gopV (yV v13) true (fun k19 => popO (SemE PG h15 (Instr.loadAt T_api_Packet t1)) fun v20 => k19 v20 h15) h15 fun v17 h18 =>
 gopV (yV v13) true (fun k23 => CallsH PG id_packet_Commitment #[v17] h18 fun v24 h25 => k23 v24 h25) h18 fun v21 h22 =>
 gopV (yV v13) true (fun k28 => popO (SemE PG h22 (binS BinOp.eql T_string (.tmp 19) (.tmp 21) v14 v21)) fun v29 => k28 v29 h22) h22 fun v26 h27 =>
 popO (pickV v13 v26 (Value.bool false)) fun v30 =>
 R v30 h27))
def chain_Chain_sent_1.ann : Ann := { b := fun i => match i with | 1 => #[0, 1, 3, 7, 15, 0, 32, 96, 255, 511, 1023, 1023, 2047, 8191] | _ => #[], ord := fun i => match i with | 1 => [0, 1, 2, 3, 4, 5, 6, 7, 8, 9, 10, 11, 12, 13] | _ => [], keep := fun i => match i with  | _ => [], n := 24 }
theorem chain_Chain_sent_1.call {t0 : Value} {t1 : Value} {h0 : PH} {R : Value → PH → Prop} (H : chain_Chain_sent_1 t0 t1 h0 R) : CallsH PG id_chain_Chain_sent_1 #[t0, t1] h0 R :=
  callsF_by chain_Chain_sent_1.ann 200 mix Tryz.func196 (by kernel_rfl) (by kernel_rfl) (by kernel_rfl) (by kernel_rfl) (by simp [Tryz.ntmps196]) (by kernel_rfl) H
def chain_ledger_drop (t0 : Value) (t1 : Value) (h0 : PH) (R : Value → PH → Prop) : Prop :=
 popO (SemP PG (nilS t0)) fun v1 =>
 popO (SemP PG (Instr.fieldAt T_chain_ledger v1 4)) fun v2 =>
 popO (SemE PG h0 (Instr.loadAt T_map_string_string v2)) fun v3 =>
 SemH PG (Builtin.delete_ #[T_map_string_string, T_string] T_ #[v3, t1]) h0 fun v4 h5 =>
 popO (SemP PG (nilS t0)) fun v6 =>
 popO (SemP PG (Instr.fieldAt T_chain_ledger v6 0)) fun v7 =>
 popO (SemE PG h5 (Instr.loadAt T_p_store_Store v7)) fun v8 =>
 CallsH PG id_store_Store_Delete #[v8, t1] h5 fun v9 h10 =>
 R (Value.tuple #[]) h10
theorem chain_ledger_drop.call {t0 : Value} {t1 : Value} {h0 : PH} {R : Value → PH → Prop} (H : chain_ledger_drop t0 t1 h0 R) : CallsH PG id_chain_ledger_drop #[t0, t1] h0 R :=
  callsF_by (an0 15) 200 mix Tryz.func148 (by kernel_rfl) (by kernel_rfl) (by kernel_rfl) (by kernel_rfl) (by simp [Tryz.ntmps148]) (by kernel_rfl) H
def store_Store_Delete (t0 : Value) (t1 : Value) (h0 : PH) (R : Value → PH → Prop) : Prop :=
 popO (SemP PG (nilS t0)) fun v1 =>
 popO (SemP PG (Instr.fieldAt T_store_Store v1 0)) fun v2 =>
 popO (SemE PG h0 (Instr.loadAt T_map_string_string v2)) fun v3 =>
 popO (SemE PG h0 (Instr.lookup T_map_string_string v3 t1 true)) fun v4 =>
 popO (SemP PG (Instr.extract v4 0)) fun v5 =>
 popO (SemP PG (Instr.extract v4 1)) fun v6 =>
 popO (SemP PG (Op.unary UnOp.not v6)) fun v7 =>
 condV v7
 (R (Value.int IntKind.i64 3) h0)
 (popO (SemP PG (nilS t0)) fun v8 =>
 popO (SemP PG (Instr.fieldAt T_store_Store v8 0)) fun v9 =>
 popO (SemE PG h0 (Instr.loadAt T_map_string_string v9)) fun v10 =>
 SemH PG (Builtin.delete_ #[T_map_string_string, T_string] T_ #[v10, t1]) h0 fun v11 h12 =>
 R (Value.int IntKind.i64 0) h12)
theorem store_Store_Delete.call {t0 : Value} {t1 : Value} {h0 : PH} {R : Value → PH → Prop} (H : store_Store_Delete t0 t1 h0 R) : CallsH PG id_store_Store_Delete #[t0, t1] h0 R :=
  callsF_by (an0 23) 200 mix Tryz.func197 (by kernel_rfl) (by kernel_rfl) (by kernel_rfl) (by kernel_rfl) (by simp [Tryz.ntmps197]) (by kernel_rfl) H
def chain_Chain_Timeout (t0 : Value) (t1 : Value) (t2 : Value) (t3 : Value) (h0 : PH) (R : Value → PH → Prop) : Prop :=
 ∀ r1, h0 r1 = none → bindH (PH.set h0 r1 (.cells (Value.cells t1) T_api_Packet)) fun h2 =>
 ∀ r3, h2 r3 = none → bindH (PH.set h2 r3 (.cells (Value.cells t2) T_string)) fun h4 =>
 ∀ r5, h4 r5 = none → bindH (PH.set h4 r5 (.cells (Value.cells t3) T_uint64)) fun h6 =>
 popO (SemE PG h6 (Instr.loadAt T_uint64 (Value.pointer (some ⟨r5, 0, none⟩)))) fun v7 =>
 popO (SemP PG (Instr.makeFunc (Fn.func id_chain_Chain_Timeout_1) #[] #[(Value.pointer (some ⟨r3, 0, none⟩)), (Value.pointer (some ⟨r1, 0, none⟩))])) fun v8 =>
 CallsH PG id_chain_Chain_proved #[t0, v7, v8] h6 fun v9 h10 =>
 popO (SemP PG (Instr.extract v9 0)) fun v11 =>
 popO (SemP PG (Instr.extract v9 1)) fun v12 =>
 ∀ r13, h10 r13 = none → bindH (PH.set h10 r13 (.cells (zcells PG T_chain_rule) T_chain_rule)) fun h14 =>
 ∀ r15, h14 r15 = none → bindH (PH.set h14 r15 (.cells (zcells PG T_chain_rule) T_chain_rule)) fun h16 =>
 SemH PG (storeS T_chain_rule (Value.pointer (some ⟨r13, 0, none⟩)) v11) h16 fun v17 h18 =>
 SemH PG (storeS T_chain_rule (Value.pointer (some ⟨r15, 0, none⟩)) v12) h18 fun v19 h20 =>
 popO (SemP PG (Instr.makeFunc (Fn.func id_chain_Chain_Timeout_2) #[] #[(Value.pointer (some ⟨r5, 0, none⟩)), (Value.pointer (some ⟨r1, 0, none⟩))])) fun v21 =>
 popO (SemP PG (Instr.build T_chain_rule #[(0, v21), (1, (Value.int IntKind.i64 11))])) fun v22 =>
 ∀ r23, h20 r23 = none → bindH (PH.set h20 r23 (.cells (zcells PG T_chain_rule) T_chain_rule)) fun h24 =>
 SemH PG (storeS T_chain_rule (Value.pointer (some ⟨r23, 0, none⟩)) v22) h24 fun v25 h26 =>
 popO (SemE PG h26 (Instr.loadAt T_api_Packet (Value.pointer (some ⟨r1, 0, none⟩)))) fun v27 =>
 popO (SemE PG h26 (Instr.loadAt T_chain_rule (Value.pointer (some ⟨r23, 0, none⟩)))) fun v28 =>
 popO (SemE PG h26 (Instr.loadAt T_chain_rule (Value.pointer (some ⟨r13, 0, none⟩)))) fun v29 =>
 popO (SemE PG h26 (Instr.loadAt T_chain_rule (Value.pointer (some ⟨r15, 0, none⟩)))) fun v30 =>
 popO (SemA PG (Instr.buildSlice T_sl_chain_rule 3 #[(0, v28), (1, v29), (2, v30)])) fun x32 => ∀ r31, h26 r31 = none → popO (SemP PG (x32.2 r31)) fun v33 => bindH (PH.set h26 r31 x32.1) fun h34 =>
 CallsH PG id_chain_Chain_settle #[t0, (Value.int IntKind.i64 4), v27, v33] h34 fun v35 h36 =>
 R v35 h36
theorem chain_Chain_Timeout.call {t0 : Value} {t1 : Value} {t2 : Value} {t3 : Value} {h0 : PH} {R : Value → PH → Prop} (H : chain_Chain_Timeout t0 t1 t2 t3 h0 R) : CallsH PG id_chain_Chain_Timeout #[t0, t1, t2, t3] h0 R :=
  callsF_by (an0 28) 200 mix Tryz.func38 (by kernel_rfl) (by kernel_rfl) (by kernel_rfl) (by kernel_rfl) (by simp [Tryz.ntmps38]) (by kernel_rfl) H
def chain_Chain_Timeout_1 (t0 : Value) (t1 : Value) (t2 : Value) (h0 : PH) (R : Value → PH → Prop) : Prop :=
 popO (SemE PG h0 (Instr.loadAt T_string t1)) fun v1 =>
 popO (SemP PG (Instr.fieldAt T_api_Packet t2 1)) fun v2 =>
 popO (SemE PG h0 (Instr.loadAt T_uint64 v2)) fun v3 =>
 CallsH PG id_packet_Received #[v3] h0 fun v4 h5 =>
 SemE PG h5 (Instr.loadAt T_string t1) = some v1 ∧ (CallsH PG id_proof_Lacks #[t0, v1, v4] h5 fun v6 h7 =>
 (R v6 h7))
def chain_Chain_Timeout_1.ann : Ann := { b := fun i => match i with | 1 => #[0, 0, 0, 4, 12, 31, 63] | _ => #[], ord := fun i => match i with | 1 => [0, 1, 2, 3, 4, 5, 6] | _ => [], keep := fun i => match i with  | _ => [], n := 11 }
theorem chain_Chain_Timeout_1.call {t0 : Value} {t1 : Value} {t2 : Value} {h0 : PH} {R : Value → PH → Prop} (H : chain_Chain_Timeout_1 t0 t1 t2 h0 R) : CallsH PG id_chain_Chain_Timeout_1 #[t0, t1, t2] h0 R :=
  callsF_by chain_Chain_Timeout_1.ann 200 mix Tryz.func88 (by kernel_rfl) (by kernel_rfl) (by kernel_rfl) (by kernel_rfl) (by simp [Tryz.ntmps88]) (by kernel_rfl) H
def proof_Lacks (t0 : Value) (t1 : Value) (t2 : Value) (h0 : PH) (R : Value → PH → Prop) : Prop :=
 CallsH PG id_proof_Parse #[t1] h0 fun v1 h2 =>
 popO (SemP PG (Instr.extract v1 0)) fun v3 =>
 popO (SemP PG (Instr.extract v1 1)) fun v4 =>
 ∀ r5, h2 r5 = none → bindH (PH.set h2 r5 (.cells (zcells PG T_api_Proof) T_api_Proof)) fun h6 =>
 SemH PG (storeS T_api_Proof (Value.pointer (some ⟨r5, 0, none⟩)) v3) h6 fun v7 h8 =>
 popO (SemE PG h8 (binS BinOp.neq T_api_Errno (.tmp 15) (.const (Value.int IntKind.i64 0)) v4 (Value.int IntKind.i64 0))) fun v9 =>
 gopV (yV v9) false (fun k12 => popO (SemP PG (Instr.fieldAt T_api_Proof (Value.pointer (some ⟨r5, 0, none⟩)) 0)) fun v13 => k12 v13 h8) h8 fun v10 h11 =>
 gopV (yV v9) false (fun k16 => popO (SemE PG h11 (Instr.loadAt T_bool v10)) fun v17 => k16 v17 h11) h11 fun v14 h15 =>
 gopV (yV v9) false (fun k20 => popO (SemP PG (Op.unary UnOp.not v14)) fun v21 => k20 v21 h15) h15 fun v18 h19 =>
 popO (pickV v9 (Value.bool true) v18) fun v22 =>
 gopV (yV v22) false (fun k25 => k25 t2 h19) h19 fun v23 h24 =>
 gopV (yV v22) false (fun k28 => popO (SemP PG (Builtin.len_ #[T_string] T_int #[v23])) fun v29 => k28 v29 h24) h24 fun v26 h27 =>
 gopV (yV v22) false (fun k32 => popO (SemP PG (binOp BinOp.lss T_int v26 (Value.int IntKind.i64 1))) fun v33 => k32 v33 h27) h27 fun v30 h31 =>
 popO (pickV v22 (Value.bool true) v30) fun v34 =>
 gopV (yV v34) false (fun k37 => k37 t2 h31) h31 fun v35 h36 =>
 gopV (yV v34) false (fun k40 => popO (SemP PG (Builtin.len_ #[T_string] T_int #[v35])) fun v41 => k40 v41 h36) h36 fun v38 h39 =>
 gopV (yV v34) false (fun k44 => popO (SemP PG (binOp BinOp.gtr T_int v38 (Value.int IntKind.i64 16))) fun v45 => k44 v45 h39) h39 fun v42 h43 =>
 popO (pickV v34 (Value.bool true) v42) fun v46 =>
 gopV (yV v46) false (fun k49 => k49 t0 h43) h43 fun v47 h48 =>
 gopV (yV v46) false (fun k52 => popO (SemP PG (Instr.fieldAt T_api_Proof (Value.pointer (some ⟨r5, 0, none⟩)) 1)) fun v53 => k52 v53 h48) h48 fun v50 h51 =>
 gopV (yV v46) false (fun k56 => popO (SemE PG h51 (Instr.loadAt T_sl_api_Leaf v50)) fun v57 => k56 v57 h51) h51 fun v54 h55 =>
 gopV (yV v46) false (fun k60 => CallsH PG id_proof_climb #[v47, v54] h55 fun v61 h62 => k60 v61 h62) h55 fun v58 h59 =>
 gopV (yV v46) false (fun k65 => popO (SemP PG (Op.unary UnOp.not v58)) fun v66 => k65 v66 h59) h59 fun v63 h64 =>
 popO (pickV v46 (Value.bool true) v63) fun v67 =>
 condV v67
 (R (Value.bool false) h64)
 (popO (SemP PG (Instr.fieldAt T_api_Proof (Value.pointer (some ⟨r5, 0, none⟩)) 1)) fun v68 =>
 popO (SemE PG h64 (Instr.loadAt T_sl_api_Leaf v68)) fun v69 =>
 popO (SemP PG (Builtin.len_ #[T_sl_api_Leaf] T_int #[v69])) fun v70 =>
 popO (SemE PG h64 (binS BinOp.eql T_int (.tmp 42) (.const (Value.int IntKind.i64 0)) v70 (Value.int IntKind.i64 0))) fun v71 =>
 condV v71
 (CallsH PG id_merkle_Root #[(Value.slice none 0 0)] h64 fun v72 h73 =>
 popO (SemE PG h73 (binS BinOp.eql T_string (.tmp 84) (.tmp 85) t0 v72)) fun v74 =>
 R v74 h73)
 (popO (SemE PG h64 (binS BinOp.eql T_int (.tmp 42) (.const (Value.int IntKind.i64 1)) v70 (Value.int IntKind.i64 1))) fun v75 =>
 condV v75
 (popO (SemP PG (Instr.indexAt T_sl_api_Leaf v69 (Value.int IntKind.i64 0))) fun v76 =>
 popO (SemP PG (Instr.fieldAt T_api_Leaf v76 0)) fun v77 =>
 popO (SemE PG h64 (Instr.loadAt T_int v77)) fun v78 =>
 popO (SemE PG h64 (binS BinOp.eql T_int (.tmp 92) (.const (Value.int IntKind.i64 0)) v78 (Value.int IntKind.i64 0))) fun v79 =>
 gopV (yV v79) true (fun k82 => k82 t2 h64) h64 fun v80 h81 =>
 gopV (yV v79) true (fun k85 => k85 v69 h81) h81 fun v83 h84 =>
 gopV (yV v79) true (fun k88 => popO (SemP PG (Instr.indexAt T_sl_api_Leaf v83 (Value.int IntKind.i64 0))) fun v89 => k88 v89 h84) h84 fun v86 h87 =>
 gopV (yV v79) true (fun k92 => popO (SemP PG (Instr.fieldAt T_api_Leaf v86 2)) fun v93 => k92 v93 h87) h87 fun v90 h91 =>
 gopV (yV v79) true (fun k96 => popO (SemP PG (Instr.fieldAt T_api_Pair v90 0)) fun v97 => k96 v97 h91) h91 fun v94 h95 =>
 gopV (yV v79) true (fun k100 => popO (SemE PG h95 (Instr.loadAt T_string v94)) fun v101 => k100 v101 h95) h95 fun v98 h99 =>
 gopV (yV v79) true (fun k104 => popO (SemP PG (binOp BinOp.lss T_string v80 v98)) fun v105 => k104 v105 h99) h99 fun v102 h103 =>
 popO (pickV v79 v102 (Value.bool false)) fun v106 =>
 gopV (yV v106) false (fun k109 => k109 v69 h103) h103 fun v107 h108 =>
 gopV (yV v106) false (fun k112 => popO (SemP PG (Instr.indexAt T_sl_api_Leaf v107 (Value.int IntKind.i64 0))) fun v113 => k112 v113 h108) h108 fun v110 h111 =>
 gopV (yV v106) false (fun k116 => popO (SemP PG (Instr.fieldAt T_api_Leaf v110 0)) fun v117 => k116 v117 h111) h111 fun v114 h115 =>
 gopV (yV v106) false (fun k120 => popO (SemE PG h115 (Instr.loadAt T_int v114)) fun v121 => k120 v121 h115) h115 fun v118 h119 =>
 gopV (yV v106) false (fun k124 => k124 v69 h119) h119 fun v122 h123 =>
 gopV (yV v106) false (fun k127 => popO (SemP PG (Instr.indexAt T_sl_api_Leaf v122 (Value.int IntKind.i64 0))) fun v128 => k127 v128 h123) h123 fun v125 h126 =>
 gopV (yV v106) false (fun k131 => popO (SemP PG (Instr.fieldAt T_api_Leaf v125 1)) fun v132 => k131 v132 h126) h126 fun v129 h130 =>
 gopV (yV v106) false (fun k135 => popO (SemE PG h130 (Instr.loadAt T_int v129)) fun v136 => k135 v136 h130) h130 fun v133 h134 =>
 gopV (yV v106) false (fun k139 => popO (SemP PG (binOp BinOp.sub T_int v133 (Value.int IntKind.i64 1))) fun v140 => k139 v140 h134) h134 fun v137 h138 =>
 gopV (yV v106) false (fun k143 => popO (SemE PG h138 (binS BinOp.eql T_int (.tmp 107) (.tmp 112) v118 v137)) fun v144 => k143 v144 h138) h138 fun v141 h142 =>
 gopV (yV v106) false (fun k147 => k147 v141 h142) h142 fun v145 h146 =>
 gopV (yV v145) true (fun k150 => k150 v69 h146) h146 fun v148 h149 =>
 gopV (yV v145) true (fun k153 => popO (SemP PG (Instr.indexAt T_sl_api_Leaf v148 (Value.int IntKind.i64 0))) fun v154 => k153 v154 h149) h149 fun v151 h152 =>
 gopV (yV v145) true (fun k157 => popO (SemP PG (Instr.fieldAt T_api_Leaf v151 2)) fun v158 => k157 v158 h152) h152 fun v155 h156 =>
 gopV (yV v145) true (fun k161 => popO (SemP PG (Instr.fieldAt T_api_Pair v155 0)) fun v162 => k161 v162 h156) h156 fun v159 h160 =>
 gopV (yV v145) true (fun k165 => popO (SemE PG h160 (Instr.loadAt T_string v159)) fun v166 => k165 v166 h160) h160 fun v163 h164 =>
 gopV (yV v145) true (fun k169 => k169 t2 h164) h164 fun v167 h168 =>
 gopV (yV v145) true (fun k172 => popO (SemP PG (binOp BinOp.lss T_string v163 v167)) fun v173 => k172 v173 h168) h168 fun v170 h171 =>
 gopV (yV v106) false (fun k176 => popO (pickV v145 v170 (Value.bool false)) fun v177 => k176 v177 h171) h171 fun v174 h175 =>
 popO (pickV v106 (Value.bool true) v174) fun v178 =>
 R v178 h175)
 (popO (SemP PG (Instr.indexAt T_sl_api_Leaf v69 (Value.int IntKind.i64 0))) fun v179 =>
 popO (SemP PG (Instr.fieldAt T_api_Leaf v179 1)) fun v180 =>
 popO (SemE PG h64 (Instr.loadAt T_int v180)) fun v181 =>
 popO (SemP PG (Instr.indexAt T_sl_api_Leaf v69 (Value.int IntKind.i64 1))) fun v182 =>
 popO (SemP PG (Instr.fieldAt T_api_Leaf v182 1)) fun v183 =>
 popO (SemE PG h64 (Instr.loadAt T_int v183)) fun v184 =>
 popO (SemE PG h64 (binS BinOp.eql T_int (.tmp 46) (.tmp 50) v181 v184)) fun v185 =>
 gopV (yV v185) true (fun k188 => k188 v69 h64) h64 fun v186 h187 =>
 gopV (yV v185) true (fun k191 => popO (SemP PG (Instr.indexAt T_sl_api_Leaf v186 (Value.int IntKind.i64 0))) fun v192 => k191 v192 h187) h187 fun v189 h190 =>
 gopV (yV v185) true (fun k195 => popO (SemP PG (Instr.fieldAt T_api_Leaf v189 0)) fun v196 => k195 v196 h190) h190 fun v193 h194 =>
 gopV (yV v185) true (fun k199 => popO (SemE PG h194 (Instr.loadAt T_int v193)) fun v200 => k199 v200 h194) h194 fun v197 h198 =>
 gopV (yV v185) true (fun k203 => popO (SemP PG (binOp BinOp.add T_int v197 (Value.int IntKind.i64 1))) fun v204 => k203 v204 h198) h198 fun v201 h202 =>
 gopV (yV v185) true (fun k207 => k207 v69 h202) h202 fun v205 h206 =>
 gopV (yV v185) true (fun k210 => popO (SemP PG (Instr.indexAt T_sl_api_Leaf v205 (Value.int IntKind.i64 1))) fun v211 => k210 v211 h206) h206 fun v208 h209 =>
 gopV (yV v185) true (fun k214 => popO (SemP PG (Instr.fieldAt T_api_Leaf v208 0)) fun v215 => k214 v215 h209) h209 fun v212 h213 =>
 gopV (yV v185) true (fun k218 => popO (SemE PG h213 (Instr.loadAt T_int v212)) fun v219 => k218 v219 h213) h213 fun v216 h217 =>
 gopV (yV v185) true (fun k222 => popO (SemE PG h217 (binS BinOp.eql T_int (.tmp 57) (.tmp 61) v201 v216)) fun v223 => k222 v223 h217) h217 fun v220 h221 =>
 popO (pickV v185 v220 (Value.bool false)) fun v224 =>
 gopV (yV v224) true (fun k227 => k227 v69 h221) h221 fun v225 h226 =>
 gopV (yV v224) true (fun k230 => popO (SemP PG (Instr.indexAt T_sl_api_Leaf v225 (Value.int IntKind.i64 0))) fun v231 => k230 v231 h226) h226 fun v228 h229 =>
 gopV (yV v224) true (fun k234 => popO (SemP PG (Instr.fieldAt T_api_Leaf v228 2)) fun v235 => k234 v235 h229) h229 fun v232 h233 =>
 gopV (yV v224) true (fun k238 => popO (SemP PG (Instr.fieldAt T_api_Pair v232 0)) fun v239 => k238 v239 h233) h233 fun v236 h237 =>
 gopV (yV v224) true (fun k242 => popO (SemE PG h237 (Instr.loadAt T_string v236)) fun v243 => k242 v243 h237) h237 fun v240 h241 =>
 gopV (yV v224) true (fun k246 => k246 t2 h241) h241 fun v244 h245 =>
 gopV (yV v224) true (fun k249 => popO (SemP PG (binOp BinOp.lss T_string v240 v244)) fun v250 => k249 v250 h245) h245 fun v247 h248 =>
 popO (pickV v224 v247 (Value.bool false)) fun v251 =>
 gopV (yV v251) true (fun k254 => k254 t2 h248) h248 fun v252 h253 =>
 gopV (yV v251) true (fun k257 => k257 v69 h253) h253 fun v255 h256 =>
 gopV (yV v251) true (fun k260 => popO (SemP PG (Instr.indexAt T_sl_api_Leaf v255 (Value.int IntKind.i64 1))) fun v261 => k260 v261 h256) h256 fun v258 h259 =>
 gopV (yV v251) true (fun k264 => popO (SemP PG (Instr.fieldAt T_api_Leaf v258 2)) fun v265 => k264 v265 h259) h259 fun v262 h263 =>
 gopV (yV v251) true (fun k268 => popO (SemP PG (Instr.fieldAt T_api_Pair v262 0)) fun v269 => k268 v269 h263) h263 fun v266 h267 =>
 gopV (yV v251) true (fun k272 => popO (SemE PG h267 (Instr.loadAt T_string v266)) fun v273 => k272 v273 h267) h267 fun v270 h271 =>
 gopV (yV v251) true (fun k276 => popO (SemP PG (binOp BinOp.lss T_string v252 v270)) fun v277 => k276 v277 h271) h271 fun v274 h275 =>
 popO (pickV v251 v274 (Value.bool false)) fun v278 =>
 R v278 h275)))
def proof_Lacks.ann : Ann := { b := fun i => match i with | 10 => #[0, 1, 3, 7, 15, 31, 63, 63, 191, 447, 959, 1983, 4095, 8191, 16383, 32767, 65535, 131071, 262143, 32767, 557055, 1605631, 3702783, 7897087, 16777215, 33554431, 67108863, 134217727, 268435455, 536870911, 1073741823, 67108863, 4294967295, 8589934591, 17179869183, 34359738367] | 6 => #[0, 1, 3, 7, 0, 16, 48, 112, 255, 511, 1023, 2047, 4095, 8191, 16383, 1023, 33791, 99327, 230399, 524287, 1048575, 2097151, 4194303, 8388607, 16777215, 33554431, 67108863, 4194303, 268435455, 536870911, 1073741823, 2147483647, 2147483647, 6442450943, 15032385535, 32212254719, 66571993087, 137438953471, 274877906943, 549755813887] | _ => #[], ord := fun i => match i with | 10 => [0, 1, 2, 3, 4, 5, 6, 7, 8, 9, 10, 11, 12, 13, 14, 15, 16, 17, 18, 19, 20, 21, 22, 23, 24, 25, 26, 27, 28, 29, 30, 31, 32, 33, 34, 35] | 6 => [0, 1, 2, 3, 4, 5, 6, 7, 8, 9, 10, 11, 12, 13, 14, 15, 16, 17, 18, 19, 20, 21, 22, 23, 24, 25, 26, 27, 28, 29, 30, 31, 32, 33, 34, 35, 36, 37, 38, 39] | _ => [], keep := fun i => match i with  | _ => [], n := 124 }
theorem proof_Lacks.call {t0 : Value} {t1 : Value} {t2 : Value} {h0 : PH} {R : Value → PH → Prop} (H : proof_Lacks t0 t1 t2 h0 R) : CallsH PG id_proof_Lacks #[t0, t1, t2] h0 R :=
  callsF_by proof_Lacks.ann 200 mix Tryz.func20 (by kernel_rfl) (by kernel_rfl) (by kernel_rfl) (by kernel_rfl) (by simp [Tryz.ntmps20]) (by kernel_rfl) H
def chain_Chain_Timeout_2 (t0 : Value) (t1 : Value) (h0 : PH) (R : Value → PH → Prop) : Prop :=
 popO (SemE PG h0 (Instr.loadAt T_uint64 t0)) fun v1 =>
 popO (SemP PG (Instr.fieldAt T_api_Packet t1 2)) fun v2 =>
 popO (SemE PG h0 (Instr.loadAt T_uint64 v2)) fun v3 =>
 popO (SemP PG (binOp BinOp.sub T_uint64 v3 (Value.int IntKind.u64 1))) fun v4 =>
 popO (SemP PG (binOp BinOp.geq T_uint64 v1 v4)) fun v5 =>
 R v5 h0
theorem chain_Chain_Timeout_2.call {t0 : Value} {t1 : Value} {h0 : PH} {R : Value → PH → Prop} (H : chain_Chain_Timeout_2 t0 t1 h0 R) : CallsH PG id_chain_Chain_Timeout_2 #[t0, t1] h0 R :=
  callsF_by (an0 8) 200 mix Tryz.func89 (by kernel_rfl) (by kernel_rfl) (by kernel_rfl) (by kernel_rfl) (by simp [Tryz.ntmps89]) (by kernel_rfl) H
def carracklaw13_few_b32 (R : Value → PH → Prop) (n31 : List Value → PH → Prop) (t1 : Value) (t5 : Value) (h0 : PH) : Prop :=
 popO (SemP PG (Builtin.len_ #[T_sl_carrackref13_Act] T_int #[t1])) fun v33 =>
 popO (SemP PG (binOp BinOp.lss T_int t5 v33)) fun v34 =>
 condV v34
 (popO (SemP PG (Instr.indexAt T_sl_carrackref13_Act t1 t5)) fun v35 =>
 popO (SemP PG (Instr.fieldAt T_carrackref13_Act v35 3)) fun v36 =>
 popO (SemE PG h0 (Instr.loadAt T_string v36)) fun v37 =>
 popO (SemP PG (Builtin.len_ #[T_string] T_int #[v37])) fun v38 =>
 popO (SemP PG (binOp BinOp.gtr T_int v38 (Value.int IntKind.i64 2000))) fun v39 =>
 gopV (yV v39) false (fun k42 => k42 t1 h0) h0 fun v40 h41 =>
 gopV (yV v39) false (fun k45 => k45 t5 h41) h41 fun v43 h44 =>
 gopV (yV v39) false (fun k48 => popO (SemP PG (Instr.indexAt T_sl_carrackref13_Act v40 v43)) fun v49 => k48 v49 h44) h44 fun v46 h47 =>
 gopV (yV v39) false (fun k52 => popO (SemP PG (Instr.fieldAt T_carrackref13_Act v46 4)) fun v53 => k52 v53 h47) h47 fun v50 h51 =>
 gopV (yV v39) false (fun k56 => popO (SemP PG (Instr.fieldAt T_api_Packet v50 3)) fun v57 => k56 v57 h51) h51 fun v54 h55 =>
 gopV (yV v39) false (fun k60 => popO (SemE PG h55 (Instr.loadAt T_string v54)) fun v61 => k60 v61 h55) h55 fun v58 h59 =>
 gopV (yV v39) false (fun k64 => popO (SemP PG (Builtin.len_ #[T_string] T_int #[v58])) fun v65 => k64 v65 h59) h59 fun v62 h63 =>
 gopV (yV v39) false (fun k68 => popO (SemP PG (binOp BinOp.gtr T_int v62 (Value.int IntKind.i64 300))) fun v69 => k68 v69 h63) h63 fun v66 h67 =>
 popO (pickV v39 (Value.bool true) v66) fun v70 =>
 condV v70
 (R (Value.bool false) h67)
 (popO (SemP PG (binOp BinOp.add T_int t5 (Value.int IntKind.i64 1))) fun v71 =>
 n31 [t1, v71] h67))
 (R (Value.bool true) h0)
def carracklaw13_few (t0 : Value) (t1 : Value) (h0 : PH) (R : Value → PH → Prop) : Prop :=
 ∀ r1, h0 r1 = none → bindH (PH.set h0 r1 (.cells (Value.cells t0) T_2_uint64)) fun h2 =>
 popO (SemP PG (Instr.indexAt T_2_uint64 (Value.pointer (some ⟨r1, 0, none⟩)) (Value.int IntKind.i64 0))) fun v3 =>
 popO (SemE PG h2 (Instr.loadAt T_uint64 v3)) fun v4 =>
 popO (SemE PG h2 (binS BinOp.eql T_uint64 (.tmp 7) (.const (Value.int IntKind.u64 0)) v4 (Value.int IntKind.u64 0))) fun v5 =>
 gopV (yV v5) false (fun k8 => popO (SemP PG (Instr.indexAt T_2_uint64 (Value.pointer (some ⟨r1, 0, none⟩)) (Value.int IntKind.i64 1))) fun v9 => k8 v9 h2) h2 fun v6 h7 =>
 gopV (yV v5) false (fun k12 => popO (SemE PG h7 (Instr.loadAt T_uint64 v6)) fun v13 => k12 v13 h7) h7 fun v10 h11 =>
 gopV (yV v5) false (fun k16 => popO (SemE PG h11 (binS BinOp.eql T_uint64 (.tmp 11) (.const (Value.int IntKind.u64 0)) v10 (Value.int IntKind.u64 0))) fun v17 => k16 v17 h11) h11 fun v14 h15 =>
 popO (pickV v5 (Value.bool true) v14) fun v18 =>
 gopV (yV v18) false (fun k21 => k21 t1 h15) h15 fun v19 h20 =>
 gopV (yV v18) false (fun k24 => popO (SemP PG (Builtin.len_ #[T_sl_carrackref13_Act] T_int #[v19])) fun v25 => k24 v25 h20) h20 fun v22 h23 =>
 gopV (yV v18) false (fun k28 => popO (SemP PG (binOp BinOp.gtr T_int v22 (Value.int IntKind.i64 50))) fun v29 => k28 v29 h23) h23 fun v26 h27 =>
 popO (pickV v18 (Value.bool true) v26) fun v30 =>
 condV v30
 (R (Value.bool false) h27)
 (LoopL [1, 5] (fun n31 ρ h => carracklaw13_few_b32 R n31 (ρ 1) (ρ 5) h) [t1, (Value.int IntKind.i64 0)] h27)
theorem carracklaw13_few.call {t0 : Value} {t1 : Value} {h0 : PH} {R : Value → PH → Prop} (H : carracklaw13_few t0 t1 h0 R) : CallsH PG id_carracklaw13_few #[t0, t1] h0 R :=
  callsF_by (an1 4 [1, 5] 42) 200 mix Tryz.func10 (by kernel_rfl) (by kernel_rfl) (by kernel_rfl) (by kernel_rfl) (by simp [Tryz.ntmps10]) (by kernel_rfl) H
def chain_ledger_Log_b49 (R : Value → PH → Prop) (n48 : List Value → PH → Prop) (t0 : Value) (t2 : Value) (t4 : Value) (t7 : Value) (t8 : Value) (h0 : PH) : Prop :=
 popO (SemP PG (nilS t0)) fun v50 =>
 popO (SemP PG (Instr.fieldAt T_chain_ledger v50 2)) fun v51 =>
 popO (SemE PG h0 (Instr.loadAt T_sl_sl_api_Note v51)) fun v52 =>
 popO (SemP PG (Instr.fieldAt T_api_Place t4 0)) fun v53 =>
 popO (SemE PG h0 (Instr.loadAt T_uint64 v53)) fun v54 =>
 popO (SemP PG (nilS t0)) fun v55 =>
 popO (SemP PG (Instr.fieldAt T_chain_ledger v55 1)) fun v56 =>
 popO (SemE PG h0 (Instr.loadAt T_uint64 v56)) fun v57 =>
 popO (SemP PG (binOp BinOp.sub T_uint64 v54 v57)) fun v58 =>
 popO (SemP PG (Instr.indexAt T_sl_sl_api_Note v52 v58)) fun v59 =>
 popO (SemE PG h0 (Instr.loadAt T_sl_api_Note v59)) fun v60 =>
 popO (SemP PG (Instr.fieldAt T_api_Place t4 1)) fun v61 =>
 popO (SemE PG h0 (Instr.loadAt T_int v61)) fun v62 =>
 popO (SemP PG (Builtin.len_ #[T_sl_api_Note] T_int #[v60])) fun v63 =>
 popO (SemP PG (Builtin.min_ #[T_int, T_int] T_int #[v62, v63])) fun v64 =>
 popO (SemP PG (Builtin.max_ #[T_int, T_int] T_int #[(Value.int IntKind.i64 0), v64])) fun v65 =>
 popO (SemP PG (Instr.fieldAt T_api_Place t4 1)) fun v66 =>
 SemH PG (storeS T_int v66 v65) h0 fun v67 h68 =>
 popO (SemP PG (Builtin.len_ #[T_sl_api_Note] T_int #[v60])) fun v69 =>
 popO (SemP PG (Instr.fieldAt T_api_Place t4 1)) fun v70 =>
 popO (SemE PG h68 (Instr.loadAt T_int v70)) fun v71 =>
 popO (SemP PG (binOp BinOp.sub T_int v69 v71)) fun v72 =>
 popO (SemP PG (Builtin.len_ #[T_sl_api_Note] T_int #[t8])) fun v73 =>
 popO (SemP PG (binOp BinOp.sub T_int t2 v73)) fun v74 =>
 popO (SemP PG (Builtin.min_ #[T_int, T_int] T_int #[v72, v74])) fun v75 =>
 popO (SemP PG (Builtin.max_ #[T_int, T_int] T_int #[(Value.int IntKind.i64 0), v75])) fun v76 =>
 popO (SemP PG (Instr.fieldAt T_api_Place t4 1)) fun v77 =>
 popO (SemE PG h68 (Instr.loadAt T_int v77)) fun v78 =>
 popO (SemP PG (Instr.fieldAt T_api_Place t4 1)) fun v79 =>
 popO (SemE PG h68 (Instr.loadAt T_int v79)) fun v80 =>
 popO (SemP PG (binOp BinOp.add T_int v80 v76)) fun v81 =>
 popO (SemP PG (Instr.sliceAt T_sl_api_Note v60 (some v78) (some v81) none)) fun v82 =>
 SemH PG (Builtin.append_ #[T_sl_api_Note, T_sl_api_Note] T_sl_api_Note #[t8, v82]) h68 fun v83 h84 =>
 popO (SemP PG (Instr.fieldAt T_api_Place t4 1)) fun v85 =>
 popO (SemE PG h84 (Instr.loadAt T_int v85)) fun v86 =>
 popO (SemP PG (binOp BinOp.add T_int v86 v76)) fun v87 =>
 popO (SemP PG (Instr.fieldAt T_api_Place t4 1)) fun v88 =>
 SemH PG (storeS T_int v88 v87) h84 fun v89 h90 =>
 popO (SemP PG (Instr.fieldAt T_api_Place t4 1)) fun v91 =>
 popO (SemE PG h90 (Instr.loadAt T_int v91)) fun v92 =>
 popO (SemP PG (Builtin.len_ #[T_sl_api_Note] T_int #[v60])) fun v93 =>
 popO (SemP PG (binOp BinOp.lss T_int v92 v93)) fun v94 =>
 gopV (yV v94) false (fun k97 => popO (SemP PG (Instr.fieldAt T_api_Place t4 0)) fun v98 => k97 v98 h90) h90 fun v95 h96 =>
 gopV (yV v94) false (fun k101 => popO (SemE PG h96 (Instr.loadAt T_uint64 v95)) fun v102 => k101 v102 h96) h96 fun v99 h100 =>
 gopV (yV v94) false (fun k105 => k105 t0 h100) h100 fun v103 h104 =>
 gopV (yV v94) false (fun k108 => popO (SemP PG (nilS v103)) fun v109 => k108 v109 h104) h104 fun v106 h107 =>
 gopV (yV v94) false (fun k112 => popO (SemP PG (Instr.fieldAt T_chain_ledger v106 0)) fun v113 => k112 v113 h107) h107 fun v110 h111 =>
 gopV (yV v94) false (fun k116 => popO (SemE PG h111 (Instr.loadAt T_p_store_Store v110)) fun v117 => k116 v117 h111) h111 fun v114 h115 =>
 gopV (yV v94) false (fun k120 => CallsH PG id_store_Store_Height #[v114] h115 fun v121 h122 => k120 v121 h122) h115 fun v118 h119 =>
 ((yV v94 == some false) = true → SemE PG h119 (Instr.loadAt T_uint64 v95) = some v99) ∧ (gopV (yV v94) false (fun k125 => popO (SemE PG h119 (binS BinOp.eql T_uint64 (.tmp 82) (.tmp 87) v99 v118)) fun v126 => k125 v126 h119) h119 fun v123 h124 =>
 popO (pickV v94 (Value.bool true) v123) fun v127 =>
 condV v127
 (popO (SemE PG h124 (Instr.loadAt T_api_Place t4)) fun v128 =>
 SemH PG (storeS T_api_Place t7 v128) h124 fun v129 h130 =>
 (popO (SemE PG h130 (Instr.loadAt T_api_Place t7)) fun v131 =>
 R (Value.tuple #[v83, v131]) h130))
 (popO (SemP PG (Instr.fieldAt T_api_Place t4 0)) fun v132 =>
 popO (SemE PG h124 (Instr.loadAt T_uint64 v132)) fun v133 =>
 popO (SemP PG (binOp BinOp.add T_uint64 v133 (Value.int IntKind.u64 1))) fun v134 =>
 popO (SemP PG (Instr.build T_api_Place #[(0, v134)])) fun v135 =>
 SemH PG (storeS T_api_Place t4 v135) h124 fun v136 h137 =>
 n48 [t0, t2, t4, t7, v83] h137))
def chain_ledger_Log (t0 : Value) (t1 : Value) (t2 : Value) (h0 : PH) (R : Value → PH → Prop) : Prop :=
 ∀ r1, h0 r1 = none → bindH (PH.set h0 r1 (.cells (Value.cells t1) T_api_Place)) fun h2 =>
 ∀ r3, h2 r3 = none → bindH (PH.set h2 r3 (.cells (zcells PG T_api_Place) T_api_Place)) fun h4 =>
 popO (SemP PG (Instr.fieldAt T_api_Place (Value.pointer (some ⟨r1, 0, none⟩)) 0)) fun v5 =>
 popO (SemE PG h4 (Instr.loadAt T_uint64 v5)) fun v6 =>
 popO (SemP PG (nilS t0)) fun v7 =>
 popO (SemP PG (Instr.fieldAt T_chain_ledger v7 1)) fun v8 =>
 popO (SemE PG h4 (Instr.loadAt T_uint64 v8)) fun v9 =>
 popO (SemP PG (binOp BinOp.lss T_uint64 v6 v9)) fun v10 =>
 gopV (yV v10) false (fun k13 => popO (SemP PG (Instr.fieldAt T_api_Place (Value.pointer (some ⟨r1, 0, none⟩)) 0)) fun v14 => k13 v14 h4) h4 fun v11 h12 =>
 gopV (yV v10) false (fun k17 => popO (SemE PG h12 (Instr.loadAt T_uint64 v11)) fun v18 => k17 v18 h12) h12 fun v15 h16 =>
 gopV (yV v10) false (fun k21 => k21 t0 h16) h16 fun v19 h20 =>
 gopV (yV v10) false (fun k24 => popO (SemP PG (nilS v19)) fun v25 => k24 v25 h20) h20 fun v22 h23 =>
 gopV (yV v10) false (fun k28 => popO (SemP PG (Instr.fieldAt T_chain_ledger v22 0)) fun v29 => k28 v29 h23) h23 fun v26 h27 =>
 gopV (yV v10) false (fun k32 => popO (SemE PG h27 (Instr.loadAt T_p_store_Store v26)) fun v33 => k32 v33 h27) h27 fun v30 h31 =>
 gopV (yV v10) false (fun k36 => CallsH PG id_store_Store_Height #[v30] h31 fun v37 h38 => k36 v37 h38) h31 fun v34 h35 =>
 ((yV v10 == some false) = true → SemE PG h35 (Instr.loadAt T_uint64 v11) = some v15) ∧ (gopV (yV v10) false (fun k41 => popO (SemP PG (binOp BinOp.gtr T_uint64 v15 v34)) fun v42 => k41 v42 h35) h35 fun v39 h40 =>
 popO (pickV v10 (Value.bool true) v39) fun v43 =>
 condV v43
 (popO (SemE PG h40 (Instr.loadAt T_api_Place (Value.pointer (some ⟨r1, 0, none⟩)))) fun v44 =>
 SemH PG (storeS T_api_Place (Value.pointer (some ⟨r3, 0, none⟩)) v44) h40 fun v45 h46 =>
 (popO (SemE PG h46 (Instr.loadAt T_api_Place (Value.pointer (some ⟨r3, 0, none⟩)))) fun v47 =>
 R (Value.tuple #[(Value.slice none 0 0), v47]) h46))
 (LoopL [0, 2, 4, 7, 8] (fun n48 ρ h => chain_ledger_Log_b49 R n48 (ρ 0) (ρ 2) (ρ 4) (ρ 7) (ρ 8) h) [t0, t2, (Value.pointer (some ⟨r1, 0, none⟩)), (Value.pointer (some ⟨r3, 0, none⟩)), (Value.slice none 0 0)] h40))
def chain_ledger_Log.ann : Ann := { b := fun i => match i with | 2 => #[0, 1, 0, 4, 12, 28, 63, 127, 255, 511, 255, 1279, 3327, 7423, 15615, 32767, 65535] | 3 => #[0, 0, 3] | 4 => #[0, 1, 3, 7, 0, 16, 0, 64, 192, 448, 1008, 2047, 4095, 8191] | 9 => #[0, 1, 0, 4, 15, 31, 63, 127, 63, 319, 831, 1855, 3903, 8191, 16383] | 10 => #[0, 0, 1, 7] | _ => #[], ord := fun i => match i with | 2 => [0, 1, 2, 3, 4, 5, 6, 7, 8, 9, 10, 11, 12, 13, 14, 15, 16] | 3 => [0, 1, 2] | 4 => [0, 1, 2, 3, 4, 5, 6, 7, 8, 9, 10, 11, 12, 13] | 9 => [0, 1, 2, 3, 4, 5, 6, 7, 8, 9, 10, 11, 12, 13, 14] | 10 => [0, 1, 2, 3] | _ => [], keep := fun i => match i with | 4 => [0, 2, 4, 7, 8] | _ => [], n := 96 }
theorem chain_ledger_Log.call {t0 : Value} {t1 : Value} {t2 : Value} {h0 : PH} {R : Value → PH → Prop} (H : chain_ledger_Log t0 t1 t2 h0 R) : CallsH PG id_chain_ledger_Log #[t0, t1, t2] h0 R :=
  callsF_by chain_ledger_Log.ann 200 mix Tryz.func21 (by kernel_rfl) (by kernel_rfl) (by kernel_rfl) (by kernel_rfl) (by simp [Tryz.ntmps21]) (by kernel_rfl) H
def chain_ledger_First (t0 : Value) (h0 : PH) (R : Value → PH → Prop) : Prop :=
 ∀ r1, h0 r1 = none → bindH (PH.set h0 r1 (.cells (zcells PG T_api_Place) T_api_Place)) fun h2 =>
 popO (SemP PG (nilS t0)) fun v3 =>
 popO (SemP PG (Instr.fieldAt T_chain_ledger v3 1)) fun v4 =>
 popO (SemE PG h2 (Instr.loadAt T_uint64 v4)) fun v5 =>
 popO (SemP PG (Instr.build T_api_Place #[(0, v5)])) fun v6 =>
 SemH PG (storeS T_api_Place (Value.pointer (some ⟨r1, 0, none⟩)) v6) h2 fun v7 h8 =>
 popO (SemE PG h8 (Instr.loadAt T_api_Place (Value.pointer (some ⟨r1, 0, none⟩)))) fun v9 =>
 R v9 h8
theorem chain_ledger_First.call {t0 : Value} {h0 : PH} {R : Value → PH → Prop} (H : chain_ledger_First t0 h0 R) : CallsH PG id_chain_ledger_First #[t0] h0 R :=
  callsF_by (an0 8) 200 mix Tryz.func22 (by kernel_rfl) (by kernel_rfl) (by kernel_rfl) (by kernel_rfl) (by simp [Tryz.ntmps22]) (by kernel_rfl) H
def carracklaw13_ChainFollows_b186 (R : Value → PH → Prop) (n26 : List Value → PH → Prop) (n185 : List Value → PH → Prop) (t3 : Value) (t9 : Value) (t11 : Value) (t13 : Value) (t20 : Value) (h0 : PH) : Prop :=
 popO (SemP PG (Builtin.len_ #[T_sl_api_Note] T_int #[t13])) fun v187 =>
 popO (SemP PG (binOp BinOp.lss T_int t20 v187)) fun v188 =>
 condV v188
 (popO (SemP PG (Instr.indexAt T_sl_api_Note t13 t20)) fun v189 =>
 popO (SemP PG (Instr.fieldAt T_api_Note v189 1)) fun v190 =>
 popO (SemE PG h0 (Instr.loadAt T_api_Packet v190)) fun v191 =>
 CallsH PG id_packet_Check #[v191] h0 fun v192 h193 =>
 popO (SemE PG h193 (binS BinOp.neq T_api_Errno (.tmp 140) (.const (Value.int IntKind.i64 0)) v192 (Value.int IntKind.i64 0))) fun v194 =>
 gopV (yV v194) false (fun k197 => k197 t13 h193) h193 fun v195 h196 =>
 gopV (yV v194) false (fun k200 => k200 t20 h196) h196 fun v198 h199 =>
 gopV (yV v194) false (fun k203 => popO (SemP PG (Instr.indexAt T_sl_api_Note v195 v198)) fun v204 => k203 v204 h199) h199 fun v201 h202 =>
 gopV (yV v194) false (fun k207 => popO (SemP PG (Instr.fieldAt T_api_Note v201 0)) fun v208 => k207 v208 h202) h202 fun v205 h206 =>
 gopV (yV v194) false (fun k211 => popO (SemE PG h206 (Instr.loadAt T_int v205)) fun v212 => k211 v212 h206) h206 fun v209 h210 =>
 gopV (yV v194) false (fun k215 => popO (SemP PG (binOp BinOp.lss T_int v209 (Value.int IntKind.i64 1))) fun v216 => k215 v216 h210) h210 fun v213 h214 =>
 popO (pickV v194 (Value.bool true) v213) fun v217 =>
 gopV (yV v217) false (fun k220 => k220 t13 h214) h214 fun v218 h219 =>
 gopV (yV v217) false (fun k223 => k223 t20 h219) h219 fun v221 h222 =>
 gopV (yV v217) false (fun k226 => popO (SemP PG (Instr.indexAt T_sl_api_Note v218 v221)) fun v227 => k226 v227 h222) h222 fun v224 h225 =>
 gopV (yV v217) false (fun k230 => popO (SemP PG (Instr.fieldAt T_api_Note v224 0)) fun v231 => k230 v231 h225) h225 fun v228 h229 =>
 gopV (yV v217) false (fun k234 => popO (SemE PG h229 (Instr.loadAt T_int v228)) fun v235 => k234 v235 h229) h229 fun v232 h233 =>
 gopV (yV v217) false (fun k238 => popO (SemP PG (binOp BinOp.gtr T_int v232 (Value.int IntKind.i64 4))) fun v239 => k238 v239 h233) h233 fun v236 h237 =>
 popO (pickV v217 (Value.bool true) v236) fun v240 =>
 condV v240
 (R (Value.bool false) h237)
 (popO (SemP PG (binOp BinOp.add T_int t20 (Value.int IntKind.i64 1))) fun v241 =>
 n185 [t3, t9, t11, t13, v241] h237))
 (popO (SemP PG (binOp BinOp.add T_int t11 (Value.int IntKind.i64 1))) fun v242 =>
 n26 [t3, t9, v242] h0)
def carracklaw13_ChainFollows_b56 (R : Value → PH → Prop) (n26 : List Value → PH → Prop) (n55 : List Value → PH → Prop) (t3 : Value) (t9 : Value) (t11 : Value) (t12 : Value) (t13 : Value) (t14 : Value) (t15 : Value) (t16 : Value) (t17 : Value) (h0 : PH) : Prop :=
 popO (SemP PG (binOp BinOp.lss T_int t17 (Value.int IntKind.i64 200))) fun v57 =>
 condV v57
 (popO (SemP PG (nilS t12)) fun v58 =>
 popO (SemP PG (Instr.fieldAt T_chain_Chain v58 0)) fun v59 =>
 popO (SemE PG h0 (Instr.loadAt T_api_Place t16)) fun v60 =>
 popO (SemP PG (binOp BinOp.rem T_uint8 t3 (Value.int IntKind.u8 4))) fun v61 =>
 popO (SemP PG (convert T_uint8 T_int v61)) fun v62 =>
 popO (SemP PG (binOp BinOp.add T_int v62 (Value.int IntKind.i64 1))) fun v63 =>
 CallsH PG id_chain_ledger_Log #[v59, v60, v63] h0 fun v64 h65 =>
 (popO (SemP PG (Instr.extract v64 0)) fun v66 =>
 popO (SemP PG (Instr.extract v64 1)) fun v67 =>
 ∀ r68, h65 r68 = none → bindH (PH.set h65 r68 (.cells (zcells PG T_api_Place) T_api_Place)) fun h69 =>
 SemH PG (storeS T_api_Place (Value.pointer (some ⟨r68, 0, none⟩)) v67) h69 fun v70 h71 =>
 (popO (SemP PG (Instr.fieldAt T_api_Place (Value.pointer (some ⟨r68, 0, none⟩)) 0)) fun v72 =>
 popO (SemE PG h71 (Instr.loadAt T_uint64 v72)) fun v73 =>
 popO (SemP PG (Instr.fieldAt T_api_Place t16 0)) fun v74 =>
 popO (SemE PG h71 (Instr.loadAt T_uint64 v74)) fun v75 =>
 popO (SemP PG (binOp BinOp.lss T_uint64 v73 v75)) fun v76 =>
 gopV (yV v76) false (fun k79 => popO (SemP PG (Instr.fieldAt T_api_Place (Value.pointer (some ⟨r68, 0, none⟩)) 0)) fun v80 => k79 v80 h71) h71 fun v77 h78 =>
 gopV (yV v76) false (fun k83 => popO (SemE PG h78 (Instr.loadAt T_uint64 v77)) fun v84 => k83 v84 h78) h78 fun v81 h82 =>
 gopV (yV v76) false (fun k87 => popO (SemP PG (Instr.fieldAt T_api_Place t16 0)) fun v88 => k87 v88 h82) h82 fun v85 h86 =>
 gopV (yV v76) false (fun k91 => popO (SemE PG h86 (Instr.loadAt T_uint64 v85)) fun v92 => k91 v92 h86) h86 fun v89 h90 =>
 gopV (yV v76) false (fun k95 => popO (SemE PG h90 (binS BinOp.eql T_uint64 (.tmp 92) (.tmp 94) v81 v89)) fun v96 => k95 v96 h90) h90 fun v93 h94 =>
 gopV (yV v76) false (fun k99 => k99 v93 h94) h94 fun v97 h98 =>
 gopV (yV v97) true (fun k102 => popO (SemP PG (Instr.fieldAt T_api_Place (Value.pointer (some ⟨r68, 0, none⟩)) 1)) fun v103 => k102 v103 h98) h98 fun v100 h101 =>
 gopV (yV v97) true (fun k106 => popO (SemE PG h101 (Instr.loadAt T_int v100)) fun v107 => k106 v107 h101) h101 fun v104 h105 =>
 gopV (yV v97) true (fun k110 => popO (SemP PG (Instr.fieldAt T_api_Place t16 1)) fun v111 => k110 v111 h105) h105 fun v108 h109 =>
 gopV (yV v97) true (fun k114 => popO (SemE PG h109 (Instr.loadAt T_int v108)) fun v115 => k114 v115 h109) h109 fun v112 h113 =>
 gopV (yV v97) true (fun k118 => k118 v66 h113) h113 fun v116 h117 =>
 gopV (yV v97) true (fun k121 => popO (SemP PG (Builtin.len_ #[T_sl_api_Note] T_int #[v116])) fun v122 => k121 v122 h117) h117 fun v119 h120 =>
 gopV (yV v97) true (fun k125 => popO (SemP PG (binOp BinOp.add T_int v112 v119)) fun v126 => k125 v126 h120) h120 fun v123 h124 =>
 gopV (yV v97) true (fun k129 => popO (SemP PG (binOp BinOp.lss T_int v104 v123)) fun v130 => k129 v130 h124) h124 fun v127 h128 =>
 gopV (yV v76) false (fun k133 => popO (pickV v97 v127 (Value.bool false)) fun v134 => k133 v134 h128) h128 fun v131 h132 =>
 popO (pickV v76 (Value.bool true) v131) fun v135 =>
 gopV (yV v135) false (fun k138 => k138 v66 h132) h132 fun v136 h137 =>
 gopV (yV v135) false (fun k141 => popO (SemP PG (Builtin.len_ #[T_sl_api_Note] T_int #[v136])) fun v142 => k141 v142 h137) h137 fun v139 h140 =>
 gopV (yV v135) false (fun k145 => k145 t3 h140) h140 fun v143 h144 =>
 gopV (yV v135) false (fun k148 => popO (SemP PG (binOp BinOp.rem T_uint8 v143 (Value.int IntKind.u8 4))) fun v149 => k148 v149 h144) h144 fun v146 h147 =>
 gopV (yV v135) false (fun k152 => popO (SemP PG (convert T_uint8 T_int v146)) fun v153 => k152 v153 h147) h147 fun v150 h151 =>
 gopV (yV v135) false (fun k156 => popO (SemP PG (binOp BinOp.add T_int v150 (Value.int IntKind.i64 1))) fun v157 => k156 v157 h151) h151 fun v154 h155 =>
 gopV (yV v135) false (fun k160 => popO (SemP PG (binOp BinOp.gtr T_int v139 v154)) fun v161 => k160 v161 h155) h155 fun v158 h159 =>
 popO (pickV v135 (Value.bool true) v158) fun v162 =>
 condV v162
 (R (Value.bool false) h159)
 (SemH PG (Builtin.append_ #[T_sl_api_Note, T_sl_api_Note] T_sl_api_Note #[t15, v66]) h159 fun v163 h164 =>
 popO (SemE PG h164 (Instr.loadAt T_api_Place (Value.pointer (some ⟨r68, 0, none⟩)))) fun v165 =>
 SemH PG (storeS T_api_Place t16 v165) h164 fun v166 h167 =>
 popO (SemP PG (binOp BinOp.add T_int t17 (Value.int IntKind.i64 1))) fun v168 =>
 n55 [t3, t9, t11, t12, t13, t14, v163, t16, v168] h167))))
 (CallsH PG id_carrackref13_Notes #[t15, t13] h0 fun v169 h170 =>
 popO (SemP PG (Op.unary UnOp.not v169)) fun v171 =>
 gopV (yV v171) false (fun k174 => popO (SemE PG h170 (Instr.loadAt T_api_Place t16)) fun v175 => k174 v175 h170) h170 fun v172 h173 =>
 gopV (yV v171) false (fun k178 => popO (SemE PG h173 (Instr.loadAt T_api_Place t14)) fun v179 => k178 v179 h173) h173 fun v176 h177 =>
 gopV (yV v171) false (fun k182 => popO (SemE PG h177 (binS BinOp.neq T_api_Place (.tmp 125) (.tmp 126) v172 v176)) fun v183 => k182 v183 h177) h177 fun v180 h181 =>
 popO (pickV v171 (Value.bool true) v180) fun v184 =>
 condV v184
 (R (Value.bool false) h181)
 (LoopL [3, 9, 11, 13, 20] (fun n185 ρ h => carracklaw13_ChainFollows_b186 R n26 n185 (ρ 3) (ρ 9) (ρ 11) (ρ 13) (ρ 20) h) [t3, t9, t11, t13, (Value.int IntKind.i64 0)] h181))
def carracklaw13_ChainFollows_b27 (R : Value → PH → Prop) (n26 : List Value → PH → Prop) (t3 : Value) (t9 : Value) (t11 : Value) (h0 : PH) : Prop :=
 popO (SemP PG (binOp BinOp.lss T_int t11 (Value.int IntKind.i64 2))) fun v28 =>
 condV v28
 (popO (SemP PG (nilS t9)) fun v29 =>
 popO (SemP PG (Instr.fieldAt T_carracklaw13_two v29 0)) fun v30 =>
 popO (SemP PG (Instr.indexAt T_2_p_chain_Chain v30 t11)) fun v31 =>
 popO (SemE PG h0 (Instr.loadAt T_p_chain_Chain v31)) fun v32 =>
 popO (SemP PG (nilS v32)) fun v33 =>
 popO (SemP PG (Instr.fieldAt T_chain_Chain v33 0)) fun v34 =>
 popO (SemP PG (nilS v32)) fun v35 =>
 popO (SemP PG (Instr.fieldAt T_chain_Chain v35 0)) fun v36 =>
 CallsH PG id_chain_ledger_First #[v36] h0 fun v37 h38 =>
 (CallsH PG id_chain_ledger_Log #[v34, v37, (Value.int IntKind.i64 1000)] h38 fun v39 h40 =>
 (popO (SemP PG (Instr.extract v39 0)) fun v41 =>
 popO (SemP PG (Instr.extract v39 1)) fun v42 =>
 ∀ r43, h40 r43 = none → bindH (PH.set h40 r43 (.cells (zcells PG T_api_Place) T_api_Place)) fun h44 =>
 SemH PG (storeS T_api_Place (Value.pointer (some ⟨r43, 0, none⟩)) v42) h44 fun v45 h46 =>
 (popO (SemP PG (nilS v32)) fun v47 =>
 popO (SemP PG (Instr.fieldAt T_chain_Chain v47 0)) fun v48 =>
 CallsH PG id_chain_ledger_First #[v48] h46 fun v49 h50 =>
 ∀ r51, h50 r51 = none → bindH (PH.set h50 r51 (.cells (zcells PG T_api_Place) T_api_Place)) fun h52 =>
 SemH PG (storeS T_api_Place (Value.pointer (some ⟨r51, 0, none⟩)) v49) h52 fun v53 h54 =>
 LoopL [3, 9, 11, 12, 13, 14, 15, 16, 17] (fun n55 ρ h => carracklaw13_ChainFollows_b56 R n26 n55 (ρ 3) (ρ 9) (ρ 11) (ρ 12) (ρ 13) (ρ 14) (ρ 15) (ρ 16) (ρ 17) h) [t3, t9, t11, v32, v41, (Value.pointer (some ⟨r43, 0, none⟩)), (Value.slice none 0 0), (Value.pointer (some ⟨r51, 0, none⟩)), (Value.int IntKind.i64 0)] h54))))
 (R (Value.bool true) h0)
def carracklaw13_ChainFollows_b18 (R : Value → PH → Prop) (n17 : List Value → PH → Prop) (t2 : Value) (t3 : Value) (t9 : Value) (t10 : Value) (h0 : PH) : Prop :=
 popO (SemP PG (Builtin.len_ #[T_sl_carrackref13_Act] T_int #[t2])) fun v19 =>
 popO (SemP PG (binOp BinOp.lss T_int t10 v19)) fun v20 =>
 condV v20
 (popO (SemP PG (Instr.indexAt T_sl_carrackref13_Act t2 t10)) fun v21 =>
 popO (SemE PG h0 (Instr.loadAt T_carrackref13_Act v21)) fun v22 =>
 CallsH PG id_carracklaw13_two_do #[t9, v22] h0 fun v23 h24 =>
 popO (SemP PG (binOp BinOp.add T_int t10 (Value.int IntKind.i64 1))) fun v25 =>
 n17 [t2, t3, t9, v25] h24)
 (LoopL [3, 9, 11] (fun n26 ρ h => carracklaw13_ChainFollows_b27 R n26 (ρ 3) (ρ 9) (ρ 11) h) [t3, t9, (Value.int IntKind.i64 0)] h0)
def carracklaw13_ChainFollows (t0 : Value) (t1 : Value) (t2 : Value) (t3 : Value) (h0 : PH) (R : Value → PH → Prop) : Prop :=
 ∀ r1, h0 r1 = none → bindH (PH.set h0 r1 (.cells (Value.cells t0) T_2_uint64)) fun h2 =>
 ∀ r3, h2 r3 = none → bindH (PH.set h2 r3 (.cells (Value.cells t1) T_2_uint64)) fun h4 =>
 CallsH PG id_carracklaw13_awake #[] h4 fun v5 h6 =>
 popO (SemP PG (Op.unary UnOp.not v5)) fun v7 =>
 condV v7
 (R (Value.bool false) h6)
 (popO (SemE PG h6 (Instr.loadAt T_2_uint64 (Value.pointer (some ⟨r3, 0, none⟩)))) fun v8 =>
 CallsH PG id_carracklaw13_few #[v8, t2] h6 fun v9 h10 =>
 popO (SemP PG (Op.unary UnOp.not v9)) fun v11 =>
 condV v11
 (R (Value.bool true) h10)
 (popO (SemE PG h10 (Instr.loadAt T_2_uint64 (Value.pointer (some ⟨r1, 0, none⟩)))) fun v12 =>
 popO (SemE PG h10 (Instr.loadAt T_2_uint64 (Value.pointer (some ⟨r3, 0, none⟩)))) fun v13 =>
 CallsH PG id_carracklaw13_made #[v12, v13] h10 fun v14 h15 =>
 popO (SemE PG h15 (binS BinOp.eql T_p_carracklaw13_two (.tmp 30) (.const (Value.pointer none)) v14 (Value.pointer none))) fun v16 =>
 condV v16
 (R (Value.bool false) h15)
 (LoopL [2, 3, 9, 10] (fun n17 ρ h => carracklaw13_ChainFollows_b18 R n17 (ρ 2) (ρ 3) (ρ 9) (ρ 10) h) [t2, t3, v14, (Value.int IntKind.i64 0)] h15)))
def carracklaw13_ChainFollows.ann : Ann := { b := fun i => match i with | 16 => #[0, 1, 3, 0, 8, 24, 56, 127, 255, 511, 511, 0, 3071, 8191] | 22 => #[0, 1, 3, 0, 0, 16, 48, 112, 255, 511, 1023, 1023, 0, 6143, 16383] | _ => #[], ord := fun i => match i with | 16 => [0, 1, 2, 3, 4, 5, 6, 7, 8, 9, 10, 11, 12, 13] | 22 => [0, 1, 2, 3, 4, 5, 6, 7, 8, 9, 10, 11, 12, 13, 14] | _ => [], keep := fun i => match i with | 9 => [2, 3, 9, 10] | 13 => [3, 9, 11] | 20 => [3, 9, 11, 12, 13, 14, 15, 16, 17] | 30 => [3, 9, 11, 13, 20] | _ => [], n := 158 }
theorem carracklaw13_ChainFollows.call {t0 : Value} {t1 : Value} {t2 : Value} {t3 : Value} {h0 : PH} {R : Value → PH → Prop} (H : carracklaw13_ChainFollows t0 t1 t2 t3 h0 R) : CallsH PG id_carracklaw13_ChainFollows #[t0, t1, t2, t3] h0 R :=
  callsF_by carracklaw13_ChainFollows.ann 200 mix Tryz.func6 (by kernel_rfl) (by kernel_rfl) (by kernel_rfl) (by kernel_rfl) (by simp [Tryz.ntmps6]) (by kernel_rfl) H
def carrackref13_Notes_b5 (R : Value → PH → Prop) (n4 : List Value → PH → Prop) (t0 : Value) (t1 : Value) (t5 : Value) (h0 : PH) : Prop :=
 popO (SemP PG (Builtin.len_ #[T_sl_api_Note] T_int #[t0])) fun v6 =>
 popO (SemP PG (binOp BinOp.lss T_int t5 v6)) fun v7 =>
 condV v7
 (popO (SemP PG (Instr.indexAt T_sl_api_Note t0 t5)) fun v8 =>
 popO (SemE PG h0 (Instr.loadAt T_api_Note v8)) fun v9 =>
 popO (SemP PG (Instr.indexAt T_sl_api_Note t1 t5)) fun v10 =>
 popO (SemE PG h0 (Instr.loadAt T_api_Note v10)) fun v11 =>
 popO (SemE PG h0 (binS BinOp.neq T_api_Note (.tmp 20) (.tmp 24) v9 v11)) fun v12 =>
 condV v12
 (R (Value.bool false) h0)
 (popO (SemP PG (binOp BinOp.add T_int t5 (Value.int IntKind.i64 1))) fun v13 =>
 n4 [t0, t1, v13] h0))
 (R (Value.bool true) h0)
def carrackref13_Notes (t0 : Value) (t1 : Value) (h0 : PH) (R : Value → PH → Prop) : Prop :=
 popO (SemP PG (Builtin.len_ #[T_sl_api_Note] T_int #[t0])) fun v1 =>
 popO (SemP PG (Builtin.len_ #[T_sl_api_Note] T_int #[t1])) fun v2 =>
 popO (SemE PG h0 (binS BinOp.neq T_int (.tmp 7) (.tmp 9) v1 v2)) fun v3 =>
 condV v3
 (R (Value.bool false) h0)
 (LoopL [0, 1, 5] (fun n4 ρ h => carrackref13_Notes_b5 R n4 (ρ 0) (ρ 1) (ρ 5) h) [t0, t1, (Value.int IntKind.i64 0)] h0)
def carrackref13_Notes.ann : Ann := { b := fun i => match i with | 6 => #[0, 0, 3, 7, 0, 0, 48, 112, 255] | _ => #[], ord := fun i => match i with | 6 => [0, 1, 2, 3, 4, 5, 6, 7, 8] | _ => [], keep := fun i => match i with | 4 => [0, 1, 5] | _ => [], n := 26 }
theorem carrackref13_Notes.call {t0 : Value} {t1 : Value} {h0 : PH} {R : Value → PH → Prop} (H : carrackref13_Notes t0 t1 h0 R) : CallsH PG id_carrackref13_Notes #[t0, t1] h0 R :=
  callsF_by carrackref13_Notes.ann 200 mix Tryz.func23 (by kernel_rfl) (by kernel_rfl) (by kernel_rfl) (by kernel_rfl) (by simp [Tryz.ntmps23]) (by kernel_rfl) H
end Go.Proofs.YtcoajnpchhmgjaaGreatDoor
