/- The texts of this claim, put together. -/
import Derived.Test.YtlkjippiaghbmaaRecGRC1
import Derived.Test.YtlkjippiaghbmaaRows
import Derived.ReadAgain
import Derived.ChangeReads
import Derived.ChangeBears
import Derived.RowKit3
import Derived.ChangeSame
import Derived.OpenShut
import Derived.Deep.Slices
import Derived.WalkKit
import Derived.ProofKit
import Derived.ChangeMaps5
/- What the functions of this program do on a part of memory, by program (prt.py) out of Lean's own print of them; for each the theorem that its code is that. -/
set_option maxRecDepth 100000
set_option linter.unusedVariables false
namespace Go.Proofs.Ytlkjippiaghbmaa
open Go
def carracklaw17_RecordWhole_k45 (R : Value → PH → Prop) (n18 : List Value → PH → Prop) (t0 : Value) (t1 : Value) (t5 : Value) (t6 : Value) (t7 : Value) (h0 : PH) : Prop :=
 popO (SemP PG (binOp BinOp.add T_int t7 (Value.int IntKind.i64 1))) fun v46 =>
 n18 [t0, t1, t5, t6, v46] h0
def carracklaw17_RecordWhole_k44 (R : Value → PH → Prop) (n18 : List Value → PH → Prop) (t0 : Value) (t1 : Value) (t5 : Value) (t6 : Value) (t7 : Value) (h0 : PH) : Prop :=
 carracklaw17_RecordWhole_k45 R n18 t0 t1 t5 t6 t7 h0
def carracklaw17_RecordWhole_b71 (R : Value → PH → Prop) (n70 : List Value → PH → Prop) (t0 : Value) (t1 : Value) (t5 : Value) (t6 : Value) (t10 : Value) (t11 : Value) (t12 : Value) (t13 : Value) (t14 : Value) (h0 : PH) : Prop :=
 popO (SemP PG (Builtin.len_ #[T_sl_api_Record] T_int #[t1])) fun v72 =>
 popO (SemP PG (binOp BinOp.lss T_int t14 v72)) fun v73 =>
 gopV (yV v73) true (fun k76 => k76 t13 h0) h0 fun v74 h75 =>
 gopV (yV v73) true (fun k79 => popO (SemE PG h75 (binS BinOp.eql T_api_Errno (.tmp 85) (.const (Value.int IntKind.i64 0)) v74 (Value.int IntKind.i64 0))) fun v80 => k79 v80 h75) h75 fun v77 h78 =>
 popO (pickV v73 v77 (Value.bool false)) fun v81 =>
 condV v81
 (popO (SemE PG h78 (Instr.loadAt T_api_Daemon t12)) fun v82 =>
 popO (SemP PG (Instr.indexAt T_sl_api_Record t1 t14)) fun v83 =>
 popO (SemE PG h78 (Instr.loadAt T_api_Record v83)) fun v84 =>
 CallsH PG id_record_Step #[v82, t0, v84] h78 fun v85 h86 =>
 (popO (SemP PG (Instr.extract v85 0)) fun v87 =>
 popO (SemP PG (Instr.extract v85 1)) fun v88 =>
 SemH PG (storeS T_api_Daemon t12 v87) h86 fun v89 h90 =>
 (popO (SemP PG (binOp BinOp.add T_int t14 (Value.int IntKind.i64 1))) fun v91 =>
 n70 [t0, t1, t5, t6, t10, t11, t12, v88, v91] h90)))
 (popO (SemE PG h78 (binS BinOp.neq T_api_Errno (.tmp 100) (.tmp 101) t11 t13)) fun v92 =>
 condV v92
 (R (Value.bool false) h78)
 (popO (SemE PG h78 (binS BinOp.neq T_api_Errno (.tmp 103) (.const (Value.int IntKind.i64 0)) t11 (Value.int IntKind.i64 0))) fun v93 =>
 condV v93
 (popO (SemE PG h78 (Instr.loadAt T_api_Daemon t10)) fun v94 =>
 popO (SemP PG (Instr.build T_api_Daemon #[])) fun v95 =>
 CallsH PG id_carrackref17_SameState #[v94, v95] h78 fun v96 h97 =>
 R v96 h97)
 (popO (SemP PG (Instr.sliceAt T_sl_string t5 (some t6) none none)) fun v98 =>
 CallsH PG id_record_Replay #[t0, v98] h78 fun v99 h100 =>
 popO (SemP PG (Instr.extract v99 0)) fun v101 =>
 popO (SemP PG (Instr.extract v99 1)) fun v102 =>
 ∀ r103, h100 r103 = none → bindH (PH.set h100 r103 (.cells (zcells PG T_api_Daemon) T_api_Daemon)) fun h104 =>
 SemH PG (storeS T_api_Daemon (Value.pointer (some ⟨r103, 0, none⟩)) v101) h104 fun v105 h106 =>
 popO (SemE PG h106 (Instr.loadAt T_api_Daemon t10)) fun v107 =>
 popO (SemE PG h106 (Instr.loadAt T_api_Daemon t12)) fun v108 =>
 CallsH PG id_carrackref17_SameState #[v107, v108] h106 fun v109 h110 =>
 gopV (yV v109) true (fun k113 => k113 v102 h110) h110 fun v111 h112 =>
 gopV (yV v109) true (fun k116 => popO (SemE PG h112 (binS BinOp.eql T_api_Errno (.tmp 120) (.const (Value.int IntKind.i64 0)) v111 (Value.int IntKind.i64 0))) fun v117 => k116 v117 h112) h112 fun v114 h115 =>
 popO (pickV v109 v114 (Value.bool false)) fun v118 =>
 gopV (yV v118) true (fun k121 => popO (SemE PG h115 (Instr.loadAt T_api_Daemon (Value.pointer (some ⟨r103, 0, none⟩)))) fun v122 => k121 v122 h115) h115 fun v119 h120 =>
 gopV (yV v118) true (fun k125 => popO (SemE PG h120 (Instr.loadAt T_api_Daemon t12)) fun v126 => k125 v126 h120) h120 fun v123 h124 =>
 gopV (yV v118) true (fun k129 => CallsH PG id_carrackref17_SameState #[v119, v123] h124 fun v130 h131 => k129 v130 h131) h124 fun v127 h128 =>
 popO (pickV v118 v127 (Value.bool false)) fun v132 =>
 gopV (yV v132) true (fun k135 => popO (SemE PG h128 (Instr.loadAt T_api_Daemon t12)) fun v136 => k135 v136 h128) h128 fun v133 h134 =>
 gopV (yV v132) true (fun k139 => k139 t0 h134) h134 fun v137 h138 =>
 gopV (yV v132) true (fun k142 => CallsH PG id_record_Check #[v133, v137] h138 fun v143 h144 => k142 v143 h144) h138 fun v140 h141 =>
 gopV (yV v132) true (fun k147 => popO (SemE PG h141 (binS BinOp.eql T_api_Errno (.tmp 131) (.const (Value.int IntKind.i64 0)) v140 (Value.int IntKind.i64 0))) fun v148 => k147 v148 h141) h141 fun v145 h146 =>
 popO (pickV v132 v145 (Value.bool false)) fun v149 =>
 R v149 h146)))
def carracklaw17_RecordWhole_b19 (R : Value → PH → Prop) (n18 : List Value → PH → Prop) (t0 : Value) (t1 : Value) (t5 : Value) (t6 : Value) (t7 : Value) (h0 : PH) : Prop :=
 popO (SemP PG (Builtin.len_ #[T_sl_api_Record] T_int #[t1])) fun v20 =>
 popO (SemP PG (binOp BinOp.lss T_int t7 v20)) fun v21 =>
 condV v21
 (popO (SemP PG (Instr.indexAt T_sl_api_Record t1 t7)) fun v22 =>
 popO (SemE PG h0 (Instr.loadAt T_api_Record v22)) fun v23 =>
 CallsH PG id_carracklaw17_few #[v23] h0 fun v24 h25 =>
 popO (SemP PG (Op.unary UnOp.not v24)) fun v26 =>
 condV v26
 (R (Value.bool true) h25)
 (popO (SemP PG (Instr.indexAt T_sl_api_Record t1 t7)) fun v27 =>
 popO (SemE PG h25 (Instr.loadAt T_api_Record v27)) fun v28 =>
 CallsH PG id_record_Bytes #[v28] h25 fun v29 h30 =>
 popO (SemP PG (Instr.extract v29 0)) fun v31 =>
 popO (SemP PG (Instr.extract v29 1)) fun v32 =>
 popO (SemE PG h30 (binS BinOp.neq T_api_Errno (.tmp 47) (.const (Value.int IntKind.i64 0)) v32 (Value.int IntKind.i64 0))) fun v33 =>
 condV v33
 (R (Value.bool true) h30)
 (popO (SemA PG (Instr.buildSlice T_sl_string 1 #[(0, v31)])) fun x35 => ∀ r34, h30 r34 = none → popO (SemP PG (x35.2 r34)) fun v36 => bindH (PH.set h30 r34 x35.1) fun h37 =>
 SemH PG (Builtin.append_ #[T_sl_string, T_sl_string] T_sl_string #[t5, v36]) h37 fun v38 h39 =>
 popO (SemP PG (Instr.indexAt T_sl_api_Record t1 t7)) fun v40 =>
 popO (SemP PG (Instr.fieldAt T_api_Record v40 0)) fun v41 =>
 popO (SemE PG h39 (Instr.loadAt T_int v41)) fun v42 =>
 popO (SemE PG h39 (binS BinOp.eql T_int (.tmp 57) (.const (Value.int IntKind.i64 1)) v42 (Value.int IntKind.i64 1))) fun v43 =>
 condV v43
 (carracklaw17_RecordWhole_k44 R n18 t0 t1 v38 t7 t7 h39)
 (carracklaw17_RecordWhole_k44 R n18 t0 t1 v38 t6 t7 h39))))
 (CallsH PG id_record_Replay #[t0, t5] h0 fun v47 h48 =>
 popO (SemP PG (Instr.extract v47 0)) fun v49 =>
 popO (SemP PG (Instr.extract v47 1)) fun v50 =>
 ∀ r51, h48 r51 = none → bindH (PH.set h48 r51 (.cells (zcells PG T_api_Daemon) T_api_Daemon)) fun h52 =>
 SemH PG (storeS T_api_Daemon (Value.pointer (some ⟨r51, 0, none⟩)) v49) h52 fun v53 h54 =>
 popO (SemP PG (Instr.indexAt T_sl_api_Record t1 (Value.int IntKind.i64 0))) fun v55 =>
 popO (SemP PG (Instr.fieldAt T_api_Record v55 0)) fun v56 =>
 popO (SemE PG h54 (Instr.loadAt T_int v56)) fun v57 =>
 popO (SemE PG h54 (binS BinOp.neq T_int (.tmp 69) (.const (Value.int IntKind.i64 1)) v57 (Value.int IntKind.i64 1))) fun v58 =>
 condV v58
 (popO (SemE PG h54 (binS BinOp.eql T_api_Errno (.tmp 71) (.const (Value.int IntKind.i64 5)) v50 (Value.int IntKind.i64 5))) fun v59 =>
 R v59 h54)
 (popO (SemP PG (Instr.indexAt T_sl_api_Record t1 (Value.int IntKind.i64 0))) fun v60 =>
 popO (SemP PG (Instr.fieldAt T_api_Record v60 1)) fun v61 =>
 popO (SemE PG h54 (Instr.loadAt T_api_Daemon v61)) fun v62 =>
 ∀ r63, h54 r63 = none → bindH (PH.set h54 r63 (.cells (zcells PG T_api_Daemon) T_api_Daemon)) fun h64 =>
 SemH PG (storeS T_api_Daemon (Value.pointer (some ⟨r63, 0, none⟩)) v62) h64 fun v65 h66 =>
 popO (SemE PG h66 (Instr.loadAt T_api_Daemon (Value.pointer (some ⟨r63, 0, none⟩)))) fun v67 =>
 CallsH PG id_record_Check #[v67, t0] h66 fun v68 h69 =>
 LoopL [0, 1, 5, 6, 10, 11, 12, 13, 14] (fun n70 ρ h => carracklaw17_RecordWhole_b71 R n70 (ρ 0) (ρ 1) (ρ 5) (ρ 6) (ρ 10) (ρ 11) (ρ 12) (ρ 13) (ρ 14) h) [t0, t1, t5, t6, (Value.pointer (some ⟨r51, 0, none⟩)), v50, (Value.pointer (some ⟨r63, 0, none⟩)), v68, (Value.int IntKind.i64 1)] h69))
def carracklaw17_RecordWhole (t0 : Value) (t1 : Value) (h0 : PH) (R : Value → PH → Prop) : Prop :=
 CallsH PG id_carracklaw17_awake #[] h0 fun v1 h2 =>
 popO (SemP PG (Op.unary UnOp.not v1)) fun v3 =>
 condV v3
 (R (Value.bool false) h2)
 (popO (SemP PG (Builtin.len_ #[T_sl_api_Record] T_int #[t1])) fun v4 =>
 popO (SemP PG (binOp BinOp.gtr T_int v4 (Value.int IntKind.i64 30))) fun v5 =>
 gopV (yV v5) false (fun k8 => k8 t1 h2) h2 fun v6 h7 =>
 gopV (yV v5) false (fun k11 => popO (SemP PG (Builtin.len_ #[T_sl_api_Record] T_int #[v6])) fun v12 => k11 v12 h7) h7 fun v9 h10 =>
 gopV (yV v5) false (fun k15 => popO (SemE PG h10 (binS BinOp.eql T_int (.tmp 24) (.const (Value.int IntKind.i64 0)) v9 (Value.int IntKind.i64 0))) fun v16 => k15 v16 h10) h10 fun v13 h14 =>
 popO (pickV v5 (Value.bool true) v13) fun v17 =>
 condV v17
 (R (Value.bool true) h14)
 (LoopL [0, 1, 5, 6, 7] (fun n18 ρ h => carracklaw17_RecordWhole_b19 R n18 (ρ 0) (ρ 1) (ρ 5) (ρ 6) (ρ 7) h) [t0, t1, (Value.slice none 0 0), (Value.int IntKind.i64 0), (Value.int IntKind.i64 0)] h14))
def carracklaw17_RecordWhole.ann : Ann := { b := fun i => match i with | 26 => #[0, 0, 0, 0, 12, 28, 63, 127, 255, 255, 511, 2047] | _ => #[], ord := fun i => match i with | 26 => [0, 1, 2, 3, 4, 5, 6, 7, 8, 9, 10, 11] | _ => [], keep := fun i => match i with | 8 => [0, 1, 5, 6, 7] | 24 => [0, 1, 5, 6, 10, 11, 12, 13, 14] | _ => [], n := 134 }
theorem carracklaw17_RecordWhole.eq (t0 : Value) (t1 : Value) (h0 : PH) (R : Value → PH → Prop) : codeF PG carracklaw17_RecordWhole.ann 200 (bodyOf Try.f3) (endH PG Try.f3 R) (fun t => (#[t0, t1] : Array Value).getD t undef) h0 = carracklaw17_RecordWhole t0 t1 h0 R := by kernel_rfl
theorem carracklaw17_RecordWhole.call {t0 : Value} {t1 : Value} {h0 : PH} {R : Value → PH → Prop} (H : carracklaw17_RecordWhole t0 t1 h0 R) : CallsH PG id_carracklaw17_RecordWhole #[t0, t1] h0 R :=
  callsF_by carracklaw17_RecordWhole.ann 200 mix Try.func3 (by kernel_rfl) (by kernel_rfl) (by kernel_rfl) (by kernel_rfl) (by simp [Try.ntmps3]) (carracklaw17_RecordWhole.eq t0 t1 h0 R) H

def carracklaw17_awake (h0 : PH) (R : Value → PH → Prop) : Prop :=
 popO (SemP PG (Instr.build T_api_Packet #[(1, (Value.int IntKind.u64 1)), (2, (Value.int IntKind.u64 9))])) fun v1 =>
 popO (SemP PG (Instr.build T_api_Note #[(0, (Value.int IntKind.i64 1)), (1, v1)])) fun v2 =>
 ∀ r3, h0 r3 = none → bindH (PH.set h0 r3 (.cells (zcells PG T_api_Note) T_api_Note)) fun h4 =>
 SemH PG (storeS T_api_Note (Value.pointer (some ⟨r3, 0, none⟩)) v2) h4 fun v5 h6 =>
 popO (SemP PG (Instr.build T_api_Record #[(0, (Value.int IntKind.i64 1))])) fun v7 =>
 CallsH PG id_record_Bytes #[v7] h6 fun v8 h9 =>
 popO (SemP PG (Instr.extract v8 0)) fun v10 =>
 popO (SemP PG (Instr.extract v8 1)) fun v11 =>
 popO (SemP PG (Instr.build T_api_Place #[(0, (Value.int IntKind.u64 5)), (1, (Value.int IntKind.i64 1))])) fun v12 =>
 popO (SemE PG h9 (Instr.loadAt T_api_Note (Value.pointer (some ⟨r3, 0, none⟩)))) fun v13 =>
 popO (SemA PG (Instr.buildSlice T_sl_api_Note 1 #[(0, v13)])) fun x15 => ∀ r14, h9 r14 = none → popO (SemP PG (x15.2 r14)) fun v16 => bindH (PH.set h9 r14 x15.1) fun h17 =>
 popO (SemP PG (Instr.build T_api_Record #[(0, (Value.int IntKind.i64 2)), (3, v12), (4, v16)])) fun v18 =>
 CallsH PG id_record_Bytes #[v18] h17 fun v19 h20 =>
 popO (SemP PG (Instr.extract v19 0)) fun v21 =>
 popO (SemP PG (Instr.extract v19 1)) fun v22 =>
 popO (SemA PG (Instr.buildSlice T_sl_string 2 #[(0, v10), (1, v21)])) fun x24 => ∀ r23, h20 r23 = none → popO (SemP PG (x24.2 r23)) fun v25 => bindH (PH.set h20 r23 x24.1) fun h26 =>
 CallsH PG id_record_Replay #[(Value.int IntKind.i64 2), v25] h26 fun v27 h28 =>
 popO (SemP PG (Instr.extract v27 0)) fun v29 =>
 popO (SemP PG (Instr.extract v27 1)) fun v30 =>
 ∀ r31, h28 r31 = none → bindH (PH.set h28 r31 (.cells (zcells PG T_api_Daemon) T_api_Daemon)) fun h32 =>
 SemH PG (storeS T_api_Daemon (Value.pointer (some ⟨r31, 0, none⟩)) v29) h32 fun v33 h34 =>
 popO (SemE PG h34 (binS BinOp.eql T_api_Errno (.tmp 30) (.const (Value.int IntKind.i64 0)) v11 (Value.int IntKind.i64 0))) fun v35 =>
 gopV (yV v35) true (fun k38 => k38 v22 h34) h34 fun v36 h37 =>
 gopV (yV v35) true (fun k41 => popO (SemE PG h37 (binS BinOp.eql T_api_Errno (.tmp 33) (.const (Value.int IntKind.i64 0)) v36 (Value.int IntKind.i64 0))) fun v42 => k41 v42 h37) h37 fun v39 h40 =>
 popO (pickV v35 v39 (Value.bool false)) fun v43 =>
 gopV (yV v43) true (fun k46 => k46 v30 h40) h40 fun v44 h45 =>
 gopV (yV v43) true (fun k49 => popO (SemE PG h45 (binS BinOp.eql T_api_Errno (.tmp 37) (.const (Value.int IntKind.i64 0)) v44 (Value.int IntKind.i64 0))) fun v50 => k49 v50 h45) h45 fun v47 h48 =>
 popO (pickV v43 v47 (Value.bool false)) fun v51 =>
 gopV (yV v51) true (fun k54 => popO (SemP PG (Instr.fieldAt T_api_Daemon (Value.pointer (some ⟨r31, 0, none⟩)) 1)) fun v55 => k54 v55 h48) h48 fun v52 h53 =>
 gopV (yV v51) true (fun k58 => popO (SemE PG h53 (Instr.loadAt T_sl_api_Item v52)) fun v59 => k58 v59 h53) h53 fun v56 h57 =>
 gopV (yV v51) true (fun k62 => popO (SemP PG (Builtin.len_ #[T_sl_api_Item] T_int #[v56])) fun v63 => k62 v63 h57) h57 fun v60 h61 =>
 gopV (yV v51) true (fun k66 => popO (SemE PG h61 (binS BinOp.eql T_int (.tmp 43) (.const (Value.int IntKind.i64 1)) v60 (Value.int IntKind.i64 1))) fun v67 => k66 v67 h61) h61 fun v64 h65 =>
 popO (pickV v51 v64 (Value.bool false)) fun v68 =>
 gopV (yV v68) true (fun k71 => popO (SemP PG (Instr.fieldAt T_api_Daemon (Value.pointer (some ⟨r31, 0, none⟩)) 1)) fun v72 => k71 v72 h65) h65 fun v69 h70 =>
 gopV (yV v68) true (fun k75 => popO (SemE PG h70 (Instr.loadAt T_sl_api_Item v69)) fun v76 => k75 v76 h70) h70 fun v73 h74 =>
 gopV (yV v68) true (fun k79 => popO (SemP PG (Instr.indexAt T_sl_api_Item v73 (Value.int IntKind.i64 0))) fun v80 => k79 v80 h74) h74 fun v77 h78 =>
 gopV (yV v68) true (fun k83 => popO (SemE PG h78 (Instr.loadAt T_api_Item v77)) fun v84 => k83 v84 h78) h78 fun v81 h82 =>
 gopV (yV v68) true (fun k87 => popO (SemP PG (Instr.fieldAt T_api_Note (Value.pointer (some ⟨r3, 0, none⟩)) 1)) fun v88 => k87 v88 h82) h82 fun v85 h86 =>
 gopV (yV v68) true (fun k91 => popO (SemE PG h86 (Instr.loadAt T_api_Packet v85)) fun v92 => k91 v92 h86) h86 fun v89 h90 =>
 gopV (yV v68) true (fun k95 => popO (SemP PG (Instr.build T_api_Item #[(0, v89), (1, (Value.int IntKind.i64 1))])) fun v96 => k95 v96 h90) h90 fun v93 h94 =>
 gopV (yV v68) true (fun k99 => popO (SemE PG h94 (binS BinOp.eql T_api_Item (.tmp 50) (.tmp 53) v81 v93)) fun v100 => k99 v100 h94) h94 fun v97 h98 =>
 popO (pickV v68 v97 (Value.bool false)) fun v101 =>
 gopV (yV v101) true (fun k104 => popO (SemP PG (Instr.fieldAt T_api_Daemon (Value.pointer (some ⟨r31, 0, none⟩)) 0)) fun v105 => k104 v105 h98) h98 fun v102 h103 =>
 gopV (yV v101) true (fun k108 => popO (SemP PG (Instr.indexAt T_2_api_Place v102 (Value.int IntKind.i64 0))) fun v109 => k108 v109 h103) h103 fun v106 h107 =>
 gopV (yV v101) true (fun k112 => popO (SemE PG h107 (Instr.loadAt T_api_Place v106)) fun v113 => k112 v113 h107) h107 fun v110 h111 =>
 gopV (yV v101) true (fun k116 => popO (SemP PG (Instr.build T_api_Place #[(0, (Value.int IntKind.u64 5)), (1, (Value.int IntKind.i64 1))])) fun v117 => k116 v117 h111) h111 fun v114 h115 =>
 gopV (yV v101) true (fun k120 => popO (SemE PG h115 (binS BinOp.eql T_api_Place (.tmp 59) (.tmp 60) v110 v114)) fun v121 => k120 v121 h115) h115 fun v118 h119 =>
 popO (pickV v101 v118 (Value.bool false)) fun v122 =>
 R v122 h119
def carracklaw17_awake.ann : Ann := { b := fun i => match i with | 5 => #[0, 1, 3, 7, 15, 31, 63, 127, 255, 511, 1023, 2047, 4095, 8191, 16383, 32767, 65535, 131071, 262143, 524287, 1048575, 131071, 2228223, 6422527, 16777215, 33554431, 67108863, 134217727, 268435455, 536870911, 134217727, 2147483647, 4294967295, 8589934591] | _ => #[], ord := fun i => match i with | 5 => [0, 1, 2, 3, 4, 5, 6, 7, 8, 9, 10, 11, 12, 13, 14, 15, 16, 17, 18, 19, 20, 21, 22, 23, 24, 25, 26, 27, 28, 29, 30, 31, 32, 33] | _ => [], keep := fun i => match i with  | _ => [], n := 63 }
theorem carracklaw17_awake.eq (h0 : PH) (R : Value → PH → Prop) : codeF PG carracklaw17_awake.ann 200 (bodyOf Try.f6) (endH PG Try.f6 R) (fun t => (#[] : Array Value).getD t undef) h0 = carracklaw17_awake  h0 R := by kernel_rfl
theorem carracklaw17_awake.call {h0 : PH} {R : Value → PH → Prop} (H : carracklaw17_awake  h0 R) : CallsH PG id_carracklaw17_awake #[] h0 R :=
  callsF_by carracklaw17_awake.ann 200 mix Try.func6 (by kernel_rfl) (by kernel_rfl) (by kernel_rfl) (by kernel_rfl) (by simp [Try.ntmps6]) (carracklaw17_awake.eq  h0 R) H

def record_Bytes_b20 (R : Value → PH → Prop) (n19 : List Value → PH → Prop) (t1 : Value) (t4 : Value) (t18 : Value) (t19 : Value) (h0 : PH) : Prop :=
 popO (SemP PG (binOp BinOp.lss T_int t19 (Value.int IntKind.i64 2))) fun v21 =>
 condV v21
 (popO (SemP PG (Instr.index T_2_api_Place t18 t19)) fun v22 =>
 ∀ r23, h0 r23 = none → bindH (PH.set h0 r23 (.cells (zcells PG T_api_Place) T_api_Place)) fun h24 =>
 SemH PG (storeS T_api_Place (Value.pointer (some ⟨r23, 0, none⟩)) v22) h24 fun v25 h26 =>
 popO (SemE PG h26 (Instr.loadAt T_api_Place (Value.pointer (some ⟨r23, 0, none⟩)))) fun v27 =>
 CallsH PG id_note_PutPlace #[t4, v27] h26 fun v28 h29 =>
 popO (SemP PG (binOp BinOp.add T_int t19 (Value.int IntKind.i64 1))) fun v30 =>
 n19 [t1, t4, t18, v30] h29)
 (popO (SemP PG (Instr.fieldAt T_api_Record t1 1)) fun v31 =>
 popO (SemP PG (Instr.fieldAt T_api_Daemon v31 1)) fun v32 =>
 popO (SemE PG h0 (Instr.loadAt T_sl_api_Item v32)) fun v33 =>
 CallsH PG id_note_PutItems #[t4, v33] h0 fun v34 h35 =>
 CallsH PG id_wire_Writer_Bytes #[t4] h35 fun v36 h37 =>
 popO (SemP PG (Instr.extract v36 0)) fun v38 =>
 popO (SemP PG (Instr.extract v36 1)) fun v39 =>
 R (Value.tuple #[v38, v39]) h37)
def record_Bytes (t0 : Value) (h0 : PH) (R : Value → PH → Prop) : Prop :=
 ∀ r1, h0 r1 = none → bindH (PH.set h0 r1 (.cells (Value.cells t0) T_api_Record)) fun h2 =>
 popO (SemE PG h2 (Instr.loadAt T_api_Record (Value.pointer (some ⟨r1, 0, none⟩)))) fun v3 =>
 CallsH PG id_record_plain #[v3] h2 fun v4 h5 =>
 popO (SemP PG (Op.unary UnOp.not v4)) fun v6 =>
 condV v6
 (R (Value.tuple #[(Value.string { data := #[] }), (Value.int IntKind.i64 1)]) h5)
 (∀ r7, h5 r7 = none → bindH (PH.set h5 r7 (.cells (zcells PG T_wire_Writer) T_wire_Writer)) fun h8 =>
 popO (SemP PG (Instr.fieldAt T_api_Record (Value.pointer (some ⟨r1, 0, none⟩)) 0)) fun v9 =>
 popO (SemE PG h8 (Instr.loadAt T_int v9)) fun v10 =>
 CallsH PG id_wire_Writer_Byte #[(Value.pointer (some ⟨r7, 0, none⟩)), v10] h8 fun v11 h12 =>
 popO (SemP PG (Instr.fieldAt T_api_Record (Value.pointer (some ⟨r1, 0, none⟩)) 0)) fun v13 =>
 popO (SemE PG h12 (Instr.loadAt T_int v13)) fun v14 =>
 popO (SemE PG h12 (binS BinOp.eql T_int (.tmp 14) (.const (Value.int IntKind.i64 1)) v14 (Value.int IntKind.i64 1))) fun v15 =>
 condV v15
 (popO (SemP PG (Instr.fieldAt T_api_Record (Value.pointer (some ⟨r1, 0, none⟩)) 1)) fun v16 =>
 popO (SemP PG (Instr.fieldAt T_api_Daemon v16 0)) fun v17 =>
 popO (SemE PG h12 (Instr.loadAt T_2_api_Place v17)) fun v18 =>
 LoopL [1, 4, 18, 19] (fun n19 ρ h => record_Bytes_b20 R n19 (ρ 1) (ρ 4) (ρ 18) (ρ 19) h) [(Value.pointer (some ⟨r1, 0, none⟩)), (Value.pointer (some ⟨r7, 0, none⟩)), v18, (Value.int IntKind.i64 0)] h12)
 (popO (SemP PG (Instr.fieldAt T_api_Record (Value.pointer (some ⟨r1, 0, none⟩)) 2)) fun v40 =>
 popO (SemE PG h12 (Instr.loadAt T_int v40)) fun v41 =>
 CallsH PG id_wire_Writer_Byte #[(Value.pointer (some ⟨r7, 0, none⟩)), v41] h12 fun v42 h43 =>
 popO (SemP PG (Instr.fieldAt T_api_Record (Value.pointer (some ⟨r1, 0, none⟩)) 3)) fun v44 =>
 popO (SemE PG h43 (Instr.loadAt T_api_Place v44)) fun v45 =>
 CallsH PG id_note_PutPlace #[(Value.pointer (some ⟨r7, 0, none⟩)), v45] h43 fun v46 h47 =>
 popO (SemP PG (Instr.fieldAt T_api_Record (Value.pointer (some ⟨r1, 0, none⟩)) 4)) fun v48 =>
 popO (SemE PG h47 (Instr.loadAt T_sl_api_Note v48)) fun v49 =>
 CallsH PG id_note_PutNotes #[(Value.pointer (some ⟨r7, 0, none⟩)), v49] h47 fun v50 h51 =>
 CallsH PG id_wire_Writer_Bytes #[(Value.pointer (some ⟨r7, 0, none⟩))] h51 fun v52 h53 =>
 popO (SemP PG (Instr.extract v52 0)) fun v54 =>
 popO (SemP PG (Instr.extract v52 1)) fun v55 =>
 R (Value.tuple #[v54, v55]) h53))
def record_Bytes.ann : Ann := { b := fun i => match i with  | _ => #[], ord := fun i => match i with  | _ => [], keep := fun i => match i with | 7 => [1, 4, 18, 19] | _ => [], n := 44 }
theorem record_Bytes.eq (t0 : Value) (h0 : PH) (R : Value → PH → Prop) : codeF PG record_Bytes.ann 200 (bodyOf Try.f8) (endH PG Try.f8 R) (fun t => (#[t0] : Array Value).getD t undef) h0 = record_Bytes t0 h0 R := by kernel_rfl
theorem record_Bytes.call {t0 : Value} {h0 : PH} {R : Value → PH → Prop} (H : record_Bytes t0 h0 R) : CallsH PG id_record_Bytes #[t0] h0 R :=
  callsF_by record_Bytes.ann 200 mix Try.func8 (by kernel_rfl) (by kernel_rfl) (by kernel_rfl) (by kernel_rfl) (by simp [Try.ntmps8]) (record_Bytes.eq t0 h0 R) H

def record_plain (t0 : Value) (h0 : PH) (R : Value → PH → Prop) : Prop :=
 ∀ r1, h0 r1 = none → bindH (PH.set h0 r1 (.cells (Value.cells t0) T_api_Record)) fun h2 =>
 popO (SemP PG (Instr.fieldAt T_api_Record (Value.pointer (some ⟨r1, 0, none⟩)) 0)) fun v3 =>
 popO (SemE PG h2 (Instr.loadAt T_int v3)) fun v4 =>
 popO (SemE PG h2 (binS BinOp.eql T_int (.tmp 4) (.const (Value.int IntKind.i64 1)) v4 (Value.int IntKind.i64 1))) fun v5 =>
 condV v5
 (popO (SemP PG (Instr.fieldAt T_api_Record (Value.pointer (some ⟨r1, 0, none⟩)) 2)) fun v6 =>
 popO (SemE PG h2 (Instr.loadAt T_int v6)) fun v7 =>
 popO (SemE PG h2 (binS BinOp.eql T_int (.tmp 8) (.const (Value.int IntKind.i64 0)) v7 (Value.int IntKind.i64 0))) fun v8 =>
 gopV (yV v8) true (fun k11 => popO (SemP PG (Instr.fieldAt T_api_Record (Value.pointer (some ⟨r1, 0, none⟩)) 3)) fun v12 => k11 v12 h2) h2 fun v9 h10 =>
 gopV (yV v8) true (fun k15 => popO (SemE PG h10 (Instr.loadAt T_api_Place v9)) fun v16 => k15 v16 h10) h10 fun v13 h14 =>
 gopV (yV v8) true (fun k19 => popO (SemP PG (Instr.build T_api_Place #[])) fun v20 => k19 v20 h14) h14 fun v17 h18 =>
 gopV (yV v8) true (fun k23 => popO (SemE PG h18 (binS BinOp.eql T_api_Place (.tmp 12) (.tmp 13) v13 v17)) fun v24 => k23 v24 h18) h18 fun v21 h22 =>
 popO (pickV v8 v21 (Value.bool false)) fun v25 =>
 gopV (yV v25) true (fun k28 => popO (SemP PG (Instr.fieldAt T_api_Record (Value.pointer (some ⟨r1, 0, none⟩)) 4)) fun v29 => k28 v29 h22) h22 fun v26 h27 =>
 gopV (yV v25) true (fun k32 => popO (SemE PG h27 (Instr.loadAt T_sl_api_Note v26)) fun v33 => k32 v33 h27) h27 fun v30 h31 =>
 gopV (yV v25) true (fun k36 => popO (SemP PG (Builtin.len_ #[T_sl_api_Note] T_int #[v30])) fun v37 => k36 v37 h31) h31 fun v34 h35 =>
 gopV (yV v25) true (fun k40 => popO (SemE PG h35 (binS BinOp.eql T_int (.tmp 19) (.const (Value.int IntKind.i64 0)) v34 (Value.int IntKind.i64 0))) fun v41 => k40 v41 h35) h35 fun v38 h39 =>
 popO (pickV v25 v38 (Value.bool false)) fun v42 =>
 gopV (yV v42) true (fun k45 => popO (SemP PG (Instr.fieldAt T_api_Record (Value.pointer (some ⟨r1, 0, none⟩)) 1)) fun v46 => k45 v46 h39) h39 fun v43 h44 =>
 gopV (yV v42) true (fun k49 => popO (SemP PG (Instr.fieldAt T_api_Daemon v43 1)) fun v50 => k49 v50 h44) h44 fun v47 h48 =>
 gopV (yV v42) true (fun k53 => popO (SemE PG h48 (Instr.loadAt T_sl_api_Item v47)) fun v54 => k53 v54 h48) h48 fun v51 h52 =>
 gopV (yV v42) true (fun k57 => popO (SemP PG (Builtin.len_ #[T_sl_api_Item] T_int #[v51])) fun v58 => k57 v58 h52) h52 fun v55 h56 =>
 gopV (yV v42) true (fun k61 => popO (SemP PG (binOp BinOp.leq T_int v55 (Value.int IntKind.i64 40))) fun v62 => k61 v62 h56) h56 fun v59 h60 =>
 popO (pickV v42 v59 (Value.bool false)) fun v63 =>
 R v63 h60)
 (popO (SemE PG h2 (binS BinOp.eql T_int (.tmp 4) (.const (Value.int IntKind.i64 2)) v4 (Value.int IntKind.i64 2))) fun v64 =>
 condV v64
 (popO (SemP PG (Instr.fieldAt T_api_Record (Value.pointer (some ⟨r1, 0, none⟩)) 1)) fun v65 =>
 popO (SemP PG (Instr.fieldAt T_api_Daemon v65 0)) fun v66 =>
 popO (SemE PG h2 (Instr.loadAt T_2_api_Place v66)) fun v67 =>
 popO (SemP PG (Instr.build T_2_api_Place #[])) fun v68 =>
 popO (SemE PG h2 (binS BinOp.eql T_2_api_Place (.tmp 33) (.tmp 34) v67 v68)) fun v69 =>
 gopV (yV v69) true (fun k72 => popO (SemP PG (Instr.fieldAt T_api_Record (Value.pointer (some ⟨r1, 0, none⟩)) 1)) fun v73 => k72 v73 h2) h2 fun v70 h71 =>
 gopV (yV v69) true (fun k76 => popO (SemP PG (Instr.fieldAt T_api_Daemon v70 1)) fun v77 => k76 v77 h71) h71 fun v74 h75 =>
 gopV (yV v69) true (fun k80 => popO (SemE PG h75 (Instr.loadAt T_sl_api_Item v74)) fun v81 => k80 v81 h75) h75 fun v78 h79 =>
 gopV (yV v69) true (fun k84 => popO (SemP PG (Builtin.len_ #[T_sl_api_Item] T_int #[v78])) fun v85 => k84 v85 h79) h79 fun v82 h83 =>
 gopV (yV v69) true (fun k88 => popO (SemE PG h83 (binS BinOp.eql T_int (.tmp 40) (.const (Value.int IntKind.i64 0)) v82 (Value.int IntKind.i64 0))) fun v89 => k88 v89 h83) h83 fun v86 h87 =>
 popO (pickV v69 v86 (Value.bool false)) fun v90 =>
 gopV (yV v90) true (fun k93 => popO (SemP PG (Instr.fieldAt T_api_Record (Value.pointer (some ⟨r1, 0, none⟩)) 2)) fun v94 => k93 v94 h87) h87 fun v91 h92 =>
 gopV (yV v90) true (fun k97 => popO (SemE PG h92 (Instr.loadAt T_int v91)) fun v98 => k97 v98 h92) h92 fun v95 h96 =>
 gopV (yV v90) true (fun k101 => popO (SemE PG h96 (binS BinOp.eql T_int (.tmp 45) (.const (Value.int IntKind.i64 0)) v95 (Value.int IntKind.i64 0))) fun v102 => k101 v102 h96) h96 fun v99 h100 =>
 gopV (yV v90) true (fun k105 => k105 v99 h100) h100 fun v103 h104 =>
 gopV (yV v103) false (fun k108 => popO (SemP PG (Instr.fieldAt T_api_Record (Value.pointer (some ⟨r1, 0, none⟩)) 2)) fun v109 => k108 v109 h104) h104 fun v106 h107 =>
 gopV (yV v103) false (fun k112 => popO (SemE PG h107 (Instr.loadAt T_int v106)) fun v113 => k112 v113 h107) h107 fun v110 h111 =>
 gopV (yV v103) false (fun k116 => popO (SemE PG h111 (binS BinOp.eql T_int (.tmp 49) (.const (Value.int IntKind.i64 1)) v110 (Value.int IntKind.i64 1))) fun v117 => k116 v117 h111) h111 fun v114 h115 =>
 gopV (yV v90) true (fun k120 => popO (pickV v103 (Value.bool true) v114) fun v121 => k120 v121 h115) h115 fun v118 h119 =>
 popO (pickV v90 v118 (Value.bool false)) fun v122 =>
 gopV (yV v122) true (fun k125 => popO (SemP PG (Instr.fieldAt T_api_Record (Value.pointer (some ⟨r1, 0, none⟩)) 4)) fun v126 => k125 v126 h119) h119 fun v123 h124 =>
 gopV (yV v122) true (fun k129 => popO (SemE PG h124 (Instr.loadAt T_sl_api_Note v123)) fun v130 => k129 v130 h124) h124 fun v127 h128 =>
 gopV (yV v122) true (fun k133 => popO (SemP PG (Builtin.len_ #[T_sl_api_Note] T_int #[v127])) fun v134 => k133 v134 h128) h128 fun v131 h132 =>
 gopV (yV v122) true (fun k137 => popO (SemP PG (binOp BinOp.leq T_int v131 (Value.int IntKind.i64 16))) fun v138 => k137 v138 h132) h132 fun v135 h136 =>
 popO (pickV v122 v135 (Value.bool false)) fun v139 =>
 R v139 h136)
 (R (Value.bool false) h2))
def record_plain.ann : Ann := { b := fun i => match i with  | _ => #[], ord := fun i => match i with  | _ => [], keep := fun i => match i with  | _ => [], n := 59 }
theorem record_plain.eq (t0 : Value) (h0 : PH) (R : Value → PH → Prop) : codeF PG record_plain.ann 200 (bodyOf Try.f15) (endH PG Try.f15 R) (fun t => (#[t0] : Array Value).getD t undef) h0 = record_plain t0 h0 R := by kernel_rfl
theorem record_plain.call {t0 : Value} {h0 : PH} {R : Value → PH → Prop} (H : record_plain t0 h0 R) : CallsH PG id_record_plain #[t0] h0 R :=
  callsF_by record_plain.ann 200 mix Try.func15 (by kernel_rfl) (by kernel_rfl) (by kernel_rfl) (by kernel_rfl) (by simp [Try.ntmps15]) (record_plain.eq t0 h0 R) H

def wire_Writer_Byte (t0 : Value) (t1 : Value) (h0 : PH) (R : Value → PH → Prop) : Prop :=
 popO (SemP PG (binOp BinOp.lss T_int t1 (Value.int IntKind.i64 0))) fun v1 =>
 gopV (yV v1) false (fun k4 => k4 t1 h0) h0 fun v2 h3 =>
 gopV (yV v1) false (fun k7 => popO (SemP PG (binOp BinOp.gtr T_int v2 (Value.int IntKind.i64 255))) fun v8 => k7 v8 h3) h3 fun v5 h6 =>
 popO (pickV v1 (Value.bool true) v5) fun v9 =>
 condV v9
 (popO (SemP PG (nilS t0)) fun v10 =>
 popO (SemP PG (Instr.fieldAt T_wire_Writer v10 0)) fun v11 =>
 CallsH PG id_wire_memory_Fail #[v11, (Value.int IntKind.i64 1)] h6 fun v12 h13 =>
 R (Value.tuple #[]) h13)
 (popO (SemP PG (convert T_int T_uint64 t1)) fun v14 =>
 CallsH PG id_wire_Writer_put #[t0, v14, (Value.int IntKind.i64 1)] h6 fun v15 h16 =>
 R (Value.tuple #[]) h16)
def wire_Writer_Byte.ann : Ann := { b := fun i => match i with  | _ => #[], ord := fun i => match i with  | _ => [], keep := fun i => match i with  | _ => [], n := 18 }
theorem wire_Writer_Byte.eq (t0 : Value) (t1 : Value) (h0 : PH) (R : Value → PH → Prop) : codeF PG wire_Writer_Byte.ann 200 (bodyOf Try.f16) (endH PG Try.f16 R) (fun t => (#[t0, t1] : Array Value).getD t undef) h0 = wire_Writer_Byte t0 t1 h0 R := by kernel_rfl
theorem wire_Writer_Byte.call {t0 : Value} {t1 : Value} {h0 : PH} {R : Value → PH → Prop} (H : wire_Writer_Byte t0 t1 h0 R) : CallsH PG id_wire_Writer_Byte #[t0, t1] h0 R :=
  callsF_by wire_Writer_Byte.ann 200 mix Try.func16 (by kernel_rfl) (by kernel_rfl) (by kernel_rfl) (by kernel_rfl) (by simp [Try.ntmps16]) (wire_Writer_Byte.eq t0 t1 h0 R) H

def wire_memory_Fail (t0 : Value) (t1 : Value) (h0 : PH) (R : Value → PH → Prop) : Prop :=
 popO (SemP PG (nilS t0)) fun v1 =>
 popO (SemP PG (Instr.fieldAt T_wire_memory v1 0)) fun v2 =>
 popO (SemE PG h0 (Instr.loadAt T_api_Errno v2)) fun v3 =>
 popO (SemE PG h0 (binS BinOp.eql T_api_Errno (.tmp 7) (.const (Value.int IntKind.i64 0)) v3 (Value.int IntKind.i64 0))) fun v4 =>
 condV v4
 (popO (SemP PG (nilS t0)) fun v5 =>
 popO (SemP PG (Instr.fieldAt T_wire_memory v5 0)) fun v6 =>
 SemH PG (storeS T_api_Errno v6 t1) h0 fun v7 h8 =>
 R (Value.tuple #[]) h8)
 (R (Value.tuple #[]) h0)
def wire_memory_Fail.ann : Ann := { b := fun i => match i with  | _ => #[], ord := fun i => match i with  | _ => [], keep := fun i => match i with  | _ => [], n := 13 }
theorem wire_memory_Fail.eq (t0 : Value) (t1 : Value) (h0 : PH) (R : Value → PH → Prop) : codeF PG wire_memory_Fail.ann 200 (bodyOf Try.f36) (endH PG Try.f36 R) (fun t => (#[t0, t1] : Array Value).getD t undef) h0 = wire_memory_Fail t0 t1 h0 R := by kernel_rfl
theorem wire_memory_Fail.call {t0 : Value} {t1 : Value} {h0 : PH} {R : Value → PH → Prop} (H : wire_memory_Fail t0 t1 h0 R) : CallsH PG id_wire_memory_Fail #[t0, t1] h0 R :=
  callsF_by wire_memory_Fail.ann 200 mix Try.func36 (by kernel_rfl) (by kernel_rfl) (by kernel_rfl) (by kernel_rfl) (by simp [Try.ntmps36]) (wire_memory_Fail.eq t0 t1 h0 R) H

def wire_Writer_put_b3 (R : Value → PH → Prop) (n2 : List Value → PH → Prop) (t0 : Value) (t1 : Value) (t6 : Value) (h0 : PH) : Prop :=
 popO (SemP PG (binOp BinOp.geq T_int t6 (Value.int IntKind.i64 0))) fun v4 =>
 condV v4
 (popO (SemP PG (nilS t0)) fun v5 =>
 popO (SemP PG (Instr.fieldAt T_wire_Writer v5 1)) fun v6 =>
 popO (SemP PG (binOp BinOp.mul T_int (Value.int IntKind.i64 8) t6)) fun v7 =>
 popO (SemP PG (binOp BinOp.shr T_uint64 t1 v7)) fun v8 =>
 popO (SemP PG (convert T_uint64 T_uint8 v8)) fun v9 =>
 CallsH PG id_strings_Builder_WriteByte #[v6, v9] h0 fun v10 h11 =>
 (popO (SemP PG (binOp BinOp.sub T_int t6 (Value.int IntKind.i64 1))) fun v12 =>
 n2 [t0, t1, v12] h11))
 (R (Value.tuple #[]) h0)
def wire_Writer_put (t0 : Value) (t1 : Value) (t2 : Value) (h0 : PH) (R : Value → PH → Prop) : Prop :=
 popO (SemP PG (binOp BinOp.sub T_int t2 (Value.int IntKind.i64 1))) fun v1 =>
 LoopL [0, 1, 6] (fun n2 ρ h => wire_Writer_put_b3 R n2 (ρ 0) (ρ 1) (ρ 6) h) [t0, t1, v1] h0
def wire_Writer_put.ann : Ann := { b := fun i => match i with | 3 => #[0, 1, 3, 0, 0, 16, 56, 120, 255] | _ => #[], ord := fun i => match i with | 3 => [0, 1, 2, 3, 4, 5, 6, 7, 8] | _ => [], keep := fun i => match i with | 1 => [0, 1, 6] | _ => [], n := 22 }
theorem wire_Writer_put.eq (t0 : Value) (t1 : Value) (t2 : Value) (h0 : PH) (R : Value → PH → Prop) : codeF PG wire_Writer_put.ann 200 (bodyOf Try.f39) (endH PG Try.f39 R) (fun t => (#[t0, t1, t2] : Array Value).getD t undef) h0 = wire_Writer_put t0 t1 t2 h0 R := by kernel_rfl
theorem wire_Writer_put.call {t0 : Value} {t1 : Value} {t2 : Value} {h0 : PH} {R : Value → PH → Prop} (H : wire_Writer_put t0 t1 t2 h0 R) : CallsH PG id_wire_Writer_put #[t0, t1, t2] h0 R :=
  callsF_by wire_Writer_put.ann 200 mix Try.func39 (by kernel_rfl) (by kernel_rfl) (by kernel_rfl) (by kernel_rfl) (by simp [Try.ntmps39]) (wire_Writer_put.eq t0 t1 t2 h0 R) H

def strings_Builder_WriteByte (t0 : Value) (t1 : Value) (h0 : PH) (R : Value → PH → Prop) : Prop :=
 CallsH PG id_strings_Builder_copyCheck #[t0] h0 fun v1 h2 =>
 popO (SemP PG (nilS t0)) fun v3 =>
 popO (SemP PG (Instr.fieldAt T_strings_Builder v3 1)) fun v4 =>
 popO (SemE PG h2 (Instr.loadAt T_sl_uint8 v4)) fun v5 =>
 popO (SemA PG (Instr.buildSlice T_sl_uint8 1 #[(0, t1)])) fun x7 => ∀ r6, h2 r6 = none → popO (SemP PG (x7.2 r6)) fun v8 => bindH (PH.set h2 r6 x7.1) fun h9 =>
 SemH PG (Builtin.append_ #[T_sl_uint8, T_sl_uint8] T_sl_uint8 #[v5, v8]) h9 fun v10 h11 =>
 popO (SemP PG (nilS t0)) fun v12 =>
 popO (SemP PG (Instr.fieldAt T_strings_Builder v12 1)) fun v13 =>
 SemH PG (storeS T_sl_uint8 v13 v10) h11 fun v14 h15 =>
 R Value.nilIface h15
def strings_Builder_WriteByte.ann : Ann := { b := fun i => match i with  | _ => #[], ord := fun i => match i with  | _ => [], keep := fun i => match i with  | _ => [], n := 17 }
theorem strings_Builder_WriteByte.eq (t0 : Value) (t1 : Value) (h0 : PH) (R : Value → PH → Prop) : codeF PG strings_Builder_WriteByte.ann 200 (bodyOf Try.f66) (endH PG Try.f66 R) (fun t => (#[t0, t1] : Array Value).getD t undef) h0 = strings_Builder_WriteByte t0 t1 h0 R := by kernel_rfl
theorem strings_Builder_WriteByte.call {t0 : Value} {t1 : Value} {h0 : PH} {R : Value → PH → Prop} (H : strings_Builder_WriteByte t0 t1 h0 R) : CallsH PG id_strings_Builder_WriteByte #[t0, t1] h0 R :=
  callsF_by strings_Builder_WriteByte.ann 200 mix Try.func66 (by kernel_rfl) (by kernel_rfl) (by kernel_rfl) (by kernel_rfl) (by simp [Try.ntmps66]) (strings_Builder_WriteByte.eq t0 t1 h0 R) H

def strings_Builder_copyCheck (t0 : Value) (h0 : PH) (R : Value → PH → Prop) : Prop :=
 popO (SemP PG (nilS t0)) fun v1 =>
 popO (SemP PG (Instr.fieldAt T_strings_Builder v1 0)) fun v2 =>
 popO (SemE PG h0 (Instr.loadAt T_p_strings_Builder v2)) fun v3 =>
 popO (SemE PG h0 (binS BinOp.eql T_p_strings_Builder (.tmp 5) (.const (Value.pointer none)) v3 (Value.pointer none))) fun v4 =>
 condV v4
 (SemH PG (convert T_p_strings_Builder T_unsafe_Pointer t0) h0 fun v5 h6 =>
 CallsH PG id_internal_abi_NoEscape #[v5] h6 fun v7 h8 =>
 SemH PG (convert T_unsafe_Pointer T_p_strings_Builder v7) h8 fun v9 h10 =>
 popO (SemP PG (nilS t0)) fun v11 =>
 popO (SemP PG (Instr.fieldAt T_strings_Builder v11 0)) fun v12 =>
 SemH PG (storeS T_p_strings_Builder v12 v9) h10 fun v13 h14 =>
 R (Value.tuple #[]) h14)
 (popO (SemP PG (nilS t0)) fun v15 =>
 popO (SemP PG (Instr.fieldAt T_strings_Builder v15 0)) fun v16 =>
 popO (SemE PG h0 (Instr.loadAt T_p_strings_Builder v16)) fun v17 =>
 popO (SemE PG h0 (binS BinOp.neq T_p_strings_Builder (.tmp 17) (.tmp 18) v17 t0)) fun v18 =>
 condV v18
 (False)
 (R (Value.tuple #[]) h0))
def strings_Builder_copyCheck.ann : Ann := { b := fun i => match i with  | _ => #[], ord := fun i => match i with  | _ => [], keep := fun i => match i with  | _ => [], n := 20 }
theorem strings_Builder_copyCheck.eq (t0 : Value) (h0 : PH) (R : Value → PH → Prop) : codeF PG strings_Builder_copyCheck.ann 200 (bodyOf Try.f80) (endH PG Try.f80 R) (fun t => (#[t0] : Array Value).getD t undef) h0 = strings_Builder_copyCheck t0 h0 R := by kernel_rfl
theorem strings_Builder_copyCheck.call {t0 : Value} {h0 : PH} {R : Value → PH → Prop} (H : strings_Builder_copyCheck t0 h0 R) : CallsH PG id_strings_Builder_copyCheck #[t0] h0 R :=
  callsF_by strings_Builder_copyCheck.ann 200 mix Try.func80 (by kernel_rfl) (by kernel_rfl) (by kernel_rfl) (by kernel_rfl) (by simp [Try.ntmps80]) (strings_Builder_copyCheck.eq t0 h0 R) H

def note_PutPlace_k21 (R : Value → PH → Prop) (t0 : Value) (t3 : Value) (h0 : PH) : Prop :=
 popO (SemP PG (Instr.fieldAt T_api_Place t3 0)) fun v22 =>
 popO (SemE PG h0 (Instr.loadAt T_uint64 v22)) fun v23 =>
 CallsH PG id_wire_Writer_Number #[t0, v23] h0 fun v24 h25 =>
 popO (SemP PG (Instr.fieldAt T_api_Place t3 1)) fun v26 =>
 popO (SemE PG h25 (Instr.loadAt T_int v26)) fun v27 =>
 popO (SemP PG (convert T_int T_uint64 v27)) fun v28 =>
 CallsH PG id_wire_Writer_Number #[t0, v28] h25 fun v29 h30 =>
 R (Value.tuple #[]) h30
def note_PutPlace (t0 : Value) (t1 : Value) (h0 : PH) (R : Value → PH → Prop) : Prop :=
 ∀ r1, h0 r1 = none → bindH (PH.set h0 r1 (.cells (Value.cells t1) T_api_Place)) fun h2 =>
 popO (SemP PG (Instr.fieldAt T_api_Place (Value.pointer (some ⟨r1, 0, none⟩)) 1)) fun v3 =>
 popO (SemE PG h2 (Instr.loadAt T_int v3)) fun v4 =>
 popO (SemP PG (binOp BinOp.lss T_int v4 (Value.int IntKind.i64 0))) fun v5 =>
 gopV (yV v5) false (fun k8 => popO (SemP PG (Instr.fieldAt T_api_Place (Value.pointer (some ⟨r1, 0, none⟩)) 1)) fun v9 => k8 v9 h2) h2 fun v6 h7 =>
 gopV (yV v5) false (fun k12 => popO (SemE PG h7 (Instr.loadAt T_int v6)) fun v13 => k12 v13 h7) h7 fun v10 h11 =>
 gopV (yV v5) false (fun k16 => popO (SemP PG (binOp BinOp.gtr T_int v10 (Value.int IntKind.i64 65535))) fun v17 => k16 v17 h11) h11 fun v14 h15 =>
 popO (pickV v5 (Value.bool true) v14) fun v18 =>
 condV v18
 (CallsH PG id_wire_Writer_Byte #[t0, (Value.int IntKind.i64 (-1))] h15 fun v19 h20 =>
 note_PutPlace_k21 R t0 (Value.pointer (some ⟨r1, 0, none⟩)) h20)
 (note_PutPlace_k21 R t0 (Value.pointer (some ⟨r1, 0, none⟩)) h15)
def note_PutPlace.ann : Ann := { b := fun i => match i with  | _ => #[], ord := fun i => match i with  | _ => [], keep := fun i => match i with  | _ => [], n := 23 }
theorem note_PutPlace.eq (t0 : Value) (t1 : Value) (h0 : PH) (R : Value → PH → Prop) : codeF PG note_PutPlace.ann 200 (bodyOf Try.f17) (endH PG Try.f17 R) (fun t => (#[t0, t1] : Array Value).getD t undef) h0 = note_PutPlace t0 t1 h0 R := by kernel_rfl
theorem note_PutPlace.call {t0 : Value} {t1 : Value} {h0 : PH} {R : Value → PH → Prop} (H : note_PutPlace t0 t1 h0 R) : CallsH PG id_note_PutPlace #[t0, t1] h0 R :=
  callsF_by note_PutPlace.ann 200 mix Try.func17 (by kernel_rfl) (by kernel_rfl) (by kernel_rfl) (by kernel_rfl) (by simp [Try.ntmps17]) (note_PutPlace.eq t0 t1 h0 R) H

def wire_Writer_Number (t0 : Value) (t1 : Value) (h0 : PH) (R : Value → PH → Prop) : Prop :=
 CallsH PG id_wire_Writer_put #[t0, t1, (Value.int IntKind.i64 8)] h0 fun v1 h2 =>
 R (Value.tuple #[]) h2
def wire_Writer_Number.ann : Ann := { b := fun i => match i with  | _ => #[], ord := fun i => match i with  | _ => [], keep := fun i => match i with  | _ => [], n := 7 }
theorem wire_Writer_Number.eq (t0 : Value) (t1 : Value) (h0 : PH) (R : Value → PH → Prop) : codeF PG wire_Writer_Number.ann 200 (bodyOf Try.f40) (endH PG Try.f40 R) (fun t => (#[t0, t1] : Array Value).getD t undef) h0 = wire_Writer_Number t0 t1 h0 R := by kernel_rfl
theorem wire_Writer_Number.call {t0 : Value} {t1 : Value} {h0 : PH} {R : Value → PH → Prop} (H : wire_Writer_Number t0 t1 h0 R) : CallsH PG id_wire_Writer_Number #[t0, t1] h0 R :=
  callsF_by wire_Writer_Number.ann 200 mix Try.func40 (by kernel_rfl) (by kernel_rfl) (by kernel_rfl) (by kernel_rfl) (by simp [Try.ntmps40]) (wire_Writer_Number.eq t0 t1 h0 R) H

def note_PutItems (t0 : Value) (t1 : Value) (h0 : PH) (R : Value → PH → Prop) : Prop :=
 CallsH PG id_note_put_api_Item #[t0, (Value.func (Fn.func id_note_PutItems_1) #[] #[]), t1] h0 fun v1 h2 =>
 R (Value.tuple #[]) h2
def note_PutItems.ann : Ann := { b := fun i => match i with  | _ => #[], ord := fun i => match i with  | _ => [], keep := fun i => match i with  | _ => [], n := 7 }
theorem note_PutItems.eq (t0 : Value) (t1 : Value) (h0 : PH) (R : Value → PH → Prop) : codeF PG note_PutItems.ann 200 (bodyOf Try.f18) (endH PG Try.f18 R) (fun t => (#[t0, t1] : Array Value).getD t undef) h0 = note_PutItems t0 t1 h0 R := by kernel_rfl
theorem note_PutItems.call {t0 : Value} {t1 : Value} {h0 : PH} {R : Value → PH → Prop} (H : note_PutItems t0 t1 h0 R) : CallsH PG id_note_PutItems #[t0, t1] h0 R :=
  callsF_by note_PutItems.ann 200 mix Try.func18 (by kernel_rfl) (by kernel_rfl) (by kernel_rfl) (by kernel_rfl) (by simp [Try.ntmps18]) (note_PutItems.eq t0 t1 h0 R) H

def note_put_api_Item_b6 (R : Value → PH → Prop) (n5 : List Value → PH → Prop) (t0 : Value) (t1 : Value) (t14 : Value) (t15 : Value) (t16 : Value) (h0 : PH) : Prop :=
 popO (SemP PG (binOp BinOp.lss T_int t16 t15)) fun v7 =>
 condV v7
 (popO (SemP PG (Instr.indexAt T_sl_api_Item t14 t16)) fun v8 =>
 popO (SemE PG h0 (Instr.loadAt T_api_Item v8)) fun v9 =>
 ∀ r10, h0 r10 = none → bindH (PH.set h0 r10 (.cells (zcells PG T_api_Item) T_api_Item)) fun h11 =>
 SemH PG (storeS T_api_Item (Value.pointer (some ⟨r10, 0, none⟩)) v9) h11 fun v12 h13 =>
 popO (SemE PG h13 (Instr.loadAt T_api_Item (Value.pointer (some ⟨r10, 0, none⟩)))) fun v14 =>
 callC PG t1 #[v14] h13 fun v15 h16 =>
 popO (SemP PG (Instr.extract v15 0)) fun v17 =>
 popO (SemP PG (Instr.extract v15 1)) fun v18 =>
 ∀ r19, h16 r19 = none → bindH (PH.set h16 r19 (.cells (zcells PG T_api_Packet) T_api_Packet)) fun h20 =>
 SemH PG (storeS T_api_Packet (Value.pointer (some ⟨r19, 0, none⟩)) v18) h20 fun v21 h22 =>
 CallsH PG id_wire_Writer_Byte #[t0, v17] h22 fun v23 h24 =>
 popO (SemE PG h24 (Instr.loadAt T_api_Packet (Value.pointer (some ⟨r19, 0, none⟩)))) fun v25 =>
 CallsH PG id_packet_Put #[t0, v25] h24 fun v26 h27 =>
 popO (SemP PG (binOp BinOp.add T_int t16 (Value.int IntKind.i64 1))) fun v28 =>
 n5 [t0, t1, t14, t15, v28] h27)
 (R (Value.tuple #[]) h0)
def note_put_api_Item (t0 : Value) (t1 : Value) (t2 : Value) (h0 : PH) (R : Value → PH → Prop) : Prop :=
 popO (SemP PG (Builtin.len_ #[T_sl_api_Item] T_int #[t2])) fun v1 =>
 CallsH PG id_wire_Writer_Byte #[t0, v1] h0 fun v2 h3 =>
 popO (SemP PG (Builtin.len_ #[T_sl_api_Item] T_int #[t2])) fun v4 =>
 LoopL [0, 1, 14, 15, 16] (fun n5 ρ h => note_put_api_Item_b6 R n5 (ρ 0) (ρ 1) (ρ 14) (ρ 15) (ρ 16) h) [t0, t1, t2, v4, (Value.int IntKind.i64 0)] h3
def note_put_api_Item.ann : Ann := { b := fun i => match i with  | _ => #[], ord := fun i => match i with  | _ => [], keep := fun i => match i with | 2 => [0, 1, 14, 15, 16] | _ => [], n := 33 }
theorem note_put_api_Item.eq (t0 : Value) (t1 : Value) (t2 : Value) (h0 : PH) (R : Value → PH → Prop) : codeF PG note_put_api_Item.ann 200 (bodyOf Try.f41) (endH PG Try.f41 R) (fun t => (#[t0, t1, t2] : Array Value).getD t undef) h0 = note_put_api_Item t0 t1 t2 h0 R := by kernel_rfl
theorem note_put_api_Item.call {t0 : Value} {t1 : Value} {t2 : Value} {h0 : PH} {R : Value → PH → Prop} (H : note_put_api_Item t0 t1 t2 h0 R) : CallsH PG id_note_put_api_Item #[t0, t1, t2] h0 R :=
  callsF_by note_put_api_Item.ann 200 mix Try.func41 (by kernel_rfl) (by kernel_rfl) (by kernel_rfl) (by kernel_rfl) (by simp [Try.ntmps41]) (note_put_api_Item.eq t0 t1 t2 h0 R) H

def packet_Put (t0 : Value) (t1 : Value) (h0 : PH) (R : Value → PH → Prop) : Prop :=
 ∀ r1, h0 r1 = none → bindH (PH.set h0 r1 (.cells (Value.cells t1) T_api_Packet)) fun h2 =>
 popO (SemE PG h2 (Instr.loadAt T_api_Packet (Value.pointer (some ⟨r1, 0, none⟩)))) fun v3 =>
 CallsH PG id_packet_Check #[v3] h2 fun v4 h5 =>
 popO (SemE PG h5 (binS BinOp.neq T_api_Errno (.tmp 5) (.const (Value.int IntKind.i64 0)) v4 (Value.int IntKind.i64 0))) fun v6 =>
 condV v6
 (CallsH PG id_wire_Writer_Byte #[t0, (Value.int IntKind.i64 (-1))] h5 fun v7 h8 =>
 R (Value.tuple #[]) h8)
 (popO (SemP PG (Instr.fieldAt T_api_Packet (Value.pointer (some ⟨r1, 0, none⟩)) 0)) fun v9 =>
 popO (SemE PG h5 (Instr.loadAt T_int v9)) fun v10 =>
 CallsH PG id_wire_Writer_Byte #[t0, v10] h5 fun v11 h12 =>
 popO (SemP PG (Instr.fieldAt T_api_Packet (Value.pointer (some ⟨r1, 0, none⟩)) 1)) fun v13 =>
 popO (SemE PG h12 (Instr.loadAt T_uint64 v13)) fun v14 =>
 CallsH PG id_wire_Writer_Number #[t0, v14] h12 fun v15 h16 =>
 popO (SemP PG (Instr.fieldAt T_api_Packet (Value.pointer (some ⟨r1, 0, none⟩)) 2)) fun v17 =>
 popO (SemE PG h16 (Instr.loadAt T_uint64 v17)) fun v18 =>
 CallsH PG id_wire_Writer_Number #[t0, v18] h16 fun v19 h20 =>
 popO (SemP PG (Instr.fieldAt T_api_Packet (Value.pointer (some ⟨r1, 0, none⟩)) 3)) fun v21 =>
 popO (SemE PG h20 (Instr.loadAt T_string v21)) fun v22 =>
 CallsH PG id_wire_Writer_Text #[t0, v22] h20 fun v23 h24 =>
 R (Value.tuple #[]) h24)
def packet_Put.ann : Ann := { b := fun i => match i with  | _ => #[], ord := fun i => match i with  | _ => [], keep := fun i => match i with  | _ => [], n := 25 }
theorem packet_Put.eq (t0 : Value) (t1 : Value) (h0 : PH) (R : Value → PH → Prop) : codeF PG packet_Put.ann 200 (bodyOf Try.f67) (endH PG Try.f67 R) (fun t => (#[t0, t1] : Array Value).getD t undef) h0 = packet_Put t0 t1 h0 R := by kernel_rfl
theorem packet_Put.call {t0 : Value} {t1 : Value} {h0 : PH} {R : Value → PH → Prop} (H : packet_Put t0 t1 h0 R) : CallsH PG id_packet_Put #[t0, t1] h0 R :=
  callsF_by packet_Put.ann 200 mix Try.func67 (by kernel_rfl) (by kernel_rfl) (by kernel_rfl) (by kernel_rfl) (by simp [Try.ntmps67]) (packet_Put.eq t0 t1 h0 R) H

def packet_Check (t0 : Value) (h0 : PH) (R : Value → PH → Prop) : Prop :=
 ∀ r1, h0 r1 = none → bindH (PH.set h0 r1 (.cells (Value.cells t0) T_api_Packet)) fun h2 =>
 popO (SemP PG (Instr.fieldAt T_api_Packet (Value.pointer (some ⟨r1, 0, none⟩)) 0)) fun v3 =>
 popO (SemE PG h2 (Instr.loadAt T_int v3)) fun v4 =>
 popO (SemP PG (binOp BinOp.lss T_int v4 (Value.int IntKind.i64 0))) fun v5 =>
 gopV (yV v5) false (fun k8 => popO (SemP PG (Instr.fieldAt T_api_Packet (Value.pointer (some ⟨r1, 0, none⟩)) 0)) fun v9 => k8 v9 h2) h2 fun v6 h7 =>
 gopV (yV v5) false (fun k12 => popO (SemE PG h7 (Instr.loadAt T_int v6)) fun v13 => k12 v13 h7) h7 fun v10 h11 =>
 gopV (yV v5) false (fun k16 => popO (SemP PG (binOp BinOp.gtr T_int v10 (Value.int IntKind.i64 1))) fun v17 => k16 v17 h11) h11 fun v14 h15 =>
 popO (pickV v5 (Value.bool true) v14) fun v18 =>
 gopV (yV v18) false (fun k21 => popO (SemP PG (Instr.fieldAt T_api_Packet (Value.pointer (some ⟨r1, 0, none⟩)) 1)) fun v22 => k21 v22 h15) h15 fun v19 h20 =>
 gopV (yV v18) false (fun k25 => popO (SemE PG h20 (Instr.loadAt T_uint64 v19)) fun v26 => k25 v26 h20) h20 fun v23 h24 =>
 gopV (yV v18) false (fun k29 => popO (SemE PG h24 (binS BinOp.eql T_uint64 (.tmp 13) (.const (Value.int IntKind.u64 0)) v23 (Value.int IntKind.u64 0))) fun v30 => k29 v30 h24) h24 fun v27 h28 =>
 popO (pickV v18 (Value.bool true) v27) fun v31 =>
 gopV (yV v31) false (fun k34 => popO (SemP PG (Instr.fieldAt T_api_Packet (Value.pointer (some ⟨r1, 0, none⟩)) 2)) fun v35 => k34 v35 h28) h28 fun v32 h33 =>
 gopV (yV v31) false (fun k38 => popO (SemE PG h33 (Instr.loadAt T_uint64 v32)) fun v39 => k38 v39 h33) h33 fun v36 h37 =>
 gopV (yV v31) false (fun k42 => popO (SemE PG h37 (binS BinOp.eql T_uint64 (.tmp 18) (.const (Value.int IntKind.u64 0)) v36 (Value.int IntKind.u64 0))) fun v43 => k42 v43 h37) h37 fun v40 h41 =>
 popO (pickV v31 (Value.bool true) v40) fun v44 =>
 gopV (yV v44) false (fun k47 => popO (SemP PG (Instr.fieldAt T_api_Packet (Value.pointer (some ⟨r1, 0, none⟩)) 3)) fun v48 => k47 v48 h41) h41 fun v45 h46 =>
 gopV (yV v44) false (fun k51 => popO (SemE PG h46 (Instr.loadAt T_string v45)) fun v52 => k51 v52 h46) h46 fun v49 h50 =>
 gopV (yV v44) false (fun k55 => popO (SemP PG (Builtin.len_ #[T_string] T_int #[v49])) fun v56 => k55 v56 h50) h50 fun v53 h54 =>
 gopV (yV v44) false (fun k59 => popO (SemP PG (binOp BinOp.gtr T_int v53 (Value.int IntKind.i64 64))) fun v60 => k59 v60 h54) h54 fun v57 h58 =>
 popO (pickV v44 (Value.bool true) v57) fun v61 =>
 condV v61
 (R (Value.int IntKind.i64 1) h58)
 (R (Value.int IntKind.i64 0) h58)
def packet_Check.ann : Ann := { b := fun i => match i with  | _ => #[], ord := fun i => match i with  | _ => [], keep := fun i => match i with  | _ => [], n := 27 }
theorem packet_Check.eq (t0 : Value) (h0 : PH) (R : Value → PH → Prop) : codeF PG packet_Check.ann 200 (bodyOf Try.f49) (endH PG Try.f49 R) (fun t => (#[t0] : Array Value).getD t undef) h0 = packet_Check t0 h0 R := by kernel_rfl
theorem packet_Check.call {t0 : Value} {h0 : PH} {R : Value → PH → Prop} (H : packet_Check t0 h0 R) : CallsH PG id_packet_Check #[t0] h0 R :=
  callsF_by packet_Check.ann 200 mix Try.func49 (by kernel_rfl) (by kernel_rfl) (by kernel_rfl) (by kernel_rfl) (by simp [Try.ntmps49]) (packet_Check.eq t0 h0 R) H

def wire_Writer_Text (t0 : Value) (t1 : Value) (h0 : PH) (R : Value → PH → Prop) : Prop :=
 popO (SemP PG (Builtin.len_ #[T_string] T_int #[t1])) fun v1 =>
 popO (SemP PG (binOp BinOp.gtr T_int v1 (Value.int IntKind.i64 65535))) fun v2 =>
 condV v2
 (popO (SemP PG (nilS t0)) fun v3 =>
 popO (SemP PG (Instr.fieldAt T_wire_Writer v3 0)) fun v4 =>
 CallsH PG id_wire_memory_Fail #[v4, (Value.int IntKind.i64 1)] h0 fun v5 h6 =>
 R (Value.tuple #[]) h6)
 (popO (SemP PG (Builtin.len_ #[T_string] T_int #[t1])) fun v7 =>
 popO (SemP PG (convert T_int T_uint64 v7)) fun v8 =>
 CallsH PG id_wire_Writer_put #[t0, v8, (Value.int IntKind.i64 2)] h0 fun v9 h10 =>
 CallsH PG id_wire_Writer_Raw #[t0, t1] h10 fun v11 h12 =>
 R (Value.tuple #[]) h12)
def wire_Writer_Text.ann : Ann := { b := fun i => match i with  | _ => #[], ord := fun i => match i with  | _ => [], keep := fun i => match i with  | _ => [], n := 19 }
theorem wire_Writer_Text.eq (t0 : Value) (t1 : Value) (h0 : PH) (R : Value → PH → Prop) : codeF PG wire_Writer_Text.ann 200 (bodyOf Try.f81) (endH PG Try.f81 R) (fun t => (#[t0, t1] : Array Value).getD t undef) h0 = wire_Writer_Text t0 t1 h0 R := by kernel_rfl
theorem wire_Writer_Text.call {t0 : Value} {t1 : Value} {h0 : PH} {R : Value → PH → Prop} (H : wire_Writer_Text t0 t1 h0 R) : CallsH PG id_wire_Writer_Text #[t0, t1] h0 R :=
  callsF_by wire_Writer_Text.ann 200 mix Try.func81 (by kernel_rfl) (by kernel_rfl) (by kernel_rfl) (by kernel_rfl) (by simp [Try.ntmps81]) (wire_Writer_Text.eq t0 t1 h0 R) H

def wire_Writer_Raw (t0 : Value) (t1 : Value) (h0 : PH) (R : Value → PH → Prop) : Prop :=
 popO (SemP PG (nilS t0)) fun v1 =>
 popO (SemP PG (Instr.fieldAt T_wire_Writer v1 1)) fun v2 =>
 CallsH PG id_strings_Builder_WriteString #[v2, t1] h0 fun v3 h4 =>
 R (Value.tuple #[]) h4
def wire_Writer_Raw.ann : Ann := { b := fun i => match i with  | _ => #[], ord := fun i => match i with  | _ => [], keep := fun i => match i with  | _ => [], n := 9 }
theorem wire_Writer_Raw.eq (t0 : Value) (t1 : Value) (h0 : PH) (R : Value → PH → Prop) : codeF PG wire_Writer_Raw.ann 200 (bodyOf Try.f95) (endH PG Try.f95 R) (fun t => (#[t0, t1] : Array Value).getD t undef) h0 = wire_Writer_Raw t0 t1 h0 R := by kernel_rfl
theorem wire_Writer_Raw.call {t0 : Value} {t1 : Value} {h0 : PH} {R : Value → PH → Prop} (H : wire_Writer_Raw t0 t1 h0 R) : CallsH PG id_wire_Writer_Raw #[t0, t1] h0 R :=
  callsF_by wire_Writer_Raw.ann 200 mix Try.func95 (by kernel_rfl) (by kernel_rfl) (by kernel_rfl) (by kernel_rfl) (by simp [Try.ntmps95]) (wire_Writer_Raw.eq t0 t1 h0 R) H

def strings_Builder_WriteString (t0 : Value) (t1 : Value) (h0 : PH) (R : Value → PH → Prop) : Prop :=
 CallsH PG id_strings_Builder_copyCheck #[t0] h0 fun v1 h2 =>
 popO (SemP PG (nilS t0)) fun v3 =>
 popO (SemP PG (Instr.fieldAt T_strings_Builder v3 1)) fun v4 =>
 popO (SemE PG h2 (Instr.loadAt T_sl_uint8 v4)) fun v5 =>
 SemH PG (Builtin.append_ #[T_sl_uint8, T_string] T_sl_uint8 #[v5, t1]) h2 fun v6 h7 =>
 popO (SemP PG (nilS t0)) fun v8 =>
 popO (SemP PG (Instr.fieldAt T_strings_Builder v8 1)) fun v9 =>
 SemH PG (storeS T_sl_uint8 v9 v6) h7 fun v10 h11 =>
 popO (SemP PG (Builtin.len_ #[T_string] T_int #[t1])) fun v12 =>
 R (Value.tuple #[v12, Value.nilIface]) h11
def strings_Builder_WriteString.ann : Ann := { b := fun i => match i with  | _ => #[], ord := fun i => match i with  | _ => [], keep := fun i => match i with  | _ => [], n := 19 }
theorem strings_Builder_WriteString.eq (t0 : Value) (t1 : Value) (h0 : PH) (R : Value → PH → Prop) : codeF PG strings_Builder_WriteString.ann 200 (bodyOf Try.f101) (endH PG Try.f101 R) (fun t => (#[t0, t1] : Array Value).getD t undef) h0 = strings_Builder_WriteString t0 t1 h0 R := by kernel_rfl
theorem strings_Builder_WriteString.call {t0 : Value} {t1 : Value} {h0 : PH} {R : Value → PH → Prop} (H : strings_Builder_WriteString t0 t1 h0 R) : CallsH PG id_strings_Builder_WriteString #[t0, t1] h0 R :=
  callsF_by strings_Builder_WriteString.ann 200 mix Try.func101 (by kernel_rfl) (by kernel_rfl) (by kernel_rfl) (by kernel_rfl) (by simp [Try.ntmps101]) (strings_Builder_WriteString.eq t0 t1 h0 R) H

def note_PutItems_1 (t0 : Value) (h0 : PH) (R : Value → PH → Prop) : Prop :=
 ∀ r1, h0 r1 = none → bindH (PH.set h0 r1 (.cells (Value.cells t0) T_api_Item)) fun h2 =>
 ∀ r3, h2 r3 = none → bindH (PH.set h2 r3 (.cells (zcells PG T_api_Packet) T_api_Packet)) fun h4 =>
 popO (SemP PG (Instr.fieldAt T_api_Item (Value.pointer (some ⟨r1, 0, none⟩)) 1)) fun v5 =>
 popO (SemE PG h4 (Instr.loadAt T_int v5)) fun v6 =>
 popO (SemP PG (Instr.fieldAt T_api_Item (Value.pointer (some ⟨r1, 0, none⟩)) 0)) fun v7 =>
 popO (SemE PG h4 (Instr.loadAt T_api_Packet v7)) fun v8 =>
 CallsH PG id_note_kind #[v6, (Value.int IntKind.i64 2)] h4 fun v9 h10 =>
 SemE PG h10 (Instr.loadAt T_api_Packet v7) = some v8 ∧ (SemH PG (storeS T_api_Packet (Value.pointer (some ⟨r3, 0, none⟩)) v8) h10 fun v11 h12 =>
 (popO (SemE PG h12 (Instr.loadAt T_api_Packet (Value.pointer (some ⟨r3, 0, none⟩)))) fun v13 =>
 R (Value.tuple #[v9, v13]) h12))
def note_PutItems_1.ann : Ann := { b := fun i => match i with | 1 => #[0, 1, 3, 0, 8, 7, 63] | _ => #[], ord := fun i => match i with | 1 => [0, 1, 3, 4, 2, 5, 6] | _ => [], keep := fun i => match i with  | _ => [], n := 9 }
theorem note_PutItems_1.eq (t0 : Value) (h0 : PH) (R : Value → PH → Prop) : codeF PG note_PutItems_1.ann 200 (bodyOf Try.f42) (endH PG Try.f42 R) (fun t => (#[t0] : Array Value).getD t undef) h0 = note_PutItems_1 t0 h0 R := by kernel_rfl
theorem note_PutItems_1.call {t0 : Value} {h0 : PH} {R : Value → PH → Prop} (H : note_PutItems_1 t0 h0 R) : CallsH PG id_note_PutItems_1 #[t0] h0 R :=
  callsF_by note_PutItems_1.ann 200 mix Try.func42 (by kernel_rfl) (by kernel_rfl) (by kernel_rfl) (by kernel_rfl) (by simp [Try.ntmps42]) (note_PutItems_1.eq t0 h0 R) H

def note_kind (t0 : Value) (t1 : Value) (h0 : PH) (R : Value → PH → Prop) : Prop :=
 popO (SemP PG (binOp BinOp.lss T_int t0 (Value.int IntKind.i64 1))) fun v1 =>
 gopV (yV v1) false (fun k4 => k4 t0 h0) h0 fun v2 h3 =>
 gopV (yV v1) false (fun k7 => k7 t1 h3) h3 fun v5 h6 =>
 gopV (yV v1) false (fun k10 => popO (SemP PG (binOp BinOp.gtr T_int v2 v5)) fun v11 => k10 v11 h6) h6 fun v8 h9 =>
 popO (pickV v1 (Value.bool true) v8) fun v12 =>
 condV v12
 (R (Value.int IntKind.i64 (-1)) h9)
 (R t0 h9)
def note_kind.ann : Ann := { b := fun i => match i with  | _ => #[], ord := fun i => match i with  | _ => [], keep := fun i => match i with  | _ => [], n := 13 }
theorem note_kind.eq (t0 : Value) (t1 : Value) (h0 : PH) (R : Value → PH → Prop) : codeF PG note_kind.ann 200 (bodyOf Try.f43) (endH PG Try.f43 R) (fun t => (#[t0, t1] : Array Value).getD t undef) h0 = note_kind t0 t1 h0 R := by kernel_rfl
theorem note_kind.call {t0 : Value} {t1 : Value} {h0 : PH} {R : Value → PH → Prop} (H : note_kind t0 t1 h0 R) : CallsH PG id_note_kind #[t0, t1] h0 R :=
  callsF_by note_kind.ann 200 mix Try.func43 (by kernel_rfl) (by kernel_rfl) (by kernel_rfl) (by kernel_rfl) (by simp [Try.ntmps43]) (note_kind.eq t0 t1 h0 R) H

def wire_Writer_Bytes (t0 : Value) (h0 : PH) (R : Value → PH → Prop) : Prop :=
 popO (SemP PG (nilS t0)) fun v1 =>
 popO (SemP PG (Instr.fieldAt T_wire_Writer v1 0)) fun v2 =>
 CallsH PG id_wire_memory_Err #[v2] h0 fun v3 h4 =>
 popO (SemE PG h4 (binS BinOp.neq T_api_Errno (.tmp 9) (.const (Value.int IntKind.i64 0)) v3 (Value.int IntKind.i64 0))) fun v5 =>
 condV v5
 (R (Value.tuple #[(Value.string { data := #[] }), v3]) h4)
 (popO (SemP PG (nilS t0)) fun v6 =>
 popO (SemP PG (Instr.fieldAt T_wire_Writer v6 1)) fun v7 =>
 CallsH PG id_strings_Builder_String #[v7] h4 fun v8 h9 =>
 R (Value.tuple #[v8, (Value.int IntKind.i64 0)]) h9)
def wire_Writer_Bytes.ann : Ann := { b := fun i => match i with  | _ => #[], ord := fun i => match i with  | _ => [], keep := fun i => match i with  | _ => [], n := 16 }
theorem wire_Writer_Bytes.eq (t0 : Value) (h0 : PH) (R : Value → PH → Prop) : codeF PG wire_Writer_Bytes.ann 200 (bodyOf Try.f19) (endH PG Try.f19 R) (fun t => (#[t0] : Array Value).getD t undef) h0 = wire_Writer_Bytes t0 h0 R := by kernel_rfl
theorem wire_Writer_Bytes.call {t0 : Value} {h0 : PH} {R : Value → PH → Prop} (H : wire_Writer_Bytes t0 h0 R) : CallsH PG id_wire_Writer_Bytes #[t0] h0 R :=
  callsF_by wire_Writer_Bytes.ann 200 mix Try.func19 (by kernel_rfl) (by kernel_rfl) (by kernel_rfl) (by kernel_rfl) (by simp [Try.ntmps19]) (wire_Writer_Bytes.eq t0 h0 R) H

def wire_memory_Err (t0 : Value) (h0 : PH) (R : Value → PH → Prop) : Prop :=
 popO (SemP PG (nilS t0)) fun v1 =>
 popO (SemP PG (Instr.fieldAt T_wire_memory v1 0)) fun v2 =>
 popO (SemE PG h0 (Instr.loadAt T_api_Errno v2)) fun v3 =>
 R v3 h0
def wire_memory_Err.ann : Ann := { b := fun i => match i with  | _ => #[], ord := fun i => match i with  | _ => [], keep := fun i => match i with  | _ => [], n := 7 }
theorem wire_memory_Err.eq (t0 : Value) (h0 : PH) (R : Value → PH → Prop) : codeF PG wire_memory_Err.ann 200 (bodyOf Try.f44) (endH PG Try.f44 R) (fun t => (#[t0] : Array Value).getD t undef) h0 = wire_memory_Err t0 h0 R := by kernel_rfl
theorem wire_memory_Err.call {t0 : Value} {h0 : PH} {R : Value → PH → Prop} (H : wire_memory_Err t0 h0 R) : CallsH PG id_wire_memory_Err #[t0] h0 R :=
  callsF_by wire_memory_Err.ann 200 mix Try.func44 (by kernel_rfl) (by kernel_rfl) (by kernel_rfl) (by kernel_rfl) (by simp [Try.ntmps44]) (wire_memory_Err.eq t0 h0 R) H

def strings_Builder_String (t0 : Value) (h0 : PH) (R : Value → PH → Prop) : Prop :=
 popO (SemP PG (nilS t0)) fun v1 =>
 popO (SemP PG (Instr.fieldAt T_strings_Builder v1 1)) fun v2 =>
 popO (SemE PG h0 (Instr.loadAt T_sl_uint8 v2)) fun v3 =>
 popO (SemP PG (nilS t0)) fun v4 =>
 popO (SemP PG (Instr.fieldAt T_strings_Builder v4 1)) fun v5 =>
 popO (SemE PG h0 (Instr.loadAt T_sl_uint8 v5)) fun v6 =>
 popO (SemP PG (Builtin.len_ #[T_sl_uint8] T_int #[v6])) fun v7 =>
 SemH PG (Builtin.unsafeSliceData_ #[T_sl_uint8] T_p_uint8 #[v3]) h0 fun v8 h9 =>
 SemE PG h9 (Instr.loadAt T_sl_uint8 v5) = some v6 ∧ (SemH PG (Builtin.unsafeString_ #[T_p_uint8, T_int] T_string #[v8, v7]) h9 fun v10 h11 =>
 (R v10 h11))
def strings_Builder_String.ann : Ann := { b := fun i => match i with | 1 => #[0, 1, 3, 7, 15, 0, 32, 96, 224, 480, 1023, 2047] | _ => #[], ord := fun i => match i with | 1 => [0, 1, 2, 3, 5, 6, 7, 8, 9, 4, 10, 11] | _ => [], keep := fun i => match i with  | _ => [], n := 14 }
theorem strings_Builder_String.eq (t0 : Value) (h0 : PH) (R : Value → PH → Prop) : codeF PG strings_Builder_String.ann 200 (bodyOf Try.f45) (endH PG Try.f45 R) (fun t => (#[t0] : Array Value).getD t undef) h0 = strings_Builder_String t0 h0 R := by kernel_rfl
theorem strings_Builder_String.call {t0 : Value} {h0 : PH} {R : Value → PH → Prop} (H : strings_Builder_String t0 h0 R) : CallsH PG id_strings_Builder_String #[t0] h0 R :=
  callsF_by strings_Builder_String.ann 200 mix Try.func45 (by kernel_rfl) (by kernel_rfl) (by kernel_rfl) (by kernel_rfl) (by simp [Try.ntmps45]) (strings_Builder_String.eq t0 h0 R) H

def note_PutNotes (t0 : Value) (t1 : Value) (h0 : PH) (R : Value → PH → Prop) : Prop :=
 CallsH PG id_note_put_api_Note #[t0, (Value.func (Fn.func id_note_PutNotes_1) #[] #[]), t1] h0 fun v1 h2 =>
 R (Value.tuple #[]) h2
def note_PutNotes.ann : Ann := { b := fun i => match i with  | _ => #[], ord := fun i => match i with  | _ => [], keep := fun i => match i with  | _ => [], n := 7 }
theorem note_PutNotes.eq (t0 : Value) (t1 : Value) (h0 : PH) (R : Value → PH → Prop) : codeF PG note_PutNotes.ann 200 (bodyOf Try.f20) (endH PG Try.f20 R) (fun t => (#[t0, t1] : Array Value).getD t undef) h0 = note_PutNotes t0 t1 h0 R := by kernel_rfl
theorem note_PutNotes.call {t0 : Value} {t1 : Value} {h0 : PH} {R : Value → PH → Prop} (H : note_PutNotes t0 t1 h0 R) : CallsH PG id_note_PutNotes #[t0, t1] h0 R :=
  callsF_by note_PutNotes.ann 200 mix Try.func20 (by kernel_rfl) (by kernel_rfl) (by kernel_rfl) (by kernel_rfl) (by simp [Try.ntmps20]) (note_PutNotes.eq t0 t1 h0 R) H

def note_put_api_Note_b6 (R : Value → PH → Prop) (n5 : List Value → PH → Prop) (t0 : Value) (t1 : Value) (t14 : Value) (t15 : Value) (t16 : Value) (h0 : PH) : Prop :=
 popO (SemP PG (binOp BinOp.lss T_int t16 t15)) fun v7 =>
 condV v7
 (popO (SemP PG (Instr.indexAt T_sl_api_Note t14 t16)) fun v8 =>
 popO (SemE PG h0 (Instr.loadAt T_api_Note v8)) fun v9 =>
 ∀ r10, h0 r10 = none → bindH (PH.set h0 r10 (.cells (zcells PG T_api_Note) T_api_Note)) fun h11 =>
 SemH PG (storeS T_api_Note (Value.pointer (some ⟨r10, 0, none⟩)) v9) h11 fun v12 h13 =>
 popO (SemE PG h13 (Instr.loadAt T_api_Note (Value.pointer (some ⟨r10, 0, none⟩)))) fun v14 =>
 callC PG t1 #[v14] h13 fun v15 h16 =>
 popO (SemP PG (Instr.extract v15 0)) fun v17 =>
 popO (SemP PG (Instr.extract v15 1)) fun v18 =>
 ∀ r19, h16 r19 = none → bindH (PH.set h16 r19 (.cells (zcells PG T_api_Packet) T_api_Packet)) fun h20 =>
 SemH PG (storeS T_api_Packet (Value.pointer (some ⟨r19, 0, none⟩)) v18) h20 fun v21 h22 =>
 CallsH PG id_wire_Writer_Byte #[t0, v17] h22 fun v23 h24 =>
 popO (SemE PG h24 (Instr.loadAt T_api_Packet (Value.pointer (some ⟨r19, 0, none⟩)))) fun v25 =>
 CallsH PG id_packet_Put #[t0, v25] h24 fun v26 h27 =>
 popO (SemP PG (binOp BinOp.add T_int t16 (Value.int IntKind.i64 1))) fun v28 =>
 n5 [t0, t1, t14, t15, v28] h27)
 (R (Value.tuple #[]) h0)
def note_put_api_Note (t0 : Value) (t1 : Value) (t2 : Value) (h0 : PH) (R : Value → PH → Prop) : Prop :=
 popO (SemP PG (Builtin.len_ #[T_sl_api_Note] T_int #[t2])) fun v1 =>
 CallsH PG id_wire_Writer_Byte #[t0, v1] h0 fun v2 h3 =>
 popO (SemP PG (Builtin.len_ #[T_sl_api_Note] T_int #[t2])) fun v4 =>
 LoopL [0, 1, 14, 15, 16] (fun n5 ρ h => note_put_api_Note_b6 R n5 (ρ 0) (ρ 1) (ρ 14) (ρ 15) (ρ 16) h) [t0, t1, t2, v4, (Value.int IntKind.i64 0)] h3
def note_put_api_Note.ann : Ann := { b := fun i => match i with  | _ => #[], ord := fun i => match i with  | _ => [], keep := fun i => match i with | 2 => [0, 1, 14, 15, 16] | _ => [], n := 33 }
theorem note_put_api_Note.eq (t0 : Value) (t1 : Value) (t2 : Value) (h0 : PH) (R : Value → PH → Prop) : codeF PG note_put_api_Note.ann 200 (bodyOf Try.f46) (endH PG Try.f46 R) (fun t => (#[t0, t1, t2] : Array Value).getD t undef) h0 = note_put_api_Note t0 t1 t2 h0 R := by kernel_rfl
theorem note_put_api_Note.call {t0 : Value} {t1 : Value} {t2 : Value} {h0 : PH} {R : Value → PH → Prop} (H : note_put_api_Note t0 t1 t2 h0 R) : CallsH PG id_note_put_api_Note #[t0, t1, t2] h0 R :=
  callsF_by note_put_api_Note.ann 200 mix Try.func46 (by kernel_rfl) (by kernel_rfl) (by kernel_rfl) (by kernel_rfl) (by simp [Try.ntmps46]) (note_put_api_Note.eq t0 t1 t2 h0 R) H

def note_PutNotes_1 (t0 : Value) (h0 : PH) (R : Value → PH → Prop) : Prop :=
 ∀ r1, h0 r1 = none → bindH (PH.set h0 r1 (.cells (Value.cells t0) T_api_Note)) fun h2 =>
 ∀ r3, h2 r3 = none → bindH (PH.set h2 r3 (.cells (zcells PG T_api_Packet) T_api_Packet)) fun h4 =>
 popO (SemP PG (Instr.fieldAt T_api_Note (Value.pointer (some ⟨r1, 0, none⟩)) 0)) fun v5 =>
 popO (SemE PG h4 (Instr.loadAt T_int v5)) fun v6 =>
 popO (SemP PG (Instr.fieldAt T_api_Note (Value.pointer (some ⟨r1, 0, none⟩)) 1)) fun v7 =>
 popO (SemE PG h4 (Instr.loadAt T_api_Packet v7)) fun v8 =>
 CallsH PG id_note_kind #[v6, (Value.int IntKind.i64 4)] h4 fun v9 h10 =>
 SemE PG h10 (Instr.loadAt T_api_Packet v7) = some v8 ∧ (SemH PG (storeS T_api_Packet (Value.pointer (some ⟨r3, 0, none⟩)) v8) h10 fun v11 h12 =>
 (popO (SemE PG h12 (Instr.loadAt T_api_Packet (Value.pointer (some ⟨r3, 0, none⟩)))) fun v13 =>
 R (Value.tuple #[v9, v13]) h12))
def note_PutNotes_1.ann : Ann := { b := fun i => match i with | 1 => #[0, 1, 3, 0, 8, 7, 63] | _ => #[], ord := fun i => match i with | 1 => [0, 1, 3, 4, 2, 5, 6] | _ => [], keep := fun i => match i with  | _ => [], n := 9 }
theorem note_PutNotes_1.eq (t0 : Value) (h0 : PH) (R : Value → PH → Prop) : codeF PG note_PutNotes_1.ann 200 (bodyOf Try.f47) (endH PG Try.f47 R) (fun t => (#[t0] : Array Value).getD t undef) h0 = note_PutNotes_1 t0 h0 R := by kernel_rfl
theorem note_PutNotes_1.call {t0 : Value} {h0 : PH} {R : Value → PH → Prop} (H : note_PutNotes_1 t0 h0 R) : CallsH PG id_note_PutNotes_1 #[t0] h0 R :=
  callsF_by note_PutNotes_1.ann 200 mix Try.func47 (by kernel_rfl) (by kernel_rfl) (by kernel_rfl) (by kernel_rfl) (by simp [Try.ntmps47]) (note_PutNotes_1.eq t0 h0 R) H

def record_Replay_b30 (R : Value → PH → Prop) (n29 : List Value → PH → Prop) (t4 : Value) (t6 : Value) (t7 : Value) (t8 : Value) (t25 : Value) (t26 : Value) (t27 : Value) (h0 : PH) : Prop :=
 popO (SemP PG (binOp BinOp.lss T_int t27 t26)) fun v31 =>
 condV v31
 (popO (SemP PG (Instr.indexAt T_sl_string t25 t27)) fun v32 =>
 popO (SemE PG h0 (Instr.loadAt T_string v32)) fun v33 =>
 callC PG t8 #[v33] h0 fun v34 h35 =>
 popO (SemP PG (binOp BinOp.add T_int t27 (Value.int IntKind.i64 1))) fun v36 =>
 n29 [t4, t6, t7, t8, t25, t26, v36] h35)
 (popO (SemE PG h0 (Instr.loadAt T_api_Errno t7)) fun v37 =>
 popO (SemE PG h0 (binS BinOp.neq T_api_Errno (.tmp 35) (.const (Value.int IntKind.i64 0)) v37 (Value.int IntKind.i64 0))) fun v38 =>
 condV v38
 (popO (SemP PG (Instr.build T_api_Daemon #[])) fun v39 =>
 popO (SemE PG h0 (Instr.loadAt T_api_Errno t7)) fun v40 =>
 SemH PG (storeS T_api_Daemon t4 v39) h0 fun v41 h42 =>
 SemE PG h42 (Instr.loadAt T_api_Errno t7) = some v40 ∧ (popO (SemE PG h42 (Instr.loadAt T_api_Daemon t4)) fun v43 =>
 R (Value.tuple #[v43, v40]) h42))
 (popO (SemE PG h0 (Instr.loadAt T_api_Daemon t6)) fun v44 =>
 SemH PG (storeS T_api_Daemon t4 v44) h0 fun v45 h46 =>
 popO (SemE PG h46 (Instr.loadAt T_api_Daemon t4)) fun v47 =>
 R (Value.tuple #[v47, (Value.int IntKind.i64 0)]) h46))
def record_Replay (t0 : Value) (t1 : Value) (h0 : PH) (R : Value → PH → Prop) : Prop :=
 ∀ r1, h0 r1 = none → bindH (PH.set h0 r1 (.cells (Value.cells t0) T_int)) fun h2 =>
 ∀ r3, h2 r3 = none → bindH (PH.set h2 r3 (.cells (zcells PG T_api_Daemon) T_api_Daemon)) fun h4 =>
 popO (SemP PG (Builtin.len_ #[T_sl_string] T_int #[t1])) fun v5 =>
 popO (SemE PG h4 (binS BinOp.eql T_int (.tmp 12) (.const (Value.int IntKind.i64 0)) v5 (Value.int IntKind.i64 0))) fun v6 =>
 condV v6
 (popO (SemP PG (Instr.build T_api_Daemon #[])) fun v7 =>
 SemH PG (storeS T_api_Daemon (Value.pointer (some ⟨r3, 0, none⟩)) v7) h4 fun v8 h9 =>
 popO (SemE PG h9 (Instr.loadAt T_api_Daemon (Value.pointer (some ⟨r3, 0, none⟩)))) fun v10 =>
 R (Value.tuple #[v10, (Value.int IntKind.i64 3)]) h9)
 (popO (SemE PG h4 (Instr.loadAt T_int (Value.pointer (some ⟨r1, 0, none⟩)))) fun v11 =>
 popO (SemP PG (Instr.indexAt T_sl_string t1 (Value.int IntKind.i64 0))) fun v12 =>
 popO (SemE PG h4 (Instr.loadAt T_string v12)) fun v13 =>
 CallsH PG id_record_first #[v11, v13] h4 fun v14 h15 =>
 (popO (SemP PG (Instr.extract v14 0)) fun v16 =>
 popO (SemP PG (Instr.extract v14 1)) fun v17 =>
 ∀ r18, h15 r18 = none → bindH (PH.set h15 r18 (.cells (zcells PG T_api_Daemon) T_api_Daemon)) fun h19 =>
 ∀ r20, h19 r20 = none → bindH (PH.set h19 r20 (.cells (zcells PG T_api_Errno) T_api_Errno)) fun h21 =>
 SemH PG (storeS T_api_Daemon (Value.pointer (some ⟨r18, 0, none⟩)) v16) h21 fun v22 h23 =>
 (SemH PG (storeS T_api_Errno (Value.pointer (some ⟨r20, 0, none⟩)) v17) h23 fun v24 h25 =>
 (popO (SemP PG (Instr.makeFunc (Fn.func id_record_Replay_1) #[] #[(Value.pointer (some ⟨r20, 0, none⟩)), (Value.pointer (some ⟨r18, 0, none⟩)), (Value.pointer (some ⟨r1, 0, none⟩))])) fun v26 =>
 popO (SemP PG (Instr.sliceAt T_sl_string t1 (some (Value.int IntKind.i64 1)) none none)) fun v27 =>
 popO (SemP PG (Builtin.len_ #[T_sl_string] T_int #[v27])) fun v28 =>
 LoopL [4, 6, 7, 8, 25, 26, 27] (fun n29 ρ h => record_Replay_b30 R n29 (ρ 4) (ρ 6) (ρ 7) (ρ 8) (ρ 25) (ρ 26) (ρ 27) h) [(Value.pointer (some ⟨r3, 0, none⟩)), (Value.pointer (some ⟨r18, 0, none⟩)), (Value.pointer (some ⟨r20, 0, none⟩)), v26, v27, v28, (Value.int IntKind.i64 0)] h25))))
def record_Replay.ann : Ann := { b := fun i => match i with | 3 => #[0, 0, 2, 6, 15, 31, 63, 63, 0, 0, 895, 2047] | 11 => #[0, 0, 1, 7] | _ => #[], ord := fun i => match i with | 3 => [0, 1, 2, 3, 4, 5, 6, 7, 8, 9, 10, 11] | 11 => [0, 1, 2, 3] | _ => [], keep := fun i => match i with | 6 => [4, 6, 7, 8, 25, 26, 27] | _ => [], n := 40 }
theorem record_Replay.eq (t0 : Value) (t1 : Value) (h0 : PH) (R : Value → PH → Prop) : codeF PG record_Replay.ann 200 (bodyOf Try.f9) (endH PG Try.f9 R) (fun t => (#[t0, t1] : Array Value).getD t undef) h0 = record_Replay t0 t1 h0 R := by kernel_rfl
theorem record_Replay.call {t0 : Value} {t1 : Value} {h0 : PH} {R : Value → PH → Prop} (H : record_Replay t0 t1 h0 R) : CallsH PG id_record_Replay #[t0, t1] h0 R :=
  callsF_by record_Replay.ann 200 mix Try.func9 (by kernel_rfl) (by kernel_rfl) (by kernel_rfl) (by kernel_rfl) (by simp [Try.ntmps9]) (record_Replay.eq t0 t1 h0 R) H

def record_first (t0 : Value) (t1 : Value) (h0 : PH) (R : Value → PH → Prop) : Prop :=
 ∀ r1, h0 r1 = none → bindH (PH.set h0 r1 (.cells (zcells PG T_api_Daemon) T_api_Daemon)) fun h2 =>
 CallsH PG id_record_Parse #[t1] h2 fun v3 h4 =>
 popO (SemP PG (Instr.extract v3 0)) fun v5 =>
 popO (SemP PG (Instr.extract v3 1)) fun v6 =>
 ∀ r7, h4 r7 = none → bindH (PH.set h4 r7 (.cells (zcells PG T_api_Record) T_api_Record)) fun h8 =>
 SemH PG (storeS T_api_Record (Value.pointer (some ⟨r7, 0, none⟩)) v5) h8 fun v9 h10 =>
 popO (SemE PG h10 (binS BinOp.neq T_api_Errno (.tmp 15) (.const (Value.int IntKind.i64 0)) v6 (Value.int IntKind.i64 0))) fun v11 =>
 condV v11
 (popO (SemP PG (Instr.build T_api_Daemon #[])) fun v12 =>
 SemH PG (storeS T_api_Daemon (Value.pointer (some ⟨r1, 0, none⟩)) v12) h10 fun v13 h14 =>
 popO (SemE PG h14 (Instr.loadAt T_api_Daemon (Value.pointer (some ⟨r1, 0, none⟩)))) fun v15 =>
 R (Value.tuple #[v15, v6]) h14)
 (popO (SemP PG (Instr.fieldAt T_api_Record (Value.pointer (some ⟨r7, 0, none⟩)) 0)) fun v16 =>
 popO (SemE PG h10 (Instr.loadAt T_int v16)) fun v17 =>
 popO (SemE PG h10 (binS BinOp.neq T_int (.tmp 21) (.const (Value.int IntKind.i64 1)) v17 (Value.int IntKind.i64 1))) fun v18 =>
 condV v18
 (popO (SemP PG (Instr.build T_api_Daemon #[])) fun v19 =>
 SemH PG (storeS T_api_Daemon (Value.pointer (some ⟨r1, 0, none⟩)) v19) h10 fun v20 h21 =>
 popO (SemE PG h21 (Instr.loadAt T_api_Daemon (Value.pointer (some ⟨r1, 0, none⟩)))) fun v22 =>
 R (Value.tuple #[v22, (Value.int IntKind.i64 5)]) h21)
 (popO (SemP PG (Instr.fieldAt T_api_Record (Value.pointer (some ⟨r7, 0, none⟩)) 1)) fun v23 =>
 popO (SemE PG h10 (Instr.loadAt T_api_Daemon v23)) fun v24 =>
 CallsH PG id_record_Check #[v24, t0] h10 fun v25 h26 =>
 popO (SemE PG h26 (binS BinOp.neq T_api_Errno (.tmp 28) (.const (Value.int IntKind.i64 0)) v25 (Value.int IntKind.i64 0))) fun v27 =>
 condV v27
 (popO (SemP PG (Instr.build T_api_Daemon #[])) fun v28 =>
 SemH PG (storeS T_api_Daemon (Value.pointer (some ⟨r1, 0, none⟩)) v28) h26 fun v29 h30 =>
 popO (SemE PG h30 (Instr.loadAt T_api_Daemon (Value.pointer (some ⟨r1, 0, none⟩)))) fun v31 =>
 R (Value.tuple #[v31, v25]) h30)
 (popO (SemP PG (Instr.fieldAt T_api_Record (Value.pointer (some ⟨r7, 0, none⟩)) 1)) fun v32 =>
 popO (SemE PG h26 (Instr.loadAt T_api_Daemon v32)) fun v33 =>
 SemH PG (storeS T_api_Daemon (Value.pointer (some ⟨r1, 0, none⟩)) v33) h26 fun v34 h35 =>
 popO (SemE PG h35 (Instr.loadAt T_api_Daemon (Value.pointer (some ⟨r1, 0, none⟩)))) fun v36 =>
 R (Value.tuple #[v36, (Value.int IntKind.i64 0)]) h35)))
def record_first.ann : Ann := { b := fun i => match i with  | _ => #[], ord := fun i => match i with  | _ => [], keep := fun i => match i with  | _ => [], n := 34 }
theorem record_first.eq (t0 : Value) (t1 : Value) (h0 : PH) (R : Value → PH → Prop) : codeF PG record_first.ann 200 (bodyOf Try.f21) (endH PG Try.f21 R) (fun t => (#[t0, t1] : Array Value).getD t undef) h0 = record_first t0 t1 h0 R := by kernel_rfl
theorem record_first.call {t0 : Value} {t1 : Value} {h0 : PH} {R : Value → PH → Prop} (H : record_first t0 t1 h0 R) : CallsH PG id_record_first #[t0, t1] h0 R :=
  callsF_by record_first.ann 200 mix Try.func21 (by kernel_rfl) (by kernel_rfl) (by kernel_rfl) (by kernel_rfl) (by simp [Try.ntmps21]) (record_first.eq t0 t1 h0 R) H

def record_Check (t0 : Value) (t1 : Value) (h0 : PH) (R : Value → PH → Prop) : Prop :=
 ∀ r1, h0 r1 = none → bindH (PH.set h0 r1 (.cells (Value.cells t0) T_api_Daemon)) fun h2 =>
 popO (SemP PG (Instr.fieldAt T_api_Daemon (Value.pointer (some ⟨r1, 0, none⟩)) 1)) fun v3 =>
 popO (SemE PG h2 (Instr.loadAt T_sl_api_Item v3)) fun v4 =>
 CallsH PG id_table_Of #[t1, v4] h2 fun v5 h6 =>
 popO (SemP PG (Instr.extract v5 0)) fun v7 =>
 popO (SemP PG (Instr.extract v5 1)) fun v8 =>
 popO (SemP PG (Instr.fieldAt T_api_Daemon (Value.pointer (some ⟨r1, 0, none⟩)) 0)) fun v9 =>
 popO (SemP PG (Instr.sliceAt T_2_api_Place v9 none none none)) fun v10 =>
 CallsH PG id_slices_ContainsFunc_sl_api_Place_api_Place #[v10, (Value.func (Fn.func id_record_Check_1) #[] #[])] h6 fun v11 h12 =>
 popO (SemE PG h12 (binS BinOp.eql T_api_Errno (.tmp 19) (.const (Value.int IntKind.i64 1)) v8 (Value.int IntKind.i64 1))) fun v13 =>
 gopV (yV v13) false (fun k16 => k16 v11 h12) h12 fun v14 h15 =>
 popO (pickV v13 (Value.bool true) v14) fun v17 =>
 condV v17
 (R (Value.int IntKind.i64 1) h15)
 (popO (SemE PG h15 (binS BinOp.neq T_api_Errno (.tmp 25) (.const (Value.int IntKind.i64 0)) v8 (Value.int IntKind.i64 0))) fun v18 =>
 condV v18
 (R v8 h15)
 (popO (SemP PG (Instr.fieldAt T_api_Daemon (Value.pointer (some ⟨r1, 0, none⟩)) 1)) fun v19 =>
 popO (SemE PG h15 (Instr.loadAt T_sl_api_Item v19)) fun v20 =>
 CallsH PG id_table_Table_Items #[v7] h15 fun v21 h22 =>
 SemE PG h22 (Instr.loadAt T_sl_api_Item v19) = some v20 ∧ (CallsH PG id_slices_Equal_sl_api_Item_api_Item #[v21, v20] h22 fun v23 h24 =>
 (popO (SemP PG (Op.unary UnOp.not v23)) fun v25 =>
 condV v25
 (R (Value.int IntKind.i64 15) h24)
 (R (Value.int IntKind.i64 0) h24)))))
def record_Check.ann : Ann := { b := fun i => match i with | 7 => #[0, 1, 0, 4, 15, 31, 63] | _ => #[], ord := fun i => match i with | 7 => [0, 2, 3, 1, 4, 5, 6] | _ => [], keep := fun i => match i with  | _ => [], n := 35 }
theorem record_Check.eq (t0 : Value) (t1 : Value) (h0 : PH) (R : Value → PH → Prop) : codeF PG record_Check.ann 200 (bodyOf Try.f10) (endH PG Try.f10 R) (fun t => (#[t0, t1] : Array Value).getD t undef) h0 = record_Check t0 t1 h0 R := by kernel_rfl
theorem record_Check.call {t0 : Value} {t1 : Value} {h0 : PH} {R : Value → PH → Prop} (H : record_Check t0 t1 h0 R) : CallsH PG id_record_Check #[t0, t1] h0 R :=
  callsF_by record_Check.ann 200 mix Try.func10 (by kernel_rfl) (by kernel_rfl) (by kernel_rfl) (by kernel_rfl) (by simp [Try.ntmps10]) (record_Check.eq t0 t1 h0 R) H

def table_Of_b8 (R : Value → PH → Prop) (n7 : List Value → PH → Prop) (t0 : Value) (t1 : Value) (t6 : Value) (t8 : Value) (t22 : Value) (t23 : Value) (t24 : Value) (h0 : PH) : Prop :=
 popO (SemP PG (binOp BinOp.lss T_int t24 t23)) fun v9 =>
 condV v9
 (popO (SemP PG (Instr.indexAt T_sl_api_Item t22 t24)) fun v10 =>
 popO (SemE PG h0 (Instr.loadAt T_api_Item v10)) fun v11 =>
 ∀ r12, h0 r12 = none → bindH (PH.set h0 r12 (.cells (zcells PG T_api_Item) T_api_Item)) fun h13 =>
 SemH PG (storeS T_api_Item (Value.pointer (some ⟨r12, 0, none⟩)) v11) h13 fun v14 h15 =>
 popO (SemP PG (Instr.fieldAt T_api_Item (Value.pointer (some ⟨r12, 0, none⟩)) 1)) fun v16 =>
 popO (SemE PG h15 (Instr.loadAt T_int v16)) fun v17 =>
 popO (SemE PG h15 (binS BinOp.neq T_int (.tmp 29) (.const (Value.int IntKind.i64 1)) v17 (Value.int IntKind.i64 1))) fun v18 =>
 gopV (yV v18) true (fun k21 => popO (SemP PG (Instr.fieldAt T_api_Item (Value.pointer (some ⟨r12, 0, none⟩)) 1)) fun v22 => k21 v22 h15) h15 fun v19 h20 =>
 gopV (yV v18) true (fun k25 => popO (SemE PG h20 (Instr.loadAt T_int v19)) fun v26 => k25 v26 h20) h20 fun v23 h24 =>
 gopV (yV v18) true (fun k29 => popO (SemE PG h24 (binS BinOp.neq T_int (.tmp 33) (.const (Value.int IntKind.i64 2)) v23 (Value.int IntKind.i64 2))) fun v30 => k29 v30 h24) h24 fun v27 h28 =>
 popO (pickV v18 v27 (Value.bool false)) fun v31 =>
 gopV (yV v31) false (fun k34 => popO (SemP PG (Instr.fieldAt T_api_Item (Value.pointer (some ⟨r12, 0, none⟩)) 0)) fun v35 => k34 v35 h28) h28 fun v32 h33 =>
 gopV (yV v31) false (fun k38 => popO (SemE PG h33 (Instr.loadAt T_api_Packet v32)) fun v39 => k38 v39 h33) h33 fun v36 h37 =>
 gopV (yV v31) false (fun k42 => CallsH PG id_packet_Check #[v36] h37 fun v43 h44 => k42 v43 h44) h37 fun v40 h41 =>
 gopV (yV v31) false (fun k47 => popO (SemE PG h41 (binS BinOp.neq T_api_Errno (.tmp 39) (.const (Value.int IntKind.i64 0)) v40 (Value.int IntKind.i64 0))) fun v48 => k47 v48 h41) h41 fun v45 h46 =>
 popO (pickV v31 (Value.bool true) v45) fun v49 =>
 condV v49
 (R (Value.tuple #[(Value.pointer none), (Value.int IntKind.i64 1)]) h46)
 (popO (SemP PG (Instr.fieldAt T_api_Item (Value.pointer (some ⟨r12, 0, none⟩)) 0)) fun v50 =>
 popO (SemP PG (Instr.fieldAt T_api_Packet v50 0)) fun v51 =>
 popO (SemE PG h46 (Instr.loadAt T_int v51)) fun v52 =>
 popO (SemP PG (Instr.fieldAt T_api_Item (Value.pointer (some ⟨r12, 0, none⟩)) 0)) fun v53 =>
 popO (SemP PG (Instr.fieldAt T_api_Packet v53 1)) fun v54 =>
 popO (SemE PG h46 (Instr.loadAt T_uint64 v54)) fun v55 =>
 popO (SemP PG (Instr.build T_table_id #[(0, v52), (1, v55)])) fun v56 =>
 ∀ r57, h46 r57 = none → bindH (PH.set h46 r57 (.cells (zcells PG T_table_id) T_table_id)) fun h58 =>
 SemH PG (storeS T_table_id (Value.pointer (some ⟨r57, 0, none⟩)) v56) h58 fun v59 h60 =>
 popO (SemP PG (nilS t6)) fun v61 =>
 popO (SemP PG (Instr.fieldAt T_table_Table v61 0)) fun v62 =>
 popO (SemE PG h60 (Instr.loadAt T_map_table_id_api_Item v62)) fun v63 =>
 popO (SemE PG h60 (Instr.loadAt T_table_id (Value.pointer (some ⟨r57, 0, none⟩)))) fun v64 =>
 popO (SemE PG h60 (Instr.lookup T_map_table_id_api_Item v63 v64 true)) fun v65 =>
 popO (SemP PG (Instr.extract v65 0)) fun v66 =>
 popO (SemP PG (Instr.extract v65 1)) fun v67 =>
 ∀ r68, h60 r68 = none → bindH (PH.set h60 r68 (.cells (zcells PG T_api_Item) T_api_Item)) fun h69 =>
 SemH PG (storeS T_api_Item (Value.pointer (some ⟨r68, 0, none⟩)) v66) h69 fun v70 h71 =>
 (gopV (yV t8) false (fun k74 => k74 v67 h71) h71 fun v72 h73 =>
 popO (pickV t8 (Value.bool true) v72) fun v75 =>
 popO (SemP PG (nilS t6)) fun v76 =>
 popO (SemP PG (Instr.fieldAt T_table_Table v76 0)) fun v77 =>
 popO (SemE PG h73 (Instr.loadAt T_map_table_id_api_Item v77)) fun v78 =>
 popO (SemE PG h73 (Instr.loadAt T_table_id (Value.pointer (some ⟨r57, 0, none⟩)))) fun v79 =>
 popO (SemE PG h73 (Instr.loadAt T_api_Item (Value.pointer (some ⟨r12, 0, none⟩)))) fun v80 =>
 SemH PG (mapUpdS T_map_table_id_api_Item v78 v79 v80) h73 fun v81 h82 =>
 (popO (SemP PG (binOp BinOp.add T_int t24 (Value.int IntKind.i64 1))) fun v83 =>
 n7 [t0, t1, t6, v75, t22, t23, v83] h82))))
 (condV t8
 (R (Value.tuple #[(Value.pointer none), (Value.int IntKind.i64 4)]) h0)
 (popO (SemP PG (Builtin.len_ #[T_sl_api_Item] T_int #[t1])) fun v84 =>
 popO (SemP PG (binOp BinOp.gtr T_int v84 t0)) fun v85 =>
 condV v85
 (R (Value.tuple #[(Value.pointer none), (Value.int IntKind.i64 2)]) h0)
 (R (Value.tuple #[t6, (Value.int IntKind.i64 0)]) h0)))
def table_Of (t0 : Value) (t1 : Value) (h0 : PH) (R : Value → PH → Prop) : Prop :=
 CallsH PG id_table_New #[t0] h0 fun v1 h2 =>
 popO (SemP PG (Instr.extract v1 0)) fun v3 =>
 popO (SemP PG (Instr.extract v1 1)) fun v4 =>
 popO (SemE PG h2 (binS BinOp.neq T_api_Errno (.tmp 19) (.const (Value.int IntKind.i64 0)) v4 (Value.int IntKind.i64 0))) fun v5 =>
 condV v5
 (R (Value.tuple #[(Value.pointer none), v4]) h2)
 (popO (SemP PG (Builtin.len_ #[T_sl_api_Item] T_int #[t1])) fun v6 =>
 LoopL [0, 1, 6, 8, 22, 23, 24] (fun n7 ρ h => table_Of_b8 R n7 (ρ 0) (ρ 1) (ρ 6) (ρ 8) (ρ 22) (ρ 23) (ρ 24) h) [t0, t1, v3, (Value.bool false), t1, v6, (Value.int IntKind.i64 0)] h2)
def table_Of.ann : Ann := { b := fun i => match i with | 11 => #[0, 1, 3, 7, 0, 31, 63, 127, 127, 0, 767, 2047] | 13 => #[0, 1, 3, 7, 0, 0, 63] | _ => #[], ord := fun i => match i with | 11 => [0, 1, 2, 3, 4, 5, 6, 7, 8, 9, 10, 11] | 13 => [0, 1, 2, 3, 4, 5, 6] | _ => [], keep := fun i => match i with | 6 => [0, 1, 6, 8, 22, 23, 24] | _ => [], n := 77 }
theorem table_Of.eq (t0 : Value) (t1 : Value) (h0 : PH) (R : Value → PH → Prop) : codeF PG table_Of.ann 200 (bodyOf Try.f23) (endH PG Try.f23 R) (fun t => (#[t0, t1] : Array Value).getD t undef) h0 = table_Of t0 t1 h0 R := by kernel_rfl
theorem table_Of.call {t0 : Value} {t1 : Value} {h0 : PH} {R : Value → PH → Prop} (H : table_Of t0 t1 h0 R) : CallsH PG id_table_Of #[t0, t1] h0 R :=
  callsF_by table_Of.ann 200 mix Try.func23 (by kernel_rfl) (by kernel_rfl) (by kernel_rfl) (by kernel_rfl) (by simp [Try.ntmps23]) (table_Of.eq t0 t1 h0 R) H

def table_New (t0 : Value) (h0 : PH) (R : Value → PH → Prop) : Prop :=
 popO (SemP PG (binOp BinOp.lss T_int t0 (Value.int IntKind.i64 1))) fun v1 =>
 gopV (yV v1) false (fun k4 => k4 t0 h0) h0 fun v2 h3 =>
 gopV (yV v1) false (fun k7 => popO (SemP PG (binOp BinOp.gtr T_int v2 (Value.int IntKind.i64 40))) fun v8 => k7 v8 h3) h3 fun v5 h6 =>
 popO (pickV v1 (Value.bool true) v5) fun v9 =>
 condV v9
 (R (Value.tuple #[(Value.pointer none), (Value.int IntKind.i64 1)]) h6)
 (popO (SemA PG (Instr.makeMap T_map_table_id_api_Item none)) fun x11 => ∀ r10, h6 r10 = none → popO (SemP PG (x11.2 r10)) fun v12 => bindH (PH.set h6 r10 x11.1) fun h13 =>
 popO (SemP PG (Instr.build T_table_Table #[(0, v12), (1, t0)])) fun v14 =>
 ∀ r15, h13 r15 = none → bindH (PH.set h13 r15 (.cells (Value.cells v14) T_table_Table)) fun h16 =>
 R (Value.tuple #[(Value.pointer (some ⟨r15, 0, none⟩)), (Value.int IntKind.i64 0)]) h16)
def table_New.ann : Ann := { b := fun i => match i with  | _ => #[], ord := fun i => match i with  | _ => [], keep := fun i => match i with  | _ => [], n := 14 }
theorem table_New.eq (t0 : Value) (h0 : PH) (R : Value → PH → Prop) : codeF PG table_New.ann 200 (bodyOf Try.f48) (endH PG Try.f48 R) (fun t => (#[t0] : Array Value).getD t undef) h0 = table_New t0 h0 R := by kernel_rfl
theorem table_New.call {t0 : Value} {h0 : PH} {R : Value → PH → Prop} (H : table_New t0 h0 R) : CallsH PG id_table_New #[t0] h0 R :=
  callsF_by table_New.ann 200 mix Try.func48 (by kernel_rfl) (by kernel_rfl) (by kernel_rfl) (by kernel_rfl) (by simp [Try.ntmps48]) (table_New.eq t0 h0 R) H

def slices_ContainsFunc_sl_api_Place_api_Place (t0 : Value) (t1 : Value) (h0 : PH) (R : Value → PH → Prop) : Prop :=
 CallsH PG id_slices_IndexFunc_sl_api_Place_api_Place #[t0, t1] h0 fun v1 h2 =>
 popO (SemP PG (binOp BinOp.geq T_int v1 (Value.int IntKind.i64 0))) fun v3 =>
 R v3 h2
def slices_ContainsFunc_sl_api_Place_api_Place.ann : Ann := { b := fun i => match i with  | _ => #[], ord := fun i => match i with  | _ => [], keep := fun i => match i with  | _ => [], n := 9 }
theorem slices_ContainsFunc_sl_api_Place_api_Place.eq (t0 : Value) (t1 : Value) (h0 : PH) (R : Value → PH → Prop) : codeF PG slices_ContainsFunc_sl_api_Place_api_Place.ann 200 (bodyOf Try.f24) (endH PG Try.f24 R) (fun t => (#[t0, t1] : Array Value).getD t undef) h0 = slices_ContainsFunc_sl_api_Place_api_Place t0 t1 h0 R := by kernel_rfl
theorem slices_ContainsFunc_sl_api_Place_api_Place.call {t0 : Value} {t1 : Value} {h0 : PH} {R : Value → PH → Prop} (H : slices_ContainsFunc_sl_api_Place_api_Place t0 t1 h0 R) : CallsH PG id_slices_ContainsFunc_sl_api_Place_api_Place #[t0, t1] h0 R :=
  callsF_by slices_ContainsFunc_sl_api_Place_api_Place.ann 200 mix Try.func24 (by kernel_rfl) (by kernel_rfl) (by kernel_rfl) (by kernel_rfl) (by simp [Try.ntmps24]) (slices_ContainsFunc_sl_api_Place_api_Place.eq t0 t1 h0 R) H

def slices_IndexFunc_sl_api_Place_api_Place_b3 (R : Value → PH → Prop) (n2 : List Value → PH → Prop) (t0 : Value) (t1 : Value) (t7 : Value) (t8 : Value) (h0 : PH) : Prop :=
 popO (SemP PG (binOp BinOp.lss T_int t8 t7)) fun v4 =>
 condV v4
 (popO (SemP PG (Instr.indexAt T_sl_api_Place t0 t8)) fun v5 =>
 popO (SemE PG h0 (Instr.loadAt T_api_Place v5)) fun v6 =>
 callC PG t1 #[v6] h0 fun v7 h8 =>
 condV v7
 (R t8 h8)
 (popO (SemP PG (binOp BinOp.add T_int t8 (Value.int IntKind.i64 1))) fun v9 =>
 n2 [t0, t1, t7, v9] h8))
 (R (Value.int IntKind.i64 (-1)) h0)
def slices_IndexFunc_sl_api_Place_api_Place (t0 : Value) (t1 : Value) (h0 : PH) (R : Value → PH → Prop) : Prop :=
 popO (SemP PG (Builtin.len_ #[T_sl_api_Place] T_int #[t0])) fun v1 =>
 LoopL [0, 1, 7, 8] (fun n2 ρ h => slices_IndexFunc_sl_api_Place_api_Place_b3 R n2 (ρ 0) (ρ 1) (ρ 7) (ρ 8) h) [t0, t1, v1, (Value.int IntKind.i64 0)] h0
def slices_IndexFunc_sl_api_Place_api_Place.ann : Ann := { b := fun i => match i with  | _ => #[], ord := fun i => match i with  | _ => [], keep := fun i => match i with | 2 => [0, 1, 7, 8] | _ => [], n := 19 }
theorem slices_IndexFunc_sl_api_Place_api_Place.eq (t0 : Value) (t1 : Value) (h0 : PH) (R : Value → PH → Prop) : codeF PG slices_IndexFunc_sl_api_Place_api_Place.ann 200 (bodyOf Try.f50) (endH PG Try.f50 R) (fun t => (#[t0, t1] : Array Value).getD t undef) h0 = slices_IndexFunc_sl_api_Place_api_Place t0 t1 h0 R := by kernel_rfl
theorem slices_IndexFunc_sl_api_Place_api_Place.call {t0 : Value} {t1 : Value} {h0 : PH} {R : Value → PH → Prop} (H : slices_IndexFunc_sl_api_Place_api_Place t0 t1 h0 R) : CallsH PG id_slices_IndexFunc_sl_api_Place_api_Place #[t0, t1] h0 R :=
  callsF_by slices_IndexFunc_sl_api_Place_api_Place.ann 200 mix Try.func50 (by kernel_rfl) (by kernel_rfl) (by kernel_rfl) (by kernel_rfl) (by simp [Try.ntmps50]) (slices_IndexFunc_sl_api_Place_api_Place.eq t0 t1 h0 R) H

def record_Check_1 (t0 : Value) (h0 : PH) (R : Value → PH → Prop) : Prop :=
 ∀ r1, h0 r1 = none → bindH (PH.set h0 r1 (.cells (Value.cells t0) T_api_Place)) fun h2 =>
 popO (SemP PG (Instr.fieldAt T_api_Place (Value.pointer (some ⟨r1, 0, none⟩)) 1)) fun v3 =>
 popO (SemE PG h2 (Instr.loadAt T_int v3)) fun v4 =>
 popO (SemP PG (binOp BinOp.lss T_int v4 (Value.int IntKind.i64 0))) fun v5 =>
 gopV (yV v5) false (fun k8 => popO (SemP PG (Instr.fieldAt T_api_Place (Value.pointer (some ⟨r1, 0, none⟩)) 1)) fun v9 => k8 v9 h2) h2 fun v6 h7 =>
 gopV (yV v5) false (fun k12 => popO (SemE PG h7 (Instr.loadAt T_int v6)) fun v13 => k12 v13 h7) h7 fun v10 h11 =>
 gopV (yV v5) false (fun k16 => popO (SemP PG (binOp BinOp.gtr T_int v10 (Value.int IntKind.i64 65535))) fun v17 => k16 v17 h11) h11 fun v14 h15 =>
 popO (pickV v5 (Value.bool true) v14) fun v18 =>
 R v18 h15
def record_Check_1.ann : Ann := { b := fun i => match i with  | _ => #[], ord := fun i => match i with  | _ => [], keep := fun i => match i with  | _ => [], n := 11 }
theorem record_Check_1.eq (t0 : Value) (h0 : PH) (R : Value → PH → Prop) : codeF PG record_Check_1.ann 200 (bodyOf Try.f25) (endH PG Try.f25 R) (fun t => (#[t0] : Array Value).getD t undef) h0 = record_Check_1 t0 h0 R := by kernel_rfl
theorem record_Check_1.call {t0 : Value} {h0 : PH} {R : Value → PH → Prop} (H : record_Check_1 t0 h0 R) : CallsH PG id_record_Check_1 #[t0] h0 R :=
  callsF_by record_Check_1.ann 200 mix Try.func25 (by kernel_rfl) (by kernel_rfl) (by kernel_rfl) (by kernel_rfl) (by simp [Try.ntmps25]) (record_Check_1.eq t0 h0 R) H

def slices_Equal_sl_api_Item_api_Item_b6 (R : Value → PH → Prop) (n5 : List Value → PH → Prop) (t0 : Value) (t1 : Value) (t12 : Value) (t13 : Value) (h0 : PH) : Prop :=
 popO (SemP PG (binOp BinOp.lss T_int t13 t12)) fun v7 =>
 condV v7
 (popO (SemP PG (Instr.indexAt T_sl_api_Item t0 t13)) fun v8 =>
 popO (SemE PG h0 (Instr.loadAt T_api_Item v8)) fun v9 =>
 popO (SemP PG (Instr.indexAt T_sl_api_Item t1 t13)) fun v10 =>
 popO (SemE PG h0 (Instr.loadAt T_api_Item v10)) fun v11 =>
 popO (SemE PG h0 (binS BinOp.neq T_api_Item (.tmp 19) (.tmp 23) v9 v11)) fun v12 =>
 condV v12
 (R (Value.bool false) h0)
 (popO (SemP PG (binOp BinOp.add T_int t13 (Value.int IntKind.i64 1))) fun v13 =>
 n5 [t0, t1, t12, v13] h0))
 (R (Value.bool true) h0)
def slices_Equal_sl_api_Item_api_Item (t0 : Value) (t1 : Value) (h0 : PH) (R : Value → PH → Prop) : Prop :=
 popO (SemP PG (Builtin.len_ #[T_sl_api_Item] T_int #[t0])) fun v1 =>
 popO (SemP PG (Builtin.len_ #[T_sl_api_Item] T_int #[t1])) fun v2 =>
 popO (SemE PG h0 (binS BinOp.neq T_int (.tmp 7) (.tmp 9) v1 v2)) fun v3 =>
 condV v3
 (R (Value.bool false) h0)
 (popO (SemP PG (Builtin.len_ #[T_sl_api_Item] T_int #[t0])) fun v4 =>
 LoopL [0, 1, 12, 13] (fun n5 ρ h => slices_Equal_sl_api_Item_api_Item_b6 R n5 (ρ 0) (ρ 1) (ρ 12) (ρ 13) h) [t0, t1, v4, (Value.int IntKind.i64 0)] h0)
def slices_Equal_sl_api_Item_api_Item.ann : Ann := { b := fun i => match i with | 6 => #[0, 0, 3, 7, 0, 0, 48, 112, 255] | _ => #[], ord := fun i => match i with | 6 => [0, 1, 2, 3, 4, 5, 6, 7, 8] | _ => [], keep := fun i => match i with | 4 => [0, 1, 12, 13] | _ => [], n := 26 }
theorem slices_Equal_sl_api_Item_api_Item.eq (t0 : Value) (t1 : Value) (h0 : PH) (R : Value → PH → Prop) : codeF PG slices_Equal_sl_api_Item_api_Item.ann 200 (bodyOf Try.f26) (endH PG Try.f26 R) (fun t => (#[t0, t1] : Array Value).getD t undef) h0 = slices_Equal_sl_api_Item_api_Item t0 t1 h0 R := by kernel_rfl
theorem slices_Equal_sl_api_Item_api_Item.call {t0 : Value} {t1 : Value} {h0 : PH} {R : Value → PH → Prop} (H : slices_Equal_sl_api_Item_api_Item t0 t1 h0 R) : CallsH PG id_slices_Equal_sl_api_Item_api_Item #[t0, t1] h0 R :=
  callsF_by slices_Equal_sl_api_Item_api_Item.ann 200 mix Try.func26 (by kernel_rfl) (by kernel_rfl) (by kernel_rfl) (by kernel_rfl) (by simp [Try.ntmps26]) (slices_Equal_sl_api_Item_api_Item.eq t0 t1 h0 R) H

def table_Table_Items (t0 : Value) (h0 : PH) (R : Value → PH → Prop) : Prop :=
 popO (SemP PG (nilS t0)) fun v1 =>
 popO (SemP PG (Instr.fieldAt T_table_Table v1 0)) fun v2 =>
 popO (SemE PG h0 (Instr.loadAt T_map_table_id_api_Item v2)) fun v3 =>
 CallsH PG id_maps_Values_map_table_id_api_Item_table_id_api_Item #[v3] h0 fun v4 h5 =>
 CallsH PG id_slices_Collect_api_Item #[v4] h5 fun v6 h7 =>
 CallsH PG id_slices_SortFunc_sl_api_Item_api_Item #[v6, (Value.func (Fn.func id_table_Table_Items_1) #[] #[])] h7 fun v8 h9 =>
 popO (SemP PG (Builtin.len_ #[T_sl_api_Item] T_int #[v6])) fun v10 =>
 popO (SemA PG (Instr.makeSlice T_sl_api_Item v10 v10)) fun x12 => ∀ r11, h9 r11 = none → popO (SemP PG (x12.2 r11)) fun v13 => bindH (PH.set h9 r11 x12.1) fun h14 =>
 SemH PG (Builtin.copy_ #[T_sl_api_Item, T_sl_api_Item] T_int #[v13, v6]) h14 fun v15 h16 =>
 R v13 h16
def table_Table_Items.ann : Ann := { b := fun i => match i with  | _ => #[], ord := fun i => match i with  | _ => [], keep := fun i => match i with  | _ => [], n := 20 }
theorem table_Table_Items.eq (t0 : Value) (h0 : PH) (R : Value → PH → Prop) : codeF PG table_Table_Items.ann 200 (bodyOf Try.f27) (endH PG Try.f27 R) (fun t => (#[t0] : Array Value).getD t undef) h0 = table_Table_Items t0 h0 R := by kernel_rfl
theorem table_Table_Items.call {t0 : Value} {h0 : PH} {R : Value → PH → Prop} (H : table_Table_Items t0 h0 R) : CallsH PG id_table_Table_Items #[t0] h0 R :=
  callsF_by table_Table_Items.ann 200 mix Try.func27 (by kernel_rfl) (by kernel_rfl) (by kernel_rfl) (by kernel_rfl) (by simp [Try.ntmps27]) (table_Table_Items.eq t0 h0 R) H

def slices_Collect_api_Item (t0 : Value) (h0 : PH) (R : Value → PH → Prop) : Prop :=
 CallsH PG id_slices_AppendSeq_sl_api_Item_api_Item #[(Value.slice none 0 0), t0] h0 fun v1 h2 =>
 R v1 h2
def slices_Collect_api_Item.ann : Ann := { b := fun i => match i with  | _ => #[], ord := fun i => match i with  | _ => [], keep := fun i => match i with  | _ => [], n := 5 }
theorem slices_Collect_api_Item.eq (t0 : Value) (h0 : PH) (R : Value → PH → Prop) : codeF PG slices_Collect_api_Item.ann 200 (bodyOf Try.f51) (endH PG Try.f51 R) (fun t => (#[t0] : Array Value).getD t undef) h0 = slices_Collect_api_Item t0 h0 R := by kernel_rfl
theorem slices_Collect_api_Item.call {t0 : Value} {h0 : PH} {R : Value → PH → Prop} (H : slices_Collect_api_Item t0 h0 R) : CallsH PG id_slices_Collect_api_Item #[t0] h0 R :=
  callsF_by slices_Collect_api_Item.ann 200 mix Try.func51 (by kernel_rfl) (by kernel_rfl) (by kernel_rfl) (by kernel_rfl) (by simp [Try.ntmps51]) (slices_Collect_api_Item.eq t0 h0 R) H

noncomputable def slices_AppendSeq_sl_api_Item_api_Item_asg0 : Code := ((rangesOf (bodyOf Try.f68)).getD 0 (.skip, .skip)).1
noncomputable def slices_AppendSeq_sl_api_Item_api_Item_body0 : Code := ((rangesOf (bodyOf Try.f68)).getD 0 (.skip, .skip)).2
def slices_AppendSeq_sl_api_Item_api_Item_r0 (kv : Value → PH → Prop) (l : Nat) (t2 : Value) (t7 : Value) (h0 : PH) : Prop :=
 ∀ r3, h0 r3 = none → bindH (PH.set h0 r3 (.cells (zcells PG T_api_Item) T_api_Item)) fun h4 =>
 SemH PG (storeS T_api_Item (Value.pointer (some ⟨r3, 0, none⟩)) t7) h4 fun v5 h6 =>
 SemH PG (Instr.beginRound l) h6 fun _ h7 =>
 popO (SemE PG h7 (Instr.loadAt T_sl_api_Item t2)) fun v8 =>
 popO (SemE PG h7 (Instr.loadAt T_api_Item (Value.pointer (some ⟨r3, 0, none⟩)))) fun v9 =>
 popO (SemA PG (Instr.buildSlice T_sl_api_Item 1 #[(0, v9)])) fun x11 => ∀ r10, h7 r10 = none → popO (SemP PG (x11.2 r10)) fun v12 => bindH (PH.set h7 r10 x11.1) fun h13 =>
 SemH PG (Builtin.append_ #[T_sl_api_Item, T_sl_api_Item] T_sl_api_Item #[v8, v12]) h13 fun v14 h15 =>
 SemH PG (storeS T_sl_api_Item t2 v14) h15 fun v16 h17 =>
 SemH PG (Instr.endRound l none) h17 kv
def slices_AppendSeq_sl_api_Item_api_Item (t0 : Value) (t1 : Value) (h0 : PH) (R : Value → PH → Prop) : Prop :=
 ∀ r1, h0 r1 = none → bindH (PH.set h0 r1 (.cells (Value.cells t0) T_sl_api_Item)) fun h2 =>
 rangeH PG 13 t1 #[7] slices_AppendSeq_sl_api_Item_api_Item_asg0 slices_AppendSeq_sl_api_Item_api_Item_body0 (fun h18 => popO (SemE PG h18 (Instr.loadAt T_sl_api_Item (Value.pointer (some ⟨r1, 0, none⟩)))) fun v19 =>
 R v19 h18) (fun h20 => R (Value.slice none 0 0) h20) [] [(2, (Value.pointer (some ⟨r1, 0, none⟩)))] h2
def slices_AppendSeq_sl_api_Item_api_Item.ann : Ann := { b := fun i => match i with  | _ => #[], ord := fun i => match i with  | _ => [], keep := fun i => match i with | 3 => [2] | _ => [], n := 13 }
theorem slices_AppendSeq_sl_api_Item_api_Item.eq (t0 : Value) (t1 : Value) (h0 : PH) (R : Value → PH → Prop) : codeF PG slices_AppendSeq_sl_api_Item_api_Item.ann 200 (bodyOf Try.f68) (endH PG Try.f68 R) (fun t => (#[t0, t1] : Array Value).getD t undef) h0 = slices_AppendSeq_sl_api_Item_api_Item t0 t1 h0 R := by kernel_rfl
theorem slices_AppendSeq_sl_api_Item_api_Item.call {t0 : Value} {t1 : Value} {h0 : PH} {R : Value → PH → Prop} (H : slices_AppendSeq_sl_api_Item_api_Item t0 t1 h0 R) : CallsH PG id_slices_AppendSeq_sl_api_Item_api_Item #[t0, t1] h0 R :=
  callsF_by slices_AppendSeq_sl_api_Item_api_Item.ann 200 mix Try.func68 (by kernel_rfl) (by kernel_rfl) (by kernel_rfl) (by kernel_rfl) (by simp [Try.ntmps68]) (slices_AppendSeq_sl_api_Item_api_Item.eq t0 t1 h0 R) H
theorem slices_AppendSeq_sl_api_Item_api_Item_r0.eq (kv : Value → PH → Prop) (l : Nat) (ρ : Env) (h0 : PH) : roundF PG slices_AppendSeq_sl_api_Item_api_Item.ann 200 l slices_AppendSeq_sl_api_Item_api_Item_asg0 slices_AppendSeq_sl_api_Item_api_Item_body0 kv ρ h0 = slices_AppendSeq_sl_api_Item_api_Item_r0 kv l (ρ 2) (ρ 7) h0 := by kernel_rfl
theorem slices_AppendSeq_sl_api_Item_api_Item_r0.next {kv : Value → PH → Prop} {l : Nat} {f : FuncId} {tmps : Array Value} {h0 : PH} (hs : tmps.size = 13) (H : slices_AppendSeq_sl_api_Item_api_Item_r0 kv l (tmps.getD 2 undef) (tmps.getD 7 undef) h0) : NextH PG (.round l f tmps slices_AppendSeq_sl_api_Item_api_Item_asg0 slices_AppendSeq_sl_api_Item_api_Item_body0) h0 kv :=
  roundF_by slices_AppendSeq_sl_api_Item_api_Item.ann 200 mix hs (by kernel_rfl) (by kernel_rfl) (slices_AppendSeq_sl_api_Item_api_Item_r0.eq kv l (fun t => tmps.getD t undef) h0) H

def maps_Values_map_table_id_api_Item_table_id_api_Item (t0 : Value) (h0 : PH) (R : Value → PH → Prop) : Prop :=
 ∀ r1, h0 r1 = none → bindH (PH.set h0 r1 (.cells (Value.cells t0) T_map_table_id_api_Item)) fun h2 =>
 popO (SemP PG (Instr.makeFunc (Fn.func id_maps_Values_map_table_id_api_Item_table_id_api_Item_1) #[] #[(Value.pointer (some ⟨r1, 0, none⟩))])) fun v3 =>
 R v3 h2
def maps_Values_map_table_id_api_Item_table_id_api_Item.ann : Ann := { b := fun i => match i with  | _ => #[], ord := fun i => match i with  | _ => [], keep := fun i => match i with  | _ => [], n := 4 }
theorem maps_Values_map_table_id_api_Item_table_id_api_Item.eq (t0 : Value) (h0 : PH) (R : Value → PH → Prop) : codeF PG maps_Values_map_table_id_api_Item_table_id_api_Item.ann 200 (bodyOf Try.f52) (endH PG Try.f52 R) (fun t => (#[t0] : Array Value).getD t undef) h0 = maps_Values_map_table_id_api_Item_table_id_api_Item t0 h0 R := by kernel_rfl
theorem maps_Values_map_table_id_api_Item_table_id_api_Item.call {t0 : Value} {h0 : PH} {R : Value → PH → Prop} (H : maps_Values_map_table_id_api_Item_table_id_api_Item t0 h0 R) : CallsH PG id_maps_Values_map_table_id_api_Item_table_id_api_Item #[t0] h0 R :=
  callsF_by maps_Values_map_table_id_api_Item_table_id_api_Item.ann 200 mix Try.func52 (by kernel_rfl) (by kernel_rfl) (by kernel_rfl) (by kernel_rfl) (by simp [Try.ntmps52]) (maps_Values_map_table_id_api_Item_table_id_api_Item.eq t0 h0 R) H

def maps_Values_map_table_id_api_Item_table_id_api_Item_1_b5 (R : Value → PH → Prop) (n4 : List Value → PH → Prop) (t0 : Value) (t6 : Value) (h0 : PH) : Prop :=
 SemH PG (Instr.next t6 false T_) h0 fun v6 h7 =>
 popO (SemP PG (Instr.extract v6 0)) fun v8 =>
 condV v8
 (SemH PG (Instr.entry t6) h7 fun v9 h10 =>
 popO (SemP PG (Instr.extract v9 1)) fun v11 =>
 ∀ r12, h10 r12 = none → bindH (PH.set h10 r12 (.cells (zcells PG T_api_Item) T_api_Item)) fun h13 =>
 SemH PG (storeS T_api_Item (Value.pointer (some ⟨r12, 0, none⟩)) v11) h13 fun v14 h15 =>
 popO (SemE PG h15 (Instr.loadAt T_api_Item (Value.pointer (some ⟨r12, 0, none⟩)))) fun v16 =>
 callC PG t0 #[v16] h15 fun v17 h18 =>
 popO (SemP PG (Op.unary UnOp.not v17)) fun v19 =>
 condV v19
 (R (Value.tuple #[]) h18)
 (n4 [t0, t6] h18))
 (R (Value.tuple #[]) h7)
def maps_Values_map_table_id_api_Item_table_id_api_Item_1 (t0 : Value) (t1 : Value) (h0 : PH) (R : Value → PH → Prop) : Prop :=
 popO (SemE PG h0 (Instr.loadAt T_map_table_id_api_Item t1)) fun v1 =>
 SemH PG (Instr.range T_map_table_id_api_Item v1) h0 fun v2 h3 =>
 LoopL [0, 6] (fun n4 ρ h => maps_Values_map_table_id_api_Item_table_id_api_Item_1_b5 R n4 (ρ 0) (ρ 6) h) [t0, v2] h3
def maps_Values_map_table_id_api_Item_table_id_api_Item_1.ann : Ann := { b := fun i => match i with  | _ => #[], ord := fun i => match i with  | _ => [], keep := fun i => match i with | 1 => [0, 6] | _ => [], n := 15 }
theorem maps_Values_map_table_id_api_Item_table_id_api_Item_1.eq (t0 : Value) (t1 : Value) (h0 : PH) (R : Value → PH → Prop) : codeF PG maps_Values_map_table_id_api_Item_table_id_api_Item_1.ann 200 (bodyOf Try.f69) (endH PG Try.f69 R) (fun t => (#[t0, t1] : Array Value).getD t undef) h0 = maps_Values_map_table_id_api_Item_table_id_api_Item_1 t0 t1 h0 R := by kernel_rfl
theorem maps_Values_map_table_id_api_Item_table_id_api_Item_1.call {t0 : Value} {t1 : Value} {h0 : PH} {R : Value → PH → Prop} (H : maps_Values_map_table_id_api_Item_table_id_api_Item_1 t0 t1 h0 R) : CallsH PG id_maps_Values_map_table_id_api_Item_table_id_api_Item_1 #[t0, t1] h0 R :=
  callsF_by maps_Values_map_table_id_api_Item_table_id_api_Item_1.ann 200 mix Try.func69 (by kernel_rfl) (by kernel_rfl) (by kernel_rfl) (by kernel_rfl) (by simp [Try.ntmps69]) (maps_Values_map_table_id_api_Item_table_id_api_Item_1.eq t0 t1 h0 R) H

def table_Table_Items_1 (t0 : Value) (t1 : Value) (h0 : PH) (R : Value → PH → Prop) : Prop :=
 ∀ r1, h0 r1 = none → bindH (PH.set h0 r1 (.cells (Value.cells t0) T_api_Item)) fun h2 =>
 ∀ r3, h2 r3 = none → bindH (PH.set h2 r3 (.cells (Value.cells t1) T_api_Item)) fun h4 =>
 popO (SemP PG (Instr.fieldAt T_api_Item (Value.pointer (some ⟨r1, 0, none⟩)) 0)) fun v5 =>
 popO (SemP PG (Instr.fieldAt T_api_Packet v5 0)) fun v6 =>
 popO (SemE PG h4 (Instr.loadAt T_int v6)) fun v7 =>
 popO (SemP PG (Instr.fieldAt T_api_Item (Value.pointer (some ⟨r3, 0, none⟩)) 0)) fun v8 =>
 popO (SemP PG (Instr.fieldAt T_api_Packet v8 0)) fun v9 =>
 popO (SemE PG h4 (Instr.loadAt T_int v9)) fun v10 =>
 popO (SemP PG (Instr.fieldAt T_api_Item (Value.pointer (some ⟨r1, 0, none⟩)) 0)) fun v11 =>
 popO (SemP PG (Instr.fieldAt T_api_Packet v11 1)) fun v12 =>
 popO (SemE PG h4 (Instr.loadAt T_uint64 v12)) fun v13 =>
 popO (SemP PG (Instr.fieldAt T_api_Item (Value.pointer (some ⟨r3, 0, none⟩)) 0)) fun v14 =>
 popO (SemP PG (Instr.fieldAt T_api_Packet v14 1)) fun v15 =>
 popO (SemE PG h4 (Instr.loadAt T_uint64 v15)) fun v16 =>
 CallsH PG id_cmp_Compare_int #[v7, v10] h4 fun v17 h18 =>
 SemE PG h18 (Instr.loadAt T_uint64 v15) = some v16 ∧ SemE PG h18 (Instr.loadAt T_uint64 v12) = some v13 ∧ (CallsH PG id_cmp_Compare_uint64 #[v13, v16] h18 fun v19 h20 =>
 (popO (SemA PG (Instr.buildSlice T_sl_int 2 #[(0, v17), (1, v19)])) fun x22 => ∀ r21, h20 r21 = none → popO (SemP PG (x22.2 r21)) fun v23 => bindH (PH.set h20 r21 x22.1) fun h24 =>
 CallsH PG id_cmp_Or_int #[v23] h24 fun v25 h26 =>
 (R v25 h26)))
def table_Table_Items_1.ann : Ann := { b := fun i => match i with | 1 => #[0, 1, 3, 0, 8, 24, 63, 0, 128, 384, 0, 1024, 3072, 8191, 16383, 32767, 65535] | _ => #[], ord := fun i => match i with | 1 => [0, 1, 2, 3, 4, 5, 7, 8, 9, 10, 11, 12, 6, 13, 14, 15, 16] | _ => [], keep := fun i => match i with  | _ => [], n := 21 }
theorem table_Table_Items_1.eq (t0 : Value) (t1 : Value) (h0 : PH) (R : Value → PH → Prop) : codeF PG table_Table_Items_1.ann 200 (bodyOf Try.f54) (endH PG Try.f54 R) (fun t => (#[t0, t1] : Array Value).getD t undef) h0 = table_Table_Items_1 t0 t1 h0 R := by kernel_rfl
theorem table_Table_Items_1.call {t0 : Value} {t1 : Value} {h0 : PH} {R : Value → PH → Prop} (H : table_Table_Items_1 t0 t1 h0 R) : CallsH PG id_table_Table_Items_1 #[t0, t1] h0 R :=
  callsF_by table_Table_Items_1.ann 200 mix Try.func54 (by kernel_rfl) (by kernel_rfl) (by kernel_rfl) (by kernel_rfl) (by simp [Try.ntmps54]) (table_Table_Items_1.eq t0 t1 h0 R) H

def cmp_Or_int_b3 (R : Value → PH → Prop) (n2 : List Value → PH → Prop) (t3 : Value) (t6 : Value) (t7 : Value) (t8 : Value) (h0 : PH) : Prop :=
 popO (SemP PG (binOp BinOp.lss T_int t8 t7)) fun v4 =>
 condV v4
 (popO (SemP PG (Instr.indexAt T_sl_int t6 t8)) fun v5 =>
 popO (SemE PG h0 (Instr.loadAt T_int v5)) fun v6 =>
 popO (SemE PG h0 (binS BinOp.neq T_int (.tmp 12) (.tmp 13) v6 t3)) fun v7 =>
 condV v7
 (R v6 h0)
 (popO (SemP PG (binOp BinOp.add T_int t8 (Value.int IntKind.i64 1))) fun v8 =>
 n2 [t3, t6, t7, v8] h0))
 (R t3 h0)
def cmp_Or_int (t0 : Value) (h0 : PH) (R : Value → PH → Prop) : Prop :=
 popO (SemP PG (Builtin.len_ #[T_sl_int] T_int #[t0])) fun v1 =>
 LoopL [3, 6, 7, 8] (fun n2 ρ h => cmp_Or_int_b3 R n2 (ρ 3) (ρ 6) (ρ 7) (ρ 8) h) [(Value.int IntKind.i64 0), t0, v1, (Value.int IntKind.i64 0)] h0
def cmp_Or_int.ann : Ann := { b := fun i => match i with  | _ => #[], ord := fun i => match i with  | _ => [], keep := fun i => match i with | 3 => [3, 6, 7, 8] | _ => [], n := 18 }
theorem cmp_Or_int.eq (t0 : Value) (h0 : PH) (R : Value → PH → Prop) : codeF PG cmp_Or_int.ann 200 (bodyOf Try.f55) (endH PG Try.f55 R) (fun t => (#[t0] : Array Value).getD t undef) h0 = cmp_Or_int t0 h0 R := by kernel_rfl
theorem cmp_Or_int.call {t0 : Value} {h0 : PH} {R : Value → PH → Prop} (H : cmp_Or_int t0 h0 R) : CallsH PG id_cmp_Or_int #[t0] h0 R :=
  callsF_by cmp_Or_int.ann 200 mix Try.func55 (by kernel_rfl) (by kernel_rfl) (by kernel_rfl) (by kernel_rfl) (by simp [Try.ntmps55]) (cmp_Or_int.eq t0 h0 R) H

def cmp_Compare_int (t0 : Value) (t1 : Value) (h0 : PH) (R : Value → PH → Prop) : Prop :=
 CallsH PG id_cmp_isNaN_int #[t0] h0 fun v1 h2 =>
 CallsH PG id_cmp_isNaN_int #[t1] h2 fun v3 h4 =>
 condV v1
 (condV v3
 (R (Value.int IntKind.i64 0) h4)
 (R (Value.int IntKind.i64 (-1)) h4))
 (condV v3
 (R (Value.int IntKind.i64 1) h4)
 (popO (SemP PG (binOp BinOp.lss T_int t0 t1)) fun v5 =>
 condV v5
 (R (Value.int IntKind.i64 (-1)) h4)
 (popO (SemP PG (binOp BinOp.gtr T_int t0 t1)) fun v6 =>
 condV v6
 (R (Value.int IntKind.i64 1) h4)
 (R (Value.int IntKind.i64 0) h4))))
def cmp_Compare_int.ann : Ann := { b := fun i => match i with  | _ => #[], ord := fun i => match i with  | _ => [], keep := fun i => match i with  | _ => [], n := 20 }
theorem cmp_Compare_int.eq (t0 : Value) (t1 : Value) (h0 : PH) (R : Value → PH → Prop) : codeF PG cmp_Compare_int.ann 200 (bodyOf Try.f56) (endH PG Try.f56 R) (fun t => (#[t0, t1] : Array Value).getD t undef) h0 = cmp_Compare_int t0 t1 h0 R := by kernel_rfl
theorem cmp_Compare_int.call {t0 : Value} {t1 : Value} {h0 : PH} {R : Value → PH → Prop} (H : cmp_Compare_int t0 t1 h0 R) : CallsH PG id_cmp_Compare_int #[t0, t1] h0 R :=
  callsF_by cmp_Compare_int.ann 200 mix Try.func56 (by kernel_rfl) (by kernel_rfl) (by kernel_rfl) (by kernel_rfl) (by simp [Try.ntmps56]) (cmp_Compare_int.eq t0 t1 h0 R) H

def cmp_isNaN_int (t0 : Value) (h0 : PH) (R : Value → PH → Prop) : Prop :=
 popO (SemE PG h0 (binS BinOp.neq T_int (.tmp 3) (.tmp 4) t0 t0)) fun v1 =>
 R v1 h0
def cmp_isNaN_int.ann : Ann := { b := fun i => match i with  | _ => #[], ord := fun i => match i with  | _ => [], keep := fun i => match i with  | _ => [], n := 6 }
theorem cmp_isNaN_int.eq (t0 : Value) (h0 : PH) (R : Value → PH → Prop) : codeF PG cmp_isNaN_int.ann 200 (bodyOf Try.f72) (endH PG Try.f72 R) (fun t => (#[t0] : Array Value).getD t undef) h0 = cmp_isNaN_int t0 h0 R := by kernel_rfl
theorem cmp_isNaN_int.call {t0 : Value} {h0 : PH} {R : Value → PH → Prop} (H : cmp_isNaN_int t0 h0 R) : CallsH PG id_cmp_isNaN_int #[t0] h0 R :=
  callsF_by cmp_isNaN_int.ann 200 mix Try.func72 (by kernel_rfl) (by kernel_rfl) (by kernel_rfl) (by kernel_rfl) (by simp [Try.ntmps72]) (cmp_isNaN_int.eq t0 h0 R) H

def cmp_Compare_uint64 (t0 : Value) (t1 : Value) (h0 : PH) (R : Value → PH → Prop) : Prop :=
 CallsH PG id_cmp_isNaN_uint64 #[t0] h0 fun v1 h2 =>
 CallsH PG id_cmp_isNaN_uint64 #[t1] h2 fun v3 h4 =>
 condV v1
 (condV v3
 (R (Value.int IntKind.i64 0) h4)
 (R (Value.int IntKind.i64 (-1)) h4))
 (condV v3
 (R (Value.int IntKind.i64 1) h4)
 (popO (SemP PG (binOp BinOp.lss T_uint64 t0 t1)) fun v5 =>
 condV v5
 (R (Value.int IntKind.i64 (-1)) h4)
 (popO (SemP PG (binOp BinOp.gtr T_uint64 t0 t1)) fun v6 =>
 condV v6
 (R (Value.int IntKind.i64 1) h4)
 (R (Value.int IntKind.i64 0) h4))))
def cmp_Compare_uint64.ann : Ann := { b := fun i => match i with  | _ => #[], ord := fun i => match i with  | _ => [], keep := fun i => match i with  | _ => [], n := 20 }
theorem cmp_Compare_uint64.eq (t0 : Value) (t1 : Value) (h0 : PH) (R : Value → PH → Prop) : codeF PG cmp_Compare_uint64.ann 200 (bodyOf Try.f57) (endH PG Try.f57 R) (fun t => (#[t0, t1] : Array Value).getD t undef) h0 = cmp_Compare_uint64 t0 t1 h0 R := by kernel_rfl
theorem cmp_Compare_uint64.call {t0 : Value} {t1 : Value} {h0 : PH} {R : Value → PH → Prop} (H : cmp_Compare_uint64 t0 t1 h0 R) : CallsH PG id_cmp_Compare_uint64 #[t0, t1] h0 R :=
  callsF_by cmp_Compare_uint64.ann 200 mix Try.func57 (by kernel_rfl) (by kernel_rfl) (by kernel_rfl) (by kernel_rfl) (by simp [Try.ntmps57]) (cmp_Compare_uint64.eq t0 t1 h0 R) H

def cmp_isNaN_uint64 (t0 : Value) (h0 : PH) (R : Value → PH → Prop) : Prop :=
 popO (SemE PG h0 (binS BinOp.neq T_uint64 (.tmp 3) (.tmp 4) t0 t0)) fun v1 =>
 R v1 h0
def cmp_isNaN_uint64.ann : Ann := { b := fun i => match i with  | _ => #[], ord := fun i => match i with  | _ => [], keep := fun i => match i with  | _ => [], n := 6 }
theorem cmp_isNaN_uint64.eq (t0 : Value) (h0 : PH) (R : Value → PH → Prop) : codeF PG cmp_isNaN_uint64.ann 200 (bodyOf Try.f73) (endH PG Try.f73 R) (fun t => (#[t0] : Array Value).getD t undef) h0 = cmp_isNaN_uint64 t0 h0 R := by kernel_rfl
theorem cmp_isNaN_uint64.call {t0 : Value} {h0 : PH} {R : Value → PH → Prop} (H : cmp_isNaN_uint64 t0 h0 R) : CallsH PG id_cmp_isNaN_uint64 #[t0] h0 R :=
  callsF_by cmp_isNaN_uint64.ann 200 mix Try.func73 (by kernel_rfl) (by kernel_rfl) (by kernel_rfl) (by kernel_rfl) (by simp [Try.ntmps73]) (cmp_isNaN_uint64.eq t0 h0 R) H

def record_Parse_k42 (R : Value → PH → Prop) (t2 : Value) (t4 : Value) (t5 : Value) (h0 : PH) : Prop :=
 CallsH PG id_wire_Reader_End #[t4] h0 fun v43 h44 =>
 popO (SemE PG h44 (binS BinOp.neq T_api_Errno (.tmp 51) (.const (Value.int IntKind.i64 0)) v43 (Value.int IntKind.i64 0))) fun v45 =>
 condV v45
 (popO (SemP PG (Instr.build T_api_Record #[])) fun v46 =>
 SemH PG (storeS T_api_Record t2 v46) h44 fun v47 h48 =>
 popO (SemE PG h48 (Instr.loadAt T_api_Record t2)) fun v49 =>
 R (Value.tuple #[v49, v43]) h48)
 (popO (SemE PG h44 (Instr.loadAt T_api_Record t5)) fun v50 =>
 SemH PG (storeS T_api_Record t2 v50) h44 fun v51 h52 =>
 popO (SemE PG h52 (Instr.loadAt T_api_Record t2)) fun v53 =>
 R (Value.tuple #[v53, (Value.int IntKind.i64 0)]) h52)
def record_Parse_k33 (R : Value → PH → Prop) (t2 : Value) (t4 : Value) (t5 : Value) (h0 : PH) : Prop :=
 popO (SemE PG h0 (Instr.loadAt T_api_Record t5)) fun v34 =>
 CallsH PG id_record_plain #[v34] h0 fun v35 h36 =>
 popO (SemP PG (Op.unary UnOp.not v35)) fun v37 =>
 condV v37
 (popO (SemP PG (nilS t4)) fun v38 =>
 popO (SemP PG (Instr.fieldAt T_wire_Reader v38 0)) fun v39 =>
 CallsH PG id_wire_memory_Fail #[v39, (Value.int IntKind.i64 5)] h36 fun v40 h41 =>
 record_Parse_k42 R t2 t4 t5 h41)
 (record_Parse_k42 R t2 t4 t5 h36)
def record_Parse_k32 (R : Value → PH → Prop) (t2 : Value) (t4 : Value) (t5 : Value) (h0 : PH) : Prop :=
 record_Parse_k33 R t2 t4 t5 h0
def record_Parse_b16 (R : Value → PH → Prop) (n15 : List Value → PH → Prop) (t2 : Value) (t4 : Value) (t5 : Value) (t17 : Value) (h0 : PH) : Prop :=
 popO (SemP PG (binOp BinOp.lss T_int t17 (Value.int IntKind.i64 2))) fun v17 =>
 condV v17
 (CallsH PG id_note_Place #[t4] h0 fun v18 h19 =>
 popO (SemP PG (Instr.fieldAt T_api_Record t5 1)) fun v20 =>
 popO (SemP PG (Instr.fieldAt T_api_Daemon v20 0)) fun v21 =>
 popO (SemP PG (Instr.indexAt T_2_api_Place v21 t17)) fun v22 =>
 SemH PG (storeS T_api_Place v22 v18) h19 fun v23 h24 =>
 popO (SemP PG (binOp BinOp.add T_int t17 (Value.int IntKind.i64 1))) fun v25 =>
 n15 [t2, t4, t5, v25] h24)
 (CallsH PG id_note_Items #[t4] h0 fun v26 h27 =>
 popO (SemP PG (Instr.fieldAt T_api_Record t5 1)) fun v28 =>
 popO (SemP PG (Instr.fieldAt T_api_Daemon v28 1)) fun v29 =>
 SemH PG (storeS T_sl_api_Item v29 v26) h27 fun v30 h31 =>
 record_Parse_k32 R t2 t4 t5 h31)
def record_Parse (t0 : Value) (h0 : PH) (R : Value → PH → Prop) : Prop :=
 ∀ r1, h0 r1 = none → bindH (PH.set h0 r1 (.cells (zcells PG T_api_Record) T_api_Record)) fun h2 =>
 CallsH PG id_wire_NewReader #[t0] h2 fun v3 h4 =>
 CallsH PG id_wire_Reader_Byte #[v3] h4 fun v5 h6 =>
 popO (SemP PG (Instr.build T_api_Record #[(0, v5)])) fun v7 =>
 ∀ r8, h6 r8 = none → bindH (PH.set h6 r8 (.cells (zcells PG T_api_Record) T_api_Record)) fun h9 =>
 SemH PG (storeS T_api_Record (Value.pointer (some ⟨r8, 0, none⟩)) v7) h9 fun v10 h11 =>
 popO (SemP PG (Instr.fieldAt T_api_Record (Value.pointer (some ⟨r8, 0, none⟩)) 0)) fun v12 =>
 popO (SemE PG h11 (Instr.loadAt T_int v12)) fun v13 =>
 popO (SemE PG h11 (binS BinOp.eql T_int (.tmp 14) (.const (Value.int IntKind.i64 1)) v13 (Value.int IntKind.i64 1))) fun v14 =>
 condV v14
 (LoopL [2, 4, 5, 17] (fun n15 ρ h => record_Parse_b16 R n15 (ρ 2) (ρ 4) (ρ 5) (ρ 17) h) [(Value.pointer (some ⟨r1, 0, none⟩)), v3, (Value.pointer (some ⟨r8, 0, none⟩)), (Value.int IntKind.i64 0)] h11)
 (popO (SemE PG h11 (binS BinOp.eql T_int (.tmp 14) (.const (Value.int IntKind.i64 2)) v13 (Value.int IntKind.i64 2))) fun v54 =>
 condV v54
 (CallsH PG id_wire_Reader_Byte #[v3] h11 fun v55 h56 =>
 popO (SemP PG (Instr.fieldAt T_api_Record (Value.pointer (some ⟨r8, 0, none⟩)) 2)) fun v57 =>
 SemH PG (storeS T_int v57 v55) h56 fun v58 h59 =>
 CallsH PG id_note_Place #[v3] h59 fun v60 h61 =>
 popO (SemP PG (Instr.fieldAt T_api_Record (Value.pointer (some ⟨r8, 0, none⟩)) 3)) fun v62 =>
 SemH PG (storeS T_api_Place v62 v60) h61 fun v63 h64 =>
 CallsH PG id_note_Notes #[v3] h64 fun v65 h66 =>
 popO (SemP PG (Instr.fieldAt T_api_Record (Value.pointer (some ⟨r8, 0, none⟩)) 4)) fun v67 =>
 SemH PG (storeS T_sl_api_Note v67 v65) h66 fun v68 h69 =>
 record_Parse_k32 R (Value.pointer (some ⟨r1, 0, none⟩)) v3 (Value.pointer (some ⟨r8, 0, none⟩)) h69)
 (record_Parse_k32 R (Value.pointer (some ⟨r1, 0, none⟩)) v3 (Value.pointer (some ⟨r8, 0, none⟩)) h11))
def record_Parse.ann : Ann := { b := fun i => match i with  | _ => #[], ord := fun i => match i with  | _ => [], keep := fun i => match i with | 6 => [2, 4, 5, 17] | _ => [], n := 56 }
theorem record_Parse.eq (t0 : Value) (h0 : PH) (R : Value → PH → Prop) : codeF PG record_Parse.ann 200 (bodyOf Try.f13) (endH PG Try.f13 R) (fun t => (#[t0] : Array Value).getD t undef) h0 = record_Parse t0 h0 R := by kernel_rfl
theorem record_Parse.call {t0 : Value} {h0 : PH} {R : Value → PH → Prop} (H : record_Parse t0 h0 R) : CallsH PG id_record_Parse #[t0] h0 R :=
  callsF_by record_Parse.ann 200 mix Try.func13 (by kernel_rfl) (by kernel_rfl) (by kernel_rfl) (by kernel_rfl) (by simp [Try.ntmps13]) (record_Parse.eq t0 h0 R) H

def wire_NewReader (t0 : Value) (h0 : PH) (R : Value → PH → Prop) : Prop :=
 popO (SemP PG (Instr.build T_wire_Reader #[(1, t0)])) fun v1 =>
 ∀ r2, h0 r2 = none → bindH (PH.set h0 r2 (.cells (Value.cells v1) T_wire_Reader)) fun h3 =>
 R (Value.pointer (some ⟨r2, 0, none⟩)) h3
def wire_NewReader.ann : Ann := { b := fun i => match i with  | _ => #[], ord := fun i => match i with  | _ => [], keep := fun i => match i with  | _ => [], n := 6 }
theorem wire_NewReader.eq (t0 : Value) (h0 : PH) (R : Value → PH → Prop) : codeF PG wire_NewReader.ann 200 (bodyOf Try.f31) (endH PG Try.f31 R) (fun t => (#[t0] : Array Value).getD t undef) h0 = wire_NewReader t0 h0 R := by kernel_rfl
theorem wire_NewReader.call {t0 : Value} {h0 : PH} {R : Value → PH → Prop} (H : wire_NewReader t0 h0 R) : CallsH PG id_wire_NewReader #[t0] h0 R :=
  callsF_by wire_NewReader.ann 200 mix Try.func31 (by kernel_rfl) (by kernel_rfl) (by kernel_rfl) (by kernel_rfl) (by simp [Try.ntmps31]) (wire_NewReader.eq t0 h0 R) H

def wire_Reader_Byte (t0 : Value) (h0 : PH) (R : Value → PH → Prop) : Prop :=
 CallsH PG id_wire_Reader_get #[t0, (Value.int IntKind.i64 1)] h0 fun v1 h2 =>
 popO (SemP PG (convert T_uint64 T_int v1)) fun v3 =>
 R v3 h2
def wire_Reader_Byte.ann : Ann := { b := fun i => match i with  | _ => #[], ord := fun i => match i with  | _ => [], keep := fun i => match i with  | _ => [], n := 6 }
theorem wire_Reader_Byte.eq (t0 : Value) (h0 : PH) (R : Value → PH → Prop) : codeF PG wire_Reader_Byte.ann 200 (bodyOf Try.f32) (endH PG Try.f32 R) (fun t => (#[t0] : Array Value).getD t undef) h0 = wire_Reader_Byte t0 h0 R := by kernel_rfl
theorem wire_Reader_Byte.call {t0 : Value} {h0 : PH} {R : Value → PH → Prop} (H : wire_Reader_Byte t0 h0 R) : CallsH PG id_wire_Reader_Byte #[t0] h0 R :=
  callsF_by wire_Reader_Byte.ann 200 mix Try.func32 (by kernel_rfl) (by kernel_rfl) (by kernel_rfl) (by kernel_rfl) (by simp [Try.ntmps32]) (wire_Reader_Byte.eq t0 h0 R) H

def wire_Reader_get_b7 (R : Value → PH → Prop) (n6 : List Value → PH → Prop) (t5 : Value) (t11 : Value) (t12 : Value) (t13 : Value) (h0 : PH) : Prop :=
 popO (SemP PG (binOp BinOp.lss T_int t13 t12)) fun v8 =>
 condV v8
 (popO (SemP PG (Instr.indexAt T_sl_uint8 t11 t13)) fun v9 =>
 popO (SemE PG h0 (Instr.loadAt T_uint8 v9)) fun v10 =>
 popO (SemP PG (binOp BinOp.shl T_uint64 t5 (Value.int IntKind.u64 8))) fun v11 =>
 popO (SemP PG (convert T_uint8 T_uint64 v10)) fun v12 =>
 popO (SemP PG (binOp BinOp.or T_uint64 v11 v12)) fun v13 =>
 popO (SemP PG (binOp BinOp.add T_int t13 (Value.int IntKind.i64 1))) fun v14 =>
 n6 [v13, t11, t12, v14] h0)
 (R t5 h0)
def wire_Reader_get (t0 : Value) (t1 : Value) (h0 : PH) (R : Value → PH → Prop) : Prop :=
 CallsH PG id_wire_Reader_Raw #[t0, t1] h0 fun v1 h2 =>
 SemH PG (convert T_string T_sl_uint8 v1) h2 fun v3 h4 =>
 popO (SemP PG (Builtin.len_ #[T_sl_uint8] T_int #[v3])) fun v5 =>
 LoopL [5, 11, 12, 13] (fun n6 ρ h => wire_Reader_get_b7 R n6 (ρ 5) (ρ 11) (ρ 12) (ρ 13) h) [(Value.int IntKind.u64 0), v3, v5, (Value.int IntKind.i64 0)] h4
def wire_Reader_get.ann : Ann := { b := fun i => match i with  | _ => #[], ord := fun i => match i with  | _ => [], keep := fun i => match i with | 3 => [5, 11, 12, 13] | _ => [], n := 24 }
theorem wire_Reader_get.eq (t0 : Value) (t1 : Value) (h0 : PH) (R : Value → PH → Prop) : codeF PG wire_Reader_get.ann 200 (bodyOf Try.f59) (endH PG Try.f59 R) (fun t => (#[t0, t1] : Array Value).getD t undef) h0 = wire_Reader_get t0 t1 h0 R := by kernel_rfl
theorem wire_Reader_get.call {t0 : Value} {t1 : Value} {h0 : PH} {R : Value → PH → Prop} (H : wire_Reader_get t0 t1 h0 R) : CallsH PG id_wire_Reader_get #[t0, t1] h0 R :=
  callsF_by wire_Reader_get.ann 200 mix Try.func59 (by kernel_rfl) (by kernel_rfl) (by kernel_rfl) (by kernel_rfl) (by simp [Try.ntmps59]) (wire_Reader_get.eq t0 t1 h0 R) H

def wire_Reader_Raw_k33 (R : Value → PH → Prop) (t0 : Value) (t1 : Value) (h0 : PH) : Prop :=
 popO (SemP PG (nilS t0)) fun v34 =>
 popO (SemP PG (Instr.fieldAt T_wire_Reader v34 0)) fun v35 =>
 CallsH PG id_wire_memory_Err #[v35] h0 fun v36 h37 =>
 popO (SemE PG h37 (binS BinOp.neq T_api_Errno (.tmp 24) (.const (Value.int IntKind.i64 0)) v36 (Value.int IntKind.i64 0))) fun v38 =>
 condV v38
 (R (Value.string { data := #[] }) h37)
 (popO (SemP PG (nilS t0)) fun v39 =>
 popO (SemP PG (Instr.fieldAt T_wire_Reader v39 1)) fun v40 =>
 popO (SemE PG h37 (Instr.loadAt T_string v40)) fun v41 =>
 popO (SemP PG (Instr.sliceAt T_string v41 none (some t1) none)) fun v42 =>
 popO (SemP PG (nilS t0)) fun v43 =>
 popO (SemP PG (Instr.fieldAt T_wire_Reader v43 1)) fun v44 =>
 popO (SemE PG h37 (Instr.loadAt T_string v44)) fun v45 =>
 popO (SemP PG (Instr.sliceAt T_string v45 (some t1) none none)) fun v46 =>
 popO (SemP PG (nilS t0)) fun v47 =>
 popO (SemP PG (Instr.fieldAt T_wire_Reader v47 1)) fun v48 =>
 SemH PG (storeS T_string v48 v46) h37 fun v49 h50 =>
 R v42 h50)
def wire_Reader_Raw (t0 : Value) (t1 : Value) (h0 : PH) (R : Value → PH → Prop) : Prop :=
 popO (SemP PG (binOp BinOp.lss T_int t1 (Value.int IntKind.i64 0))) fun v1 =>
 gopV (yV v1) false (fun k4 => k4 t1 h0) h0 fun v2 h3 =>
 gopV (yV v1) false (fun k7 => k7 t0 h3) h3 fun v5 h6 =>
 gopV (yV v1) false (fun k10 => popO (SemP PG (nilS v5)) fun v11 => k10 v11 h6) h6 fun v8 h9 =>
 gopV (yV v1) false (fun k14 => popO (SemP PG (Instr.fieldAt T_wire_Reader v8 1)) fun v15 => k14 v15 h9) h9 fun v12 h13 =>
 gopV (yV v1) false (fun k18 => popO (SemE PG h13 (Instr.loadAt T_string v12)) fun v19 => k18 v19 h13) h13 fun v16 h17 =>
 gopV (yV v1) false (fun k22 => popO (SemP PG (Builtin.len_ #[T_string] T_int #[v16])) fun v23 => k22 v23 h17) h17 fun v20 h21 =>
 gopV (yV v1) false (fun k26 => popO (SemP PG (binOp BinOp.gtr T_int v2 v20)) fun v27 => k26 v27 h21) h21 fun v24 h25 =>
 popO (pickV v1 (Value.bool true) v24) fun v28 =>
 condV v28
 (popO (SemP PG (nilS t0)) fun v29 =>
 popO (SemP PG (Instr.fieldAt T_wire_Reader v29 0)) fun v30 =>
 CallsH PG id_wire_memory_Fail #[v30, (Value.int IntKind.i64 6)] h25 fun v31 h32 =>
 wire_Reader_Raw_k33 R t0 t1 h32)
 (wire_Reader_Raw_k33 R t0 t1 h25)
def wire_Reader_Raw.ann : Ann := { b := fun i => match i with  | _ => #[], ord := fun i => match i with  | _ => [], keep := fun i => match i with  | _ => [], n := 42 }
theorem wire_Reader_Raw.eq (t0 : Value) (t1 : Value) (h0 : PH) (R : Value → PH → Prop) : codeF PG wire_Reader_Raw.ann 200 (bodyOf Try.f78) (endH PG Try.f78 R) (fun t => (#[t0, t1] : Array Value).getD t undef) h0 = wire_Reader_Raw t0 t1 h0 R := by kernel_rfl
theorem wire_Reader_Raw.call {t0 : Value} {t1 : Value} {h0 : PH} {R : Value → PH → Prop} (H : wire_Reader_Raw t0 t1 h0 R) : CallsH PG id_wire_Reader_Raw #[t0, t1] h0 R :=
  callsF_by wire_Reader_Raw.ann 200 mix Try.func78 (by kernel_rfl) (by kernel_rfl) (by kernel_rfl) (by kernel_rfl) (by simp [Try.ntmps78]) (wire_Reader_Raw.eq t0 t1 h0 R) H

def note_Place_k12 (R : Value → PH → Prop) (t0 : Value) (t2 : Value) (t3 : Value) (t4 : Value) (h0 : PH) : Prop :=
 popO (SemP PG (nilS t0)) fun v13 =>
 popO (SemP PG (Instr.fieldAt T_wire_Reader v13 0)) fun v14 =>
 CallsH PG id_wire_memory_Err #[v14] h0 fun v15 h16 =>
 popO (SemE PG h16 (binS BinOp.neq T_api_Errno (.tmp 18) (.const (Value.int IntKind.i64 0)) v15 (Value.int IntKind.i64 0))) fun v17 =>
 condV v17
 (popO (SemP PG (Instr.build T_api_Place #[])) fun v18 =>
 SemH PG (storeS T_api_Place t2 v18) h16 fun v19 h20 =>
 popO (SemE PG h20 (Instr.loadAt T_api_Place t2)) fun v21 =>
 R v21 h20)
 (popO (SemP PG (convert T_uint64 T_int t4)) fun v22 =>
 popO (SemP PG (Instr.build T_api_Place #[(0, t3), (1, v22)])) fun v23 =>
 SemH PG (storeS T_api_Place t2 v23) h16 fun v24 h25 =>
 popO (SemE PG h25 (Instr.loadAt T_api_Place t2)) fun v26 =>
 R v26 h25)
def note_Place (t0 : Value) (h0 : PH) (R : Value → PH → Prop) : Prop :=
 ∀ r1, h0 r1 = none → bindH (PH.set h0 r1 (.cells (zcells PG T_api_Place) T_api_Place)) fun h2 =>
 CallsH PG id_wire_Reader_Number #[t0] h2 fun v3 h4 =>
 CallsH PG id_wire_Reader_Number #[t0] h4 fun v5 h6 =>
 popO (SemP PG (binOp BinOp.gtr T_uint64 v5 (Value.int IntKind.u64 65535))) fun v7 =>
 condV v7
 (popO (SemP PG (nilS t0)) fun v8 =>
 popO (SemP PG (Instr.fieldAt T_wire_Reader v8 0)) fun v9 =>
 CallsH PG id_wire_memory_Fail #[v9, (Value.int IntKind.i64 5)] h6 fun v10 h11 =>
 note_Place_k12 R t0 (Value.pointer (some ⟨r1, 0, none⟩)) v3 v5 h11)
 (note_Place_k12 R t0 (Value.pointer (some ⟨r1, 0, none⟩)) v3 v5 h6)
def note_Place.ann : Ann := { b := fun i => match i with  | _ => #[], ord := fun i => match i with  | _ => [], keep := fun i => match i with  | _ => [], n := 25 }
theorem note_Place.eq (t0 : Value) (h0 : PH) (R : Value → PH → Prop) : codeF PG note_Place.ann 200 (bodyOf Try.f33) (endH PG Try.f33 R) (fun t => (#[t0] : Array Value).getD t undef) h0 = note_Place t0 h0 R := by kernel_rfl
theorem note_Place.call {t0 : Value} {h0 : PH} {R : Value → PH → Prop} (H : note_Place t0 h0 R) : CallsH PG id_note_Place #[t0] h0 R :=
  callsF_by note_Place.ann 200 mix Try.func33 (by kernel_rfl) (by kernel_rfl) (by kernel_rfl) (by kernel_rfl) (by simp [Try.ntmps33]) (note_Place.eq t0 h0 R) H

def wire_Reader_Number (t0 : Value) (h0 : PH) (R : Value → PH → Prop) : Prop :=
 CallsH PG id_wire_Reader_get #[t0, (Value.int IntKind.i64 8)] h0 fun v1 h2 =>
 R v1 h2
def wire_Reader_Number.ann : Ann := { b := fun i => match i with  | _ => #[], ord := fun i => match i with  | _ => [], keep := fun i => match i with  | _ => [], n := 5 }
theorem wire_Reader_Number.eq (t0 : Value) (h0 : PH) (R : Value → PH → Prop) : codeF PG wire_Reader_Number.ann 200 (bodyOf Try.f60) (endH PG Try.f60 R) (fun t => (#[t0] : Array Value).getD t undef) h0 = wire_Reader_Number t0 h0 R := by kernel_rfl
theorem wire_Reader_Number.call {t0 : Value} {h0 : PH} {R : Value → PH → Prop} (H : wire_Reader_Number t0 h0 R) : CallsH PG id_wire_Reader_Number #[t0] h0 R :=
  callsF_by wire_Reader_Number.ann 200 mix Try.func60 (by kernel_rfl) (by kernel_rfl) (by kernel_rfl) (by kernel_rfl) (by simp [Try.ntmps60]) (wire_Reader_Number.eq t0 h0 R) H

def note_Items (t0 : Value) (h0 : PH) (R : Value → PH → Prop) : Prop :=
 CallsH PG id_note_get_api_Item #[t0, (Value.int IntKind.i64 2), (Value.func (Fn.func id_note_Items_1) #[] #[])] h0 fun v1 h2 =>
 R v1 h2
def note_Items.ann : Ann := { b := fun i => match i with  | _ => #[], ord := fun i => match i with  | _ => [], keep := fun i => match i with  | _ => [], n := 5 }
theorem note_Items.eq (t0 : Value) (h0 : PH) (R : Value → PH → Prop) : codeF PG note_Items.ann 200 (bodyOf Try.f34) (endH PG Try.f34 R) (fun t => (#[t0] : Array Value).getD t undef) h0 = note_Items t0 h0 R := by kernel_rfl
theorem note_Items.call {t0 : Value} {h0 : PH} {R : Value → PH → Prop} (H : note_Items t0 h0 R) : CallsH PG id_note_Items #[t0] h0 R :=
  callsF_by note_Items.ann 200 mix Try.func34 (by kernel_rfl) (by kernel_rfl) (by kernel_rfl) (by kernel_rfl) (by simp [Try.ntmps34]) (note_Items.eq t0 h0 R) H

def note_get_api_Item_k51 (R : Value → PH → Prop) (n3 : List Value → PH → Prop) (t0 : Value) (t1 : Value) (t2 : Value) (t7 : Value) (t8 : Value) (t9 : Value) (t10 : Value) (h0 : PH) : Prop :=
 popO (SemE PG h0 (Instr.loadAt T_api_Packet t10)) fun v52 =>
 callC PG t2 #[t9, v52] h0 fun v53 h54 =>
 popO (SemA PG (Instr.buildSlice T_sl_api_Item 1 #[(0, v53)])) fun x56 => ∀ r55, h54 r55 = none → popO (SemP PG (x56.2 r55)) fun v57 => bindH (PH.set h54 r55 x56.1) fun h58 =>
 SemH PG (Builtin.append_ #[T_sl_api_Item, T_sl_api_Item] T_sl_api_Item #[t7, v57]) h58 fun v59 h60 =>
 popO (SemP PG (binOp BinOp.sub T_int t8 (Value.int IntKind.i64 1))) fun v61 =>
 n3 [t0, t1, t2, v59, v61] h60
def note_get_api_Item_b4 (R : Value → PH → Prop) (n3 : List Value → PH → Prop) (t0 : Value) (t1 : Value) (t2 : Value) (t7 : Value) (t8 : Value) (h0 : PH) : Prop :=
 popO (SemP PG (binOp BinOp.gtr T_int t8 (Value.int IntKind.i64 0))) fun v5 =>
 gopV (yV v5) true (fun k8 => k8 t0 h0) h0 fun v6 h7 =>
 gopV (yV v5) true (fun k11 => popO (SemP PG (nilS v6)) fun v12 => k11 v12 h7) h7 fun v9 h10 =>
 gopV (yV v5) true (fun k15 => popO (SemP PG (Instr.fieldAt T_wire_Reader v9 0)) fun v16 => k15 v16 h10) h10 fun v13 h14 =>
 gopV (yV v5) true (fun k19 => CallsH PG id_wire_memory_Err #[v13] h14 fun v20 h21 => k19 v20 h21) h14 fun v17 h18 =>
 gopV (yV v5) true (fun k24 => popO (SemE PG h18 (binS BinOp.eql T_api_Errno (.tmp 19) (.const (Value.int IntKind.i64 0)) v17 (Value.int IntKind.i64 0))) fun v25 => k24 v25 h18) h18 fun v22 h23 =>
 popO (pickV v5 v22 (Value.bool false)) fun v26 =>
 condV v26
 (CallsH PG id_wire_Reader_Byte #[t0] h23 fun v27 h28 =>
 CallsH PG id_packet_Get #[t0] h28 fun v29 h30 =>
 ∀ r31, h30 r31 = none → bindH (PH.set h30 r31 (.cells (zcells PG T_api_Packet) T_api_Packet)) fun h32 =>
 SemH PG (storeS T_api_Packet (Value.pointer (some ⟨r31, 0, none⟩)) v29) h32 fun v33 h34 =>
 popO (SemP PG (binOp BinOp.lss T_int v27 (Value.int IntKind.i64 1))) fun v35 =>
 gopV (yV v35) false (fun k38 => k38 v27 h34) h34 fun v36 h37 =>
 gopV (yV v35) false (fun k41 => k41 t1 h37) h37 fun v39 h40 =>
 gopV (yV v35) false (fun k44 => popO (SemP PG (binOp BinOp.gtr T_int v36 v39)) fun v45 => k44 v45 h40) h40 fun v42 h43 =>
 popO (pickV v35 (Value.bool true) v42) fun v46 =>
 condV v46
 (popO (SemP PG (nilS t0)) fun v47 =>
 popO (SemP PG (Instr.fieldAt T_wire_Reader v47 0)) fun v48 =>
 CallsH PG id_wire_memory_Fail #[v48, (Value.int IntKind.i64 5)] h43 fun v49 h50 =>
 note_get_api_Item_k51 R n3 t0 t1 t2 t7 t8 v27 (Value.pointer (some ⟨r31, 0, none⟩)) h50)
 (note_get_api_Item_k51 R n3 t0 t1 t2 t7 t8 v27 (Value.pointer (some ⟨r31, 0, none⟩)) h43))
 (popO (SemP PG (nilS t0)) fun v62 =>
 popO (SemP PG (Instr.fieldAt T_wire_Reader v62 0)) fun v63 =>
 CallsH PG id_wire_memory_Err #[v63] h23 fun v64 h65 =>
 popO (SemE PG h65 (binS BinOp.neq T_api_Errno (.tmp 49) (.const (Value.int IntKind.i64 0)) v64 (Value.int IntKind.i64 0))) fun v66 =>
 condV v66
 (R (Value.slice none 0 0) h65)
 (R t7 h65))
def note_get_api_Item (t0 : Value) (t1 : Value) (t2 : Value) (h0 : PH) (R : Value → PH → Prop) : Prop :=
 CallsH PG id_wire_Reader_Byte #[t0] h0 fun v1 h2 =>
 LoopL [0, 1, 2, 7, 8] (fun n3 ρ h => note_get_api_Item_b4 R n3 (ρ 0) (ρ 1) (ρ 2) (ρ 7) (ρ 8) h) [t0, t1, t2, (Value.slice none 0 0), v1] h2
def note_get_api_Item.ann : Ann := { b := fun i => match i with  | _ => #[], ord := fun i => match i with  | _ => [], keep := fun i => match i with | 3 => [0, 1, 2, 7, 8] | _ => [], n := 52 }
theorem note_get_api_Item.eq (t0 : Value) (t1 : Value) (t2 : Value) (h0 : PH) (R : Value → PH → Prop) : codeF PG note_get_api_Item.ann 200 (bodyOf Try.f61) (endH PG Try.f61 R) (fun t => (#[t0, t1, t2] : Array Value).getD t undef) h0 = note_get_api_Item t0 t1 t2 h0 R := by kernel_rfl
theorem note_get_api_Item.call {t0 : Value} {t1 : Value} {t2 : Value} {h0 : PH} {R : Value → PH → Prop} (H : note_get_api_Item t0 t1 t2 h0 R) : CallsH PG id_note_get_api_Item #[t0, t1, t2] h0 R :=
  callsF_by note_get_api_Item.ann 200 mix Try.func61 (by kernel_rfl) (by kernel_rfl) (by kernel_rfl) (by kernel_rfl) (by simp [Try.ntmps61]) (note_get_api_Item.eq t0 t1 t2 h0 R) H

def packet_Get_k24 (R : Value → PH → Prop) (t0 : Value) (t2 : Value) (t3 : Value) (h0 : PH) : Prop :=
 popO (SemP PG (nilS t0)) fun v25 =>
 popO (SemP PG (Instr.fieldAt T_wire_Reader v25 0)) fun v26 =>
 CallsH PG id_wire_memory_Err #[v26] h0 fun v27 h28 =>
 popO (SemE PG h28 (binS BinOp.neq T_api_Errno (.tmp 23) (.const (Value.int IntKind.i64 0)) v27 (Value.int IntKind.i64 0))) fun v29 =>
 condV v29
 (popO (SemP PG (Instr.build T_api_Packet #[])) fun v30 =>
 SemH PG (storeS T_api_Packet t2 v30) h28 fun v31 h32 =>
 popO (SemE PG h32 (Instr.loadAt T_api_Packet t2)) fun v33 =>
 R v33 h32)
 (popO (SemE PG h28 (Instr.loadAt T_api_Packet t3)) fun v34 =>
 SemH PG (storeS T_api_Packet t2 v34) h28 fun v35 h36 =>
 popO (SemE PG h36 (Instr.loadAt T_api_Packet t2)) fun v37 =>
 R v37 h36)
def packet_Get (t0 : Value) (h0 : PH) (R : Value → PH → Prop) : Prop :=
 ∀ r1, h0 r1 = none → bindH (PH.set h0 r1 (.cells (zcells PG T_api_Packet) T_api_Packet)) fun h2 =>
 CallsH PG id_wire_Reader_Byte #[t0] h2 fun v3 h4 =>
 CallsH PG id_wire_Reader_Number #[t0] h4 fun v5 h6 =>
 CallsH PG id_wire_Reader_Number #[t0] h6 fun v7 h8 =>
 CallsH PG id_wire_Reader_Text #[t0] h8 fun v9 h10 =>
 popO (SemP PG (Instr.build T_api_Packet #[(0, v3), (1, v5), (2, v7), (3, v9)])) fun v11 =>
 ∀ r12, h10 r12 = none → bindH (PH.set h10 r12 (.cells (zcells PG T_api_Packet) T_api_Packet)) fun h13 =>
 SemH PG (storeS T_api_Packet (Value.pointer (some ⟨r12, 0, none⟩)) v11) h13 fun v14 h15 =>
 popO (SemE PG h15 (Instr.loadAt T_api_Packet (Value.pointer (some ⟨r12, 0, none⟩)))) fun v16 =>
 CallsH PG id_packet_Check #[v16] h15 fun v17 h18 =>
 popO (SemE PG h18 (binS BinOp.neq T_api_Errno (.tmp 14) (.const (Value.int IntKind.i64 0)) v17 (Value.int IntKind.i64 0))) fun v19 =>
 condV v19
 (popO (SemP PG (nilS t0)) fun v20 =>
 popO (SemP PG (Instr.fieldAt T_wire_Reader v20 0)) fun v21 =>
 CallsH PG id_wire_memory_Fail #[v21, (Value.int IntKind.i64 5)] h18 fun v22 h23 =>
 packet_Get_k24 R t0 (Value.pointer (some ⟨r1, 0, none⟩)) (Value.pointer (some ⟨r12, 0, none⟩)) h23)
 (packet_Get_k24 R t0 (Value.pointer (some ⟨r1, 0, none⟩)) (Value.pointer (some ⟨r12, 0, none⟩)) h18)
def packet_Get.ann : Ann := { b := fun i => match i with  | _ => #[], ord := fun i => match i with  | _ => [], keep := fun i => match i with  | _ => [], n := 27 }
theorem packet_Get.eq (t0 : Value) (h0 : PH) (R : Value → PH → Prop) : codeF PG packet_Get.ann 200 (bodyOf Try.f79) (endH PG Try.f79 R) (fun t => (#[t0] : Array Value).getD t undef) h0 = packet_Get t0 h0 R := by kernel_rfl
theorem packet_Get.call {t0 : Value} {h0 : PH} {R : Value → PH → Prop} (H : packet_Get t0 h0 R) : CallsH PG id_packet_Get #[t0] h0 R :=
  callsF_by packet_Get.ann 200 mix Try.func79 (by kernel_rfl) (by kernel_rfl) (by kernel_rfl) (by kernel_rfl) (by simp [Try.ntmps79]) (packet_Get.eq t0 h0 R) H

def wire_Reader_Text (t0 : Value) (h0 : PH) (R : Value → PH → Prop) : Prop :=
 CallsH PG id_wire_Reader_get #[t0, (Value.int IntKind.i64 2)] h0 fun v1 h2 =>
 popO (SemP PG (convert T_uint64 T_int v1)) fun v3 =>
 CallsH PG id_wire_Reader_Raw #[t0, v3] h2 fun v4 h5 =>
 R v4 h5
def wire_Reader_Text.ann : Ann := { b := fun i => match i with  | _ => #[], ord := fun i => match i with  | _ => [], keep := fun i => match i with  | _ => [], n := 8 }
theorem wire_Reader_Text.eq (t0 : Value) (h0 : PH) (R : Value → PH → Prop) : codeF PG wire_Reader_Text.ann 200 (bodyOf Try.f93) (endH PG Try.f93 R) (fun t => (#[t0] : Array Value).getD t undef) h0 = wire_Reader_Text t0 h0 R := by kernel_rfl
theorem wire_Reader_Text.call {t0 : Value} {h0 : PH} {R : Value → PH → Prop} (H : wire_Reader_Text t0 h0 R) : CallsH PG id_wire_Reader_Text #[t0] h0 R :=
  callsF_by wire_Reader_Text.ann 200 mix Try.func93 (by kernel_rfl) (by kernel_rfl) (by kernel_rfl) (by kernel_rfl) (by simp [Try.ntmps93]) (wire_Reader_Text.eq t0 h0 R) H

def note_Items_1 (t0 : Value) (t1 : Value) (h0 : PH) (R : Value → PH → Prop) : Prop :=
 ∀ r1, h0 r1 = none → bindH (PH.set h0 r1 (.cells (Value.cells t1) T_api_Packet)) fun h2 =>
 ∀ r3, h2 r3 = none → bindH (PH.set h2 r3 (.cells (zcells PG T_api_Item) T_api_Item)) fun h4 =>
 popO (SemE PG h4 (Instr.loadAt T_api_Packet (Value.pointer (some ⟨r1, 0, none⟩)))) fun v5 =>
 popO (SemP PG (Instr.build T_api_Item #[(0, v5), (1, t0)])) fun v6 =>
 SemH PG (storeS T_api_Item (Value.pointer (some ⟨r3, 0, none⟩)) v6) h4 fun v7 h8 =>
 popO (SemE PG h8 (Instr.loadAt T_api_Item (Value.pointer (some ⟨r3, 0, none⟩)))) fun v9 =>
 R v9 h8
def note_Items_1.ann : Ann := { b := fun i => match i with  | _ => #[], ord := fun i => match i with  | _ => [], keep := fun i => match i with  | _ => [], n := 8 }
theorem note_Items_1.eq (t0 : Value) (t1 : Value) (h0 : PH) (R : Value → PH → Prop) : codeF PG note_Items_1.ann 200 (bodyOf Try.f62) (endH PG Try.f62 R) (fun t => (#[t0, t1] : Array Value).getD t undef) h0 = note_Items_1 t0 t1 h0 R := by kernel_rfl
theorem note_Items_1.call {t0 : Value} {t1 : Value} {h0 : PH} {R : Value → PH → Prop} (H : note_Items_1 t0 t1 h0 R) : CallsH PG id_note_Items_1 #[t0, t1] h0 R :=
  callsF_by note_Items_1.ann 200 mix Try.func62 (by kernel_rfl) (by kernel_rfl) (by kernel_rfl) (by kernel_rfl) (by simp [Try.ntmps62]) (note_Items_1.eq t0 t1 h0 R) H

def note_Notes (t0 : Value) (h0 : PH) (R : Value → PH → Prop) : Prop :=
 CallsH PG id_note_get_api_Note #[t0, (Value.int IntKind.i64 4), (Value.func (Fn.func id_note_Notes_1) #[] #[])] h0 fun v1 h2 =>
 R v1 h2
def note_Notes.ann : Ann := { b := fun i => match i with  | _ => #[], ord := fun i => match i with  | _ => [], keep := fun i => match i with  | _ => [], n := 5 }
theorem note_Notes.eq (t0 : Value) (h0 : PH) (R : Value → PH → Prop) : codeF PG note_Notes.ann 200 (bodyOf Try.f35) (endH PG Try.f35 R) (fun t => (#[t0] : Array Value).getD t undef) h0 = note_Notes t0 h0 R := by kernel_rfl
theorem note_Notes.call {t0 : Value} {h0 : PH} {R : Value → PH → Prop} (H : note_Notes t0 h0 R) : CallsH PG id_note_Notes #[t0] h0 R :=
  callsF_by note_Notes.ann 200 mix Try.func35 (by kernel_rfl) (by kernel_rfl) (by kernel_rfl) (by kernel_rfl) (by simp [Try.ntmps35]) (note_Notes.eq t0 h0 R) H

def note_get_api_Note_k51 (R : Value → PH → Prop) (n3 : List Value → PH → Prop) (t0 : Value) (t1 : Value) (t2 : Value) (t7 : Value) (t8 : Value) (t9 : Value) (t10 : Value) (h0 : PH) : Prop :=
 popO (SemE PG h0 (Instr.loadAt T_api_Packet t10)) fun v52 =>
 callC PG t2 #[t9, v52] h0 fun v53 h54 =>
 popO (SemA PG (Instr.buildSlice T_sl_api_Note 1 #[(0, v53)])) fun x56 => ∀ r55, h54 r55 = none → popO (SemP PG (x56.2 r55)) fun v57 => bindH (PH.set h54 r55 x56.1) fun h58 =>
 SemH PG (Builtin.append_ #[T_sl_api_Note, T_sl_api_Note] T_sl_api_Note #[t7, v57]) h58 fun v59 h60 =>
 popO (SemP PG (binOp BinOp.sub T_int t8 (Value.int IntKind.i64 1))) fun v61 =>
 n3 [t0, t1, t2, v59, v61] h60
def note_get_api_Note_b4 (R : Value → PH → Prop) (n3 : List Value → PH → Prop) (t0 : Value) (t1 : Value) (t2 : Value) (t7 : Value) (t8 : Value) (h0 : PH) : Prop :=
 popO (SemP PG (binOp BinOp.gtr T_int t8 (Value.int IntKind.i64 0))) fun v5 =>
 gopV (yV v5) true (fun k8 => k8 t0 h0) h0 fun v6 h7 =>
 gopV (yV v5) true (fun k11 => popO (SemP PG (nilS v6)) fun v12 => k11 v12 h7) h7 fun v9 h10 =>
 gopV (yV v5) true (fun k15 => popO (SemP PG (Instr.fieldAt T_wire_Reader v9 0)) fun v16 => k15 v16 h10) h10 fun v13 h14 =>
 gopV (yV v5) true (fun k19 => CallsH PG id_wire_memory_Err #[v13] h14 fun v20 h21 => k19 v20 h21) h14 fun v17 h18 =>
 gopV (yV v5) true (fun k24 => popO (SemE PG h18 (binS BinOp.eql T_api_Errno (.tmp 19) (.const (Value.int IntKind.i64 0)) v17 (Value.int IntKind.i64 0))) fun v25 => k24 v25 h18) h18 fun v22 h23 =>
 popO (pickV v5 v22 (Value.bool false)) fun v26 =>
 condV v26
 (CallsH PG id_wire_Reader_Byte #[t0] h23 fun v27 h28 =>
 CallsH PG id_packet_Get #[t0] h28 fun v29 h30 =>
 ∀ r31, h30 r31 = none → bindH (PH.set h30 r31 (.cells (zcells PG T_api_Packet) T_api_Packet)) fun h32 =>
 SemH PG (storeS T_api_Packet (Value.pointer (some ⟨r31, 0, none⟩)) v29) h32 fun v33 h34 =>
 popO (SemP PG (binOp BinOp.lss T_int v27 (Value.int IntKind.i64 1))) fun v35 =>
 gopV (yV v35) false (fun k38 => k38 v27 h34) h34 fun v36 h37 =>
 gopV (yV v35) false (fun k41 => k41 t1 h37) h37 fun v39 h40 =>
 gopV (yV v35) false (fun k44 => popO (SemP PG (binOp BinOp.gtr T_int v36 v39)) fun v45 => k44 v45 h40) h40 fun v42 h43 =>
 popO (pickV v35 (Value.bool true) v42) fun v46 =>
 condV v46
 (popO (SemP PG (nilS t0)) fun v47 =>
 popO (SemP PG (Instr.fieldAt T_wire_Reader v47 0)) fun v48 =>
 CallsH PG id_wire_memory_Fail #[v48, (Value.int IntKind.i64 5)] h43 fun v49 h50 =>
 note_get_api_Note_k51 R n3 t0 t1 t2 t7 t8 v27 (Value.pointer (some ⟨r31, 0, none⟩)) h50)
 (note_get_api_Note_k51 R n3 t0 t1 t2 t7 t8 v27 (Value.pointer (some ⟨r31, 0, none⟩)) h43))
 (popO (SemP PG (nilS t0)) fun v62 =>
 popO (SemP PG (Instr.fieldAt T_wire_Reader v62 0)) fun v63 =>
 CallsH PG id_wire_memory_Err #[v63] h23 fun v64 h65 =>
 popO (SemE PG h65 (binS BinOp.neq T_api_Errno (.tmp 49) (.const (Value.int IntKind.i64 0)) v64 (Value.int IntKind.i64 0))) fun v66 =>
 condV v66
 (R (Value.slice none 0 0) h65)
 (R t7 h65))
def note_get_api_Note (t0 : Value) (t1 : Value) (t2 : Value) (h0 : PH) (R : Value → PH → Prop) : Prop :=
 CallsH PG id_wire_Reader_Byte #[t0] h0 fun v1 h2 =>
 LoopL [0, 1, 2, 7, 8] (fun n3 ρ h => note_get_api_Note_b4 R n3 (ρ 0) (ρ 1) (ρ 2) (ρ 7) (ρ 8) h) [t0, t1, t2, (Value.slice none 0 0), v1] h2
def note_get_api_Note.ann : Ann := { b := fun i => match i with  | _ => #[], ord := fun i => match i with  | _ => [], keep := fun i => match i with | 3 => [0, 1, 2, 7, 8] | _ => [], n := 52 }
theorem note_get_api_Note.eq (t0 : Value) (t1 : Value) (t2 : Value) (h0 : PH) (R : Value → PH → Prop) : codeF PG note_get_api_Note.ann 200 (bodyOf Try.f63) (endH PG Try.f63 R) (fun t => (#[t0, t1, t2] : Array Value).getD t undef) h0 = note_get_api_Note t0 t1 t2 h0 R := by kernel_rfl
theorem note_get_api_Note.call {t0 : Value} {t1 : Value} {t2 : Value} {h0 : PH} {R : Value → PH → Prop} (H : note_get_api_Note t0 t1 t2 h0 R) : CallsH PG id_note_get_api_Note #[t0, t1, t2] h0 R :=
  callsF_by note_get_api_Note.ann 200 mix Try.func63 (by kernel_rfl) (by kernel_rfl) (by kernel_rfl) (by kernel_rfl) (by simp [Try.ntmps63]) (note_get_api_Note.eq t0 t1 t2 h0 R) H

def note_Notes_1 (t0 : Value) (t1 : Value) (h0 : PH) (R : Value → PH → Prop) : Prop :=
 ∀ r1, h0 r1 = none → bindH (PH.set h0 r1 (.cells (Value.cells t1) T_api_Packet)) fun h2 =>
 ∀ r3, h2 r3 = none → bindH (PH.set h2 r3 (.cells (zcells PG T_api_Note) T_api_Note)) fun h4 =>
 popO (SemE PG h4 (Instr.loadAt T_api_Packet (Value.pointer (some ⟨r1, 0, none⟩)))) fun v5 =>
 popO (SemP PG (Instr.build T_api_Note #[(0, t0), (1, v5)])) fun v6 =>
 SemH PG (storeS T_api_Note (Value.pointer (some ⟨r3, 0, none⟩)) v6) h4 fun v7 h8 =>
 popO (SemE PG h8 (Instr.loadAt T_api_Note (Value.pointer (some ⟨r3, 0, none⟩)))) fun v9 =>
 R v9 h8
def note_Notes_1.ann : Ann := { b := fun i => match i with  | _ => #[], ord := fun i => match i with  | _ => [], keep := fun i => match i with  | _ => [], n := 8 }
theorem note_Notes_1.eq (t0 : Value) (t1 : Value) (h0 : PH) (R : Value → PH → Prop) : codeF PG note_Notes_1.ann 200 (bodyOf Try.f64) (endH PG Try.f64 R) (fun t => (#[t0, t1] : Array Value).getD t undef) h0 = note_Notes_1 t0 t1 h0 R := by kernel_rfl
theorem note_Notes_1.call {t0 : Value} {t1 : Value} {h0 : PH} {R : Value → PH → Prop} (H : note_Notes_1 t0 t1 h0 R) : CallsH PG id_note_Notes_1 #[t0, t1] h0 R :=
  callsF_by note_Notes_1.ann 200 mix Try.func64 (by kernel_rfl) (by kernel_rfl) (by kernel_rfl) (by kernel_rfl) (by simp [Try.ntmps64]) (note_Notes_1.eq t0 t1 h0 R) H

def wire_Reader_End (t0 : Value) (h0 : PH) (R : Value → PH → Prop) : Prop :=
 CallsH PG id_wire_Reader_Left #[t0] h0 fun v1 h2 =>
 popO (SemP PG (binOp BinOp.gtr T_int v1 (Value.int IntKind.i64 0))) fun v3 =>
 condV v3
 (R (Value.int IntKind.i64 7) h2)
 (popO (SemP PG (nilS t0)) fun v4 =>
 popO (SemP PG (Instr.fieldAt T_wire_Reader v4 0)) fun v5 =>
 CallsH PG id_wire_memory_Err #[v5] h2 fun v6 h7 =>
 R v6 h7)
def wire_Reader_End.ann : Ann := { b := fun i => match i with  | _ => #[], ord := fun i => match i with  | _ => [], keep := fun i => match i with  | _ => [], n := 10 }
theorem wire_Reader_End.eq (t0 : Value) (h0 : PH) (R : Value → PH → Prop) : codeF PG wire_Reader_End.ann 200 (bodyOf Try.f37) (endH PG Try.f37 R) (fun t => (#[t0] : Array Value).getD t undef) h0 = wire_Reader_End t0 h0 R := by kernel_rfl
theorem wire_Reader_End.call {t0 : Value} {h0 : PH} {R : Value → PH → Prop} (H : wire_Reader_End t0 h0 R) : CallsH PG id_wire_Reader_End #[t0] h0 R :=
  callsF_by wire_Reader_End.ann 200 mix Try.func37 (by kernel_rfl) (by kernel_rfl) (by kernel_rfl) (by kernel_rfl) (by simp [Try.ntmps37]) (wire_Reader_End.eq t0 h0 R) H

def wire_Reader_Left (t0 : Value) (h0 : PH) (R : Value → PH → Prop) : Prop :=
 popO (SemP PG (nilS t0)) fun v1 =>
 popO (SemP PG (Instr.fieldAt T_wire_Reader v1 0)) fun v2 =>
 CallsH PG id_wire_memory_Err #[v2] h0 fun v3 h4 =>
 popO (SemE PG h4 (binS BinOp.neq T_api_Errno (.tmp 6) (.const (Value.int IntKind.i64 0)) v3 (Value.int IntKind.i64 0))) fun v5 =>
 condV v5
 (R (Value.int IntKind.i64 0) h4)
 (popO (SemP PG (nilS t0)) fun v6 =>
 popO (SemP PG (Instr.fieldAt T_wire_Reader v6 1)) fun v7 =>
 popO (SemE PG h4 (Instr.loadAt T_string v7)) fun v8 =>
 popO (SemP PG (Builtin.len_ #[T_string] T_int #[v8])) fun v9 =>
 R v9 h4)
def wire_Reader_Left.ann : Ann := { b := fun i => match i with  | _ => #[], ord := fun i => match i with  | _ => [], keep := fun i => match i with  | _ => [], n := 13 }
theorem wire_Reader_Left.eq (t0 : Value) (h0 : PH) (R : Value → PH → Prop) : codeF PG wire_Reader_Left.ann 200 (bodyOf Try.f65) (endH PG Try.f65 R) (fun t => (#[t0] : Array Value).getD t undef) h0 = wire_Reader_Left t0 h0 R := by kernel_rfl
theorem wire_Reader_Left.call {t0 : Value} {h0 : PH} {R : Value → PH → Prop} (H : wire_Reader_Left t0 h0 R) : CallsH PG id_wire_Reader_Left #[t0] h0 R :=
  callsF_by wire_Reader_Left.ann 200 mix Try.func65 (by kernel_rfl) (by kernel_rfl) (by kernel_rfl) (by kernel_rfl) (by simp [Try.ntmps65]) (wire_Reader_Left.eq t0 h0 R) H

def record_Replay_1_k26 (R : Value → PH → Prop) (t1 : Value) (t6 : Value) (h0 : PH) : Prop :=
 SemH PG (storeS T_api_Errno t1 t6) h0 fun v27 h28 =>
 R (Value.tuple #[]) h28
def record_Replay_1_k15 (R : Value → PH → Prop) (t1 : Value) (t2 : Value) (t3 : Value) (t5 : Value) (t6 : Value) (h0 : PH) : Prop :=
 popO (SemE PG h0 (binS BinOp.eql T_api_Errno (.tmp 16) (.const (Value.int IntKind.i64 0)) t6 (Value.int IntKind.i64 0))) fun v16 =>
 condV v16
 (popO (SemE PG h0 (Instr.loadAt T_api_Daemon t2)) fun v17 =>
 popO (SemE PG h0 (Instr.loadAt T_int t3)) fun v18 =>
 popO (SemE PG h0 (Instr.loadAt T_api_Record t5)) fun v19 =>
 CallsH PG id_record_Step #[v17, v18, v19] h0 fun v20 h21 =>
 popO (SemP PG (Instr.extract v20 0)) fun v22 =>
 popO (SemP PG (Instr.extract v20 1)) fun v23 =>
 SemH PG (storeS T_api_Daemon t2 v22) h21 fun v24 h25 =>
 record_Replay_1_k26 R t1 v23 h25)
 (record_Replay_1_k26 R t1 t6 h0)
def record_Replay_1 (t0 : Value) (t1 : Value) (t2 : Value) (t3 : Value) (h0 : PH) (R : Value → PH → Prop) : Prop :=
 popO (SemP PG (Instr.build T_api_Record #[])) fun v1 =>
 popO (SemE PG h0 (Instr.loadAt T_api_Errno t1)) fun v2 =>
 ∀ r3, h0 r3 = none → bindH (PH.set h0 r3 (.cells (zcells PG T_api_Record) T_api_Record)) fun h4 =>
 SemH PG (storeS T_api_Record (Value.pointer (some ⟨r3, 0, none⟩)) v1) h4 fun v5 h6 =>
 SemE PG h6 (Instr.loadAt T_api_Errno t1) = some v2 ∧ (popO (SemE PG h6 (Instr.loadAt T_api_Errno t1)) fun v7 =>
 popO (SemE PG h6 (binS BinOp.eql T_api_Errno (.tmp 9) (.const (Value.int IntKind.i64 0)) v7 (Value.int IntKind.i64 0))) fun v8 =>
 condV v8
 (CallsH PG id_record_Parse #[t0] h6 fun v9 h10 =>
 popO (SemP PG (Instr.extract v9 0)) fun v11 =>
 popO (SemP PG (Instr.extract v9 1)) fun v12 =>
 SemH PG (storeS T_api_Record (Value.pointer (some ⟨r3, 0, none⟩)) v11) h10 fun v13 h14 =>
 record_Replay_1_k15 R t1 t2 t3 (Value.pointer (some ⟨r3, 0, none⟩)) v12 h14)
 (record_Replay_1_k15 R t1 t2 t3 (Value.pointer (some ⟨r3, 0, none⟩)) v2 h6))
def record_Replay_1.ann : Ann := { b := fun i => match i with | 0 => #[0, 0, 0, 5, 15] | _ => #[], ord := fun i => match i with | 0 => [0, 1, 2, 3, 4] | _ => [], keep := fun i => match i with  | _ => [], n := 26 }
theorem record_Replay_1.eq (t0 : Value) (t1 : Value) (t2 : Value) (t3 : Value) (h0 : PH) (R : Value → PH → Prop) : codeF PG record_Replay_1.ann 200 (bodyOf Try.f22) (endH PG Try.f22 R) (fun t => (#[t0, t1, t2, t3] : Array Value).getD t undef) h0 = record_Replay_1 t0 t1 t2 t3 h0 R := by kernel_rfl
theorem record_Replay_1.call {t0 : Value} {t1 : Value} {t2 : Value} {t3 : Value} {h0 : PH} {R : Value → PH → Prop} (H : record_Replay_1 t0 t1 t2 t3 h0 R) : CallsH PG id_record_Replay_1 #[t0, t1, t2, t3] h0 R :=
  callsF_by record_Replay_1.ann 200 mix Try.func22 (by kernel_rfl) (by kernel_rfl) (by kernel_rfl) (by kernel_rfl) (by simp [Try.ntmps22]) (record_Replay_1.eq t0 t1 t2 t3 h0 R) H

def record_Step (t0 : Value) (t1 : Value) (t2 : Value) (h0 : PH) (R : Value → PH → Prop) : Prop :=
 ∀ r1, h0 r1 = none → bindH (PH.set h0 r1 (.cells (Value.cells t0) T_api_Daemon)) fun h2 =>
 ∀ r3, h2 r3 = none → bindH (PH.set h2 r3 (.cells (Value.cells t2) T_api_Record)) fun h4 =>
 ∀ r5, h4 r5 = none → bindH (PH.set h4 r5 (.cells (zcells PG T_api_Daemon) T_api_Daemon)) fun h6 =>
 popO (SemE PG h6 (Instr.loadAt T_api_Daemon (Value.pointer (some ⟨r1, 0, none⟩)))) fun v7 =>
 CallsH PG id_record_Check #[v7, t1] h6 fun v8 h9 =>
 popO (SemE PG h9 (binS BinOp.neq T_api_Errno (.tmp 19) (.const (Value.int IntKind.i64 0)) v8 (Value.int IntKind.i64 0))) fun v10 =>
 condV v10
 (popO (SemP PG (Instr.build T_api_Daemon #[])) fun v11 =>
 SemH PG (storeS T_api_Daemon (Value.pointer (some ⟨r5, 0, none⟩)) v11) h9 fun v12 h13 =>
 popO (SemE PG h13 (Instr.loadAt T_api_Daemon (Value.pointer (some ⟨r5, 0, none⟩)))) fun v14 =>
 R (Value.tuple #[v14, v8]) h13)
 (popO (SemE PG h9 (Instr.loadAt T_api_Record (Value.pointer (some ⟨r3, 0, none⟩)))) fun v15 =>
 CallsH PG id_record_Bytes #[v15] h9 fun v16 h17 =>
 popO (SemP PG (Instr.extract v16 0)) fun v18 =>
 popO (SemP PG (Instr.extract v16 1)) fun v19 =>
 popO (SemE PG h17 (binS BinOp.neq T_api_Errno (.tmp 28) (.const (Value.int IntKind.i64 0)) v19 (Value.int IntKind.i64 0))) fun v20 =>
 condV v20
 (popO (SemP PG (Instr.build T_api_Daemon #[])) fun v21 =>
 SemH PG (storeS T_api_Daemon (Value.pointer (some ⟨r5, 0, none⟩)) v21) h17 fun v22 h23 =>
 popO (SemE PG h23 (Instr.loadAt T_api_Daemon (Value.pointer (some ⟨r5, 0, none⟩)))) fun v24 =>
 R (Value.tuple #[v24, v19]) h23)
 (popO (SemP PG (Instr.fieldAt T_api_Record (Value.pointer (some ⟨r3, 0, none⟩)) 0)) fun v25 =>
 popO (SemE PG h17 (Instr.loadAt T_int v25)) fun v26 =>
 popO (SemE PG h17 (binS BinOp.eql T_int (.tmp 33) (.const (Value.int IntKind.i64 1)) v26 (Value.int IntKind.i64 1))) fun v27 =>
 condV v27
 (popO (SemP PG (Instr.fieldAt T_api_Record (Value.pointer (some ⟨r3, 0, none⟩)) 1)) fun v28 =>
 popO (SemE PG h17 (Instr.loadAt T_api_Daemon v28)) fun v29 =>
 CallsH PG id_record_Check #[v29, t1] h17 fun v30 h31 =>
 popO (SemE PG h31 (binS BinOp.neq T_api_Errno (.tmp 39) (.const (Value.int IntKind.i64 0)) v30 (Value.int IntKind.i64 0))) fun v32 =>
 condV v32
 (popO (SemP PG (Instr.build T_api_Daemon #[])) fun v33 =>
 SemH PG (storeS T_api_Daemon (Value.pointer (some ⟨r5, 0, none⟩)) v33) h31 fun v34 h35 =>
 popO (SemE PG h35 (Instr.loadAt T_api_Daemon (Value.pointer (some ⟨r5, 0, none⟩)))) fun v36 =>
 R (Value.tuple #[v36, v30]) h35)
 (popO (SemP PG (Instr.fieldAt T_api_Record (Value.pointer (some ⟨r3, 0, none⟩)) 1)) fun v37 =>
 popO (SemP PG (Instr.fieldAt T_api_Daemon v37 1)) fun v38 =>
 popO (SemE PG h31 (Instr.loadAt T_sl_api_Item v38)) fun v39 =>
 CallsH PG id_slices_Clone_sl_api_Item_api_Item #[v39] h31 fun v40 h41 =>
 popO (SemP PG (Instr.fieldAt T_api_Record (Value.pointer (some ⟨r3, 0, none⟩)) 1)) fun v42 =>
 popO (SemP PG (Instr.fieldAt T_api_Daemon v42 1)) fun v43 =>
 SemH PG (storeS T_sl_api_Item v43 v40) h41 fun v44 h45 =>
 popO (SemP PG (Instr.fieldAt T_api_Record (Value.pointer (some ⟨r3, 0, none⟩)) 1)) fun v46 =>
 popO (SemE PG h45 (Instr.loadAt T_api_Daemon v46)) fun v47 =>
 SemH PG (storeS T_api_Daemon (Value.pointer (some ⟨r5, 0, none⟩)) v47) h45 fun v48 h49 =>
 popO (SemE PG h49 (Instr.loadAt T_api_Daemon (Value.pointer (some ⟨r5, 0, none⟩)))) fun v50 =>
 R (Value.tuple #[v50, (Value.int IntKind.i64 0)]) h49))
 (popO (SemP PG (Instr.fieldAt T_api_Daemon (Value.pointer (some ⟨r1, 0, none⟩)) 1)) fun v51 =>
 popO (SemE PG h17 (Instr.loadAt T_sl_api_Item v51)) fun v52 =>
 CallsH PG id_table_Of #[t1, v52] h17 fun v53 h54 =>
 popO (SemP PG (Instr.extract v53 0)) fun v55 =>
 popO (SemP PG (Instr.extract v53 1)) fun v56 =>
 popO (SemP PG (Instr.fieldAt T_api_Record (Value.pointer (some ⟨r3, 0, none⟩)) 4)) fun v57 =>
 popO (SemE PG h54 (Instr.loadAt T_sl_api_Note v57)) fun v58 =>
 CallsH PG id_scan_Apply #[v55, v58] h54 fun v59 h60 =>
 popO (SemP PG (Instr.extract v59 0)) fun v61 =>
 popO (SemP PG (Instr.extract v59 1)) fun v62 =>
 popO (SemE PG h60 (binS BinOp.neq T_api_Errno (.tmp 65) (.const (Value.int IntKind.i64 0)) v62 (Value.int IntKind.i64 0))) fun v63 =>
 condV v63
 (popO (SemP PG (Instr.build T_api_Daemon #[])) fun v64 =>
 SemH PG (storeS T_api_Daemon (Value.pointer (some ⟨r5, 0, none⟩)) v64) h60 fun v65 h66 =>
 popO (SemE PG h66 (Instr.loadAt T_api_Daemon (Value.pointer (some ⟨r5, 0, none⟩)))) fun v67 =>
 R (Value.tuple #[v67, v62]) h66)
 (CallsH PG id_table_Table_Items #[v55] h60 fun v68 h69 =>
 popO (SemP PG (Instr.fieldAt T_api_Daemon (Value.pointer (some ⟨r1, 0, none⟩)) 1)) fun v70 =>
 SemH PG (storeS T_sl_api_Item v70 v68) h69 fun v71 h72 =>
 popO (SemP PG (Instr.fieldAt T_api_Record (Value.pointer (some ⟨r3, 0, none⟩)) 2)) fun v73 =>
 popO (SemE PG h72 (Instr.loadAt T_int v73)) fun v74 =>
 popO (SemP PG (Instr.fieldAt T_api_Record (Value.pointer (some ⟨r3, 0, none⟩)) 3)) fun v75 =>
 popO (SemE PG h72 (Instr.loadAt T_api_Place v75)) fun v76 =>
 popO (SemP PG (Instr.fieldAt T_api_Daemon (Value.pointer (some ⟨r1, 0, none⟩)) 0)) fun v77 =>
 popO (SemP PG (Instr.indexAt T_2_api_Place v77 v74)) fun v78 =>
 SemH PG (storeS T_api_Place v78 v76) h72 fun v79 h80 =>
 popO (SemE PG h80 (Instr.loadAt T_api_Daemon (Value.pointer (some ⟨r1, 0, none⟩)))) fun v81 =>
 SemH PG (storeS T_api_Daemon (Value.pointer (some ⟨r5, 0, none⟩)) v81) h80 fun v82 h83 =>
 popO (SemE PG h83 (Instr.loadAt T_api_Daemon (Value.pointer (some ⟨r5, 0, none⟩)))) fun v84 =>
 R (Value.tuple #[v84, (Value.int IntKind.i64 0)]) h83))))
def record_Step.ann : Ann := { b := fun i => match i with  | _ => #[], ord := fun i => match i with  | _ => [], keep := fun i => match i with  | _ => [], n := 79 }
theorem record_Step.eq (t0 : Value) (t1 : Value) (t2 : Value) (h0 : PH) (R : Value → PH → Prop) : codeF PG record_Step.ann 200 (bodyOf Try.f11) (endH PG Try.f11 R) (fun t => (#[t0, t1, t2] : Array Value).getD t undef) h0 = record_Step t0 t1 t2 h0 R := by kernel_rfl
theorem record_Step.call {t0 : Value} {t1 : Value} {t2 : Value} {h0 : PH} {R : Value → PH → Prop} (H : record_Step t0 t1 t2 h0 R) : CallsH PG id_record_Step #[t0, t1, t2] h0 R :=
  callsF_by record_Step.ann 200 mix Try.func11 (by kernel_rfl) (by kernel_rfl) (by kernel_rfl) (by kernel_rfl) (by simp [Try.ntmps11]) (record_Step.eq t0 t1 t2 h0 R) H

def slices_Clone_sl_api_Item_api_Item (t0 : Value) (h0 : PH) (R : Value → PH → Prop) : Prop :=
 popO (SemE PG h0 (binS BinOp.eql T_sl_api_Item (.tmp 3) (.const (Value.slice none 0 0)) t0 (Value.slice none 0 0))) fun v1 =>
 condV v1
 (R (Value.slice none 0 0) h0)
 (popO (SemA PG (Instr.buildSlice T_sl_api_Item 0 #[])) fun x3 => ∀ r2, h0 r2 = none → popO (SemP PG (x3.2 r2)) fun v4 => bindH (PH.set h0 r2 x3.1) fun h5 =>
 SemH PG (Builtin.append_ #[T_sl_api_Item, T_sl_api_Item] T_sl_api_Item #[v4, t0]) h5 fun v6 h7 =>
 R v6 h7)
def slices_Clone_sl_api_Item_api_Item.ann : Ann := { b := fun i => match i with  | _ => #[], ord := fun i => match i with  | _ => [], keep := fun i => match i with  | _ => [], n := 8 }
theorem slices_Clone_sl_api_Item_api_Item.eq (t0 : Value) (h0 : PH) (R : Value → PH → Prop) : codeF PG slices_Clone_sl_api_Item_api_Item.ann 200 (bodyOf Try.f28) (endH PG Try.f28 R) (fun t => (#[t0] : Array Value).getD t undef) h0 = slices_Clone_sl_api_Item_api_Item t0 h0 R := by kernel_rfl
theorem slices_Clone_sl_api_Item_api_Item.call {t0 : Value} {h0 : PH} {R : Value → PH → Prop} (H : slices_Clone_sl_api_Item_api_Item t0 h0 R) : CallsH PG id_slices_Clone_sl_api_Item_api_Item #[t0] h0 R :=
  callsF_by slices_Clone_sl_api_Item_api_Item.ann 200 mix Try.func28 (by kernel_rfl) (by kernel_rfl) (by kernel_rfl) (by kernel_rfl) (by simp [Try.ntmps28]) (slices_Clone_sl_api_Item_api_Item.eq t0 h0 R) H

def scan_Apply_b3 (R : Value → PH → Prop) (n2 : List Value → PH → Prop) (t0 : Value) (t1 : Value) (t9 : Value) (t10 : Value) (t11 : Value) (h0 : PH) : Prop :=
 popO (SemP PG (binOp BinOp.lss T_int t11 t10)) fun v4 =>
 condV v4
 (popO (SemP PG (Instr.indexAt T_sl_api_Note t9 t11)) fun v5 =>
 popO (SemE PG h0 (Instr.loadAt T_api_Note v5)) fun v6 =>
 ∀ r7, h0 r7 = none → bindH (PH.set h0 r7 (.cells (zcells PG T_api_Note) T_api_Note)) fun h8 =>
 SemH PG (storeS T_api_Note (Value.pointer (some ⟨r7, 0, none⟩)) v6) h8 fun v9 h10 =>
 popO (SemE PG h10 (Instr.loadAt T_api_Note (Value.pointer (some ⟨r7, 0, none⟩)))) fun v11 =>
 CallsH PG id_table_Table_Apply #[t0, v11] h10 fun v12 h13 =>
 popO (SemE PG h13 (binS BinOp.neq T_api_Errno (.tmp 19) (.const (Value.int IntKind.i64 0)) v12 (Value.int IntKind.i64 0))) fun v14 =>
 condV v14
 (R (Value.tuple #[t11, v12]) h13)
 (popO (SemP PG (binOp BinOp.add T_int t11 (Value.int IntKind.i64 1))) fun v15 =>
 n2 [t0, t1, t9, t10, v15] h13))
 (popO (SemP PG (Builtin.len_ #[T_sl_api_Note] T_int #[t1])) fun v16 =>
 R (Value.tuple #[v16, (Value.int IntKind.i64 0)]) h0)
def scan_Apply (t0 : Value) (t1 : Value) (h0 : PH) (R : Value → PH → Prop) : Prop :=
 popO (SemP PG (Builtin.len_ #[T_sl_api_Note] T_int #[t1])) fun v1 =>
 LoopL [0, 1, 9, 10, 11] (fun n2 ρ h => scan_Apply_b3 R n2 (ρ 0) (ρ 1) (ρ 9) (ρ 10) (ρ 11) h) [t0, t1, t1, v1, (Value.int IntKind.i64 0)] h0
def scan_Apply.ann : Ann := { b := fun i => match i with  | _ => #[], ord := fun i => match i with  | _ => [], keep := fun i => match i with | 2 => [0, 1, 9, 10, 11] | _ => [], n := 26 }
theorem scan_Apply.eq (t0 : Value) (t1 : Value) (h0 : PH) (R : Value → PH → Prop) : codeF PG scan_Apply.ann 200 (bodyOf Try.f29) (endH PG Try.f29 R) (fun t => (#[t0, t1] : Array Value).getD t undef) h0 = scan_Apply t0 t1 h0 R := by kernel_rfl
theorem scan_Apply.call {t0 : Value} {t1 : Value} {h0 : PH} {R : Value → PH → Prop} (H : scan_Apply t0 t1 h0 R) : CallsH PG id_scan_Apply #[t0, t1] h0 R :=
  callsF_by scan_Apply.ann 200 mix Try.func29 (by kernel_rfl) (by kernel_rfl) (by kernel_rfl) (by kernel_rfl) (by simp [Try.ntmps29]) (scan_Apply.eq t0 t1 h0 R) H

def table_Table_Apply (t0 : Value) (t1 : Value) (h0 : PH) (R : Value → PH → Prop) : Prop :=
 ∀ r1, h0 r1 = none → bindH (PH.set h0 r1 (.cells (Value.cells t1) T_api_Note)) fun h2 =>
 popO (SemE PG h2 (Instr.loadAt T_api_Note (Value.pointer (some ⟨r1, 0, none⟩)))) fun v3 =>
 CallsH PG id_note_Check #[v3] h2 fun v4 h5 =>
 popO (SemE PG h5 (binS BinOp.neq T_api_Errno (.tmp 9) (.const (Value.int IntKind.i64 0)) v4 (Value.int IntKind.i64 0))) fun v6 =>
 condV v6
 (R v4 h5)
 (popO (SemP PG (Instr.build T_5_functable_Table_table_id_api_Packet_api_Errno #[(1, (Value.func (Fn.func id_table_Table_sent) #[] #[])), (2, (Value.func (Fn.func id_table_Table_received) #[] #[])), (3, (Value.func (Fn.func id_table_Table_over) #[] #[])), (4, (Value.func (Fn.func id_table_Table_over) #[] #[]))])) fun v7 =>
 ∀ r8, h5 r8 = none → bindH (PH.set h5 r8 (.cells (zcells PG T_5_functable_Table_table_id_api_Packet_api_Errno) T_5_functable_Table_table_id_api_Packet_api_Errno)) fun h9 =>
 SemH PG (storeS T_5_functable_Table_table_id_api_Packet_api_Errno (Value.pointer (some ⟨r8, 0, none⟩)) v7) h9 fun v10 h11 =>
 popO (SemP PG (Instr.fieldAt T_api_Note (Value.pointer (some ⟨r1, 0, none⟩)) 0)) fun v12 =>
 popO (SemE PG h11 (Instr.loadAt T_int v12)) fun v13 =>
 popO (SemP PG (Instr.indexAt T_5_functable_Table_table_id_api_Packet_api_Errno (Value.pointer (some ⟨r8, 0, none⟩)) v13)) fun v14 =>
 popO (SemE PG h11 (Instr.loadAt T_functable_Table_table_id_api_Packet_api_Errno v14)) fun v15 =>
 popO (SemP PG (Instr.fieldAt T_api_Note (Value.pointer (some ⟨r1, 0, none⟩)) 1)) fun v16 =>
 popO (SemP PG (Instr.fieldAt T_api_Packet v16 0)) fun v17 =>
 popO (SemE PG h11 (Instr.loadAt T_int v17)) fun v18 =>
 popO (SemP PG (Instr.fieldAt T_api_Note (Value.pointer (some ⟨r1, 0, none⟩)) 1)) fun v19 =>
 popO (SemP PG (Instr.fieldAt T_api_Packet v19 1)) fun v20 =>
 popO (SemE PG h11 (Instr.loadAt T_uint64 v20)) fun v21 =>
 popO (SemP PG (Instr.build T_table_id #[(0, v18), (1, v21)])) fun v22 =>
 popO (SemP PG (Instr.fieldAt T_api_Note (Value.pointer (some ⟨r1, 0, none⟩)) 1)) fun v23 =>
 popO (SemE PG h11 (Instr.loadAt T_api_Packet v23)) fun v24 =>
 callC PG v15 #[t0, v22, v24] h11 fun v25 h26 =>
 (R v25 h26))
def table_Table_Apply.ann : Ann := { b := fun i => match i with | 5 => #[0, 1, 3, 7, 0, 0, 32, 96, 0, 256, 768, 2016, 0, 4096, 16383, 32767] | _ => #[], ord := fun i => match i with | 5 => [0, 1, 2, 3, 4, 5, 6, 7, 8, 9, 10, 11, 12, 13, 14, 15] | _ => [], keep := fun i => match i with  | _ => [], n := 28 }
theorem table_Table_Apply.eq (t0 : Value) (t1 : Value) (h0 : PH) (R : Value → PH → Prop) : codeF PG table_Table_Apply.ann 200 (bodyOf Try.f58) (endH PG Try.f58 R) (fun t => (#[t0, t1] : Array Value).getD t undef) h0 = table_Table_Apply t0 t1 h0 R := by kernel_rfl
theorem table_Table_Apply.call {t0 : Value} {t1 : Value} {h0 : PH} {R : Value → PH → Prop} (H : table_Table_Apply t0 t1 h0 R) : CallsH PG id_table_Table_Apply #[t0, t1] h0 R :=
  callsF_by table_Table_Apply.ann 200 mix Try.func58 (by kernel_rfl) (by kernel_rfl) (by kernel_rfl) (by kernel_rfl) (by simp [Try.ntmps58]) (table_Table_Apply.eq t0 t1 h0 R) H

def note_Check (t0 : Value) (h0 : PH) (R : Value → PH → Prop) : Prop :=
 ∀ r1, h0 r1 = none → bindH (PH.set h0 r1 (.cells (Value.cells t0) T_api_Note)) fun h2 =>
 popO (SemP PG (Instr.fieldAt T_api_Note (Value.pointer (some ⟨r1, 0, none⟩)) 0)) fun v3 =>
 popO (SemE PG h2 (Instr.loadAt T_int v3)) fun v4 =>
 popO (SemP PG (binOp BinOp.lss T_int v4 (Value.int IntKind.i64 1))) fun v5 =>
 gopV (yV v5) false (fun k8 => popO (SemP PG (Instr.fieldAt T_api_Note (Value.pointer (some ⟨r1, 0, none⟩)) 0)) fun v9 => k8 v9 h2) h2 fun v6 h7 =>
 gopV (yV v5) false (fun k12 => popO (SemE PG h7 (Instr.loadAt T_int v6)) fun v13 => k12 v13 h7) h7 fun v10 h11 =>
 gopV (yV v5) false (fun k16 => popO (SemP PG (binOp BinOp.gtr T_int v10 (Value.int IntKind.i64 4))) fun v17 => k16 v17 h11) h11 fun v14 h15 =>
 popO (pickV v5 (Value.bool true) v14) fun v18 =>
 condV v18
 (R (Value.int IntKind.i64 1) h15)
 (popO (SemP PG (Instr.fieldAt T_api_Note (Value.pointer (some ⟨r1, 0, none⟩)) 1)) fun v19 =>
 popO (SemE PG h15 (Instr.loadAt T_api_Packet v19)) fun v20 =>
 CallsH PG id_packet_Check #[v20] h15 fun v21 h22 =>
 R v21 h22)
def note_Check.ann : Ann := { b := fun i => match i with  | _ => #[], ord := fun i => match i with  | _ => [], keep := fun i => match i with  | _ => [], n := 14 }
theorem note_Check.eq (t0 : Value) (h0 : PH) (R : Value → PH → Prop) : codeF PG note_Check.ann 200 (bodyOf Try.f74) (endH PG Try.f74 R) (fun t => (#[t0] : Array Value).getD t undef) h0 = note_Check t0 h0 R := by kernel_rfl
theorem note_Check.call {t0 : Value} {h0 : PH} {R : Value → PH → Prop} (H : note_Check t0 h0 R) : CallsH PG id_note_Check #[t0] h0 R :=
  callsF_by note_Check.ann 200 mix Try.func74 (by kernel_rfl) (by kernel_rfl) (by kernel_rfl) (by kernel_rfl) (by simp [Try.ntmps74]) (note_Check.eq t0 h0 R) H

def table_Table_sent (t0 : Value) (t1 : Value) (t2 : Value) (h0 : PH) (R : Value → PH → Prop) : Prop :=
 ∀ r1, h0 r1 = none → bindH (PH.set h0 r1 (.cells (Value.cells t1) T_table_id)) fun h2 =>
 ∀ r3, h2 r3 = none → bindH (PH.set h2 r3 (.cells (Value.cells t2) T_api_Packet)) fun h4 =>
 popO (SemP PG (nilS t0)) fun v5 =>
 popO (SemP PG (Instr.fieldAt T_table_Table v5 0)) fun v6 =>
 popO (SemE PG h4 (Instr.loadAt T_map_table_id_api_Item v6)) fun v7 =>
 popO (SemE PG h4 (Instr.loadAt T_table_id (Value.pointer (some ⟨r1, 0, none⟩)))) fun v8 =>
 popO (SemE PG h4 (Instr.lookup T_map_table_id_api_Item v7 v8 true)) fun v9 =>
 popO (SemP PG (Instr.extract v9 0)) fun v10 =>
 popO (SemP PG (Instr.extract v9 1)) fun v11 =>
 ∀ r12, h4 r12 = none → bindH (PH.set h4 r12 (.cells (zcells PG T_api_Item) T_api_Item)) fun h13 =>
 SemH PG (storeS T_api_Item (Value.pointer (some ⟨r12, 0, none⟩)) v10) h13 fun v14 h15 =>
 (condV v11
 (R (Value.int IntKind.i64 0) h15)
 (popO (SemE PG h15 (Instr.loadAt T_table_id (Value.pointer (some ⟨r1, 0, none⟩)))) fun v16 =>
 popO (SemE PG h15 (Instr.loadAt T_api_Packet (Value.pointer (some ⟨r3, 0, none⟩)))) fun v17 =>
 popO (SemP PG (Instr.build T_api_Item #[(0, v17), (1, (Value.int IntKind.i64 1))])) fun v18 =>
 CallsH PG id_table_Table_put #[t0, v16, v18] h15 fun v19 h20 =>
 R v19 h20))
def table_Table_sent.ann : Ann := { b := fun i => match i with | 1 => #[0, 1, 3, 7, 0, 31, 63, 127, 127, 0, 767, 2047] | _ => #[], ord := fun i => match i with | 1 => [0, 1, 2, 3, 4, 5, 6, 7, 8, 9, 10, 11] | _ => [], keep := fun i => match i with  | _ => [], n := 24 }
theorem table_Table_sent.eq (t0 : Value) (t1 : Value) (t2 : Value) (h0 : PH) (R : Value → PH → Prop) : codeF PG table_Table_sent.ann 200 (bodyOf Try.f75) (endH PG Try.f75 R) (fun t => (#[t0, t1, t2] : Array Value).getD t undef) h0 = table_Table_sent t0 t1 t2 h0 R := by kernel_rfl
theorem table_Table_sent.call {t0 : Value} {t1 : Value} {t2 : Value} {h0 : PH} {R : Value → PH → Prop} (H : table_Table_sent t0 t1 t2 h0 R) : CallsH PG id_table_Table_sent #[t0, t1, t2] h0 R :=
  callsF_by table_Table_sent.ann 200 mix Try.func75 (by kernel_rfl) (by kernel_rfl) (by kernel_rfl) (by kernel_rfl) (by simp [Try.ntmps75]) (table_Table_sent.eq t0 t1 t2 h0 R) H

def table_Table_put (t0 : Value) (t1 : Value) (t2 : Value) (h0 : PH) (R : Value → PH → Prop) : Prop :=
 ∀ r1, h0 r1 = none → bindH (PH.set h0 r1 (.cells (Value.cells t1) T_table_id)) fun h2 =>
 ∀ r3, h2 r3 = none → bindH (PH.set h2 r3 (.cells (Value.cells t2) T_api_Item)) fun h4 =>
 popO (SemP PG (nilS t0)) fun v5 =>
 popO (SemP PG (Instr.fieldAt T_table_Table v5 0)) fun v6 =>
 popO (SemE PG h4 (Instr.loadAt T_map_table_id_api_Item v6)) fun v7 =>
 popO (SemE PG h4 (Instr.loadAt T_table_id (Value.pointer (some ⟨r1, 0, none⟩)))) fun v8 =>
 popO (SemE PG h4 (Instr.lookup T_map_table_id_api_Item v7 v8 true)) fun v9 =>
 popO (SemP PG (Instr.extract v9 0)) fun v10 =>
 popO (SemP PG (Instr.extract v9 1)) fun v11 =>
 ∀ r12, h4 r12 = none → bindH (PH.set h4 r12 (.cells (zcells PG T_api_Item) T_api_Item)) fun h13 =>
 SemH PG (storeS T_api_Item (Value.pointer (some ⟨r12, 0, none⟩)) v10) h13 fun v14 h15 =>
 (popO (SemP PG (Op.unary UnOp.not v11)) fun v16 =>
 gopV (yV v16) true (fun k19 => k19 t0 h15) h15 fun v17 h18 =>
 gopV (yV v16) true (fun k22 => popO (SemP PG (nilS v17)) fun v23 => k22 v23 h18) h18 fun v20 h21 =>
 gopV (yV v16) true (fun k26 => popO (SemP PG (Instr.fieldAt T_table_Table v20 0)) fun v27 => k26 v27 h21) h21 fun v24 h25 =>
 gopV (yV v16) true (fun k30 => popO (SemE PG h25 (Instr.loadAt T_map_table_id_api_Item v24)) fun v31 => k30 v31 h25) h25 fun v28 h29 =>
 gopV (yV v16) true (fun k34 => popO (SemE PG h29 (Builtin.len_ #[T_map_table_id_api_Item] T_int #[v28])) fun v35 => k34 v35 h29) h29 fun v32 h33 =>
 gopV (yV v16) true (fun k38 => k38 t0 h33) h33 fun v36 h37 =>
 gopV (yV v16) true (fun k41 => popO (SemP PG (nilS v36)) fun v42 => k41 v42 h37) h37 fun v39 h40 =>
 gopV (yV v16) true (fun k45 => popO (SemP PG (Instr.fieldAt T_table_Table v39 1)) fun v46 => k45 v46 h40) h40 fun v43 h44 =>
 gopV (yV v16) true (fun k49 => popO (SemE PG h44 (Instr.loadAt T_int v43)) fun v50 => k49 v50 h44) h44 fun v47 h48 =>
 gopV (yV v16) true (fun k53 => popO (SemP PG (binOp BinOp.geq T_int v32 v47)) fun v54 => k53 v54 h48) h48 fun v51 h52 =>
 popO (pickV v16 v51 (Value.bool false)) fun v55 =>
 condV v55
 (R (Value.int IntKind.i64 2) h52)
 (popO (SemP PG (nilS t0)) fun v56 =>
 popO (SemP PG (Instr.fieldAt T_table_Table v56 0)) fun v57 =>
 popO (SemE PG h52 (Instr.loadAt T_map_table_id_api_Item v57)) fun v58 =>
 popO (SemE PG h52 (Instr.loadAt T_table_id (Value.pointer (some ⟨r1, 0, none⟩)))) fun v59 =>
 popO (SemE PG h52 (Instr.loadAt T_api_Item (Value.pointer (some ⟨r3, 0, none⟩)))) fun v60 =>
 SemH PG (mapUpdS T_map_table_id_api_Item v58 v59 v60) h52 fun v61 h62 =>
 (R (Value.int IntKind.i64 0) h62)))
def table_Table_put.ann : Ann := { b := fun i => match i with | 1 => #[0, 1, 3, 7, 0, 31, 63, 127, 127, 0, 767, 2047] | 2 => #[0, 1, 3, 7, 15, 31, 63, 127, 7, 263, 775, 1799, 4095, 8191] | 4 => #[0, 1, 3, 7, 0, 0, 63] | _ => #[], ord := fun i => match i with | 1 => [0, 1, 2, 3, 4, 5, 6, 7, 8, 9, 10, 11] | 2 => [0, 1, 2, 3, 4, 5, 6, 7, 8, 9, 10, 11, 12, 13] | 4 => [0, 1, 2, 3, 4, 5, 6] | _ => [], keep := fun i => match i with  | _ => [], n := 38 }
theorem table_Table_put.eq (t0 : Value) (t1 : Value) (t2 : Value) (h0 : PH) (R : Value → PH → Prop) : codeF PG table_Table_put.ann 200 (bodyOf Try.f92) (endH PG Try.f92 R) (fun t => (#[t0, t1, t2] : Array Value).getD t undef) h0 = table_Table_put t0 t1 t2 h0 R := by kernel_rfl
theorem table_Table_put.call {t0 : Value} {t1 : Value} {t2 : Value} {h0 : PH} {R : Value → PH → Prop} (H : table_Table_put t0 t1 t2 h0 R) : CallsH PG id_table_Table_put #[t0, t1, t2] h0 R :=
  callsF_by table_Table_put.ann 200 mix Try.func92 (by kernel_rfl) (by kernel_rfl) (by kernel_rfl) (by kernel_rfl) (by simp [Try.ntmps92]) (table_Table_put.eq t0 t1 t2 h0 R) H

def table_Table_received_k20 (R : Value → PH → Prop) (t0 : Value) (t4 : Value) (t5 : Value) (h0 : PH) : Prop :=
 popO (SemE PG h0 (Instr.loadAt T_table_id t4)) fun v21 =>
 popO (SemE PG h0 (Instr.loadAt T_api_Packet t5)) fun v22 =>
 popO (SemP PG (Instr.build T_api_Item #[(0, v22), (1, (Value.int IntKind.i64 2))])) fun v23 =>
 CallsH PG id_table_Table_put #[t0, v21, v23] h0 fun v24 h25 =>
 R v24 h25
def table_Table_received (t0 : Value) (t1 : Value) (t2 : Value) (h0 : PH) (R : Value → PH → Prop) : Prop :=
 ∀ r1, h0 r1 = none → bindH (PH.set h0 r1 (.cells (Value.cells t1) T_table_id)) fun h2 =>
 ∀ r3, h2 r3 = none → bindH (PH.set h2 r3 (.cells (Value.cells t2) T_api_Packet)) fun h4 =>
 popO (SemP PG (nilS t0)) fun v5 =>
 popO (SemP PG (Instr.fieldAt T_table_Table v5 0)) fun v6 =>
 popO (SemE PG h4 (Instr.loadAt T_map_table_id_api_Item v6)) fun v7 =>
 popO (SemE PG h4 (Instr.loadAt T_table_id (Value.pointer (some ⟨r1, 0, none⟩)))) fun v8 =>
 popO (SemE PG h4 (Instr.lookup T_map_table_id_api_Item v7 v8 true)) fun v9 =>
 popO (SemP PG (Instr.extract v9 0)) fun v10 =>
 popO (SemP PG (Instr.extract v9 1)) fun v11 =>
 ∀ r12, h4 r12 = none → bindH (PH.set h4 r12 (.cells (zcells PG T_api_Item) T_api_Item)) fun h13 =>
 SemH PG (storeS T_api_Item (Value.pointer (some ⟨r12, 0, none⟩)) v10) h13 fun v14 h15 =>
 (condV v11
 (popO (SemP PG (Instr.fieldAt T_api_Item (Value.pointer (some ⟨r12, 0, none⟩)) 0)) fun v16 =>
 popO (SemE PG h15 (Instr.loadAt T_api_Packet v16)) fun v17 =>
 SemH PG (storeS T_api_Packet (Value.pointer (some ⟨r3, 0, none⟩)) v17) h15 fun v18 h19 =>
 table_Table_received_k20 R t0 (Value.pointer (some ⟨r1, 0, none⟩)) (Value.pointer (some ⟨r3, 0, none⟩)) h19)
 (table_Table_received_k20 R t0 (Value.pointer (some ⟨r1, 0, none⟩)) (Value.pointer (some ⟨r3, 0, none⟩)) h15))
def table_Table_received.ann : Ann := { b := fun i => match i with | 1 => #[0, 1, 3, 7, 0, 31, 63, 127, 127, 0, 767, 2047] | _ => #[], ord := fun i => match i with | 1 => [0, 1, 2, 3, 4, 5, 6, 7, 8, 9, 10, 11] | _ => [], keep := fun i => match i with  | _ => [], n := 26 }
theorem table_Table_received.eq (t0 : Value) (t1 : Value) (t2 : Value) (h0 : PH) (R : Value → PH → Prop) : codeF PG table_Table_received.ann 200 (bodyOf Try.f76) (endH PG Try.f76 R) (fun t => (#[t0, t1, t2] : Array Value).getD t undef) h0 = table_Table_received t0 t1 t2 h0 R := by kernel_rfl
theorem table_Table_received.call {t0 : Value} {t1 : Value} {t2 : Value} {h0 : PH} {R : Value → PH → Prop} (H : table_Table_received t0 t1 t2 h0 R) : CallsH PG id_table_Table_received #[t0, t1, t2] h0 R :=
  callsF_by table_Table_received.ann 200 mix Try.func76 (by kernel_rfl) (by kernel_rfl) (by kernel_rfl) (by kernel_rfl) (by simp [Try.ntmps76]) (table_Table_received.eq t0 t1 t2 h0 R) H

def table_Table_over (t0 : Value) (t1 : Value) (t2 : Value) (h0 : PH) (R : Value → PH → Prop) : Prop :=
 ∀ r1, h0 r1 = none → bindH (PH.set h0 r1 (.cells (Value.cells t1) T_table_id)) fun h2 =>
 ∀ r3, h2 r3 = none → bindH (PH.set h2 r3 (.cells (Value.cells t2) T_api_Packet)) fun h4 =>
 popO (SemP PG (nilS t0)) fun v5 =>
 popO (SemP PG (Instr.fieldAt T_table_Table v5 0)) fun v6 =>
 popO (SemE PG h4 (Instr.loadAt T_map_table_id_api_Item v6)) fun v7 =>
 popO (SemE PG h4 (Instr.loadAt T_table_id (Value.pointer (some ⟨r1, 0, none⟩)))) fun v8 =>
 SemH PG (Builtin.delete_ #[T_map_table_id_api_Item, T_table_id] T_ #[v7, v8]) h4 fun v9 h10 =>
 (R (Value.int IntKind.i64 0) h10)
def table_Table_over.ann : Ann := { b := fun i => match i with | 1 => #[0, 1, 3, 7, 0, 31] | _ => #[], ord := fun i => match i with | 1 => [0, 1, 2, 3, 4, 5] | _ => [], keep := fun i => match i with  | _ => [], n := 12 }
theorem table_Table_over.eq (t0 : Value) (t1 : Value) (t2 : Value) (h0 : PH) (R : Value → PH → Prop) : codeF PG table_Table_over.ann 200 (bodyOf Try.f77) (endH PG Try.f77 R) (fun t => (#[t0, t1, t2] : Array Value).getD t undef) h0 = table_Table_over t0 t1 t2 h0 R := by kernel_rfl
theorem table_Table_over.call {t0 : Value} {t1 : Value} {t2 : Value} {h0 : PH} {R : Value → PH → Prop} (H : table_Table_over t0 t1 t2 h0 R) : CallsH PG id_table_Table_over #[t0, t1, t2] h0 R :=
  callsF_by table_Table_over.ann 200 mix Try.func77 (by kernel_rfl) (by kernel_rfl) (by kernel_rfl) (by kernel_rfl) (by simp [Try.ntmps77]) (table_Table_over.eq t0 t1 t2 h0 R) H

def carracklaw17_few_b44 (R : Value → PH → Prop) (n43 : List Value → PH → Prop) (t1 : Value) (t4 : Value) (h0 : PH) : Prop :=
 popO (SemP PG (Instr.fieldAt T_api_Record t1 1)) fun v45 =>
 popO (SemP PG (Instr.fieldAt T_api_Daemon v45 1)) fun v46 =>
 popO (SemE PG h0 (Instr.loadAt T_sl_api_Item v46)) fun v47 =>
 popO (SemP PG (Builtin.len_ #[T_sl_api_Item] T_int #[v47])) fun v48 =>
 popO (SemP PG (binOp BinOp.lss T_int t4 v48)) fun v49 =>
 condV v49
 (popO (SemP PG (Instr.fieldAt T_api_Record t1 1)) fun v50 =>
 popO (SemP PG (Instr.fieldAt T_api_Daemon v50 1)) fun v51 =>
 popO (SemE PG h0 (Instr.loadAt T_sl_api_Item v51)) fun v52 =>
 popO (SemP PG (Instr.indexAt T_sl_api_Item v52 t4)) fun v53 =>
 popO (SemP PG (Instr.fieldAt T_api_Item v53 0)) fun v54 =>
 popO (SemP PG (Instr.fieldAt T_api_Packet v54 3)) fun v55 =>
 popO (SemE PG h0 (Instr.loadAt T_string v55)) fun v56 =>
 popO (SemP PG (Builtin.len_ #[T_string] T_int #[v56])) fun v57 =>
 popO (SemP PG (binOp BinOp.gtr T_int v57 (Value.int IntKind.i64 300))) fun v58 =>
 condV v58
 (R (Value.bool false) h0)
 (popO (SemP PG (binOp BinOp.add T_int t4 (Value.int IntKind.i64 1))) fun v59 =>
 n43 [t1, v59] h0))
 (R (Value.bool true) h0)
def carracklaw17_few_b29 (R : Value → PH → Prop) (n28 : List Value → PH → Prop) (t1 : Value) (t3 : Value) (h0 : PH) : Prop :=
 popO (SemP PG (Instr.fieldAt T_api_Record t1 4)) fun v30 =>
 popO (SemE PG h0 (Instr.loadAt T_sl_api_Note v30)) fun v31 =>
 popO (SemP PG (Builtin.len_ #[T_sl_api_Note] T_int #[v31])) fun v32 =>
 popO (SemP PG (binOp BinOp.lss T_int t3 v32)) fun v33 =>
 condV v33
 (popO (SemP PG (Instr.fieldAt T_api_Record t1 4)) fun v34 =>
 popO (SemE PG h0 (Instr.loadAt T_sl_api_Note v34)) fun v35 =>
 popO (SemP PG (Instr.indexAt T_sl_api_Note v35 t3)) fun v36 =>
 popO (SemP PG (Instr.fieldAt T_api_Note v36 1)) fun v37 =>
 popO (SemP PG (Instr.fieldAt T_api_Packet v37 3)) fun v38 =>
 popO (SemE PG h0 (Instr.loadAt T_string v38)) fun v39 =>
 popO (SemP PG (Builtin.len_ #[T_string] T_int #[v39])) fun v40 =>
 popO (SemP PG (binOp BinOp.gtr T_int v40 (Value.int IntKind.i64 300))) fun v41 =>
 condV v41
 (R (Value.bool false) h0)
 (popO (SemP PG (binOp BinOp.add T_int t3 (Value.int IntKind.i64 1))) fun v42 =>
 n28 [t1, v42] h0))
 (LoopL [1, 4] (fun n43 ρ h => carracklaw17_few_b44 R n43 (ρ 1) (ρ 4) h) [t1, (Value.int IntKind.i64 0)] h0)
def carracklaw17_few (t0 : Value) (h0 : PH) (R : Value → PH → Prop) : Prop :=
 ∀ r1, h0 r1 = none → bindH (PH.set h0 r1 (.cells (Value.cells t0) T_api_Record)) fun h2 =>
 popO (SemP PG (Instr.fieldAt T_api_Record (Value.pointer (some ⟨r1, 0, none⟩)) 4)) fun v3 =>
 popO (SemE PG h2 (Instr.loadAt T_sl_api_Note v3)) fun v4 =>
 popO (SemP PG (Builtin.len_ #[T_sl_api_Note] T_int #[v4])) fun v5 =>
 popO (SemP PG (binOp BinOp.gtr T_int v5 (Value.int IntKind.i64 300))) fun v6 =>
 gopV (yV v6) false (fun k9 => popO (SemP PG (Instr.fieldAt T_api_Record (Value.pointer (some ⟨r1, 0, none⟩)) 1)) fun v10 => k9 v10 h2) h2 fun v7 h8 =>
 gopV (yV v6) false (fun k13 => popO (SemP PG (Instr.fieldAt T_api_Daemon v7 1)) fun v14 => k13 v14 h8) h8 fun v11 h12 =>
 gopV (yV v6) false (fun k17 => popO (SemE PG h12 (Instr.loadAt T_sl_api_Item v11)) fun v18 => k17 v18 h12) h12 fun v15 h16 =>
 gopV (yV v6) false (fun k21 => popO (SemP PG (Builtin.len_ #[T_sl_api_Item] T_int #[v15])) fun v22 => k21 v22 h16) h16 fun v19 h20 =>
 gopV (yV v6) false (fun k25 => popO (SemP PG (binOp BinOp.gtr T_int v19 (Value.int IntKind.i64 300))) fun v26 => k25 v26 h20) h20 fun v23 h24 =>
 popO (pickV v6 (Value.bool true) v23) fun v27 =>
 condV v27
 (R (Value.bool false) h24)
 (LoopL [1, 3] (fun n28 ρ h => carracklaw17_few_b29 R n28 (ρ 1) (ρ 3) h) [(Value.pointer (some ⟨r1, 0, none⟩)), (Value.int IntKind.i64 0)] h24)
def carracklaw17_few.ann : Ann := { b := fun i => match i with  | _ => #[], ord := fun i => match i with  | _ => [], keep := fun i => match i with | 4 => [1, 3] | 9 => [1, 4] | _ => [], n := 50 }
theorem carracklaw17_few.eq (t0 : Value) (h0 : PH) (R : Value → PH → Prop) : codeF PG carracklaw17_few.ann 200 (bodyOf Try.f7) (endH PG Try.f7 R) (fun t => (#[t0] : Array Value).getD t undef) h0 = carracklaw17_few t0 h0 R := by kernel_rfl
theorem carracklaw17_few.call {t0 : Value} {h0 : PH} {R : Value → PH → Prop} (H : carracklaw17_few t0 h0 R) : CallsH PG id_carracklaw17_few #[t0] h0 R :=
  callsF_by carracklaw17_few.ann 200 mix Try.func7 (by kernel_rfl) (by kernel_rfl) (by kernel_rfl) (by kernel_rfl) (by simp [Try.ntmps7]) (carracklaw17_few.eq t0 h0 R) H

def carrackref17_SameState (t0 : Value) (t1 : Value) (h0 : PH) (R : Value → PH → Prop) : Prop :=
 ∀ r1, h0 r1 = none → bindH (PH.set h0 r1 (.cells (Value.cells t0) T_api_Daemon)) fun h2 =>
 ∀ r3, h2 r3 = none → bindH (PH.set h2 r3 (.cells (Value.cells t1) T_api_Daemon)) fun h4 =>
 popO (SemP PG (Instr.fieldAt T_api_Daemon (Value.pointer (some ⟨r1, 0, none⟩)) 0)) fun v5 =>
 popO (SemE PG h4 (Instr.loadAt T_2_api_Place v5)) fun v6 =>
 popO (SemP PG (Instr.fieldAt T_api_Daemon (Value.pointer (some ⟨r3, 0, none⟩)) 0)) fun v7 =>
 popO (SemE PG h4 (Instr.loadAt T_2_api_Place v7)) fun v8 =>
 popO (SemE PG h4 (binS BinOp.eql T_2_api_Place (.tmp 6) (.tmp 8) v6 v8)) fun v9 =>
 gopV (yV v9) true (fun k12 => popO (SemP PG (Instr.fieldAt T_api_Daemon (Value.pointer (some ⟨r1, 0, none⟩)) 1)) fun v13 => k12 v13 h4) h4 fun v10 h11 =>
 gopV (yV v9) true (fun k16 => popO (SemE PG h11 (Instr.loadAt T_sl_api_Item v10)) fun v17 => k16 v17 h11) h11 fun v14 h15 =>
 gopV (yV v9) true (fun k20 => popO (SemP PG (Instr.fieldAt T_api_Daemon (Value.pointer (some ⟨r3, 0, none⟩)) 1)) fun v21 => k20 v21 h15) h15 fun v18 h19 =>
 gopV (yV v9) true (fun k24 => popO (SemE PG h19 (Instr.loadAt T_sl_api_Item v18)) fun v25 => k24 v25 h19) h19 fun v22 h23 =>
 gopV (yV v9) true (fun k28 => CallsH PG id_carrackref14_SameItems #[v14, v22] h23 fun v29 h30 => k28 v29 h30) h23 fun v26 h27 =>
 popO (pickV v9 v26 (Value.bool false)) fun v31 =>
 R v31 h27
def carrackref17_SameState.ann : Ann := { b := fun i => match i with  | _ => #[], ord := fun i => match i with  | _ => [], keep := fun i => match i with  | _ => [], n := 17 }
theorem carrackref17_SameState.eq (t0 : Value) (t1 : Value) (h0 : PH) (R : Value → PH → Prop) : codeF PG carrackref17_SameState.ann 200 (bodyOf Try.f12) (endH PG Try.f12 R) (fun t => (#[t0, t1] : Array Value).getD t undef) h0 = carrackref17_SameState t0 t1 h0 R := by kernel_rfl
theorem carrackref17_SameState.call {t0 : Value} {t1 : Value} {h0 : PH} {R : Value → PH → Prop} (H : carrackref17_SameState t0 t1 h0 R) : CallsH PG id_carrackref17_SameState #[t0, t1] h0 R :=
  callsF_by carrackref17_SameState.ann 200 mix Try.func12 (by kernel_rfl) (by kernel_rfl) (by kernel_rfl) (by kernel_rfl) (by simp [Try.ntmps12]) (carrackref17_SameState.eq t0 t1 h0 R) H

def carrackref14_SameItems_b5 (R : Value → PH → Prop) (n4 : List Value → PH → Prop) (t0 : Value) (t1 : Value) (t5 : Value) (h0 : PH) : Prop :=
 popO (SemP PG (Builtin.len_ #[T_sl_api_Item] T_int #[t0])) fun v6 =>
 popO (SemP PG (binOp BinOp.lss T_int t5 v6)) fun v7 =>
 condV v7
 (popO (SemP PG (Instr.indexAt T_sl_api_Item t0 t5)) fun v8 =>
 popO (SemE PG h0 (Instr.loadAt T_api_Item v8)) fun v9 =>
 popO (SemP PG (Instr.indexAt T_sl_api_Item t1 t5)) fun v10 =>
 popO (SemE PG h0 (Instr.loadAt T_api_Item v10)) fun v11 =>
 popO (SemE PG h0 (binS BinOp.neq T_api_Item (.tmp 20) (.tmp 24) v9 v11)) fun v12 =>
 condV v12
 (R (Value.bool false) h0)
 (popO (SemP PG (binOp BinOp.add T_int t5 (Value.int IntKind.i64 1))) fun v13 =>
 n4 [t0, t1, v13] h0))
 (R (Value.bool true) h0)
def carrackref14_SameItems (t0 : Value) (t1 : Value) (h0 : PH) (R : Value → PH → Prop) : Prop :=
 popO (SemP PG (Builtin.len_ #[T_sl_api_Item] T_int #[t0])) fun v1 =>
 popO (SemP PG (Builtin.len_ #[T_sl_api_Item] T_int #[t1])) fun v2 =>
 popO (SemE PG h0 (binS BinOp.neq T_int (.tmp 7) (.tmp 9) v1 v2)) fun v3 =>
 condV v3
 (R (Value.bool false) h0)
 (LoopL [0, 1, 5] (fun n4 ρ h => carrackref14_SameItems_b5 R n4 (ρ 0) (ρ 1) (ρ 5) h) [t0, t1, (Value.int IntKind.i64 0)] h0)
def carrackref14_SameItems.ann : Ann := { b := fun i => match i with | 6 => #[0, 0, 3, 7, 0, 0, 48, 112, 255] | _ => #[], ord := fun i => match i with | 6 => [0, 1, 2, 3, 4, 5, 6, 7, 8] | _ => [], keep := fun i => match i with | 4 => [0, 1, 5] | _ => [], n := 26 }
theorem carrackref14_SameItems.eq (t0 : Value) (t1 : Value) (h0 : PH) (R : Value → PH → Prop) : codeF PG carrackref14_SameItems.ann 200 (bodyOf Try.f30) (endH PG Try.f30 R) (fun t => (#[t0, t1] : Array Value).getD t undef) h0 = carrackref14_SameItems t0 t1 h0 R := by kernel_rfl
theorem carrackref14_SameItems.call {t0 : Value} {t1 : Value} {h0 : PH} {R : Value → PH → Prop} (H : carrackref14_SameItems t0 t1 h0 R) : CallsH PG id_carrackref14_SameItems #[t0, t1] h0 R :=
  callsF_by carrackref14_SameItems.ann 200 mix Try.func30 (by kernel_rfl) (by kernel_rfl) (by kernel_rfl) (by kernel_rfl) (by simp [Try.ntmps30]) (carrackref14_SameItems.eq t0 t1 h0 R) H

def carracklaw17_RecordPlaces (t0 : Value) (t1 : Value) (t2 : Value) (h0 : PH) (R : Value → PH → Prop) : Prop :=
 ∀ r1, h0 r1 = none → bindH (PH.set h0 r1 (.cells (Value.cells t0) T_api_Daemon)) fun h2 =>
 ∀ r3, h2 r3 = none → bindH (PH.set h2 r3 (.cells (Value.cells t2) T_api_Record)) fun h4 =>
 CallsH PG id_carracklaw17_awake #[] h4 fun v5 h6 =>
 popO (SemP PG (Op.unary UnOp.not v5)) fun v7 =>
 condV v7
 (R (Value.bool false) h6)
 (popO (SemE PG h6 (Instr.loadAt T_api_Record (Value.pointer (some ⟨r3, 0, none⟩)))) fun v8 =>
 CallsH PG id_carracklaw17_few #[v8] h6 fun v9 h10 =>
 popO (SemP PG (Op.unary UnOp.not v9)) fun v11 =>
 gopV (yV v11) false (fun k14 => popO (SemE PG h10 (Instr.loadAt T_api_Daemon (Value.pointer (some ⟨r1, 0, none⟩)))) fun v15 => k14 v15 h10) h10 fun v12 h13 =>
 gopV (yV v11) false (fun k18 => popO (SemP PG (Instr.build T_api_Record #[(1, v12)])) fun v19 => k18 v19 h13) h13 fun v16 h17 =>
 gopV (yV v11) false (fun k22 => CallsH PG id_carracklaw17_few #[v16] h17 fun v23 h24 => k22 v23 h24) h17 fun v20 h21 =>
 gopV (yV v11) false (fun k27 => popO (SemP PG (Op.unary UnOp.not v20)) fun v28 => k27 v28 h21) h21 fun v25 h26 =>
 popO (pickV v11 (Value.bool true) v25) fun v29 =>
 gopV (yV v29) false (fun k32 => popO (SemE PG h26 (Instr.loadAt T_api_Daemon (Value.pointer (some ⟨r1, 0, none⟩)))) fun v33 => k32 v33 h26) h26 fun v30 h31 =>
 gopV (yV v29) false (fun k36 => k36 t1 h31) h31 fun v34 h35 =>
 gopV (yV v29) false (fun k39 => CallsH PG id_record_Check #[v30, v34] h35 fun v40 h41 => k39 v40 h41) h35 fun v37 h38 =>
 gopV (yV v29) false (fun k44 => popO (SemE PG h38 (binS BinOp.neq T_api_Errno (.tmp 23) (.const (Value.int IntKind.i64 0)) v37 (Value.int IntKind.i64 0))) fun v45 => k44 v45 h38) h38 fun v42 h43 =>
 popO (pickV v29 (Value.bool true) v42) fun v46 =>
 condV v46
 (R (Value.bool true) h43)
 (popO (SemE PG h43 (Instr.loadAt T_api_Daemon (Value.pointer (some ⟨r1, 0, none⟩)))) fun v47 =>
 popO (SemE PG h43 (Instr.loadAt T_api_Record (Value.pointer (some ⟨r3, 0, none⟩)))) fun v48 =>
 CallsH PG id_record_Step #[v47, t1, v48] h43 fun v49 h50 =>
 popO (SemP PG (Instr.extract v49 0)) fun v51 =>
 popO (SemP PG (Instr.extract v49 1)) fun v52 =>
 ∀ r53, h50 r53 = none → bindH (PH.set h50 r53 (.cells (zcells PG T_api_Daemon) T_api_Daemon)) fun h54 =>
 SemH PG (storeS T_api_Daemon (Value.pointer (some ⟨r53, 0, none⟩)) v51) h54 fun v55 h56 =>
 popO (SemE PG h56 (binS BinOp.neq T_api_Errno (.tmp 33) (.const (Value.int IntKind.i64 0)) v52 (Value.int IntKind.i64 0))) fun v57 =>
 condV v57
 (popO (SemE PG h56 (Instr.loadAt T_api_Daemon (Value.pointer (some ⟨r53, 0, none⟩)))) fun v58 =>
 popO (SemP PG (Instr.build T_api_Daemon #[])) fun v59 =>
 CallsH PG id_carrackref17_SameState #[v58, v59] h56 fun v60 h61 =>
 R v60 h61)
 (popO (SemE PG h56 (Instr.loadAt T_api_Daemon (Value.pointer (some ⟨r53, 0, none⟩)))) fun v62 =>
 CallsH PG id_record_Check #[v62, t1] h56 fun v63 h64 =>
 popO (SemE PG h64 (binS BinOp.neq T_api_Errno (.tmp 40) (.const (Value.int IntKind.i64 0)) v63 (Value.int IntKind.i64 0))) fun v65 =>
 condV v65
 (R (Value.bool false) h64)
 (popO (SemP PG (Instr.fieldAt T_api_Record (Value.pointer (some ⟨r3, 0, none⟩)) 0)) fun v66 =>
 popO (SemE PG h64 (Instr.loadAt T_int v66)) fun v67 =>
 popO (SemE PG h64 (binS BinOp.eql T_int (.tmp 43) (.const (Value.int IntKind.i64 1)) v67 (Value.int IntKind.i64 1))) fun v68 =>
 condV v68
 (popO (SemE PG h64 (Instr.loadAt T_api_Daemon (Value.pointer (some ⟨r53, 0, none⟩)))) fun v69 =>
 popO (SemP PG (Instr.fieldAt T_api_Record (Value.pointer (some ⟨r3, 0, none⟩)) 1)) fun v70 =>
 popO (SemE PG h64 (Instr.loadAt T_api_Daemon v70)) fun v71 =>
 CallsH PG id_carrackref17_SameState #[v69, v71] h64 fun v72 h73 =>
 R v72 h73)
 (popO (SemP PG (Instr.fieldAt T_api_Record (Value.pointer (some ⟨r3, 0, none⟩)) 2)) fun v74 =>
 popO (SemE PG h64 (Instr.loadAt T_int v74)) fun v75 =>
 popO (SemP PG (Instr.fieldAt T_api_Daemon (Value.pointer (some ⟨r53, 0, none⟩)) 0)) fun v76 =>
 popO (SemP PG (Instr.indexAt T_2_api_Place v76 v75)) fun v77 =>
 popO (SemE PG h64 (Instr.loadAt T_api_Place v77)) fun v78 =>
 popO (SemP PG (Instr.fieldAt T_api_Record (Value.pointer (some ⟨r3, 0, none⟩)) 3)) fun v79 =>
 popO (SemE PG h64 (Instr.loadAt T_api_Place v79)) fun v80 =>
 popO (SemE PG h64 (binS BinOp.neq T_api_Place (.tmp 53) (.tmp 55) v78 v80)) fun v81 =>
 gopV (yV v81) false (fun k84 => popO (SemP PG (Instr.fieldAt T_api_Record (Value.pointer (some ⟨r3, 0, none⟩)) 2)) fun v85 => k84 v85 h64) h64 fun v82 h83 =>
 gopV (yV v81) false (fun k88 => popO (SemE PG h83 (Instr.loadAt T_int v82)) fun v89 => k88 v89 h83) h83 fun v86 h87 =>
 gopV (yV v81) false (fun k92 => popO (SemP PG (binOp BinOp.sub T_int (Value.int IntKind.i64 1) v86)) fun v93 => k92 v93 h87) h87 fun v90 h91 =>
 gopV (yV v81) false (fun k96 => popO (SemP PG (Instr.fieldAt T_api_Daemon (Value.pointer (some ⟨r53, 0, none⟩)) 0)) fun v97 => k96 v97 h91) h91 fun v94 h95 =>
 gopV (yV v81) false (fun k100 => popO (SemP PG (Instr.indexAt T_2_api_Place v94 v90)) fun v101 => k100 v101 h95) h95 fun v98 h99 =>
 gopV (yV v81) false (fun k104 => popO (SemE PG h99 (Instr.loadAt T_api_Place v98)) fun v105 => k104 v105 h99) h99 fun v102 h103 =>
 gopV (yV v81) false (fun k108 => popO (SemP PG (Instr.fieldAt T_api_Record (Value.pointer (some ⟨r3, 0, none⟩)) 2)) fun v109 => k108 v109 h103) h103 fun v106 h107 =>
 gopV (yV v81) false (fun k112 => popO (SemE PG h107 (Instr.loadAt T_int v106)) fun v113 => k112 v113 h107) h107 fun v110 h111 =>
 gopV (yV v81) false (fun k116 => popO (SemP PG (binOp BinOp.sub T_int (Value.int IntKind.i64 1) v110)) fun v117 => k116 v117 h111) h111 fun v114 h115 =>
 gopV (yV v81) false (fun k120 => popO (SemP PG (Instr.fieldAt T_api_Daemon (Value.pointer (some ⟨r1, 0, none⟩)) 0)) fun v121 => k120 v121 h115) h115 fun v118 h119 =>
 gopV (yV v81) false (fun k124 => popO (SemP PG (Instr.indexAt T_2_api_Place v118 v114)) fun v125 => k124 v125 h119) h119 fun v122 h123 =>
 gopV (yV v81) false (fun k128 => popO (SemE PG h123 (Instr.loadAt T_api_Place v122)) fun v129 => k128 v129 h123) h123 fun v126 h127 =>
 gopV (yV v81) false (fun k132 => popO (SemE PG h127 (binS BinOp.neq T_api_Place (.tmp 63) (.tmp 69) v102 v126)) fun v133 => k132 v133 h127) h127 fun v130 h131 =>
 popO (pickV v81 (Value.bool true) v130) fun v134 =>
 condV v134
 (R (Value.bool false) h131)
 (popO (SemP PG (Instr.fieldAt T_api_Record (Value.pointer (some ⟨r3, 0, none⟩)) 4)) fun v135 =>
 popO (SemE PG h131 (Instr.loadAt T_sl_api_Note v135)) fun v136 =>
 popO (SemP PG (Builtin.len_ #[T_sl_api_Note] T_int #[v136])) fun v137 =>
 popO (SemP PG (binOp BinOp.gtr T_int v137 (Value.int IntKind.i64 0))) fun v138 =>
 gopV (yV v138) false (fun k141 => popO (SemE PG h131 (Instr.loadAt T_api_Daemon (Value.pointer (some ⟨r53, 0, none⟩)))) fun v142 => k141 v142 h131) h131 fun v139 h140 =>
 gopV (yV v138) false (fun k145 => popO (SemP PG (Instr.fieldAt T_api_Daemon (Value.pointer (some ⟨r53, 0, none⟩)) 0)) fun v146 => k145 v146 h140) h140 fun v143 h144 =>
 gopV (yV v138) false (fun k149 => popO (SemE PG h144 (Instr.loadAt T_2_api_Place v143)) fun v150 => k149 v150 h144) h144 fun v147 h148 =>
 gopV (yV v138) false (fun k153 => popO (SemP PG (Instr.fieldAt T_api_Daemon (Value.pointer (some ⟨r1, 0, none⟩)) 1)) fun v154 => k153 v154 h148) h148 fun v151 h152 =>
 gopV (yV v138) false (fun k157 => popO (SemE PG h152 (Instr.loadAt T_sl_api_Item v151)) fun v158 => k157 v158 h152) h152 fun v155 h156 =>
 gopV (yV v138) false (fun k161 => popO (SemP PG (Instr.build T_api_Daemon #[(0, v147), (1, v155)])) fun v162 => k161 v162 h156) h156 fun v159 h160 =>
 gopV (yV v138) false (fun k165 => CallsH PG id_carrackref17_SameState #[v139, v159] h160 fun v166 h167 => k165 v166 h167) h160 fun v163 h164 =>
 popO (pickV v138 (Value.bool true) v163) fun v168 =>
 R v168 h164))))))
def carracklaw17_RecordPlaces.ann : Ann := { b := fun i => match i with | 12 => #[0, 1, 0, 7, 15, 0, 32, 127, 255, 511, 1023, 2047, 511, 8191, 16383, 511, 33279, 98815, 511, 492031, 1016319, 2097151, 4194303] | _ => #[], ord := fun i => match i with | 12 => [0, 1, 2, 3, 4, 5, 6, 7, 8, 9, 10, 11, 12, 13, 14, 15, 16, 17, 18, 19, 20, 21, 22] | _ => [], keep := fun i => match i with  | _ => [], n := 85 }
theorem carracklaw17_RecordPlaces.eq (t0 : Value) (t1 : Value) (t2 : Value) (h0 : PH) (R : Value → PH → Prop) : codeF PG carracklaw17_RecordPlaces.ann 200 (bodyOf Try.f4) (endH PG Try.f4 R) (fun t => (#[t0, t1, t2] : Array Value).getD t undef) h0 = carracklaw17_RecordPlaces t0 t1 t2 h0 R := by kernel_rfl
theorem carracklaw17_RecordPlaces.call {t0 : Value} {t1 : Value} {t2 : Value} {h0 : PH} {R : Value → PH → Prop} (H : carracklaw17_RecordPlaces t0 t1 t2 h0 R) : CallsH PG id_carracklaw17_RecordPlaces #[t0, t1, t2] h0 R :=
  callsF_by carracklaw17_RecordPlaces.ann 200 mix Try.func4 (by kernel_rfl) (by kernel_rfl) (by kernel_rfl) (by kernel_rfl) (by simp [Try.ntmps4]) (carracklaw17_RecordPlaces.eq t0 t1 t2 h0 R) H

def carracklaw17_RecordCuts_k46 (R : Value → PH → Prop) (t1 : Value) (t2 : Value) (t3 : Value) (t7 : Value) (h0 : PH) : Prop :=
 popO (SemP PG (Instr.sliceAt T_string t7 none (some t1) none)) fun v47 =>
 CallsH PG id_record_Parse #[v47] h0 fun v48 h49 =>
 popO (SemP PG (Instr.extract v48 0)) fun v50 =>
 popO (SemP PG (Instr.extract v48 1)) fun v51 =>
 ∀ r52, h49 r52 = none → bindH (PH.set h49 r52 (.cells (zcells PG T_api_Record) T_api_Record)) fun h53 =>
 SemH PG (storeS T_api_Record (Value.pointer (some ⟨r52, 0, none⟩)) v50) h53 fun v54 h55 =>
 popO (SemP PG (Builtin.len_ #[T_string] T_int #[t7])) fun v56 =>
 popO (SemP PG (binOp BinOp.lss T_int t1 v56)) fun v57 =>
 condV v57
 (popO (SemE PG h55 (binS BinOp.eql T_api_Errno (.tmp 53) (.const (Value.int IntKind.i64 6)) v51 (Value.int IntKind.i64 6))) fun v58 =>
 gopV (yV v58) true (fun k61 => popO (SemE PG h55 (Instr.loadAt T_api_Record (Value.pointer (some ⟨r52, 0, none⟩)))) fun v62 => k61 v62 h55) h55 fun v59 h60 =>
 gopV (yV v58) true (fun k65 => popO (SemP PG (Instr.build T_api_Record #[])) fun v66 => k65 v66 h60) h60 fun v63 h64 =>
 gopV (yV v58) true (fun k69 => CallsH PG id_carracklaw17_same #[v59, v63] h64 fun v70 h71 => k69 v70 h71) h64 fun v67 h68 =>
 popO (pickV v58 v67 (Value.bool false)) fun v72 =>
 R v72 h68)
 (popO (SemP PG (binOp BinOp.add T_string t7 t2)) fun v73 =>
 CallsH PG id_record_Parse #[v73] h55 fun v74 h75 =>
 popO (SemP PG (Instr.extract v74 0)) fun v76 =>
 popO (SemP PG (Instr.extract v74 1)) fun v77 =>
 ∀ r78, h75 r78 = none → bindH (PH.set h75 r78 (.cells (zcells PG T_api_Record) T_api_Record)) fun h79 =>
 SemH PG (storeS T_api_Record (Value.pointer (some ⟨r78, 0, none⟩)) v76) h79 fun v80 h81 =>
 popO (SemE PG h81 (binS BinOp.eql T_api_Errno (.tmp 67) (.const (Value.int IntKind.i64 0)) v51 (Value.int IntKind.i64 0))) fun v82 =>
 gopV (yV v82) true (fun k85 => popO (SemE PG h81 (Instr.loadAt T_api_Record (Value.pointer (some ⟨r52, 0, none⟩)))) fun v86 => k85 v86 h81) h81 fun v83 h84 =>
 gopV (yV v82) true (fun k89 => popO (SemE PG h84 (Instr.loadAt T_api_Record t3)) fun v90 => k89 v90 h84) h84 fun v87 h88 =>
 gopV (yV v82) true (fun k93 => CallsH PG id_carracklaw17_same #[v83, v87] h88 fun v94 h95 => k93 v94 h95) h88 fun v91 h92 =>
 popO (pickV v82 v91 (Value.bool false)) fun v96 =>
 gopV (yV v96) true (fun k99 => k99 t2 h92) h92 fun v97 h98 =>
 gopV (yV v96) true (fun k102 => popO (SemE PG h98 (binS BinOp.eql T_string (.tmp 75) (.const (Value.string { data := #[] })) v97 (Value.string { data := #[] }))) fun v103 => k102 v103 h98) h98 fun v100 h101 =>
 gopV (yV v96) true (fun k106 => k106 v100 h101) h101 fun v104 h105 =>
 gopV (yV v104) true (fun k109 => k109 v77 h105) h105 fun v107 h108 =>
 gopV (yV v104) true (fun k112 => popO (SemE PG h108 (binS BinOp.eql T_api_Errno (.tmp 78) (.const (Value.int IntKind.i64 0)) v107 (Value.int IntKind.i64 0))) fun v113 => k112 v113 h108) h108 fun v110 h111 =>
 gopV (yV v96) true (fun k116 => popO (pickV v104 v110 (Value.bool false)) fun v117 => k116 v117 h111) h111 fun v114 h115 =>
 gopV (yV v96) true (fun k120 => k120 v114 h115) h115 fun v118 h119 =>
 gopV (yV v118) true (fun k123 => popO (SemE PG h119 (Instr.loadAt T_api_Record (Value.pointer (some ⟨r78, 0, none⟩)))) fun v124 => k123 v124 h119) h119 fun v121 h122 =>
 gopV (yV v118) true (fun k127 => popO (SemE PG h122 (Instr.loadAt T_api_Record t3)) fun v128 => k127 v128 h122) h122 fun v125 h126 =>
 gopV (yV v118) true (fun k131 => CallsH PG id_carracklaw17_same #[v121, v125] h126 fun v132 h133 => k131 v132 h133) h126 fun v129 h130 =>
 gopV (yV v96) true (fun k136 => popO (pickV v118 v129 (Value.bool false)) fun v137 => k136 v137 h130) h130 fun v134 h135 =>
 gopV (yV v96) true (fun k140 => k140 v134 h135) h135 fun v138 h139 =>
 gopV (yV v138) false (fun k143 => k143 t2 h139) h139 fun v141 h142 =>
 gopV (yV v138) false (fun k146 => popO (SemE PG h142 (binS BinOp.neq T_string (.tmp 87) (.const (Value.string { data := #[] })) v141 (Value.string { data := #[] }))) fun v147 => k146 v147 h142) h142 fun v144 h145 =>
 gopV (yV v138) false (fun k150 => k150 v144 h145) h145 fun v148 h149 =>
 gopV (yV v148) true (fun k153 => k153 v77 h149) h149 fun v151 h152 =>
 gopV (yV v148) true (fun k156 => popO (SemE PG h152 (binS BinOp.eql T_api_Errno (.tmp 90) (.const (Value.int IntKind.i64 7)) v151 (Value.int IntKind.i64 7))) fun v157 => k156 v157 h152) h152 fun v154 h155 =>
 gopV (yV v138) false (fun k160 => popO (pickV v148 v154 (Value.bool false)) fun v161 => k160 v161 h155) h155 fun v158 h159 =>
 gopV (yV v138) false (fun k164 => k164 v158 h159) h159 fun v162 h163 =>
 gopV (yV v162) true (fun k167 => popO (SemE PG h163 (Instr.loadAt T_api_Record (Value.pointer (some ⟨r78, 0, none⟩)))) fun v168 => k167 v168 h163) h163 fun v165 h166 =>
 gopV (yV v162) true (fun k171 => popO (SemP PG (Instr.build T_api_Record #[])) fun v172 => k171 v172 h166) h166 fun v169 h170 =>
 gopV (yV v162) true (fun k175 => CallsH PG id_carracklaw17_same #[v165, v169] h170 fun v176 h177 => k175 v176 h177) h170 fun v173 h174 =>
 gopV (yV v138) false (fun k180 => popO (pickV v162 v173 (Value.bool false)) fun v181 => k180 v181 h174) h174 fun v178 h179 =>
 gopV (yV v96) true (fun k184 => popO (pickV v138 (Value.bool true) v178) fun v185 => k184 v185 h179) h179 fun v182 h183 =>
 popO (pickV v96 v182 (Value.bool false)) fun v186 =>
 R v186 h183)
def carracklaw17_RecordCuts (t0 : Value) (t1 : Value) (t2 : Value) (h0 : PH) (R : Value → PH → Prop) : Prop :=
 ∀ r1, h0 r1 = none → bindH (PH.set h0 r1 (.cells (Value.cells t0) T_api_Record)) fun h2 =>
 CallsH PG id_carracklaw17_awake #[] h2 fun v3 h4 =>
 popO (SemP PG (Op.unary UnOp.not v3)) fun v5 =>
 condV v5
 (R (Value.bool false) h4)
 (popO (SemE PG h4 (Instr.loadAt T_api_Record (Value.pointer (some ⟨r1, 0, none⟩)))) fun v6 =>
 CallsH PG id_carracklaw17_few #[v6] h4 fun v7 h8 =>
 popO (SemP PG (Op.unary UnOp.not v7)) fun v9 =>
 gopV (yV v9) false (fun k12 => k12 t2 h8) h8 fun v10 h11 =>
 gopV (yV v9) false (fun k15 => popO (SemP PG (Builtin.len_ #[T_string] T_int #[v10])) fun v16 => k15 v16 h11) h11 fun v13 h14 =>
 gopV (yV v9) false (fun k19 => popO (SemP PG (binOp BinOp.gtr T_int v13 (Value.int IntKind.i64 300))) fun v20 => k19 v20 h14) h14 fun v17 h18 =>
 popO (pickV v9 (Value.bool true) v17) fun v21 =>
 condV v21
 (R (Value.bool true) h18)
 (popO (SemE PG h18 (Instr.loadAt T_api_Record (Value.pointer (some ⟨r1, 0, none⟩)))) fun v22 =>
 CallsH PG id_record_Bytes #[v22] h18 fun v23 h24 =>
 popO (SemP PG (Instr.extract v23 0)) fun v25 =>
 popO (SemP PG (Instr.extract v23 1)) fun v26 =>
 popO (SemE PG h24 (binS BinOp.neq T_api_Errno (.tmp 28) (.const (Value.int IntKind.i64 0)) v26 (Value.int IntKind.i64 0))) fun v27 =>
 condV v27
 (popO (SemE PG h24 (binS BinOp.eql T_string (.tmp 30) (.const (Value.string { data := #[] })) v25 (Value.string { data := #[] }))) fun v28 =>
 R v28 h24)
 (popO (SemP PG (binOp BinOp.lss T_int t1 (Value.int IntKind.i64 0))) fun v29 =>
 gopV (yV v29) false (fun k32 => k32 t1 h24) h24 fun v30 h31 =>
 gopV (yV v29) false (fun k35 => k35 v25 h31) h31 fun v33 h34 =>
 gopV (yV v29) false (fun k38 => popO (SemP PG (Builtin.len_ #[T_string] T_int #[v33])) fun v39 => k38 v39 h34) h34 fun v36 h37 =>
 gopV (yV v29) false (fun k42 => popO (SemP PG (binOp BinOp.gtr T_int v30 v36)) fun v43 => k42 v43 h37) h37 fun v40 h41 =>
 popO (pickV v29 (Value.bool true) v40) fun v44 =>
 condV v44
 (popO (SemP PG (Builtin.len_ #[T_string] T_int #[v25])) fun v45 =>
 carracklaw17_RecordCuts_k46 R v45 t2 (Value.pointer (some ⟨r1, 0, none⟩)) v25 h41)
 (carracklaw17_RecordCuts_k46 R t1 t2 (Value.pointer (some ⟨r1, 0, none⟩)) v25 h41))))
def carracklaw17_RecordCuts.ann : Ann := { b := fun i => match i with  | _ => #[], ord := fun i => match i with  | _ => [], keep := fun i => match i with  | _ => [], n := 100 }
theorem carracklaw17_RecordCuts.eq (t0 : Value) (t1 : Value) (t2 : Value) (h0 : PH) (R : Value → PH → Prop) : codeF PG carracklaw17_RecordCuts.ann 200 (bodyOf Try.f5) (endH PG Try.f5 R) (fun t => (#[t0, t1, t2] : Array Value).getD t undef) h0 = carracklaw17_RecordCuts t0 t1 t2 h0 R := by kernel_rfl
theorem carracklaw17_RecordCuts.call {t0 : Value} {t1 : Value} {t2 : Value} {h0 : PH} {R : Value → PH → Prop} (H : carracklaw17_RecordCuts t0 t1 t2 h0 R) : CallsH PG id_carracklaw17_RecordCuts #[t0, t1, t2] h0 R :=
  callsF_by carracklaw17_RecordCuts.ann 200 mix Try.func5 (by kernel_rfl) (by kernel_rfl) (by kernel_rfl) (by kernel_rfl) (by simp [Try.ntmps5]) (carracklaw17_RecordCuts.eq t0 t1 t2 h0 R) H

def carracklaw17_same (t0 : Value) (t1 : Value) (h0 : PH) (R : Value → PH → Prop) : Prop :=
 ∀ r1, h0 r1 = none → bindH (PH.set h0 r1 (.cells (Value.cells t0) T_api_Record)) fun h2 =>
 ∀ r3, h2 r3 = none → bindH (PH.set h2 r3 (.cells (Value.cells t1) T_api_Record)) fun h4 =>
 popO (SemP PG (Instr.fieldAt T_api_Record (Value.pointer (some ⟨r1, 0, none⟩)) 0)) fun v5 =>
 popO (SemE PG h4 (Instr.loadAt T_int v5)) fun v6 =>
 popO (SemP PG (Instr.fieldAt T_api_Record (Value.pointer (some ⟨r3, 0, none⟩)) 0)) fun v7 =>
 popO (SemE PG h4 (Instr.loadAt T_int v7)) fun v8 =>
 popO (SemE PG h4 (binS BinOp.eql T_int (.tmp 6) (.tmp 8) v6 v8)) fun v9 =>
 gopV (yV v9) true (fun k12 => popO (SemP PG (Instr.fieldAt T_api_Record (Value.pointer (some ⟨r1, 0, none⟩)) 2)) fun v13 => k12 v13 h4) h4 fun v10 h11 =>
 gopV (yV v9) true (fun k16 => popO (SemE PG h11 (Instr.loadAt T_int v10)) fun v17 => k16 v17 h11) h11 fun v14 h15 =>
 gopV (yV v9) true (fun k20 => popO (SemP PG (Instr.fieldAt T_api_Record (Value.pointer (some ⟨r3, 0, none⟩)) 2)) fun v21 => k20 v21 h15) h15 fun v18 h19 =>
 gopV (yV v9) true (fun k24 => popO (SemE PG h19 (Instr.loadAt T_int v18)) fun v25 => k24 v25 h19) h19 fun v22 h23 =>
 gopV (yV v9) true (fun k28 => popO (SemE PG h23 (binS BinOp.eql T_int (.tmp 12) (.tmp 14) v14 v22)) fun v29 => k28 v29 h23) h23 fun v26 h27 =>
 popO (pickV v9 v26 (Value.bool false)) fun v30 =>
 gopV (yV v30) true (fun k33 => popO (SemP PG (Instr.fieldAt T_api_Record (Value.pointer (some ⟨r1, 0, none⟩)) 3)) fun v34 => k33 v34 h27) h27 fun v31 h32 =>
 gopV (yV v30) true (fun k37 => popO (SemE PG h32 (Instr.loadAt T_api_Place v31)) fun v38 => k37 v38 h32) h32 fun v35 h36 =>
 gopV (yV v30) true (fun k41 => popO (SemP PG (Instr.fieldAt T_api_Record (Value.pointer (some ⟨r3, 0, none⟩)) 3)) fun v42 => k41 v42 h36) h36 fun v39 h40 =>
 gopV (yV v30) true (fun k45 => popO (SemE PG h40 (Instr.loadAt T_api_Place v39)) fun v46 => k45 v46 h40) h40 fun v43 h44 =>
 gopV (yV v30) true (fun k49 => popO (SemE PG h44 (binS BinOp.eql T_api_Place (.tmp 19) (.tmp 21) v35 v43)) fun v50 => k49 v50 h44) h44 fun v47 h48 =>
 popO (pickV v30 v47 (Value.bool false)) fun v51 =>
 gopV (yV v51) true (fun k54 => popO (SemP PG (Instr.fieldAt T_api_Record (Value.pointer (some ⟨r1, 0, none⟩)) 1)) fun v55 => k54 v55 h48) h48 fun v52 h53 =>
 gopV (yV v51) true (fun k58 => popO (SemE PG h53 (Instr.loadAt T_api_Daemon v52)) fun v59 => k58 v59 h53) h53 fun v56 h57 =>
 gopV (yV v51) true (fun k62 => popO (SemP PG (Instr.fieldAt T_api_Record (Value.pointer (some ⟨r3, 0, none⟩)) 1)) fun v63 => k62 v63 h57) h57 fun v60 h61 =>
 gopV (yV v51) true (fun k66 => popO (SemE PG h61 (Instr.loadAt T_api_Daemon v60)) fun v67 => k66 v67 h61) h61 fun v64 h65 =>
 gopV (yV v51) true (fun k70 => CallsH PG id_carrackref17_SameState #[v56, v64] h65 fun v71 h72 => k70 v71 h72) h65 fun v68 h69 =>
 popO (pickV v51 v68 (Value.bool false)) fun v73 =>
 gopV (yV v73) true (fun k76 => popO (SemP PG (Instr.fieldAt T_api_Record (Value.pointer (some ⟨r1, 0, none⟩)) 4)) fun v77 => k76 v77 h69) h69 fun v74 h75 =>
 gopV (yV v73) true (fun k80 => popO (SemE PG h75 (Instr.loadAt T_sl_api_Note v74)) fun v81 => k80 v81 h75) h75 fun v78 h79 =>
 gopV (yV v73) true (fun k84 => popO (SemP PG (Instr.fieldAt T_api_Record (Value.pointer (some ⟨r3, 0, none⟩)) 4)) fun v85 => k84 v85 h79) h79 fun v82 h83 =>
 gopV (yV v73) true (fun k88 => popO (SemE PG h83 (Instr.loadAt T_sl_api_Note v82)) fun v89 => k88 v89 h83) h83 fun v86 h87 =>
 gopV (yV v73) true (fun k92 => CallsH PG id_carrackref13_Notes #[v78, v86] h87 fun v93 h94 => k92 v93 h94) h87 fun v90 h91 =>
 popO (pickV v73 v90 (Value.bool false)) fun v95 =>
 R v95 h91
def carracklaw17_same.ann : Ann := { b := fun i => match i with  | _ => #[], ord := fun i => match i with  | _ => [], keep := fun i => match i with  | _ => [], n := 38 }
theorem carracklaw17_same.eq (t0 : Value) (t1 : Value) (h0 : PH) (R : Value → PH → Prop) : codeF PG carracklaw17_same.ann 200 (bodyOf Try.f14) (endH PG Try.f14 R) (fun t => (#[t0, t1] : Array Value).getD t undef) h0 = carracklaw17_same t0 t1 h0 R := by kernel_rfl
theorem carracklaw17_same.call {t0 : Value} {t1 : Value} {h0 : PH} {R : Value → PH → Prop} (H : carracklaw17_same t0 t1 h0 R) : CallsH PG id_carracklaw17_same #[t0, t1] h0 R :=
  callsF_by carracklaw17_same.ann 200 mix Try.func14 (by kernel_rfl) (by kernel_rfl) (by kernel_rfl) (by kernel_rfl) (by simp [Try.ntmps14]) (carracklaw17_same.eq t0 t1 h0 R) H

def carrackref13_Notes_b5 (R : Value → PH → Prop) (n4 : List Value → PH → Prop) (t0 : Value) (t1 : Value) (t5 : Value) (h0 : PH) : Prop :=
 popO (SemP PG (Builtin.len_ #[T_sl_api_Note] T_int #[t0])) fun v6 =>
 popO (SemP PG (binOp BinOp.lss T_int t5 v6)) fun v7 =>
 condV v7
 (popO (SemP PG (Instr.indexAt T_sl_api_Note t0 t5)) fun v8 =>
 popO (SemE PG h0 (Instr.loadAt T_api_Note v8)) fun v9 =>
 popO (SemP PG (Instr.indexAt T_sl_api_Note t1 t5)) fun v10 =>
 popO (SemE PG h0 (Instr.loadAt T_api_Note v10)) fun v11 =>
 popO (SemE PG h0 (binS BinOp.neq T_api_Note (.tmp 20) (.tmp 24) v9 v11)) fun v12 =>
 condV v12
 (R (Value.bool false) h0)
 (popO (SemP PG (binOp BinOp.add T_int t5 (Value.int IntKind.i64 1))) fun v13 =>
 n4 [t0, t1, v13] h0))
 (R (Value.bool true) h0)
def carrackref13_Notes (t0 : Value) (t1 : Value) (h0 : PH) (R : Value → PH → Prop) : Prop :=
 popO (SemP PG (Builtin.len_ #[T_sl_api_Note] T_int #[t0])) fun v1 =>
 popO (SemP PG (Builtin.len_ #[T_sl_api_Note] T_int #[t1])) fun v2 =>
 popO (SemE PG h0 (binS BinOp.neq T_int (.tmp 7) (.tmp 9) v1 v2)) fun v3 =>
 condV v3
 (R (Value.bool false) h0)
 (LoopL [0, 1, 5] (fun n4 ρ h => carrackref13_Notes_b5 R n4 (ρ 0) (ρ 1) (ρ 5) h) [t0, t1, (Value.int IntKind.i64 0)] h0)
def carrackref13_Notes.ann : Ann := { b := fun i => match i with | 6 => #[0, 0, 3, 7, 0, 0, 48, 112, 255] | _ => #[], ord := fun i => match i with | 6 => [0, 1, 2, 3, 4, 5, 6, 7, 8] | _ => [], keep := fun i => match i with | 4 => [0, 1, 5] | _ => [], n := 26 }
theorem carrackref13_Notes.eq (t0 : Value) (t1 : Value) (h0 : PH) (R : Value → PH → Prop) : codeF PG carrackref13_Notes.ann 200 (bodyOf Try.f38) (endH PG Try.f38 R) (fun t => (#[t0, t1] : Array Value).getD t undef) h0 = carrackref13_Notes t0 t1 h0 R := by kernel_rfl
theorem carrackref13_Notes.call {t0 : Value} {t1 : Value} {h0 : PH} {R : Value → PH → Prop} (H : carrackref13_Notes t0 t1 h0 R) : CallsH PG id_carrackref13_Notes #[t0, t1] h0 R :=
  callsF_by carrackref13_Notes.ann 200 mix Try.func38 (by kernel_rfl) (by kernel_rfl) (by kernel_rfl) (by kernel_rfl) (by simp [Try.ntmps38]) (carrackref13_Notes.eq t0 t1 h0 R) H

end Go.Proofs.Ytlkjippiaghbmaa
/- What the contracts share: wraps, measures, fresh blocks. -/
set_option linter.unusedSimpArgs false
set_option linter.unusedVariables false
namespace Go.Proofs.Ytlkjippiaghbmaa
open Go
theorem i64_wrap {x : Int} (h1 : -9223372036854775808 ≤ x) (h2 : x ≤ 9223372036854775807) : IntKind.i64.wrap x = x := IntWalk.i64_in _ ⟨h1, h2⟩
def upTo (n : Nat) (i : Nat) : List Value → PH → Nat := fun vs _ => match vs[i]? with
  | some (.int _ j) => n - j.toNat
  | _ => 0
def Fresh (h : PH) (F : List Nat) : Prop := ∀ b ∈ F, h b = none
theorem Fresh.one {h : PH} {a : Nat} (ha : h a = none) : Fresh h [a] := fun b hb => by simp at hb; subst hb; exact ha
theorem Ext.none {h h1 : PH} (u : Ext h h1) {b : Nat} (hb : h1 b = none) : h b = none := by
  cases e : h b with
  | none => rfl
  | some o => rw [u.get e] at hb; cases hb
theorem Fresh.grow {h h1 : PH} {F F' : List Nat} (f : Fresh h F) (u : Ext h h1) (hg : ∀ b ∈ F', b ∈ F ∨ h1 b = none) : Fresh h F' := fun b hb => by
  rcases hg b hb with h1 | h1
  · exact f b h1
  · exact u.none h1
theorem Fresh.of {h h1 : PH} {F : List Nat} (f : Fresh h1 F) (u : Ext h h1) : Fresh h F := fun b hb => u.none (f b hb)
theorem Ext.trans {h h1 h2 : PH} (u : Ext h h1) (v : Ext h1 h2) : Ext h h2 := Upd.trans u v
theorem Ext.fresh {h h1 h2 : PH} {F : List Nat} (u : Ext h h1) (v : Upd F h1 h2) (f : Fresh h F) : Ext h h2 := fun b o hb _ =>
  v b o (u.get hb) fun hm => by rw [f b hm] at hb; cases hb
theorem OwnR.ext {h h' : PH} {e : TypeId} {size : Nat} {v : Value} {rows : List (List Value)} {F : List Nat} (H : OwnR h e size v rows F) (u : Ext h h') : OwnR h' e size v rows F := H.upd u (by simp)
theorem popO_pure {α : Type} {v : α} {k : α → Prop} (hk : k v) : popO (SemP PG (pure v)) k := hk
theorem u64_wrap {x : Int} (h1 : 0 ≤ x) (h2 : x < 18446744073709551616) : IntKind.u64.wrap x = x := by
  unfold IntKind.wrap
  simp [IntKind.signed, IntKind.bits]
  omega
theorem u8_wrap (x : Int) : IntKind.u8.wrap x = x % 256 := by
  unfold IntKind.wrap
  simp [IntKind.signed, IntKind.bits]
theorem yV_undef : yV undef = none := (rfl)
theorem gopV_none {X : (Value → PH → Prop) → Prop} {h : PH} {kv : Value → PH → Prop} {w : Bool} : gopV none w X h kv = kv undef h := by simp [gopV]
end Go.Proofs.Ytlkjippiaghbmaa
/- From a rule for a law's call to its row: the whole memory as the part; what a reading tells; nothing that was there turns. -/
set_option linter.unusedSimpArgs false
set_option linter.unusedVariables false
namespace Go.Proofs.Ytlkjippiaghbmaa
open Go Go.RowKit Go.ChangeShapes

def heapOf (W : World) : PH := fun b => W.heap[b]?
theorem heapOf_sub (W : World) : Sub (heapOf W) W := fun _ _ h => h
/-- All that was there is as it was. -/
structure Kept (W W' : World) : Prop where
  os : W'.os = W.os
  output : W'.output = W.output
  heap : ∀ b, b < W.heap.size → W'.heap[b]? = W.heap[b]?
theorem calls_kept {P : Program} {f : FuncId} {args : Array Value} {W : World} (H : CallsH P f args (heapOf W) fun v h' => v = .bool true ∧ Ext (heapOf W) h') (he : enters P f = true := by kernel_rfl) :
    Calls P f args W fun e w' => e = .returned (.bool true) ∧ Kept W w' := by
  refine (H.calls he W (heapOf_sub W)).mono ?_
  rintro e w' ⟨v, h', rfl, ⟨rfl, hx⟩, hs, hf⟩
  refine ⟨rfl, hf.os, hf.output, fun b hb => ?_⟩
  cases e : W.heap[b]? with
  | none => simp at e; omega
  | some o => exact hs b o (hx.get e)
theorem Kept.cell {W W' : World} (K : Kept W W') (a : Addr) (h : a.block < W.heap.size) : W'.cell? a = W.cell? a := by
  unfold World.cell?; rw [K.heap _ h]
theorem Kept.frozen {W W' : World} (K : Kept W W') (a : Addr) (h : a.block < W.heap.size) : W'.frozen? a = W.frozen? a := by
  unfold World.frozen?; rw [K.heap _ h]
theorem Kept.sameAt {W W' : World} (K : Kept W W') (p : MemPlace) (h : p.block < W.heap.size) : W.sameAt W' p := by
  cases p with
  | cell b off => exact K.cell _ h
  | map b => exact K.heap _ h
theorem Kept.but {W W' : World} (K : Kept W W') (may : MemPlace → Prop) : W.keptBut W' may := by
  refine ⟨K.os, K.output, fun i hi => ?_⟩
  rw [K.heap i hi]
  cases W.heap[i]? with
  | none => rfl
  | some o =>
    cases o with
    | cells c t fr => exact ⟨rfl, rfl, rfl, fun _ _ => rfl⟩
    | map es clock => exact .inr ⟨rfl, rfl⟩
    | _ => rfl
theorem trodAll_carry {H : Type} {enc : TypeId × Value → H} {P : Program} {w w' : World} {base : Nat} {spare : Nat → Bool} {held : Bool} : ∀ {ts : List TypeId} {vs : List Value} {ds : List (DataW H)} {ps : List MemPlace},
    DataW.TrodAll enc P w base spare held ts vs ds ps → (∀ p ∈ ps, w.sameAt w' p) → DataW.TrodAll enc P w' base spare held ts vs ds ps
  | [], [], [], _, h, _ => h
  | _ :: _, _ :: _, _ :: _, _, ⟨p, q, ⟨n, h1⟩, h2, e⟩, hs => ⟨p, q, ⟨n, DataW.trod_carry n _ _ _ h1 fun x hx => hs x (by rw [e]; exact List.mem_append_left _ hx)⟩, trodAll_carry h2 (fun x hx => hs x (by rw [e]; exact List.mem_append_right _ hx)), e⟩

theorem post_of_kept {H : Type} {enc : TypeId × Value → H} {P : Program} {f : Func} {s : ChangeSpec} {apart fresh handsOn again : Bool} {W W' : World} {args : Array Value} {ds gs : List (DataW H)} {before : List MemPlace}
    {T : TypeId → Prop} (KP : Kids P T) (full : ∀ t e, T t → P.underlying t = some (.slice e) → 0 < P.cellsOf e) (hT : ∀ t ∈ f.params.toList, T t) {tb : TypeId} (hb : P.underlying tb = some .bool) (hr : f.resultTypes = #[tb])
    (hs : s.vars = []) (hW : DataW.Whole enc P f.params.toList s.vars apart W args.toList ds gs before) (hK : Kept W W')
    (e1 : (s.fn H (ds ++ gs)).results = [.lit (.bool true)]) (e2 : (s.fn H (ds ++ gs)).args = ds) (e3 : (s.fn H (ds ++ gs)).vars = []) :
    s.post enc P f apart fresh handsOn again W args (.bool true) W' := by
  have hlt := fun p hp => hW.lt p hp
  have hW' := hW
  obtain ⟨pa, pv, hA, hV, rfl, hz, hn⟩ := hW'
  rw [hs] at hV
  obtain ⟨rfl, rfl⟩ := trodVars_none hV
  simp only [List.append_nil] at *
  have hargs : ∀ sp : Nat → Bool, (∀ p ∈ pa, sp p.block = true) → DataW.TrodAll enc P W' 0 sp true f.params.toList args.toList ds pa := fun sp hsp =>
    trodAll_carry (DataW.TrodAll.respare KP full hT hA hsp) fun p hp => hK.sameAt p (hlt p hp)
  have hres : ∀ (b : Nat) (sp : Nat → Bool) (hd : Bool), DataW.TrodAll enc P W' b sp hd f.resultTypes.toList ((Value.bool true).resultList f.resultTypes.size) (s.fn H ds).results [] := fun b sp hd => by
    rw [e1, hr]; exact trodAll_cons_mk (shut_bool hb _) trodAll_mk0
  have hvars : ∀ sp : Nat → Bool, DataW.TrodVars enc P W' sp s.vars (s.fn H ds).vars [] := fun sp => by rw [e3, hs]; rfl
  have hold : ∀ p ∈ pa, (fun b => decide (b < W.heap.size)) p.block = true := fun p hp => by simpa using hlt p hp
  refine ⟨ds, [], pa, [], pa, [], hW, by simpa using hres _ _ _, by simpa [e2] using hargs _ hold, by simpa using hvars _, World.keptBut_mono (fun p hp => ⟨hp, by simp [hp]⟩) (hK.but (· ∈ pa)), fun _ => ?_⟩
  refine ⟨ok_one hr rfl (okWide_bool_mk hb _), _, _, ([] ++ pa) ++ [], ⟨[] ++ pa, [], trodAll_append (hargs _ (fun _ _ => rfl)) (hres _ _ _), hvars _, rfl, ?_, ?_⟩, ?_⟩
  · intro b off hp
    have hp' : MemPlace.cell b off ∈ pa := by simpa using hp
    rw [hK.frozen ⟨b, off, none⟩ (hlt _ hp')]
    exact hz b off hp'
  · intro ha
    simpa using hn ha
  · intro p hp _
    simpa using hp

/-! ### what a reading tells -/
variable {H : Type} {enc : TypeId × Value → H} {P : Program} {w : World} {spare : Nat → Bool} {held : Bool}
def Rd (enc : TypeId × Value → H) (P : Program) (w : World) (spare : Nat → Bool) (held : Bool) (t : TypeId) (cs : List Value) : Prop := ∃ n x, DataW.trod enc P w 0 spare held n t cs = some x
theorem rd_int {t : TypeId} {k : IntKind} {cs : List Value} (ht : P.underlying t = some (.int k)) (h : Rd enc P w spare held t cs) : ∃ n, cs = [.int k n] ∧ (Lit.int k n).wf = true := by
  obtain ⟨n, x, h⟩ := h
  obtain ⟨i, rfl, _, hw⟩ := DataW.trod_int ht h
  exact ⟨i, rfl, hw⟩
theorem rd_bool {t : TypeId} {cs : List Value} (ht : P.underlying t = some .bool) (h : Rd enc P w spare held t cs) : ∃ b, cs = [.bool b] := by
  obtain ⟨n, x, h⟩ := h
  obtain ⟨i, rfl, _⟩ := DataW.trod_bool ht h
  exact ⟨i, rfl⟩
theorem rd_string {t : TypeId} {cs : List Value} (ht : P.underlying t = some .string) (h : Rd enc P w spare held t cs) : ∃ s : ByteArray, cs = [.string s] ∧ s.size ≤ maxLen := by
  obtain ⟨n, x, h⟩ := h
  obtain ⟨i, rfl, _, hw⟩ := DataW.trod_string ht h
  exact ⟨i, rfl, hw⟩
theorem rd_struct {t : TypeId} {fs : Array Field} {cs : List Value} (ht : P.underlying t = some (.struct fs)) (h : Rd enc P w spare held t cs) :
    cs.length = P.cellsOf t ∧ ∀ (i : Nat) (f : Field), fs[i]? = some f → Rd enc P w spare held f.type ((cs.drop f.offset).take (P.cellsOf f.type)) := by
  obtain ⟨n, x, h⟩ := h
  obtain ⟨xs, m, rfl, _, hl, hx, hf⟩ := DataW.trod_struct ht h
  refine ⟨hl, fun i f hi => ?_⟩
  have h1 := hf i f hi
  have hlt : i < xs.length := by rw [hx]; exact (Array.getElem?_eq_some_iff.1 hi).1
  rw [List.getElem?_eq_getElem hlt] at h1
  exact ⟨m, _, h1⟩
theorem rd_array {t e : TypeId} {n : Nat} {cs : List Value} (ht : P.underlying t = some (.array n e)) (h : Rd enc P w spare held t cs) :
    cs.length = P.cellsOf t ∧ ∀ i, i < n → Rd enc P w spare held e ((cs.drop (i * P.cellsOf e)).take (P.cellsOf e)) := by
  obtain ⟨m, x, h⟩ := h
  cases m with
  | zero => simp [DataW.trod] at h
  | succ m =>
    unfold DataW.trod at h
    rw [ht] at h
    split at h <;> simp_all
    obtain ⟨hl, xs, hp, hd⟩ := h
    intro i hi
    have := mapM_some_get hp i i (by simp [hi])
    have hlt : i < xs.length := by have := mapM_some_length hp; simp at this; omega
    rw [List.getElem?_eq_getElem hlt] at this
    exact ⟨m, _, this⟩
theorem cell_heap {w : World} {a : Addr} {v : Value} (h : w.cell? a = some v) : ∃ c t fr, w.heap[a.block]? = some (.cells c t fr) ∧ a.spot = none ∧ c[a.off]? = some v := by
  unfold World.cell? at h
  split at h
  · rename_i c t fr e
    cases hs : a.spot with
    | none => rw [hs] at h; exact ⟨c, t, fr, e, rfl, by simpa using h⟩
    | some b => rw [hs] at h; simp at h
  · cases h
theorem add_plain {a : Addr} (h : a.spot = none) (n : Nat) : a.add n = ⟨a.block, a.off + n, none⟩ := by
  obtain ⟨b, o, s⟩ := a
  simp only at h
  subst h
  exact plain_add b o n
theorem rd_slice {t e : TypeId} {cs : List Value} (ht : P.underlying t = some (.slice e)) (hpos : 0 < P.cellsOf e) (h : Rd enc P w spare held t cs) :
    ∃ v rows, cs = [v] ∧ SlR (heapOf w) (P.cellsOf e) v rows ∧ ∀ r ∈ rows, Rd enc P w spare held e r := by
  obtain ⟨n, x, h⟩ := h
  rcases Go.Deep.open_slice ht h with ⟨rfl, _⟩ | ⟨a, len, cap, m, k, D, Pl, rfl, hb, hl, hm, hmm, rfl, hx⟩
  · exact ⟨_, [], rfl, OwnR.nil (e := e).slR, by simp⟩
  have hlm : len ≤ m := by rw [hmm]; split <;> omega
  obtain ⟨R, hR⟩ := Go.Deep.choose_lt (α := List Value) (n := len) (p := fun i r => w.cells? 0 (a.add (i * P.cellsOf e)) (P.cellsOf e) = some r ∧ Rd enc P w spare held e r) (fun i hi => by
    obtain ⟨r, h1, h2⟩ := hx i (by omega)
    exact ⟨r, h1, k, _, h2⟩)
  have hrows : Rows (P.cellsOf e) ((List.range len).map R) := fun r hr => by
    obtain ⟨i, hi, rfl⟩ := List.mem_map.1 hr
    exact (World.cells?_some (hR i (List.mem_range.1 hi)).1).2.1
  refine ⟨_, (List.range len).map R, rfl, ⟨hrows, some a, cap, by simp, by simpa using hl, hm, fun hne => ?_, trivial⟩, fun r hr => ?_⟩
  · have hlen : 0 < len := by
      rcases Nat.eq_zero_or_pos len with h0 | h0
      · subst h0; simp at hne
      · exact h0
    have cell : ∀ i j, i < len → j < P.cellsOf e → w.cell? (a.add (i * P.cellsOf e + j)) = (R i)[j]? := fun i j hi hj => by
      rw [← Go.Deep.add_add]; exact (World.cells?_some (hR i hi).1).2.2 j hj
    have hRl : ∀ i, i < len → (R i).length = P.cellsOf e := fun i hi => (World.cells?_some (hR i hi).1).2.1
    have c0 := cell 0 0 hlen hpos
    rw [Nat.zero_mul, Nat.zero_add, show a.add 0 = a by simp [Addr.add], List.getElem?_eq_getElem (by rw [hRl 0 hlen]; exact hpos)] at c0
    obtain ⟨c, tt, fr, hh, hs, _⟩ := cell_heap c0
    have at_ : ∀ i j, i < len → j < P.cellsOf e → c[a.off + (i * P.cellsOf e + j)]? = (R i)[j]? := fun i j hi hj => by
      have h1 := cell i j hi hj
      rw [add_plain hs] at h1
      have hj' : j < (R i).length := by rw [hRl i hi]; exact hj
      rw [List.getElem?_eq_getElem hj'] at h1 ⊢
      obtain ⟨c', _, _, hh', _, h2⟩ := cell_heap h1
      simp only [hh, Option.some.injEq, Obj.cells.injEq] at hh'
      rw [← hh'.1] at h2
      exact h2
    have hle : a.off + len * P.cellsOf e ≤ c.size := by
      have h1 := at_ (len - 1) (P.cellsOf e - 1) (by omega) (by omega)
      have hj' : P.cellsOf e - 1 < (R (len - 1)).length := by rw [hRl _ (by omega)]; omega
      rw [List.getElem?_eq_getElem hj'] at h1
      have h2 := (Array.getElem?_eq_some_iff.1 h1).1
      have h3 : (len - 1) * P.cellsOf e + P.cellsOf e = len * P.cellsOf e := by rw [← Nat.succ_mul]; congr 1; omega
      omega
    refine ⟨a.block, a.off, c, tt, fr, by rw [← hs], hh, by simpa using hle, ?_⟩
    have hfl := hrows.flat
    simp only [List.length_map, List.length_range] at hfl
    apply List.ext_getElem?
    intro q
    by_cases hq : q < len * P.cellsOf e
    · have hq1 : q / P.cellsOf e < len := Nat.div_lt_of_lt_mul (by rw [Nat.mul_comm]; exact hq)
      have hq2 := Nat.mod_lt q hpos
      have hq3 : q / P.cellsOf e * P.cellsOf e + q % P.cellsOf e = q := by rw [Nat.mul_comm]; exact Nat.div_add_mod _ _
      have h1 := at_ _ _ hq1 hq2
      rw [hq3] at h1
      have h2 := hrows.at (i := q / P.cellsOf e) (r := R (q / P.cellsOf e)) (by simp [hq1])
      have h3 : ((List.range len).map R).flatten[q]? = (R (q / P.cellsOf e))[q % P.cellsOf e]? := by
        rw [← h2, List.getElem?_take_of_lt hq2, List.getElem?_drop, hq3]
      rw [h3, ← h1, Array.getElem?_toList, Array.getElem?_extract]
      simp only [List.length_map, List.length_range]
      rw [if_pos (by omega)]
    · rw [List.getElem?_eq_none (by rw [Array.length_toList, Array.size_extract]; simp; omega), List.getElem?_eq_none (by omega)]
  · obtain ⟨i, hi, rfl⟩ := List.mem_map.1 hr
    exact (hR i (List.mem_range.1 hi)).2
theorem open_rd {r : Reach} {base : Nat} {t e : TypeId} {v : Value} {d : DataW H} {p : List MemPlace} (ht : P.underlying t = some (.slice e)) (hpos : 0 < P.cellsOf e) (hval : Value.okWide P w r base t v) (hd : DataW.Trod enc P w 0 spare held t v d p) :
    ∃ rows, SlR (heapOf w) (P.cellsOf e) v rows ∧ ∀ r ∈ rows, Rd enc P w spare held e r := by
  obtain ⟨a, n, c, rfl⟩ := Go.WideShapes.okWide_slice ht hval
  obtain ⟨k, hk⟩ := hd
  obtain ⟨v, rows, h1, h2, h3⟩ := rd_slice ht hpos ⟨k, _, hk⟩
  obtain rfl : Value.slice a n c = v := by simpa [Value.cells] using h1
  exact ⟨rows, h2, h3⟩
end Go.Proofs.Ytlkjippiaghbmaa
/- script: what is read of a row. -/
set_option linter.unusedSimpArgs false
set_option linter.unusedVariables false
namespace Go.Proofs.Ytlkjippiaghbmaa
open Go Go.RowKit Go.ChangeShapes
theorem kidsPG : Kids PG (· < PG.types.size) := kids_rows (by kernel_rfl) (by kernel_rfl)
theorem fullPG : ∀ t e, t < PG.types.size → PG.underlying t = some (.slice e) → 0 < PG.cellsOf e := slices_full_of PG (by kernel_rfl)
theorem open_any {H : Type} {enc : TypeId × Value → H} {P : Program} {w : World} {spare : Nat → Bool} {held : Bool} {t : TypeId} {v : Value} {d : DataW H} {p : List MemPlace} (hd : DataW.Trod enc P w 0 spare held t v d p) : Rd enc P w spare held t v.cells.toList := by
  obtain ⟨k, hk⟩ := hd; exact ⟨k, _, hk⟩
theorem wf_u64 {n : Int} (h : (Lit.int .u64 n).wf = true) : 0 ≤ n ∧ n < 18446744073709551616 := by
  simp [Lit.wf, IntKind.min, IntKind.max, IntKind.signed, IntKind.bits] at h
  omega
theorem wf_i64 {n : Int} (h : (Lit.int .i64 n).wf = true) : -9223372036854775808 ≤ n ∧ n < 9223372036854775808 := by
  simp [Lit.wf, IntKind.min, IntKind.max, IntKind.signed, IntKind.bits] at h
  omega
end Go.Proofs.Ytlkjippiaghbmaa
