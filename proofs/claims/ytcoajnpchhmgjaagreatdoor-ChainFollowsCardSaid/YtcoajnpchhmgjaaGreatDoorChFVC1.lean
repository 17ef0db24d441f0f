/- The texts of this claim, put together. -/
import Derived.Test.YtcoajnpchhmgjaaGreatDoorChFVC0
import Derived.Test.YtcoajnpchhmgjaaGreatDoorChecked
import Derived.KernelRfl
set_option linter.unusedSimpArgs false
set_option linter.unusedVariables false
set_option linter.unusedSectionVars false
set_option maxRecDepth 100000
namespace Go.Proofs.YtcoajnpchhmgjaaGreatDoor
open Go
noncomputable abbrev PG : Program := Tryz.prog
theorem mix : PG.follows .mixedOrders = true := by kernel_rfl
abbrev id_carracklaw13_ChainFollows : FuncId := 6
abbrev id_carracklaw13_awake : FuncId := 9
abbrev id_carracklaw13_few : FuncId := 10
abbrev id_carracklaw13_made : FuncId := 11
abbrev id_carracklaw13_two_do : FuncId := 12
abbrev id_store_Store_Height : FuncId := 14
abbrev id_store_Store_Get : FuncId := 15
abbrev id_chain_Chain_Commit : FuncId := 16
abbrev id_store_Store_Root : FuncId := 17
abbrev id_chain_Chain_Prove : FuncId := 18
abbrev id_proof_Has : FuncId := 19
abbrev id_proof_Lacks : FuncId := 20
abbrev id_chain_ledger_Log : FuncId := 21
abbrev id_chain_ledger_First : FuncId := 22
abbrev id_carrackref13_Notes : FuncId := 23
abbrev id_packet_Check : FuncId := 24
abbrev id_chain_New : FuncId := 25
abbrev id_carrackref13_Side : FuncId := 29
abbrev id_chain_Chain_Send : FuncId := 31
abbrev id_carrackref13_Both : FuncId := 32
abbrev id_carrackref01_New : FuncId := 33
abbrev id_carrackref13_Act_Key : FuncId := 34
abbrev id_chain_Chain_Update : FuncId := 35
abbrev id_chain_Chain_Recv : FuncId := 36
abbrev id_chain_Chain_Ack : FuncId := 37
abbrev id_chain_Chain_Timeout : FuncId := 38
abbrev id_store_Store_Commit : FuncId := 47
abbrev id_store_Store_at : FuncId := 48
abbrev id_store_Store_At : FuncId := 49
abbrev id_proof_Present : FuncId := 50
abbrev id_proof_Absent : FuncId := 51
abbrev id_proof_Bytes : FuncId := 52
abbrev id_proof_Parse : FuncId := 53
abbrev id_proof_climb : FuncId := 54
abbrev id_merkle_Root : FuncId := 55
abbrev id_store_New : FuncId := 56
abbrev id_client_New : FuncId := 57
abbrev id_slices_SortFunc_sl_api_Pair_api_Pair : FuncId := 58
abbrev id_cmp_Compare_string : FuncId := 60
abbrev id_chain_Chain_all : FuncId := 62
abbrev id_chain_Chain_Send_1 : FuncId := 63
abbrev id_chain_Chain_Send_2 : FuncId := 64
abbrev id_chain_Chain_Send_3 : FuncId := 65
abbrev id_client_Client_Latest : FuncId := 66
abbrev id_chain_Chain_Send_4 : FuncId := 67
abbrev id_chain_ledger_room : FuncId := 68
abbrev id_chain_ledger_set : FuncId := 69
abbrev id_packet_Sent : FuncId := 70
abbrev id_packet_Commitment : FuncId := 71
abbrev id_chain_Chain_note : FuncId := 72
abbrev id_carrackref13_New : FuncId := 73
abbrev id_carrackref01_Constants : FuncId := 74
abbrev id_carrackref10_Key : FuncId := 75
abbrev id_client_Client_Set : FuncId := 76
abbrev id_chain_Chain_proved : FuncId := 77
abbrev id_chain_Chain_Recv_1 : FuncId := 78
abbrev id_chain_from : FuncId := 79
abbrev id_chain_Chain_Recv_2 : FuncId := 80
abbrev id_chain_Chain_Recv_3 : FuncId := 81
abbrev id_packet_Received : FuncId := 82
abbrev id_chain_Chain_Recv_4 : FuncId := 83
abbrev id_packet_Answered : FuncId := 84
abbrev id_packet_Answer : FuncId := 85
abbrev id_chain_Chain_Ack_1 : FuncId := 86
abbrev id_chain_Chain_settle : FuncId := 87
abbrev id_chain_Chain_Timeout_1 : FuncId := 88
abbrev id_chain_Chain_Timeout_2 : FuncId := 89
abbrev id_store_Store_Commit_1 : FuncId := 110
abbrev id_store_sorted_pairs : FuncId := 111
abbrev id_proof_find : FuncId := 112
abbrev id_proof_leaves : FuncId := 113
abbrev id_slices_ContainsFunc_sl_api_Leaf_api_Leaf : FuncId := 114
abbrev id_proof_Bytes_1 : FuncId := 115
abbrev id_proof_within : FuncId := 116
abbrev id_wire_Writer_Byte : FuncId := 117
abbrev id_wire_Writer_Number : FuncId := 118
abbrev id_wire_Writer_Text : FuncId := 119
abbrev id_wire_Writer_Raw : FuncId := 120
abbrev id_wire_Writer_Bytes : FuncId := 121
abbrev id_wire_NewReader : FuncId := 122
abbrev id_wire_Reader_Byte : FuncId := 123
abbrev id_proof_leaf : FuncId := 124
abbrev id_wire_Reader_End : FuncId := 125
abbrev id_proof_climb_1 : FuncId := 126
abbrev id_merkle_Climb : FuncId := 127
abbrev id_merkle_Top : FuncId := 128
abbrev id_merkle_digest : FuncId := 129
abbrev id_math_bits_Len : FuncId := 131
abbrev id_cmp_isNaN_string : FuncId := 132
abbrev id_store_Store_Len : FuncId := 134
abbrev id_store_Store_Set : FuncId := 135
abbrev id_packet_key : FuncId := 136
abbrev id_packet_digest : FuncId := 137
abbrev id_carrackref11_New : FuncId := 138
abbrev id_carrackref01_primes : FuncId := 139
abbrev id_carrackref01_root : FuncId := 140
abbrev id_carrackref03_Bytes : FuncId := 141
abbrev id_client_Client_place : FuncId := 142
abbrev id_client_Client_Root : FuncId := 143
abbrev id_chain_Chain_proved_1 : FuncId := 144
abbrev id_chain_Chain_proved_2 : FuncId := 145
abbrev id_chain_from_1 : FuncId := 146
abbrev id_chain_Chain_sent : FuncId := 147
abbrev id_chain_ledger_drop : FuncId := 148
abbrev id_slices_Clone_sl_api_Pair_api_Pair : FuncId := 159
abbrev id_slices_BinarySearchFunc_sl_api_Pair_api_Pair_string : FuncId := 160
abbrev id_proof_find_1 : FuncId := 161
abbrev id_merkle_Path : FuncId := 162
abbrev id_slices_IndexFunc_sl_api_Leaf_api_Leaf : FuncId := 163
abbrev id_slices_ContainsFunc_sl_string_string : FuncId := 164
abbrev id_proof_within_1 : FuncId := 165
abbrev id_wire_memory_Fail : FuncId := 166
abbrev id_wire_Writer_put : FuncId := 167
abbrev id_strings_Builder_WriteString : FuncId := 168
abbrev id_wire_memory_Err : FuncId := 169
abbrev id_strings_Builder_String : FuncId := 170
abbrev id_wire_Reader_get : FuncId := 171
abbrev id_proof_small : FuncId := 172
abbrev id_wire_Reader_Text : FuncId := 173
abbrev id_wire_Reader_Raw : FuncId := 174
abbrev id_wire_Reader_Left : FuncId := 175
abbrev id_merkle_Climb_1 : FuncId := 176
abbrev id_merkle_Leaf : FuncId := 177
abbrev id_merkle_left : FuncId := 178
abbrev id_merkle_both : FuncId := 179
abbrev id_merkle_one : FuncId := 180
abbrev id_sha_Sum : FuncId := 181
abbrev id_math_bits_Len32 : FuncId := 190
abbrev id_math_bits_Len64 : FuncId := 191
abbrev id_packet_Bytes : FuncId := 192
abbrev id_carrackref01_least : FuncId := 193
abbrev id_sort_Search : FuncId := 194
abbrev id_client_Client_place_1 : FuncId := 195
abbrev id_chain_Chain_sent_1 : FuncId := 196
abbrev id_store_Store_Delete : FuncId := 197
abbrev id_merkle_Path_1 : FuncId := 207
abbrev id_slices_IndexFunc_sl_string_string : FuncId := 208
abbrev id_strings_Builder_WriteByte : FuncId := 209
abbrev id_strings_Builder_copyCheck : FuncId := 210
abbrev id_wire_Reader_Number : FuncId := 211
abbrev id_sha_New : FuncId := 212
abbrev id_sha_Hash_Write : FuncId := 213
abbrev id_sha_Hash_Sum : FuncId := 214
abbrev id_packet_Put : FuncId := 220
abbrev id_carrackref01_multiply : FuncId := 221
abbrev id_carrackref01_above : FuncId := 222
abbrev id_internal_abi_NoEscape : FuncId := 229
abbrev id_sha_begin : FuncId := 230
abbrev id_strings_Clone : FuncId := 231
abbrev id_sha_state_mix : FuncId := 232
abbrev id_strings_Repeat : FuncId := 233
abbrev id_sha_state_digest : FuncId := 234
abbrev id_carrackref01_spread : FuncId := 236
abbrev id_carrackref01_add : FuncId := 237
abbrev id_carrackref01_digit : FuncId := 238
abbrev id_internal_stringslite_Clone : FuncId := 240
abbrev id_sha_words : FuncId := 241
abbrev id_sha_turn : FuncId := 242
abbrev id_math_bits_Mul : FuncId := 243
abbrev id_strings_HasPrefix : FuncId := 244
abbrev id_strings_Builder_Grow : FuncId := 245
abbrev id_strings_Builder_Len : FuncId := 246
abbrev id_math_bits_RotateLeft32 : FuncId := 247
abbrev id_math_bits_Mul32 : FuncId := 248
abbrev id_math_bits_Mul64 : FuncId := 249
abbrev id_strings_Builder_grow : FuncId := 251
abbrev id_internal_bytealg_MakeNoZero : FuncId := 252
abbrev T_ : TypeId := 0
abbrev T_int : TypeId := 3
abbrev T_bool : TypeId := 4
abbrev T_uint8 : TypeId := 5
abbrev T_string : TypeId := 9
abbrev T_uint64 : TypeId := 22
abbrev T_2_uint64 : TypeId := 23
abbrev T_sl_carrackref13_Act : TypeId := 24
abbrev T_func_bool : TypeId := 25
abbrev T_p_carracklaw13_two : TypeId := 27
abbrev T_api_Packet : TypeId := 32
abbrev T_carrackref13_Act : TypeId := 36
abbrev T_p_chain_Chain : TypeId := 37
abbrev T_2_p_chain_Chain : TypeId := 38
abbrev T_carracklaw13_two : TypeId := 41
abbrev T_p_store_Store : TypeId := 43
abbrev T_sl_sl_api_Note : TypeId := 44
abbrev T_sl_api_Note : TypeId := 45
abbrev T_map_string_string : TypeId := 46
abbrev T_chain_ledger : TypeId := 48
abbrev T_p_client_Client : TypeId := 49
abbrev T_chain_Chain : TypeId := 51
abbrev T_sl_uint32 : TypeId := 52
abbrev T_carrackref01_Book : TypeId := 54
abbrev T_carrackref13_Chain : TypeId := 59
abbrev T_2_p_carrackref13_Chain : TypeId := 61
abbrev T_carrackref13_Two : TypeId := 63
abbrev T_api_Errno : TypeId := 67
abbrev T_api_Place : TypeId := 79
abbrev T_api_Note : TypeId := 84
abbrev T_sl_api_Pair : TypeId := 90
abbrev T_sl_uint64 : TypeId := 92
abbrev T_sl_store_block : TypeId := 114
abbrev T_store_Store : TypeId := 116
abbrev T_store_sorted : TypeId := 118
abbrev T_store_block : TypeId := 120
abbrev T_sl_api_Leaf : TypeId := 125
abbrev T_api_Proof : TypeId := 127
abbrev T_api_Pair : TypeId := 133
abbrev T_sl_string : TypeId := 134
abbrev T_api_Leaf : TypeId := 136
abbrev T_chain_rule : TypeId := 147
abbrev T_func_string_bool : TypeId := 159
abbrev T_carrackref12_Client : TypeId := 173
abbrev T_wire_memory : TypeId := 186
abbrev T_p_strings_Builder : TypeId := 187
abbrev T_sl_uint8 : TypeId := 188
abbrev T_strings_Builder : TypeId := 190
abbrev T_wire_Writer : TypeId := 192
abbrev T_map_uint64_string : TypeId := 204
abbrev T_client_Client : TypeId := 206
abbrev T_uint : TypeId := 209
abbrev T_sl_chain_rule : TypeId := 211
abbrev T_uint32 : TypeId := 216
abbrev T_sl_sl_api_Pair : TypeId := 221
abbrev T_carrackref11_Store : TypeId := 223
abbrev T_sl_int : TypeId := 234
abbrev T_wire_Reader : TypeId := 246
abbrev T_func_int_int_string : TypeId := 250
abbrev T_func_sl_api_Pair_int : TypeId := 278
abbrev T_p_uint8 : TypeId := 282
abbrev T_unsafe_Pointer : TypeId := 298
abbrev T_8_uint32 : TypeId := 300
abbrev T_sha_state : TypeId := 302
abbrev T_sha_Hash : TypeId := 305
abbrev T_64_uint32 : TypeId := 314
theorem T_int.und : PG.underlying T_int = some (TypeDesc.int IntKind.i64) := Tryz.underlying3
theorem T_int.info : PG.info? T_int = some Tryz.t3 := by kernel_rfl
theorem T_int.size : Tryz.t3.size = 1 := rfl
theorem T_int.load {h : PH} {a : Addr} : SemE PG h (Instr.loadAt T_int (.pointer (some a))) = cellH h a := loadAt_cell T_int.und rfl
theorem T_int.put {h : PH} {r o : Nat} {cs : List Value} {v : Value} {k : Value → PH → Prop} (H : Bx h r cs) (ho : o < cs.length) (hv : isCell v = true) (hk : ∀ h', Bx h' r (cs.set o v) → Upd [r] h h' → k undef h') : SemH PG (storeS T_int (.pointer (some ⟨r, o, none⟩)) v) h k := H.put1 T_int.und rfl T_int.info T_int.size ho hv hk
theorem T_bool.und : PG.underlying T_bool = some TypeDesc.bool := Tryz.underlying4
theorem T_bool.info : PG.info? T_bool = some Tryz.t4 := by kernel_rfl
theorem T_bool.size : Tryz.t4.size = 1 := rfl
theorem T_bool.zbox {h : PH} {r : Nat} : Bx (h.set r (.cells (zcells PG T_bool) T_bool)) r ((Value.bool false)).cells.toList := Bx.zero (by kernel_rfl)
theorem T_bool.load {h : PH} {a : Addr} : SemE PG h (Instr.loadAt T_bool (.pointer (some a))) = cellH h a := loadAt_cell T_bool.und rfl
theorem T_bool.put {h : PH} {r o : Nat} {cs : List Value} {v : Value} {k : Value → PH → Prop} (H : Bx h r cs) (ho : o < cs.length) (hv : isCell v = true) (hk : ∀ h', Bx h' r (cs.set o v) → Upd [r] h h' → k undef h') : SemH PG (storeS T_bool (.pointer (some ⟨r, o, none⟩)) v) h k := H.put1 T_bool.und rfl T_bool.info T_bool.size ho hv hk
theorem T_uint8.und : PG.underlying T_uint8 = some (TypeDesc.int IntKind.u8) := Tryz.underlying5
theorem T_uint8.info : PG.info? T_uint8 = some Tryz.t5 := by kernel_rfl
theorem T_uint8.size : Tryz.t5.size = 1 := rfl
theorem T_uint8.bytes : Tryz.t5.bytes = 1 := rfl
theorem T_uint8.zero : Tryz.t5.zero = some (Value.int IntKind.u8 0) := rfl
theorem T_string.und : PG.underlying T_string = some TypeDesc.string := Tryz.underlying9
theorem T_string.info : PG.info? T_string = some Tryz.t9 := by kernel_rfl
theorem T_string.size : Tryz.t9.size = 1 := rfl
theorem T_string.bytes : Tryz.t9.bytes = 16 := rfl
theorem T_string.zero : Tryz.t9.zero = some (Value.string { data := #[] }) := rfl
theorem T_string.zbox {h : PH} {r : Nat} : Bx (h.set r (.cells (zcells PG T_string) T_string)) r ((Value.string { data := #[] })).cells.toList := Bx.zero (by kernel_rfl)
theorem T_string.load {h : PH} {a : Addr} : SemE PG h (Instr.loadAt T_string (.pointer (some a))) = cellH h a := loadAt_cell T_string.und rfl
theorem T_string.put {h : PH} {r o : Nat} {cs : List Value} {v : Value} {k : Value → PH → Prop} (H : Bx h r cs) (ho : o < cs.length) (hv : isCell v = true) (hk : ∀ h', Bx h' r (cs.set o v) → Upd [r] h h' → k undef h') : SemH PG (storeS T_string (.pointer (some ⟨r, o, none⟩)) v) h k := H.put1 T_string.und rfl T_string.info T_string.size ho hv hk
theorem T_string.len {s : ByteArray} {t : TypeId} : SemP PG (Builtin.len_ #[T_string] t #[.string s]) = some (.int .i64 s.size) := len_string T_string.und
theorem T_uint64.und : PG.underlying T_uint64 = some (TypeDesc.int IntKind.u64) := Tryz.underlying22
theorem T_uint64.info : PG.info? T_uint64 = some Tryz.t22 := by kernel_rfl
theorem T_uint64.size : Tryz.t22.size = 1 := rfl
theorem T_uint64.bytes : Tryz.t22.bytes = 8 := rfl
theorem T_uint64.zero : Tryz.t22.zero = some (Value.int IntKind.u64 0) := rfl
theorem T_uint64.load {h : PH} {a : Addr} : SemE PG h (Instr.loadAt T_uint64 (.pointer (some a))) = cellH h a := loadAt_cell T_uint64.und rfl
theorem T_uint64.put {h : PH} {r o : Nat} {cs : List Value} {v : Value} {k : Value → PH → Prop} (H : Bx h r cs) (ho : o < cs.length) (hv : isCell v = true) (hk : ∀ h', Bx h' r (cs.set o v) → Upd [r] h h' → k undef h') : SemH PG (storeS T_uint64 (.pointer (some ⟨r, o, none⟩)) v) h k := H.put1 T_uint64.und rfl T_uint64.info T_uint64.size ho hv hk
theorem T_2_uint64.und : PG.underlying T_2_uint64 = some (TypeDesc.array 2 22) := Tryz.underlying23
theorem T_2_uint64.info : PG.info? T_2_uint64 = some Tryz.t23 := by kernel_rfl
theorem T_2_uint64.size : Tryz.t23.size = 2 := rfl
theorem T_2_uint64.agg {h : PH} {r o : Nat} {cs : List Value} (H : Bx h r cs) (hle : o + 2 ≤ cs.length) : SemE PG h (Instr.loadAt T_2_uint64 (.pointer (some ⟨r, o, none⟩))) = some (.agg ((cs.drop o).take 2).toArray) := H.agg T_2_uint64.und rfl T_2_uint64.info T_2_uint64.size hle
theorem T_sl_carrackref13_Act.und : PG.underlying T_sl_carrackref13_Act = some (TypeDesc.slice 36) := Tryz.underlying24
theorem T_func_bool.und : PG.underlying T_func_bool = some (TypeDesc.func #[] #[4] false) := Tryz.underlying25
theorem T_func_bool.load {h : PH} {a : Addr} : SemE PG h (Instr.loadAt T_func_bool (.pointer (some a))) = cellH h a := loadAt_cell T_func_bool.und rfl
theorem T_p_carracklaw13_two.und : PG.underlying T_p_carracklaw13_two = some (TypeDesc.pointer 41) := Tryz.underlying27
theorem T_api_Packet.und : PG.underlying T_api_Packet = some (TypeDesc.struct #[{ name := "From", type := 3, offset := 0, embedded := false, tag := "", pkgPath := "", byteOffset := 0 }, { name := "Seq", type := 22, offset := 1, embedded := false, tag := "", pkgPath := "", byteOffset := 8 }, { name := "Timeout", type := 22, offset := 2, embedded := false, tag := "", pkgPath := "", byteOffset := 16 }, { name := "Data", type := 9, offset := 3, embedded := false, tag := "", pkgPath := "", byteOffset := 24 }]) := Tryz.underlying32
theorem T_api_Packet.info : PG.info? T_api_Packet = some Tryz.t32 := by kernel_rfl
theorem T_api_Packet.size : Tryz.t32.size = 4 := rfl
theorem T_api_Packet.zbox {h : PH} {r : Nat} : Bx (h.set r (.cells (zcells PG T_api_Packet) T_api_Packet)) r ((Value.agg #[Value.int IntKind.i64 0, Value.int IntKind.u64 0, Value.int IntKind.u64 0, Value.string { data := #[] }])).cells.toList := Bx.zero (by kernel_rfl)
theorem T_api_Packet.zc : zcells PG T_api_Packet = ((Value.agg #[Value.int IntKind.i64 0, Value.int IntKind.u64 0, Value.int IntKind.u64 0, Value.string { data := #[] }])).cells := by kernel_rfl
theorem T_api_Packet.loadAgg {h : PH} {b o : Nat} {c : Array Value} {e : TypeId} {fr : Nat × Nat} (hb : h b = some (.cells c e fr)) (hle : o + 4 ≤ c.size) : SemE PG h (Instr.loadAt T_api_Packet (.pointer (some ⟨b, o, none⟩))) = some (.agg (c.extract o (o + 4))) := loadAt_agg T_api_Packet.und rfl T_api_Packet.info T_api_Packet.size hb hle
theorem T_api_Packet.agg {h : PH} {r o : Nat} {cs : List Value} (H : Bx h r cs) (hle : o + 4 ≤ cs.length) : SemE PG h (Instr.loadAt T_api_Packet (.pointer (some ⟨r, o, none⟩))) = some (.agg ((cs.drop o).take 4).toArray) := H.agg T_api_Packet.und rfl T_api_Packet.info T_api_Packet.size hle
theorem T_api_Packet.put {h : PH} {r o : Nat} {cs vs : List Value} {k : Value → PH → Prop} (H : Bx h r cs) (hl : vs.length = 4) (ho : o + 4 ≤ cs.length) (hv : ∀ v ∈ vs, isCell v = true) (hk : ∀ h', Bx h' r (cs.take o ++ vs ++ cs.drop (o + 4)) → Upd [r] h h' → k undef h') : SemH PG (storeS T_api_Packet (.pointer (some ⟨r, o, none⟩)) (.agg vs.toArray)) h k := H.putN T_api_Packet.info (by rw [hl]; rfl) (by omega) (by omega) hv (by rw [hl]; exact hk)
theorem T_api_Packet.fill {h : PH} {r : Nat} {vs : List Value} {k : Value → PH → Prop} (hr : h r = none) (hl : vs.length = 4) (hv : ∀ v ∈ vs, isCell v = true) (hk : ∀ h', Bx h' r vs → Ext h h' → k undef h') : SemH PG (storeS T_api_Packet (.pointer (some ⟨r, 0, none⟩)) (.agg vs.toArray)) (h.set r (.cells (zcells PG T_api_Packet) T_api_Packet)) k := Bx.fill hr T_api_Packet.info (by rw [hl]; rfl) (by omega) (by rw [T_api_Packet.zc, hl]; rfl) hv hk
theorem T_api_Packet.f0 {b o : Nat} : SemP PG (Instr.fieldAt T_api_Packet (.pointer (some ⟨b, o, none⟩)) 0) = some (.pointer (some ⟨b, o, none⟩)) := by kernel_rfl
theorem T_api_Packet.f1 {b o : Nat} : SemP PG (Instr.fieldAt T_api_Packet (.pointer (some ⟨b, o, none⟩)) 1) = some (.pointer (some ⟨b, o + 1, none⟩)) := by kernel_rfl
theorem T_api_Packet.f2 {b o : Nat} : SemP PG (Instr.fieldAt T_api_Packet (.pointer (some ⟨b, o, none⟩)) 2) = some (.pointer (some ⟨b, o + 2, none⟩)) := by kernel_rfl
theorem T_api_Packet.f3 {b o : Nat} : SemP PG (Instr.fieldAt T_api_Packet (.pointer (some ⟨b, o, none⟩)) 3) = some (.pointer (some ⟨b, o + 3, none⟩)) := by kernel_rfl
theorem T_carrackref13_Act.und : PG.underlying T_carrackref13_Act = some (TypeDesc.struct #[{ name := "Kind", type := 3, offset := 0, embedded := false, tag := "", pkgPath := "", byteOffset := 0 }, { name := "Id", type := 3, offset := 1, embedded := false, tag := "", pkgPath := "", byteOffset := 8 }, { name := "Height", type := 22, offset := 2, embedded := false, tag := "", pkgPath := "", byteOffset := 16 }, { name := "Data", type := 9, offset := 3, embedded := false, tag := "", pkgPath := "", byteOffset := 24 }, { name := "P", type := 32, offset := 4, embedded := false, tag := "", pkgPath := "", byteOffset := 40 }, { name := "Spoilt", type := 4, offset := 8, embedded := false, tag := "", pkgPath := "", byteOffset := 80 }]) := Tryz.underlying36
theorem T_carrackref13_Act.info : PG.info? T_carrackref13_Act = some Tryz.t36 := by kernel_rfl
theorem T_carrackref13_Act.size : Tryz.t36.size = 9 := rfl
theorem T_carrackref13_Act.agg {h : PH} {r o : Nat} {cs : List Value} (H : Bx h r cs) (hle : o + 9 ≤ cs.length) : SemE PG h (Instr.loadAt T_carrackref13_Act (.pointer (some ⟨r, o, none⟩))) = some (.agg ((cs.drop o).take 9).toArray) := H.agg T_carrackref13_Act.und rfl T_carrackref13_Act.info T_carrackref13_Act.size hle
theorem T_carrackref13_Act.f0 {b o : Nat} : SemP PG (Instr.fieldAt T_carrackref13_Act (.pointer (some ⟨b, o, none⟩)) 0) = some (.pointer (some ⟨b, o, none⟩)) := by kernel_rfl
theorem T_carrackref13_Act.f1 {b o : Nat} : SemP PG (Instr.fieldAt T_carrackref13_Act (.pointer (some ⟨b, o, none⟩)) 1) = some (.pointer (some ⟨b, o + 1, none⟩)) := by kernel_rfl
theorem T_carrackref13_Act.f2 {b o : Nat} : SemP PG (Instr.fieldAt T_carrackref13_Act (.pointer (some ⟨b, o, none⟩)) 2) = some (.pointer (some ⟨b, o + 2, none⟩)) := by kernel_rfl
theorem T_carrackref13_Act.f3 {b o : Nat} : SemP PG (Instr.fieldAt T_carrackref13_Act (.pointer (some ⟨b, o, none⟩)) 3) = some (.pointer (some ⟨b, o + 3, none⟩)) := by kernel_rfl
theorem T_carrackref13_Act.f4 {b o : Nat} : SemP PG (Instr.fieldAt T_carrackref13_Act (.pointer (some ⟨b, o, none⟩)) 4) = some (.pointer (some ⟨b, o + 4, none⟩)) := by kernel_rfl
theorem T_carrackref13_Act.f5 {b o : Nat} : SemP PG (Instr.fieldAt T_carrackref13_Act (.pointer (some ⟨b, o, none⟩)) 5) = some (.pointer (some ⟨b, o + 8, none⟩)) := by kernel_rfl
theorem T_p_chain_Chain.und : PG.underlying T_p_chain_Chain = some (TypeDesc.pointer 51) := Tryz.underlying37
theorem T_p_chain_Chain.info : PG.info? T_p_chain_Chain = some Tryz.t37 := by kernel_rfl
theorem T_p_chain_Chain.size : Tryz.t37.size = 1 := rfl
theorem T_p_chain_Chain.load {h : PH} {a : Addr} : SemE PG h (Instr.loadAt T_p_chain_Chain (.pointer (some a))) = cellH h a := loadAt_cell T_p_chain_Chain.und rfl
theorem T_p_chain_Chain.put {h : PH} {r o : Nat} {cs : List Value} {v : Value} {k : Value → PH → Prop} (H : Bx h r cs) (ho : o < cs.length) (hv : isCell v = true) (hk : ∀ h', Bx h' r (cs.set o v) → Upd [r] h h' → k undef h') : SemH PG (storeS T_p_chain_Chain (.pointer (some ⟨r, o, none⟩)) v) h k := H.put1 T_p_chain_Chain.und rfl T_p_chain_Chain.info T_p_chain_Chain.size ho hv hk
theorem T_2_p_chain_Chain.und : PG.underlying T_2_p_chain_Chain = some (TypeDesc.array 2 37) := Tryz.underlying38
theorem T_carracklaw13_two.f0 {b o : Nat} : SemP PG (Instr.fieldAt T_carracklaw13_two (.pointer (some ⟨b, o, none⟩)) 0) = some (.pointer (some ⟨b, o, none⟩)) := by kernel_rfl
theorem T_p_store_Store.und : PG.underlying T_p_store_Store = some (TypeDesc.pointer 116) := Tryz.underlying43
theorem T_p_store_Store.load {h : PH} {a : Addr} : SemE PG h (Instr.loadAt T_p_store_Store (.pointer (some a))) = cellH h a := loadAt_cell T_p_store_Store.und rfl
theorem T_sl_sl_api_Note.und : PG.underlying T_sl_sl_api_Note = some (TypeDesc.slice 45) := Tryz.underlying44
theorem T_sl_sl_api_Note.info : PG.info? T_sl_sl_api_Note = some Tryz.t44 := by kernel_rfl
theorem T_sl_sl_api_Note.size : Tryz.t44.size = 1 := rfl
theorem T_sl_sl_api_Note.load {h : PH} {a : Addr} : SemE PG h (Instr.loadAt T_sl_sl_api_Note (.pointer (some a))) = cellH h a := loadAt_cell T_sl_sl_api_Note.und rfl
theorem T_sl_sl_api_Note.put {h : PH} {r o : Nat} {cs : List Value} {v : Value} {k : Value → PH → Prop} (H : Bx h r cs) (ho : o < cs.length) (hv : isCell v = true) (hk : ∀ h', Bx h' r (cs.set o v) → Upd [r] h h' → k undef h') : SemH PG (storeS T_sl_sl_api_Note (.pointer (some ⟨r, o, none⟩)) v) h k := H.put1 T_sl_sl_api_Note.und rfl T_sl_sl_api_Note.info T_sl_sl_api_Note.size ho hv hk
theorem T_sl_api_Note.und : PG.underlying T_sl_api_Note = some (TypeDesc.slice 84) := Tryz.underlying45
theorem T_sl_api_Note.info : PG.info? T_sl_api_Note = some Tryz.t45 := by kernel_rfl
theorem T_sl_api_Note.size : Tryz.t45.size = 1 := rfl
theorem T_sl_api_Note.bytes : Tryz.t45.bytes = 24 := rfl
theorem T_sl_api_Note.zero : Tryz.t45.zero = some (Value.slice none 0 0) := rfl
theorem T_sl_api_Note.load {h : PH} {a : Addr} : SemE PG h (Instr.loadAt T_sl_api_Note (.pointer (some a))) = cellH h a := loadAt_cell T_sl_api_Note.und rfl
theorem T_sl_api_Note.put {h : PH} {r o : Nat} {cs : List Value} {v : Value} {k : Value → PH → Prop} (H : Bx h r cs) (ho : o < cs.length) (hv : isCell v = true) (hk : ∀ h', Bx h' r (cs.set o v) → Upd [r] h h' → k undef h') : SemH PG (storeS T_sl_api_Note (.pointer (some ⟨r, o, none⟩)) v) h k := H.put1 T_sl_api_Note.und rfl T_sl_api_Note.info T_sl_api_Note.size ho hv hk
theorem T_map_string_string.und : PG.underlying T_map_string_string = some (TypeDesc.map 9 9) := Tryz.underlying46
theorem T_map_string_string.load {h : PH} {a : Addr} : SemE PG h (Instr.loadAt T_map_string_string (.pointer (some a))) = cellH h a := loadAt_cell T_map_string_string.und rfl
theorem T_chain_ledger.f0 {b o : Nat} : SemP PG (Instr.fieldAt T_chain_ledger (.pointer (some ⟨b, o, none⟩)) 0) = some (.pointer (some ⟨b, o, none⟩)) := by kernel_rfl
theorem T_chain_ledger.f1 {b o : Nat} : SemP PG (Instr.fieldAt T_chain_ledger (.pointer (some ⟨b, o, none⟩)) 1) = some (.pointer (some ⟨b, o + 1, none⟩)) := by kernel_rfl
theorem T_chain_ledger.f2 {b o : Nat} : SemP PG (Instr.fieldAt T_chain_ledger (.pointer (some ⟨b, o, none⟩)) 2) = some (.pointer (some ⟨b, o + 2, none⟩)) := by kernel_rfl
theorem T_chain_ledger.f3 {b o : Nat} : SemP PG (Instr.fieldAt T_chain_ledger (.pointer (some ⟨b, o, none⟩)) 3) = some (.pointer (some ⟨b, o + 3, none⟩)) := by kernel_rfl
theorem T_chain_ledger.f4 {b o : Nat} : SemP PG (Instr.fieldAt T_chain_ledger (.pointer (some ⟨b, o, none⟩)) 4) = some (.pointer (some ⟨b, o + 4, none⟩)) := by kernel_rfl
theorem T_p_client_Client.und : PG.underlying T_p_client_Client = some (TypeDesc.pointer 206) := Tryz.underlying49
theorem T_p_client_Client.load {h : PH} {a : Addr} : SemE PG h (Instr.loadAt T_p_client_Client (.pointer (some a))) = cellH h a := loadAt_cell T_p_client_Client.und rfl
theorem T_chain_Chain.f0 {b o : Nat} : SemP PG (Instr.fieldAt T_chain_Chain (.pointer (some ⟨b, o, none⟩)) 0) = some (.pointer (some ⟨b, o, none⟩)) := by kernel_rfl
theorem T_chain_Chain.f1 {b o : Nat} : SemP PG (Instr.fieldAt T_chain_Chain (.pointer (some ⟨b, o, none⟩)) 1) = some (.pointer (some ⟨b, o + 5, none⟩)) := by kernel_rfl
theorem T_chain_Chain.f2 {b o : Nat} : SemP PG (Instr.fieldAt T_chain_Chain (.pointer (some ⟨b, o, none⟩)) 2) = some (.pointer (some ⟨b, o + 6, none⟩)) := by kernel_rfl
theorem T_chain_Chain.f3 {b o : Nat} : SemP PG (Instr.fieldAt T_chain_Chain (.pointer (some ⟨b, o, none⟩)) 3) = some (.pointer (some ⟨b, o + 7, none⟩)) := by kernel_rfl
theorem T_sl_uint32.und : PG.underlying T_sl_uint32 = some (TypeDesc.slice 216) := Tryz.underlying52
theorem T_api_Errno.und : PG.underlying T_api_Errno = some (TypeDesc.int IntKind.i64) := Tryz.underlying67
theorem T_api_Errno.info : PG.info? T_api_Errno = some Tryz.t67 := by kernel_rfl
theorem T_api_Errno.size : Tryz.t67.size = 1 := rfl
theorem T_api_Errno.load {h : PH} {a : Addr} : SemE PG h (Instr.loadAt T_api_Errno (.pointer (some a))) = cellH h a := loadAt_cell T_api_Errno.und rfl
theorem T_api_Place.und : PG.underlying T_api_Place = some (TypeDesc.struct #[{ name := "Height", type := 22, offset := 0, embedded := false, tag := "", pkgPath := "", byteOffset := 0 }, { name := "Index", type := 3, offset := 1, embedded := false, tag := "", pkgPath := "", byteOffset := 8 }]) := Tryz.underlying79
theorem T_api_Place.info : PG.info? T_api_Place = some Tryz.t79 := by kernel_rfl
theorem T_api_Place.size : Tryz.t79.size = 2 := rfl
theorem T_api_Place.zbox {h : PH} {r : Nat} : Bx (h.set r (.cells (zcells PG T_api_Place) T_api_Place)) r ((Value.agg #[Value.int IntKind.u64 0, Value.int IntKind.i64 0])).cells.toList := Bx.zero (by kernel_rfl)
theorem T_api_Place.zc : zcells PG T_api_Place = ((Value.agg #[Value.int IntKind.u64 0, Value.int IntKind.i64 0])).cells := by kernel_rfl
theorem T_api_Place.agg {h : PH} {r o : Nat} {cs : List Value} (H : Bx h r cs) (hle : o + 2 ≤ cs.length) : SemE PG h (Instr.loadAt T_api_Place (.pointer (some ⟨r, o, none⟩))) = some (.agg ((cs.drop o).take 2).toArray) := H.agg T_api_Place.und rfl T_api_Place.info T_api_Place.size hle
theorem T_api_Place.put {h : PH} {r o : Nat} {cs vs : List Value} {k : Value → PH → Prop} (H : Bx h r cs) (hl : vs.length = 2) (ho : o + 2 ≤ cs.length) (hv : ∀ v ∈ vs, isCell v = true) (hk : ∀ h', Bx h' r (cs.take o ++ vs ++ cs.drop (o + 2)) → Upd [r] h h' → k undef h') : SemH PG (storeS T_api_Place (.pointer (some ⟨r, o, none⟩)) (.agg vs.toArray)) h k := H.putN T_api_Place.info (by rw [hl]; rfl) (by omega) (by omega) hv (by rw [hl]; exact hk)
theorem T_api_Place.fill {h : PH} {r : Nat} {vs : List Value} {k : Value → PH → Prop} (hr : h r = none) (hl : vs.length = 2) (hv : ∀ v ∈ vs, isCell v = true) (hk : ∀ h', Bx h' r vs → Ext h h' → k undef h') : SemH PG (storeS T_api_Place (.pointer (some ⟨r, 0, none⟩)) (.agg vs.toArray)) (h.set r (.cells (zcells PG T_api_Place) T_api_Place)) k := Bx.fill hr T_api_Place.info (by rw [hl]; rfl) (by omega) (by rw [T_api_Place.zc, hl]; rfl) hv hk
theorem T_api_Place.f0 {b o : Nat} : SemP PG (Instr.fieldAt T_api_Place (.pointer (some ⟨b, o, none⟩)) 0) = some (.pointer (some ⟨b, o, none⟩)) := by kernel_rfl
theorem T_api_Place.f1 {b o : Nat} : SemP PG (Instr.fieldAt T_api_Place (.pointer (some ⟨b, o, none⟩)) 1) = some (.pointer (some ⟨b, o + 1, none⟩)) := by kernel_rfl
theorem T_api_Note.und : PG.underlying T_api_Note = some (TypeDesc.struct #[{ name := "Kind", type := 3, offset := 0, embedded := false, tag := "", pkgPath := "", byteOffset := 0 }, { name := "Packet", type := 32, offset := 1, embedded := false, tag := "", pkgPath := "", byteOffset := 8 }]) := Tryz.underlying84
theorem T_api_Note.info : PG.info? T_api_Note = some Tryz.t84 := by kernel_rfl
theorem T_api_Note.size : Tryz.t84.size = 5 := rfl
theorem T_api_Note.bytes : Tryz.t84.bytes = 48 := rfl
theorem T_api_Note.zero : Tryz.t84.zero = some (Value.agg #[Value.int IntKind.i64 0, Value.int IntKind.i64 0, Value.int IntKind.u64 0, Value.int IntKind.u64 0, Value.string { data := #[] }]) := rfl
theorem T_api_Note.f0 {b o : Nat} : SemP PG (Instr.fieldAt T_api_Note (.pointer (some ⟨b, o, none⟩)) 0) = some (.pointer (some ⟨b, o, none⟩)) := by kernel_rfl
theorem T_api_Note.f1 {b o : Nat} : SemP PG (Instr.fieldAt T_api_Note (.pointer (some ⟨b, o, none⟩)) 1) = some (.pointer (some ⟨b, o + 1, none⟩)) := by kernel_rfl
theorem T_sl_api_Pair.und : PG.underlying T_sl_api_Pair = some (TypeDesc.slice 133) := Tryz.underlying90
theorem T_sl_api_Pair.load {h : PH} {a : Addr} : SemE PG h (Instr.loadAt T_sl_api_Pair (.pointer (some a))) = cellH h a := loadAt_cell T_sl_api_Pair.und rfl
theorem T_sl_uint64.und : PG.underlying T_sl_uint64 = some (TypeDesc.slice 22) := Tryz.underlying92
theorem T_sl_uint64.info : PG.info? T_sl_uint64 = some Tryz.t92 := by kernel_rfl
theorem T_sl_uint64.size : Tryz.t92.size = 1 := rfl
theorem T_sl_uint64.load {h : PH} {a : Addr} : SemE PG h (Instr.loadAt T_sl_uint64 (.pointer (some a))) = cellH h a := loadAt_cell T_sl_uint64.und rfl
theorem T_sl_store_block.und : PG.underlying T_sl_store_block = some (TypeDesc.slice 120) := Tryz.underlying114
theorem T_sl_store_block.info : PG.info? T_sl_store_block = some Tryz.t114 := by kernel_rfl
theorem T_sl_store_block.size : Tryz.t114.size = 1 := rfl
theorem T_sl_store_block.load {h : PH} {a : Addr} : SemE PG h (Instr.loadAt T_sl_store_block (.pointer (some a))) = cellH h a := loadAt_cell T_sl_store_block.und rfl
theorem T_store_Store.f0 {b o : Nat} : SemP PG (Instr.fieldAt T_store_Store (.pointer (some ⟨b, o, none⟩)) 0) = some (.pointer (some ⟨b, o, none⟩)) := by kernel_rfl
theorem T_store_Store.f1 {b o : Nat} : SemP PG (Instr.fieldAt T_store_Store (.pointer (some ⟨b, o, none⟩)) 1) = some (.pointer (some ⟨b, o + 1, none⟩)) := by kernel_rfl
theorem T_store_Store.f2 {b o : Nat} : SemP PG (Instr.fieldAt T_store_Store (.pointer (some ⟨b, o, none⟩)) 2) = some (.pointer (some ⟨b, o + 2, none⟩)) := by kernel_rfl
theorem T_store_sorted.und : PG.underlying T_store_sorted = some (TypeDesc.struct #[{ name := "l", type := 90, offset := 0, embedded := false, tag := "", pkgPath := "carrack/store", byteOffset := 0 }]) := Tryz.underlying118
theorem T_store_sorted.info : PG.info? T_store_sorted = some Tryz.t118 := by kernel_rfl
theorem T_store_sorted.size : Tryz.t118.size = 1 := rfl
theorem T_store_sorted.loadAgg {h : PH} {b o : Nat} {c : Array Value} {e : TypeId} {fr : Nat × Nat} (hb : h b = some (.cells c e fr)) (hle : o + 1 ≤ c.size) : SemE PG h (Instr.loadAt T_store_sorted (.pointer (some ⟨b, o, none⟩))) = some (.agg (c.extract o (o + 1))) := loadAt_agg T_store_sorted.und rfl T_store_sorted.info T_store_sorted.size hb hle
theorem T_store_sorted.f0 {b o : Nat} : SemP PG (Instr.fieldAt T_store_sorted (.pointer (some ⟨b, o, none⟩)) 0) = some (.pointer (some ⟨b, o, none⟩)) := by kernel_rfl
theorem T_store_block.und : PG.underlying T_store_block = some (TypeDesc.struct #[{ name := "sorted", type := 118, offset := 0, embedded := true, tag := "", pkgPath := "carrack/store", byteOffset := 0 }, { name := "root", type := 9, offset := 1, embedded := false, tag := "", pkgPath := "carrack/store", byteOffset := 24 }]) := Tryz.underlying120
theorem T_store_block.info : PG.info? T_store_block = some Tryz.t120 := by kernel_rfl
theorem T_store_block.size : Tryz.t120.size = 2 := rfl
theorem T_store_block.bytes : Tryz.t120.bytes = 40 := rfl
theorem T_store_block.zero : Tryz.t120.zero = some (Value.agg #[Value.slice none 0 0, Value.string { data := #[] }]) := rfl
theorem T_store_block.zc : zcells PG T_store_block = ((Value.agg #[Value.slice none 0 0, Value.string { data := #[] }])).cells := by kernel_rfl
theorem T_store_block.loadAgg {h : PH} {b o : Nat} {c : Array Value} {e : TypeId} {fr : Nat × Nat} (hb : h b = some (.cells c e fr)) (hle : o + 2 ≤ c.size) : SemE PG h (Instr.loadAt T_store_block (.pointer (some ⟨b, o, none⟩))) = some (.agg (c.extract o (o + 2))) := loadAt_agg T_store_block.und rfl T_store_block.info T_store_block.size hb hle
theorem T_store_block.f0 {b o : Nat} : SemP PG (Instr.fieldAt T_store_block (.pointer (some ⟨b, o, none⟩)) 0) = some (.pointer (some ⟨b, o, none⟩)) := by kernel_rfl
theorem T_store_block.f1 {b o : Nat} : SemP PG (Instr.fieldAt T_store_block (.pointer (some ⟨b, o, none⟩)) 1) = some (.pointer (some ⟨b, o + 1, none⟩)) := by kernel_rfl
theorem T_sl_api_Leaf.und : PG.underlying T_sl_api_Leaf = some (TypeDesc.slice 136) := Tryz.underlying125
theorem T_sl_api_Leaf.info : PG.info? T_sl_api_Leaf = some Tryz.t125 := by kernel_rfl
theorem T_sl_api_Leaf.size : Tryz.t125.size = 1 := rfl
theorem T_sl_api_Leaf.load {h : PH} {a : Addr} : SemE PG h (Instr.loadAt T_sl_api_Leaf (.pointer (some a))) = cellH h a := loadAt_cell T_sl_api_Leaf.und rfl
theorem T_sl_api_Leaf.put {h : PH} {r o : Nat} {cs : List Value} {v : Value} {k : Value → PH → Prop} (H : Bx h r cs) (ho : o < cs.length) (hv : isCell v = true) (hk : ∀ h', Bx h' r (cs.set o v) → Upd [r] h h' → k undef h') : SemH PG (storeS T_sl_api_Leaf (.pointer (some ⟨r, o, none⟩)) v) h k := H.put1 T_sl_api_Leaf.und rfl T_sl_api_Leaf.info T_sl_api_Leaf.size ho hv hk
theorem T_api_Proof.und : PG.underlying T_api_Proof = some (TypeDesc.struct #[{ name := "Absent", type := 4, offset := 0, embedded := false, tag := "", pkgPath := "", byteOffset := 0 }, { name := "Leaves", type := 125, offset := 1, embedded := false, tag := "", pkgPath := "", byteOffset := 8 }]) := Tryz.underlying127
theorem T_api_Proof.info : PG.info? T_api_Proof = some Tryz.t127 := by kernel_rfl
theorem T_api_Proof.size : Tryz.t127.size = 2 := rfl
theorem T_api_Proof.zbox {h : PH} {r : Nat} : Bx (h.set r (.cells (zcells PG T_api_Proof) T_api_Proof)) r ((Value.agg #[Value.bool false, Value.slice none 0 0])).cells.toList := Bx.zero (by kernel_rfl)
theorem T_api_Proof.zc : zcells PG T_api_Proof = ((Value.agg #[Value.bool false, Value.slice none 0 0])).cells := by kernel_rfl
theorem T_api_Proof.agg {h : PH} {r o : Nat} {cs : List Value} (H : Bx h r cs) (hle : o + 2 ≤ cs.length) : SemE PG h (Instr.loadAt T_api_Proof (.pointer (some ⟨r, o, none⟩))) = some (.agg ((cs.drop o).take 2).toArray) := H.agg T_api_Proof.und rfl T_api_Proof.info T_api_Proof.size hle
theorem T_api_Proof.put {h : PH} {r o : Nat} {cs vs : List Value} {k : Value → PH → Prop} (H : Bx h r cs) (hl : vs.length = 2) (ho : o + 2 ≤ cs.length) (hv : ∀ v ∈ vs, isCell v = true) (hk : ∀ h', Bx h' r (cs.take o ++ vs ++ cs.drop (o + 2)) → Upd [r] h h' → k undef h') : SemH PG (storeS T_api_Proof (.pointer (some ⟨r, o, none⟩)) (.agg vs.toArray)) h k := H.putN T_api_Proof.info (by rw [hl]; rfl) (by omega) (by omega) hv (by rw [hl]; exact hk)
theorem T_api_Proof.fill {h : PH} {r : Nat} {vs : List Value} {k : Value → PH → Prop} (hr : h r = none) (hl : vs.length = 2) (hv : ∀ v ∈ vs, isCell v = true) (hk : ∀ h', Bx h' r vs → Ext h h' → k undef h') : SemH PG (storeS T_api_Proof (.pointer (some ⟨r, 0, none⟩)) (.agg vs.toArray)) (h.set r (.cells (zcells PG T_api_Proof) T_api_Proof)) k := Bx.fill hr T_api_Proof.info (by rw [hl]; rfl) (by omega) (by rw [T_api_Proof.zc, hl]; rfl) hv hk
theorem T_api_Proof.f0 {b o : Nat} : SemP PG (Instr.fieldAt T_api_Proof (.pointer (some ⟨b, o, none⟩)) 0) = some (.pointer (some ⟨b, o, none⟩)) := by kernel_rfl
theorem T_api_Proof.f1 {b o : Nat} : SemP PG (Instr.fieldAt T_api_Proof (.pointer (some ⟨b, o, none⟩)) 1) = some (.pointer (some ⟨b, o + 1, none⟩)) := by kernel_rfl
theorem T_api_Pair.und : PG.underlying T_api_Pair = some (TypeDesc.struct #[{ name := "Key", type := 9, offset := 0, embedded := false, tag := "", pkgPath := "", byteOffset := 0 }, { name := "Value", type := 9, offset := 1, embedded := false, tag := "", pkgPath := "", byteOffset := 16 }]) := Tryz.underlying133
theorem T_api_Pair.info : PG.info? T_api_Pair = some Tryz.t133 := by kernel_rfl
theorem T_api_Pair.size : Tryz.t133.size = 2 := rfl
theorem T_api_Pair.bytes : Tryz.t133.bytes = 32 := rfl
theorem T_api_Pair.zero : Tryz.t133.zero = some (Value.agg #[Value.string { data := #[] }, Value.string { data := #[] }]) := rfl
theorem T_api_Pair.loadAgg {h : PH} {b o : Nat} {c : Array Value} {e : TypeId} {fr : Nat × Nat} (hb : h b = some (.cells c e fr)) (hle : o + 2 ≤ c.size) : SemE PG h (Instr.loadAt T_api_Pair (.pointer (some ⟨b, o, none⟩))) = some (.agg (c.extract o (o + 2))) := loadAt_agg T_api_Pair.und rfl T_api_Pair.info T_api_Pair.size hb hle
theorem T_api_Pair.agg {h : PH} {r o : Nat} {cs : List Value} (H : Bx h r cs) (hle : o + 2 ≤ cs.length) : SemE PG h (Instr.loadAt T_api_Pair (.pointer (some ⟨r, o, none⟩))) = some (.agg ((cs.drop o).take 2).toArray) := H.agg T_api_Pair.und rfl T_api_Pair.info T_api_Pair.size hle
theorem T_api_Pair.f0 {b o : Nat} : SemP PG (Instr.fieldAt T_api_Pair (.pointer (some ⟨b, o, none⟩)) 0) = some (.pointer (some ⟨b, o, none⟩)) := by kernel_rfl
theorem T_api_Pair.f1 {b o : Nat} : SemP PG (Instr.fieldAt T_api_Pair (.pointer (some ⟨b, o, none⟩)) 1) = some (.pointer (some ⟨b, o + 1, none⟩)) := by kernel_rfl
theorem T_sl_string.und : PG.underlying T_sl_string = some (TypeDesc.slice 9) := Tryz.underlying134
theorem T_sl_string.info : PG.info? T_sl_string = some Tryz.t134 := by kernel_rfl
theorem T_sl_string.size : Tryz.t134.size = 1 := rfl
theorem T_sl_string.zbox {h : PH} {r : Nat} : Bx (h.set r (.cells (zcells PG T_sl_string) T_sl_string)) r ((Value.slice none 0 0)).cells.toList := Bx.zero (by kernel_rfl)
theorem T_sl_string.load {h : PH} {a : Addr} : SemE PG h (Instr.loadAt T_sl_string (.pointer (some a))) = cellH h a := loadAt_cell T_sl_string.und rfl
theorem T_sl_string.put {h : PH} {r o : Nat} {cs : List Value} {v : Value} {k : Value → PH → Prop} (H : Bx h r cs) (ho : o < cs.length) (hv : isCell v = true) (hk : ∀ h', Bx h' r (cs.set o v) → Upd [r] h h' → k undef h') : SemH PG (storeS T_sl_string (.pointer (some ⟨r, o, none⟩)) v) h k := H.put1 T_sl_string.und rfl T_sl_string.info T_sl_string.size ho hv hk
theorem T_api_Leaf.und : PG.underlying T_api_Leaf = some (TypeDesc.struct #[{ name := "Index", type := 3, offset := 0, embedded := false, tag := "", pkgPath := "", byteOffset := 0 }, { name := "Count", type := 3, offset := 1, embedded := false, tag := "", pkgPath := "", byteOffset := 8 }, { name := "Pair", type := 133, offset := 2, embedded := false, tag := "", pkgPath := "", byteOffset := 16 }, { name := "Path", type := 134, offset := 4, embedded := false, tag := "", pkgPath := "", byteOffset := 48 }]) := Tryz.underlying136
theorem T_api_Leaf.info : PG.info? T_api_Leaf = some Tryz.t136 := by kernel_rfl
theorem T_api_Leaf.size : Tryz.t136.size = 5 := rfl
theorem T_api_Leaf.bytes : Tryz.t136.bytes = 72 := rfl
theorem T_api_Leaf.zero : Tryz.t136.zero = some (Value.agg #[Value.int IntKind.i64 0, Value.int IntKind.i64 0, Value.string { data := #[] }, Value.string { data := #[] }, Value.slice none 0 0]) := rfl
theorem T_api_Leaf.zbox {h : PH} {r : Nat} : Bx (h.set r (.cells (zcells PG T_api_Leaf) T_api_Leaf)) r ((Value.agg #[Value.int IntKind.i64 0, Value.int IntKind.i64 0, Value.string { data := #[] }, Value.string { data := #[] }, Value.slice none 0 0])).cells.toList := Bx.zero (by kernel_rfl)
theorem T_api_Leaf.zc : zcells PG T_api_Leaf = ((Value.agg #[Value.int IntKind.i64 0, Value.int IntKind.i64 0, Value.string { data := #[] }, Value.string { data := #[] }, Value.slice none 0 0])).cells := by kernel_rfl
theorem T_api_Leaf.agg {h : PH} {r o : Nat} {cs : List Value} (H : Bx h r cs) (hle : o + 5 ≤ cs.length) : SemE PG h (Instr.loadAt T_api_Leaf (.pointer (some ⟨r, o, none⟩))) = some (.agg ((cs.drop o).take 5).toArray) := H.agg T_api_Leaf.und rfl T_api_Leaf.info T_api_Leaf.size hle
theorem T_api_Leaf.put {h : PH} {r o : Nat} {cs vs : List Value} {k : Value → PH → Prop} (H : Bx h r cs) (hl : vs.length = 5) (ho : o + 5 ≤ cs.length) (hv : ∀ v ∈ vs, isCell v = true) (hk : ∀ h', Bx h' r (cs.take o ++ vs ++ cs.drop (o + 5)) → Upd [r] h h' → k undef h') : SemH PG (storeS T_api_Leaf (.pointer (some ⟨r, o, none⟩)) (.agg vs.toArray)) h k := H.putN T_api_Leaf.info (by rw [hl]; rfl) (by omega) (by omega) hv (by rw [hl]; exact hk)
theorem T_api_Leaf.fill {h : PH} {r : Nat} {vs : List Value} {k : Value → PH → Prop} (hr : h r = none) (hl : vs.length = 5) (hv : ∀ v ∈ vs, isCell v = true) (hk : ∀ h', Bx h' r vs → Ext h h' → k undef h') : SemH PG (storeS T_api_Leaf (.pointer (some ⟨r, 0, none⟩)) (.agg vs.toArray)) (h.set r (.cells (zcells PG T_api_Leaf) T_api_Leaf)) k := Bx.fill hr T_api_Leaf.info (by rw [hl]; rfl) (by omega) (by rw [T_api_Leaf.zc, hl]; rfl) hv hk
theorem T_api_Leaf.f0 {b o : Nat} : SemP PG (Instr.fieldAt T_api_Leaf (.pointer (some ⟨b, o, none⟩)) 0) = some (.pointer (some ⟨b, o, none⟩)) := by kernel_rfl
theorem T_api_Leaf.f1 {b o : Nat} : SemP PG (Instr.fieldAt T_api_Leaf (.pointer (some ⟨b, o, none⟩)) 1) = some (.pointer (some ⟨b, o + 1, none⟩)) := by kernel_rfl
theorem T_api_Leaf.f2 {b o : Nat} : SemP PG (Instr.fieldAt T_api_Leaf (.pointer (some ⟨b, o, none⟩)) 2) = some (.pointer (some ⟨b, o + 2, none⟩)) := by kernel_rfl
theorem T_api_Leaf.f3 {b o : Nat} : SemP PG (Instr.fieldAt T_api_Leaf (.pointer (some ⟨b, o, none⟩)) 3) = some (.pointer (some ⟨b, o + 4, none⟩)) := by kernel_rfl
theorem T_chain_rule.und : PG.underlying T_chain_rule = some (TypeDesc.struct #[{ name := "is", type := 25, offset := 0, embedded := false, tag := "", pkgPath := "carrack/chain", byteOffset := 0 }, { name := "e", type := 67, offset := 1, embedded := false, tag := "", pkgPath := "carrack/chain", byteOffset := 8 }]) := Tryz.underlying147
theorem T_chain_rule.info : PG.info? T_chain_rule = some Tryz.t147 := by kernel_rfl
theorem T_chain_rule.size : Tryz.t147.size = 2 := rfl
theorem T_chain_rule.bytes : Tryz.t147.bytes = 16 := rfl
theorem T_chain_rule.zero : Tryz.t147.zero = some (Value.agg #[Value.nilFunc, Value.int IntKind.i64 0]) := rfl
theorem T_chain_rule.zbox {h : PH} {r : Nat} : Bx (h.set r (.cells (zcells PG T_chain_rule) T_chain_rule)) r ((Value.agg #[Value.nilFunc, Value.int IntKind.i64 0])).cells.toList := Bx.zero (by kernel_rfl)
theorem T_chain_rule.zc : zcells PG T_chain_rule = ((Value.agg #[Value.nilFunc, Value.int IntKind.i64 0])).cells := by kernel_rfl
theorem T_chain_rule.agg {h : PH} {r o : Nat} {cs : List Value} (H : Bx h r cs) (hle : o + 2 ≤ cs.length) : SemE PG h (Instr.loadAt T_chain_rule (.pointer (some ⟨r, o, none⟩))) = some (.agg ((cs.drop o).take 2).toArray) := H.agg T_chain_rule.und rfl T_chain_rule.info T_chain_rule.size hle
theorem T_chain_rule.put {h : PH} {r o : Nat} {cs vs : List Value} {k : Value → PH → Prop} (H : Bx h r cs) (hl : vs.length = 2) (ho : o + 2 ≤ cs.length) (hv : ∀ v ∈ vs, isCell v = true) (hk : ∀ h', Bx h' r (cs.take o ++ vs ++ cs.drop (o + 2)) → Upd [r] h h' → k undef h') : SemH PG (storeS T_chain_rule (.pointer (some ⟨r, o, none⟩)) (.agg vs.toArray)) h k := H.putN T_chain_rule.info (by rw [hl]; rfl) (by omega) (by omega) hv (by rw [hl]; exact hk)
theorem T_chain_rule.fill {h : PH} {r : Nat} {vs : List Value} {k : Value → PH → Prop} (hr : h r = none) (hl : vs.length = 2) (hv : ∀ v ∈ vs, isCell v = true) (hk : ∀ h', Bx h' r vs → Ext h h' → k undef h') : SemH PG (storeS T_chain_rule (.pointer (some ⟨r, 0, none⟩)) (.agg vs.toArray)) (h.set r (.cells (zcells PG T_chain_rule) T_chain_rule)) k := Bx.fill hr T_chain_rule.info (by rw [hl]; rfl) (by omega) (by rw [T_chain_rule.zc, hl]; rfl) hv hk
theorem T_chain_rule.f0 {b o : Nat} : SemP PG (Instr.fieldAt T_chain_rule (.pointer (some ⟨b, o, none⟩)) 0) = some (.pointer (some ⟨b, o, none⟩)) := by kernel_rfl
theorem T_chain_rule.f1 {b o : Nat} : SemP PG (Instr.fieldAt T_chain_rule (.pointer (some ⟨b, o, none⟩)) 1) = some (.pointer (some ⟨b, o + 1, none⟩)) := by kernel_rfl
theorem T_func_string_bool.und : PG.underlying T_func_string_bool = some (TypeDesc.func #[9] #[4] false) := Tryz.underlying159
theorem T_func_string_bool.load {h : PH} {a : Addr} : SemE PG h (Instr.loadAt T_func_string_bool (.pointer (some a))) = cellH h a := loadAt_cell T_func_string_bool.und rfl
theorem T_carrackref12_Client.build0 : SemP PG (Instr.build T_carrackref12_Client #[]) = some (Value.agg #[Value.slice none 0 0]) := by kernel_rfl
theorem T_wire_memory.f0 {b o : Nat} : SemP PG (Instr.fieldAt T_wire_memory (.pointer (some ⟨b, o, none⟩)) 0) = some (.pointer (some ⟨b, o, none⟩)) := by kernel_rfl
theorem T_p_strings_Builder.und : PG.underlying T_p_strings_Builder = some (TypeDesc.pointer 190) := Tryz.underlying187
theorem T_p_strings_Builder.info : PG.info? T_p_strings_Builder = some Tryz.t187 := by kernel_rfl
theorem T_p_strings_Builder.size : Tryz.t187.size = 1 := rfl
theorem T_p_strings_Builder.load {h : PH} {a : Addr} : SemE PG h (Instr.loadAt T_p_strings_Builder (.pointer (some a))) = cellH h a := loadAt_cell T_p_strings_Builder.und rfl
theorem T_sl_uint8.und : PG.underlying T_sl_uint8 = some (TypeDesc.slice 5) := Tryz.underlying188
theorem T_sl_uint8.info : PG.info? T_sl_uint8 = some Tryz.t188 := by kernel_rfl
theorem T_sl_uint8.size : Tryz.t188.size = 1 := rfl
theorem T_sl_uint8.load {h : PH} {a : Addr} : SemE PG h (Instr.loadAt T_sl_uint8 (.pointer (some a))) = cellH h a := loadAt_cell T_sl_uint8.und rfl
theorem T_sl_uint8.len {a : Option Addr} {n c : Nat} {t : TypeId} : SemP PG (Builtin.len_ #[T_sl_uint8] t #[.slice a n c]) = some (.int .i64 n) := len_slice T_sl_uint8.und
theorem T_strings_Builder.info : PG.info? T_strings_Builder = some Tryz.t190 := by kernel_rfl
theorem T_strings_Builder.size : Tryz.t190.size = 2 := rfl
theorem T_strings_Builder.zc : zcells PG T_strings_Builder = ((Value.agg #[Value.pointer none, Value.slice none 0 0])).cells := by kernel_rfl
theorem T_strings_Builder.f0 {b o : Nat} : SemP PG (Instr.fieldAt T_strings_Builder (.pointer (some ⟨b, o, none⟩)) 0) = some (.pointer (some ⟨b, o, none⟩)) := by kernel_rfl
theorem T_strings_Builder.f1 {b o : Nat} : SemP PG (Instr.fieldAt T_strings_Builder (.pointer (some ⟨b, o, none⟩)) 1) = some (.pointer (some ⟨b, o + 1, none⟩)) := by kernel_rfl
theorem T_wire_Writer.zc : zcells PG T_wire_Writer = ((Value.agg #[Value.int IntKind.i64 0, Value.pointer none, Value.slice none 0 0])).cells := by kernel_rfl
theorem T_wire_Writer.f0 {b o : Nat} : SemP PG (Instr.fieldAt T_wire_Writer (.pointer (some ⟨b, o, none⟩)) 0) = some (.pointer (some ⟨b, o, none⟩)) := by kernel_rfl
theorem T_wire_Writer.f1 {b o : Nat} : SemP PG (Instr.fieldAt T_wire_Writer (.pointer (some ⟨b, o, none⟩)) 1) = some (.pointer (some ⟨b, o + 1, none⟩)) := by kernel_rfl
theorem T_map_uint64_string.und : PG.underlying T_map_uint64_string = some (TypeDesc.map 22 9) := Tryz.underlying204
theorem T_map_uint64_string.load {h : PH} {a : Addr} : SemE PG h (Instr.loadAt T_map_uint64_string (.pointer (some a))) = cellH h a := loadAt_cell T_map_uint64_string.und rfl
theorem T_client_Client.f0 {b o : Nat} : SemP PG (Instr.fieldAt T_client_Client (.pointer (some ⟨b, o, none⟩)) 0) = some (.pointer (some ⟨b, o, none⟩)) := by kernel_rfl
theorem T_client_Client.f1 {b o : Nat} : SemP PG (Instr.fieldAt T_client_Client (.pointer (some ⟨b, o, none⟩)) 1) = some (.pointer (some ⟨b, o + 1, none⟩)) := by kernel_rfl
theorem T_sl_chain_rule.und : PG.underlying T_sl_chain_rule = some (TypeDesc.slice 147) := Tryz.underlying211
theorem T_uint32.und : PG.underlying T_uint32 = some (TypeDesc.int IntKind.u32) := Tryz.underlying216
theorem T_uint32.info : PG.info? T_uint32 = some Tryz.t216 := by kernel_rfl
theorem T_uint32.size : Tryz.t216.size = 1 := rfl
theorem T_uint32.bytes : Tryz.t216.bytes = 4 := rfl
theorem T_uint32.zero : Tryz.t216.zero = some (Value.int IntKind.u32 0) := rfl
theorem T_uint32.load {h : PH} {a : Addr} : SemE PG h (Instr.loadAt T_uint32 (.pointer (some a))) = cellH h a := loadAt_cell T_uint32.und rfl
theorem T_sl_int.und : PG.underlying T_sl_int = some (TypeDesc.slice 3) := Tryz.underlying234
theorem T_wire_Reader.f0 {b o : Nat} : SemP PG (Instr.fieldAt T_wire_Reader (.pointer (some ⟨b, o, none⟩)) 0) = some (.pointer (some ⟨b, o, none⟩)) := by kernel_rfl
theorem T_wire_Reader.f1 {b o : Nat} : SemP PG (Instr.fieldAt T_wire_Reader (.pointer (some ⟨b, o, none⟩)) 1) = some (.pointer (some ⟨b, o + 1, none⟩)) := by kernel_rfl
theorem T_func_int_int_string.und : PG.underlying T_func_int_int_string = some (TypeDesc.func #[3, 3] #[9] false) := Tryz.underlying250
theorem T_func_int_int_string.info : PG.info? T_func_int_int_string = some Tryz.t250 := by kernel_rfl
theorem T_func_int_int_string.size : Tryz.t250.size = 1 := rfl
theorem T_func_int_int_string.zc : zcells PG T_func_int_int_string = (Value.nilFunc).cells := by kernel_rfl
theorem T_func_int_int_string.load {h : PH} {a : Addr} : SemE PG h (Instr.loadAt T_func_int_int_string (.pointer (some a))) = cellH h a := loadAt_cell T_func_int_int_string.und rfl
theorem T_func_int_int_string.fill {h : PH} {r : Nat} {v : Value} {k : Value → PH → Prop} (hr : h r = none) (hv : isCell v = true) (hk : ∀ h', Bx h' r [v] → Ext h h' → k undef h') : SemH PG (storeS T_func_int_int_string (.pointer (some ⟨r, 0, none⟩)) v) (h.set r (.cells (zcells PG T_func_int_int_string) T_func_int_int_string)) k := Bx.fill1 hr T_func_int_int_string.und rfl T_func_int_int_string.info T_func_int_int_string.size (by rw [T_func_int_int_string.zc]; rfl) hv hk
theorem T_func_sl_api_Pair_int.und : PG.underlying T_func_sl_api_Pair_int = some (TypeDesc.func #[90, 3] #[] false) := Tryz.underlying278
theorem T_func_sl_api_Pair_int.info : PG.info? T_func_sl_api_Pair_int = some Tryz.t278 := by kernel_rfl
theorem T_func_sl_api_Pair_int.size : Tryz.t278.size = 1 := rfl
theorem T_func_sl_api_Pair_int.zc : zcells PG T_func_sl_api_Pair_int = (Value.nilFunc).cells := by kernel_rfl
theorem T_func_sl_api_Pair_int.load {h : PH} {a : Addr} : SemE PG h (Instr.loadAt T_func_sl_api_Pair_int (.pointer (some a))) = cellH h a := loadAt_cell T_func_sl_api_Pair_int.und rfl
theorem T_func_sl_api_Pair_int.fill {h : PH} {r : Nat} {v : Value} {k : Value → PH → Prop} (hr : h r = none) (hv : isCell v = true) (hk : ∀ h', Bx h' r [v] → Ext h h' → k undef h') : SemH PG (storeS T_func_sl_api_Pair_int (.pointer (some ⟨r, 0, none⟩)) v) (h.set r (.cells (zcells PG T_func_sl_api_Pair_int) T_func_sl_api_Pair_int)) k := Bx.fill1 hr T_func_sl_api_Pair_int.und rfl T_func_sl_api_Pair_int.info T_func_sl_api_Pair_int.size (by rw [T_func_sl_api_Pair_int.zc]; rfl) hv hk
theorem T_unsafe_Pointer.und : PG.underlying T_unsafe_Pointer = some TypeDesc.unsafePointer := Tryz.underlying298
theorem T_8_uint32.und : PG.underlying T_8_uint32 = some (TypeDesc.array 8 216) := Tryz.underlying300
theorem T_8_uint32.info : PG.info? T_8_uint32 = some Tryz.t300 := by kernel_rfl
theorem T_8_uint32.size : Tryz.t300.size = 8 := rfl
theorem T_8_uint32.zc : zcells PG T_8_uint32 = ((Value.agg #[Value.int IntKind.u32 0, Value.int IntKind.u32 0, Value.int IntKind.u32 0, Value.int IntKind.u32 0, Value.int IntKind.u32 0, Value.int IntKind.u32 0, Value.int IntKind.u32 0, Value.int IntKind.u32 0])).cells := by kernel_rfl
theorem T_8_uint32.loadAgg {h : PH} {b o : Nat} {c : Array Value} {e : TypeId} {fr : Nat × Nat} (hb : h b = some (.cells c e fr)) (hle : o + 8 ≤ c.size) : SemE PG h (Instr.loadAt T_8_uint32 (.pointer (some ⟨b, o, none⟩))) = some (.agg (c.extract o (o + 8))) := loadAt_agg T_8_uint32.und rfl T_8_uint32.info T_8_uint32.size hb hle
theorem T_sha_state.und : PG.underlying T_sha_state = some (TypeDesc.struct #[{ name := "h", type := 300, offset := 0, embedded := false, tag := "", pkgPath := "carrack/sha", byteOffset := 0 }]) := Tryz.underlying302
theorem T_sha_state.info : PG.info? T_sha_state = some Tryz.t302 := by kernel_rfl
theorem T_sha_state.size : Tryz.t302.size = 8 := rfl
theorem T_sha_state.zc : zcells PG T_sha_state = ((Value.agg #[Value.int IntKind.u32 0, Value.int IntKind.u32 0, Value.int IntKind.u32 0, Value.int IntKind.u32 0, Value.int IntKind.u32 0, Value.int IntKind.u32 0, Value.int IntKind.u32 0, Value.int IntKind.u32 0])).cells := by kernel_rfl
theorem T_sha_state.loadAgg {h : PH} {b o : Nat} {c : Array Value} {e : TypeId} {fr : Nat × Nat} (hb : h b = some (.cells c e fr)) (hle : o + 8 ≤ c.size) : SemE PG h (Instr.loadAt T_sha_state (.pointer (some ⟨b, o, none⟩))) = some (.agg (c.extract o (o + 8))) := loadAt_agg T_sha_state.und rfl T_sha_state.info T_sha_state.size hb hle
theorem T_sha_state.f0 {b o : Nat} : SemP PG (Instr.fieldAt T_sha_state (.pointer (some ⟨b, o, none⟩)) 0) = some (.pointer (some ⟨b, o, none⟩)) := by kernel_rfl
theorem T_sha_Hash.und : PG.underlying T_sha_Hash = some (TypeDesc.struct #[{ name := "state", type := 302, offset := 0, embedded := true, tag := "", pkgPath := "carrack/sha", byteOffset := 0 }, { name := "rest", type := 9, offset := 8, embedded := false, tag := "", pkgPath := "carrack/sha", byteOffset := 32 }, { name := "n", type := 3, offset := 9, embedded := false, tag := "", pkgPath := "carrack/sha", byteOffset := 48 }]) := Tryz.underlying305
theorem T_sha_Hash.info : PG.info? T_sha_Hash = some Tryz.t305 := by kernel_rfl
theorem T_sha_Hash.size : Tryz.t305.size = 10 := rfl
theorem T_sha_Hash.zc : zcells PG T_sha_Hash = ((Value.agg #[Value.int IntKind.u32 0, Value.int IntKind.u32 0, Value.int IntKind.u32 0, Value.int IntKind.u32 0, Value.int IntKind.u32 0, Value.int IntKind.u32 0, Value.int IntKind.u32 0, Value.int IntKind.u32 0, Value.string { data := #[] }, Value.int IntKind.i64 0])).cells := by kernel_rfl
theorem T_sha_Hash.loadAgg {h : PH} {b o : Nat} {c : Array Value} {e : TypeId} {fr : Nat × Nat} (hb : h b = some (.cells c e fr)) (hle : o + 10 ≤ c.size) : SemE PG h (Instr.loadAt T_sha_Hash (.pointer (some ⟨b, o, none⟩))) = some (.agg (c.extract o (o + 10))) := loadAt_agg T_sha_Hash.und rfl T_sha_Hash.info T_sha_Hash.size hb hle
theorem T_sha_Hash.f0 {b o : Nat} : SemP PG (Instr.fieldAt T_sha_Hash (.pointer (some ⟨b, o, none⟩)) 0) = some (.pointer (some ⟨b, o, none⟩)) := by kernel_rfl
theorem T_sha_Hash.f1 {b o : Nat} : SemP PG (Instr.fieldAt T_sha_Hash (.pointer (some ⟨b, o, none⟩)) 1) = some (.pointer (some ⟨b, o + 8, none⟩)) := by kernel_rfl
theorem T_sha_Hash.f2 {b o : Nat} : SemP PG (Instr.fieldAt T_sha_Hash (.pointer (some ⟨b, o, none⟩)) 2) = some (.pointer (some ⟨b, o + 9, none⟩)) := by kernel_rfl
theorem T_64_uint32.und : PG.underlying T_64_uint32 = some (TypeDesc.array 64 216) := Tryz.underlying314
theorem T_64_uint32.info : PG.info? T_64_uint32 = some Tryz.t314 := by kernel_rfl
theorem T_64_uint32.size : Tryz.t314.size = 64 := rfl
theorem T_64_uint32.zc : zcells PG T_64_uint32 = ((Value.agg #[Value.int IntKind.u32 0, Value.int IntKind.u32 0, Value.int IntKind.u32 0, Value.int IntKind.u32 0, Value.int IntKind.u32 0, Value.int IntKind.u32 0, Value.int IntKind.u32 0, Value.int IntKind.u32 0, Value.int IntKind.u32 0, Value.int IntKind.u32 0, Value.int IntKind.u32 0, Value.int IntKind.u32 0, Value.int IntKind.u32 0, Value.int IntKind.u32 0, Value.int IntKind.u32 0, Value.int IntKind.u32 0, Value.int IntKind.u32 0, Value.int IntKind.u32 0, Value.int IntKind.u32 0, Value.int IntKind.u32 0, Value.int IntKind.u32 0, Value.int IntKind.u32 0, Value.int IntKind.u32 0, Value.int IntKind.u32 0, Value.int IntKind.u32 0, Value.int IntKind.u32 0, Value.int IntKind.u32 0, Value.int IntKind.u32 0, Value.int IntKind.u32 0, Value.int IntKind.u32 0, Value.int IntKind.u32 0, Value.int IntKind.u32 0, Value.int IntKind.u32 0, Value.int IntKind.u32 0, Value.int IntKind.u32 0, Value.int IntKind.u32 0, Value.int IntKind.u32 0, Value.int IntKind.u32 0, Value.int IntKind.u32 0, Value.int IntKind.u32 0, Value.int IntKind.u32 0, Value.int IntKind.u32 0, Value.int IntKind.u32 0, Value.int IntKind.u32 0, Value.int IntKind.u32 0, Value.int IntKind.u32 0, Value.int IntKind.u32 0, Value.int IntKind.u32 0, Value.int IntKind.u32 0, Value.int IntKind.u32 0, Value.int IntKind.u32 0, Value.int IntKind.u32 0, Value.int IntKind.u32 0, Value.int IntKind.u32 0, Value.int IntKind.u32 0, Value.int IntKind.u32 0, Value.int IntKind.u32 0, Value.int IntKind.u32 0, Value.int IntKind.u32 0, Value.int IntKind.u32 0, Value.int IntKind.u32 0, Value.int IntKind.u32 0, Value.int IntKind.u32 0, Value.int IntKind.u32 0])).cells := by kernel_rfl
theorem T_64_uint32.loadAgg {h : PH} {b o : Nat} {c : Array Value} {e : TypeId} {fr : Nat × Nat} (hb : h b = some (.cells c e fr)) (hle : o + 64 ≤ c.size) : SemE PG h (Instr.loadAt T_64_uint32 (.pointer (some ⟨b, o, none⟩))) = some (.agg (c.extract o (o + 64))) := loadAt_agg T_64_uint32.und rfl T_64_uint32.info T_64_uint32.size hb hle
end Go.Proofs.YtcoajnpchhmgjaaGreatDoor
