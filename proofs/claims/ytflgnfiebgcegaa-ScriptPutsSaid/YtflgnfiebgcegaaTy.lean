/- The types that the printed functions use, by program. -/
import Derived.Test.YtflgnfiebgcegaaHMore
import Derived.Test.YtflgnfiebgcegaaChecked
import Derived.KernelRfl
set_option maxRecDepth 100000
set_option linter.unusedVariables false
namespace Go.Proofs.Ytflgnfiebgcegaa
open Go
noncomputable abbrev PG : Program := Try.prog
theorem mix : PG.follows .mixedOrders = true := by kernel_rfl
abbrev id_carracklaw23_ScriptReads : FuncId := 3
abbrev id_carracklaw23_ScriptBack : FuncId := 4
abbrev id_carracklaw23_ScriptPuts : FuncId := 5
abbrev id_carracklaw23_awake : FuncId := 6
abbrev id_script_Config : FuncId := 7
abbrev id_carrackref23_Config : FuncId := 8
abbrev id_carracklaw23_entries : FuncId := 9
abbrev id_script_Entries : FuncId := 10
abbrev id_carrackref23_Entries : FuncId := 11
abbrev id_carracklaw23_few : FuncId := 12
abbrev id_script_Put : FuncId := 13
abbrev id_script_PutConfig : FuncId := 14
abbrev id_carrackref23_Put : FuncId := 15
abbrev id_carrackref23_PutConfig : FuncId := 16
abbrev id_script_Bytes : FuncId := 17
abbrev id_carrackref23_Bytes : FuncId := 18
abbrev id_wire_NewReader : FuncId := 19
abbrev id_wire_Reader_Byte : FuncId := 20
abbrev id_script_getTwo : FuncId := 21
abbrev id_wire_Reader_Number : FuncId := 22
abbrev id_wire_memory_Err : FuncId := 23
abbrev id_wire_Reader_Raw : FuncId := 24
abbrev id_wire_Reader_Left : FuncId := 25
abbrev id_carrackref23_v : FuncId := 26
abbrev id_carrackref23_Same : FuncId := 27
abbrev id_script_forms : FuncId := 28
abbrev id_carrackref23_reader_act : FuncId := 29
abbrev id_script_same : FuncId := 30
abbrev id_script_only : FuncId := 31
abbrev id_wire_Writer_Byte : FuncId := 32
abbrev id_wire_Writer_Bytes : FuncId := 33
abbrev id_script_two : FuncId := 34
abbrev id_wire_Writer_Number : FuncId := 35
abbrev id_carrackref23_rest : FuncId := 36
abbrev id_carrackref23_num : FuncId := 37
abbrev id_carrackref23_fits : FuncId := 38
abbrev id_carrackref03_Bytes : FuncId := 39
abbrev id_carrackref23_text : FuncId := 40
abbrev id_wire_Reader_get : FuncId := 41
abbrev id_wire_memory_Fail : FuncId := 42
abbrev id_carrackref03_Value : FuncId := 43
abbrev id_script_forms_1 : FuncId := 44
abbrev id_script_forms_2 : FuncId := 45
abbrev id_script_forms_3 : FuncId := 46
abbrev id_script_forms_4 : FuncId := 47
abbrev id_script_send : FuncId := 48
abbrev id_script_number : FuncId := 49
abbrev id_script_forge : FuncId := 50
abbrev id_script_crash : FuncId := 51
abbrev id_carrackref23_reader_one : FuncId := 52
abbrev id_carrackref23_reader_number : FuncId := 53
abbrev id_carrackref23_reader_text : FuncId := 54
abbrev id_carrackref23_reader_two : FuncId := 55
abbrev id_slices_Equal_sl_api_Write_api_Write : FuncId := 56
abbrev id_wire_Writer_put : FuncId := 57
abbrev id_strings_Builder_String : FuncId := 58
abbrev id_script_send_1 : FuncId := 59
abbrev id_wire_Writer_Text : FuncId := 60
abbrev id_script_send_2 : FuncId := 61
abbrev id_wire_Reader_Text : FuncId := 62
abbrev id_script_number_1 : FuncId := 63
abbrev id_script_number_2 : FuncId := 64
abbrev id_script_forge_1 : FuncId := 65
abbrev id_script_forge_2 : FuncId := 66
abbrev id_script_crash_1 : FuncId := 67
abbrev id_script_crash_2 : FuncId := 68
abbrev id_carrackref03_Reader_Do : FuncId := 69
abbrev id_strings_Builder_WriteByte : FuncId := 70
abbrev id_wire_Writer_Raw : FuncId := 71
abbrev id_carrackref03_Reader_take : FuncId := 72
abbrev id_strings_Builder_copyCheck : FuncId := 73
abbrev id_strings_Builder_WriteString : FuncId := 74
abbrev id_internal_abi_NoEscape : FuncId := 75
abbrev T_int : TypeId := 3
abbrev T_bool : TypeId := 4
abbrev T_uint8 : TypeId := 5
abbrev T_string : TypeId := 9
abbrev T_uint64 : TypeId := 23
abbrev T_2_uint64 : TypeId := 24
abbrev T_api_Config : TypeId := 26
abbrev T_api_Errno : TypeId := 27
abbrev T_sl_script_Entry : TypeId := 33
abbrev T_sl_carrackref23_Entry : TypeId := 35
abbrev T_sl_api_Act : TypeId := 38
abbrev T_api_Packet : TypeId := 41
abbrev T_api_Message : TypeId := 43
abbrev T_sl_api_Write : TypeId := 44
abbrev T_api_Act : TypeId := 46
abbrev T_carrackref23_Entry : TypeId := 50
abbrev T_sl_api_Reply : TypeId := 53
abbrev T_sl_api_Errno : TypeId := 54
abbrev T_api_Reply : TypeId := 56
abbrev T_script_Entry : TypeId := 64
abbrev T_p_uint64 : TypeId := 69
abbrev T_4_p_uint64 : TypeId := 70
abbrev T_wire_memory : TypeId := 74
abbrev T_wire_Reader : TypeId := 76
abbrev T_funcwire_Writer_api_Act : TypeId := 80
abbrev T_funcwire_Reader_p_api_Act : TypeId := 81
abbrev T_script_form : TypeId := 83
abbrev T_9_script_form : TypeId := 84
abbrev T_p_carrackref03_Reader : TypeId := 87
abbrev T_carrackref03_Reader : TypeId := 89
abbrev T_carrackref23_reader : TypeId := 91
abbrev T_p_strings_Builder : TypeId := 94
abbrev T_sl_uint8 : TypeId := 95
abbrev T_strings_Builder : TypeId := 97
abbrev T_wire_Writer : TypeId := 99
abbrev T_4_uint64 : TypeId := 104
abbrev T_api_Write : TypeId := 111
abbrev T_carrackref03_Call : TypeId := 125
abbrev T_p_uint8 : TypeId := 129
abbrev T_unsafe_Pointer : TypeId := 134
theorem T_int.und : PG.underlying T_int = some (TypeDesc.int IntKind.i64) := Try.underlying3
theorem T_int.info : PG.info? T_int = some Try.t3 := by kernel_rfl
theorem T_int.size : Try.t3.size = 1 := rfl
theorem T_int.bytes : Try.t3.bytes = 8 := rfl
theorem T_int.zero : Try.t3.zero = some (Value.int IntKind.i64 0) := rfl
theorem T_int.zc : zcells PG T_int = ((Value.int IntKind.i64 0)).cells := by kernel_rfl
theorem T_int.load {h : PH} {a : Addr} : SemE PG h (Instr.loadAt T_int (.pointer (some a))) = cellH h a := loadAt_cell T_int.und rfl
theorem T_bool.und : PG.underlying T_bool = some TypeDesc.bool := Try.underlying4
theorem T_bool.info : PG.info? T_bool = some Try.t4 := by kernel_rfl
theorem T_bool.size : Try.t4.size = 1 := rfl
theorem T_bool.bytes : Try.t4.bytes = 1 := rfl
theorem T_bool.zero : Try.t4.zero = some (Value.bool false) := rfl
theorem T_bool.zc : zcells PG T_bool = ((Value.bool false)).cells := by kernel_rfl
theorem T_bool.load {h : PH} {a : Addr} : SemE PG h (Instr.loadAt T_bool (.pointer (some a))) = cellH h a := loadAt_cell T_bool.und rfl
theorem T_uint8.und : PG.underlying T_uint8 = some (TypeDesc.int IntKind.u8) := Try.underlying5
theorem T_uint8.info : PG.info? T_uint8 = some Try.t5 := by kernel_rfl
theorem T_uint8.size : Try.t5.size = 1 := rfl
theorem T_uint8.bytes : Try.t5.bytes = 1 := rfl
theorem T_uint8.zero : Try.t5.zero = some (Value.int IntKind.u8 0) := rfl
theorem T_uint8.zc : zcells PG T_uint8 = ((Value.int IntKind.u8 0)).cells := by kernel_rfl
theorem T_uint8.load {h : PH} {a : Addr} : SemE PG h (Instr.loadAt T_uint8 (.pointer (some a))) = cellH h a := loadAt_cell T_uint8.und rfl
theorem T_string.und : PG.underlying T_string = some TypeDesc.string := Try.underlying9
theorem T_string.info : PG.info? T_string = some Try.t9 := by kernel_rfl
theorem T_string.size : Try.t9.size = 1 := rfl
theorem T_string.bytes : Try.t9.bytes = 16 := rfl
theorem T_string.zero : Try.t9.zero = some (Value.string { data := #[] }) := rfl
theorem T_string.zc : zcells PG T_string = ((Value.string { data := #[] })).cells := by kernel_rfl
theorem T_string.load {h : PH} {a : Addr} : SemE PG h (Instr.loadAt T_string (.pointer (some a))) = cellH h a := loadAt_cell T_string.und rfl
theorem T_string.len {s : ByteArray} {t : TypeId} : SemP PG (Builtin.len_ #[T_string] t #[.string s]) = some (.int .i64 s.size) := len_string T_string.und
theorem T_uint64.und : PG.underlying T_uint64 = some (TypeDesc.int IntKind.u64) := Try.underlying23
theorem T_uint64.info : PG.info? T_uint64 = some Try.t23 := by kernel_rfl
theorem T_uint64.size : Try.t23.size = 1 := rfl
theorem T_uint64.bytes : Try.t23.bytes = 8 := rfl
theorem T_uint64.zero : Try.t23.zero = some (Value.int IntKind.u64 0) := rfl
theorem T_uint64.zc : zcells PG T_uint64 = ((Value.int IntKind.u64 0)).cells := by kernel_rfl
theorem T_uint64.load {h : PH} {a : Addr} : SemE PG h (Instr.loadAt T_uint64 (.pointer (some a))) = cellH h a := loadAt_cell T_uint64.und rfl
theorem T_2_uint64.und : PG.underlying T_2_uint64 = some (TypeDesc.array 2 23) := Try.underlying24
theorem T_2_uint64.info : PG.info? T_2_uint64 = some Try.t24 := by kernel_rfl
theorem T_2_uint64.size : Try.t24.size = 2 := rfl
theorem T_2_uint64.bytes : Try.t24.bytes = 16 := rfl
theorem T_2_uint64.zero : Try.t24.zero = some (Value.agg #[Value.int IntKind.u64 0, Value.int IntKind.u64 0]) := rfl
theorem T_2_uint64.zc : zcells PG T_2_uint64 = ((Value.agg #[Value.int IntKind.u64 0, Value.int IntKind.u64 0])).cells := by kernel_rfl
theorem T_2_uint64.loadAgg {h : PH} {b o : Nat} {c : Array Value} {e : TypeId} {fr : Nat × Nat} (hb : h b = some (.cells c e fr)) (hle : o + 2 ≤ c.size) : SemE PG h (Instr.loadAt T_2_uint64 (.pointer (some ⟨b, o, none⟩))) = some (.agg (c.extract o (o + 2))) := loadAt_agg T_2_uint64.und rfl T_2_uint64.info T_2_uint64.size hb hle
theorem T_api_Config.und : PG.underlying T_api_Config = some (TypeDesc.struct #[{ name := "Sector", type := 3, offset := 0, embedded := false, tag := "", pkgPath := "", byteOffset := 0 }, { name := "Sectors", type := 3, offset := 1, embedded := false, tag := "", pkgPath := "", byteOffset := 8 }, { name := "Table", type := 3, offset := 2, embedded := false, tag := "", pkgPath := "", byteOffset := 16 }, { name := "Batch", type := 3, offset := 3, embedded := false, tag := "", pkgPath := "", byteOffset := 24 }, { name := "Scan", type := 3, offset := 4, embedded := false, tag := "", pkgPath := "", byteOffset := 32 }, { name := "Heights", type := 24, offset := 5, embedded := false, tag := "", pkgPath := "", byteOffset := 40 }, { name := "Seqs", type := 24, offset := 7, embedded := false, tag := "", pkgPath := "", byteOffset := 56 }]) := Try.underlying26
theorem T_api_Config.info : PG.info? T_api_Config = some Try.t26 := by kernel_rfl
theorem T_api_Config.size : Try.t26.size = 9 := rfl
theorem T_api_Config.bytes : Try.t26.bytes = 72 := rfl
theorem T_api_Config.zero : Try.t26.zero = some (Value.agg #[Value.int IntKind.i64 0, Value.int IntKind.i64 0, Value.int IntKind.i64 0, Value.int IntKind.i64 0, Value.int IntKind.i64 0, Value.int IntKind.u64 0, Value.int IntKind.u64 0, Value.int IntKind.u64 0, Value.int IntKind.u64 0]) := rfl
theorem T_api_Config.zc : zcells PG T_api_Config = ((Value.agg #[Value.int IntKind.i64 0, Value.int IntKind.i64 0, Value.int IntKind.i64 0, Value.int IntKind.i64 0, Value.int IntKind.i64 0, Value.int IntKind.u64 0, Value.int IntKind.u64 0, Value.int IntKind.u64 0, Value.int IntKind.u64 0])).cells := by kernel_rfl
theorem T_api_Config.loadAgg {h : PH} {b o : Nat} {c : Array Value} {e : TypeId} {fr : Nat × Nat} (hb : h b = some (.cells c e fr)) (hle : o + 9 ≤ c.size) : SemE PG h (Instr.loadAt T_api_Config (.pointer (some ⟨b, o, none⟩))) = some (.agg (c.extract o (o + 9))) := loadAt_agg T_api_Config.und rfl T_api_Config.info T_api_Config.size hb hle
theorem T_api_Config.f0 {b o : Nat} : SemP PG (Instr.fieldAt T_api_Config (.pointer (some ⟨b, o, none⟩)) 0) = some (.pointer (some ⟨b, o, none⟩)) := by kernel_rfl
theorem T_api_Config.f1 {b o : Nat} : SemP PG (Instr.fieldAt T_api_Config (.pointer (some ⟨b, o, none⟩)) 1) = some (.pointer (some ⟨b, o + 1, none⟩)) := by kernel_rfl
theorem T_api_Config.f2 {b o : Nat} : SemP PG (Instr.fieldAt T_api_Config (.pointer (some ⟨b, o, none⟩)) 2) = some (.pointer (some ⟨b, o + 2, none⟩)) := by kernel_rfl
theorem T_api_Config.f3 {b o : Nat} : SemP PG (Instr.fieldAt T_api_Config (.pointer (some ⟨b, o, none⟩)) 3) = some (.pointer (some ⟨b, o + 3, none⟩)) := by kernel_rfl
theorem T_api_Config.f4 {b o : Nat} : SemP PG (Instr.fieldAt T_api_Config (.pointer (some ⟨b, o, none⟩)) 4) = some (.pointer (some ⟨b, o + 4, none⟩)) := by kernel_rfl
theorem T_api_Config.f5 {b o : Nat} : SemP PG (Instr.fieldAt T_api_Config (.pointer (some ⟨b, o, none⟩)) 5) = some (.pointer (some ⟨b, o + 5, none⟩)) := by kernel_rfl
theorem T_api_Config.f6 {b o : Nat} : SemP PG (Instr.fieldAt T_api_Config (.pointer (some ⟨b, o, none⟩)) 6) = some (.pointer (some ⟨b, o + 7, none⟩)) := by kernel_rfl
theorem T_api_Config.build0 : SemP PG (Instr.build T_api_Config #[]) = some (Value.agg #[Value.int IntKind.i64 0, Value.int IntKind.i64 0, Value.int IntKind.i64 0, Value.int IntKind.i64 0, Value.int IntKind.i64 0, Value.int IntKind.u64 0, Value.int IntKind.u64 0, Value.int IntKind.u64 0, Value.int IntKind.u64 0]) := by kernel_rfl
theorem T_api_Errno.und : PG.underlying T_api_Errno = some (TypeDesc.int IntKind.i64) := Try.underlying27
theorem T_api_Errno.info : PG.info? T_api_Errno = some Try.t27 := by kernel_rfl
theorem T_api_Errno.size : Try.t27.size = 1 := rfl
theorem T_api_Errno.bytes : Try.t27.bytes = 8 := rfl
theorem T_api_Errno.zero : Try.t27.zero = some (Value.int IntKind.i64 0) := rfl
theorem T_api_Errno.zc : zcells PG T_api_Errno = ((Value.int IntKind.i64 0)).cells := by kernel_rfl
theorem T_api_Errno.load {h : PH} {a : Addr} : SemE PG h (Instr.loadAt T_api_Errno (.pointer (some a))) = cellH h a := loadAt_cell T_api_Errno.und rfl
theorem T_sl_script_Entry.und : PG.underlying T_sl_script_Entry = some (TypeDesc.slice 64) := Try.underlying33
theorem T_sl_script_Entry.info : PG.info? T_sl_script_Entry = some Try.t33 := by kernel_rfl
theorem T_sl_script_Entry.size : Try.t33.size = 1 := rfl
theorem T_sl_script_Entry.bytes : Try.t33.bytes = 24 := rfl
theorem T_sl_script_Entry.zero : Try.t33.zero = some (Value.slice none 0 0) := rfl
theorem T_sl_script_Entry.zc : zcells PG T_sl_script_Entry = ((Value.slice none 0 0)).cells := by kernel_rfl
theorem T_sl_script_Entry.load {h : PH} {a : Addr} : SemE PG h (Instr.loadAt T_sl_script_Entry (.pointer (some a))) = cellH h a := loadAt_cell T_sl_script_Entry.und rfl
theorem T_sl_script_Entry.len {a : Option Addr} {n c : Nat} {t : TypeId} : SemP PG (Builtin.len_ #[T_sl_script_Entry] t #[.slice a n c]) = some (.int .i64 n) := len_slice T_sl_script_Entry.und
theorem T_sl_carrackref23_Entry.und : PG.underlying T_sl_carrackref23_Entry = some (TypeDesc.slice 50) := Try.underlying35
theorem T_sl_carrackref23_Entry.info : PG.info? T_sl_carrackref23_Entry = some Try.t35 := by kernel_rfl
theorem T_sl_carrackref23_Entry.size : Try.t35.size = 1 := rfl
theorem T_sl_carrackref23_Entry.bytes : Try.t35.bytes = 24 := rfl
theorem T_sl_carrackref23_Entry.zero : Try.t35.zero = some (Value.slice none 0 0) := rfl
theorem T_sl_carrackref23_Entry.zc : zcells PG T_sl_carrackref23_Entry = ((Value.slice none 0 0)).cells := by kernel_rfl
theorem T_sl_carrackref23_Entry.load {h : PH} {a : Addr} : SemE PG h (Instr.loadAt T_sl_carrackref23_Entry (.pointer (some a))) = cellH h a := loadAt_cell T_sl_carrackref23_Entry.und rfl
theorem T_sl_carrackref23_Entry.len {a : Option Addr} {n c : Nat} {t : TypeId} : SemP PG (Builtin.len_ #[T_sl_carrackref23_Entry] t #[.slice a n c]) = some (.int .i64 n) := len_slice T_sl_carrackref23_Entry.und
theorem T_sl_api_Act.und : PG.underlying T_sl_api_Act = some (TypeDesc.slice 46) := Try.underlying38
theorem T_sl_api_Act.info : PG.info? T_sl_api_Act = some Try.t38 := by kernel_rfl
theorem T_sl_api_Act.size : Try.t38.size = 1 := rfl
theorem T_sl_api_Act.bytes : Try.t38.bytes = 24 := rfl
theorem T_sl_api_Act.zero : Try.t38.zero = some (Value.slice none 0 0) := rfl
theorem T_sl_api_Act.zc : zcells PG T_sl_api_Act = ((Value.slice none 0 0)).cells := by kernel_rfl
theorem T_sl_api_Act.load {h : PH} {a : Addr} : SemE PG h (Instr.loadAt T_sl_api_Act (.pointer (some a))) = cellH h a := loadAt_cell T_sl_api_Act.und rfl
theorem T_sl_api_Act.len {a : Option Addr} {n c : Nat} {t : TypeId} : SemP PG (Builtin.len_ #[T_sl_api_Act] t #[.slice a n c]) = some (.int .i64 n) := len_slice T_sl_api_Act.und
theorem T_api_Packet.und : PG.underlying T_api_Packet = some (TypeDesc.struct #[{ name := "From", type := 3, offset := 0, embedded := false, tag := "", pkgPath := "", byteOffset := 0 }, { name := "Seq", type := 23, offset := 1, embedded := false, tag := "", pkgPath := "", byteOffset := 8 }, { name := "Timeout", type := 23, offset := 2, embedded := false, tag := "", pkgPath := "", byteOffset := 16 }, { name := "Data", type := 9, offset := 3, embedded := false, tag := "", pkgPath := "", byteOffset := 24 }]) := Try.underlying41
theorem T_api_Packet.info : PG.info? T_api_Packet = some Try.t41 := by kernel_rfl
theorem T_api_Packet.size : Try.t41.size = 4 := rfl
theorem T_api_Packet.bytes : Try.t41.bytes = 40 := rfl
theorem T_api_Packet.zero : Try.t41.zero = some (Value.agg #[Value.int IntKind.i64 0, Value.int IntKind.u64 0, Value.int IntKind.u64 0, Value.string { data := #[] }]) := rfl
theorem T_api_Packet.zc : zcells PG T_api_Packet = ((Value.agg #[Value.int IntKind.i64 0, Value.int IntKind.u64 0, Value.int IntKind.u64 0, Value.string { data := #[] }])).cells := by kernel_rfl
theorem T_api_Packet.loadAgg {h : PH} {b o : Nat} {c : Array Value} {e : TypeId} {fr : Nat × Nat} (hb : h b = some (.cells c e fr)) (hle : o + 4 ≤ c.size) : SemE PG h (Instr.loadAt T_api_Packet (.pointer (some ⟨b, o, none⟩))) = some (.agg (c.extract o (o + 4))) := loadAt_agg T_api_Packet.und rfl T_api_Packet.info T_api_Packet.size hb hle
theorem T_api_Packet.f0 {b o : Nat} : SemP PG (Instr.fieldAt T_api_Packet (.pointer (some ⟨b, o, none⟩)) 0) = some (.pointer (some ⟨b, o, none⟩)) := by kernel_rfl
theorem T_api_Packet.f1 {b o : Nat} : SemP PG (Instr.fieldAt T_api_Packet (.pointer (some ⟨b, o, none⟩)) 1) = some (.pointer (some ⟨b, o + 1, none⟩)) := by kernel_rfl
theorem T_api_Packet.f2 {b o : Nat} : SemP PG (Instr.fieldAt T_api_Packet (.pointer (some ⟨b, o, none⟩)) 2) = some (.pointer (some ⟨b, o + 2, none⟩)) := by kernel_rfl
theorem T_api_Packet.f3 {b o : Nat} : SemP PG (Instr.fieldAt T_api_Packet (.pointer (some ⟨b, o, none⟩)) 3) = some (.pointer (some ⟨b, o + 3, none⟩)) := by kernel_rfl
theorem T_api_Packet.build0 : SemP PG (Instr.build T_api_Packet #[]) = some (Value.agg #[Value.int IntKind.i64 0, Value.int IntKind.u64 0, Value.int IntKind.u64 0, Value.string { data := #[] }]) := by kernel_rfl
theorem T_api_Message.und : PG.underlying T_api_Message = some (TypeDesc.struct #[{ name := "Kind", type := 3, offset := 0, embedded := false, tag := "", pkgPath := "", byteOffset := 0 }, { name := "To", type := 3, offset := 1, embedded := false, tag := "", pkgPath := "", byteOffset := 8 }, { name := "Height", type := 23, offset := 2, embedded := false, tag := "", pkgPath := "", byteOffset := 16 }, { name := "Packet", type := 41, offset := 3, embedded := false, tag := "", pkgPath := "", byteOffset := 24 }, { name := "Proof", type := 9, offset := 7, embedded := false, tag := "", pkgPath := "", byteOffset := 64 }]) := Try.underlying43
theorem T_api_Message.info : PG.info? T_api_Message = some Try.t43 := by kernel_rfl
theorem T_api_Message.size : Try.t43.size = 8 := rfl
theorem T_api_Message.bytes : Try.t43.bytes = 80 := rfl
theorem T_api_Message.zero : Try.t43.zero = some (Value.agg #[Value.int IntKind.i64 0, Value.int IntKind.i64 0, Value.int IntKind.u64 0, Value.int IntKind.i64 0, Value.int IntKind.u64 0, Value.int IntKind.u64 0, Value.string { data := #[] }, Value.string { data := #[] }]) := rfl
theorem T_api_Message.zc : zcells PG T_api_Message = ((Value.agg #[Value.int IntKind.i64 0, Value.int IntKind.i64 0, Value.int IntKind.u64 0, Value.int IntKind.i64 0, Value.int IntKind.u64 0, Value.int IntKind.u64 0, Value.string { data := #[] }, Value.string { data := #[] }])).cells := by kernel_rfl
theorem T_api_Message.loadAgg {h : PH} {b o : Nat} {c : Array Value} {e : TypeId} {fr : Nat × Nat} (hb : h b = some (.cells c e fr)) (hle : o + 8 ≤ c.size) : SemE PG h (Instr.loadAt T_api_Message (.pointer (some ⟨b, o, none⟩))) = some (.agg (c.extract o (o + 8))) := loadAt_agg T_api_Message.und rfl T_api_Message.info T_api_Message.size hb hle
theorem T_api_Message.f0 {b o : Nat} : SemP PG (Instr.fieldAt T_api_Message (.pointer (some ⟨b, o, none⟩)) 0) = some (.pointer (some ⟨b, o, none⟩)) := by kernel_rfl
theorem T_api_Message.f1 {b o : Nat} : SemP PG (Instr.fieldAt T_api_Message (.pointer (some ⟨b, o, none⟩)) 1) = some (.pointer (some ⟨b, o + 1, none⟩)) := by kernel_rfl
theorem T_api_Message.f2 {b o : Nat} : SemP PG (Instr.fieldAt T_api_Message (.pointer (some ⟨b, o, none⟩)) 2) = some (.pointer (some ⟨b, o + 2, none⟩)) := by kernel_rfl
theorem T_api_Message.f3 {b o : Nat} : SemP PG (Instr.fieldAt T_api_Message (.pointer (some ⟨b, o, none⟩)) 3) = some (.pointer (some ⟨b, o + 3, none⟩)) := by kernel_rfl
theorem T_api_Message.f4 {b o : Nat} : SemP PG (Instr.fieldAt T_api_Message (.pointer (some ⟨b, o, none⟩)) 4) = some (.pointer (some ⟨b, o + 7, none⟩)) := by kernel_rfl
theorem T_api_Message.build0 : SemP PG (Instr.build T_api_Message #[]) = some (Value.agg #[Value.int IntKind.i64 0, Value.int IntKind.i64 0, Value.int IntKind.u64 0, Value.int IntKind.i64 0, Value.int IntKind.u64 0, Value.int IntKind.u64 0, Value.string { data := #[] }, Value.string { data := #[] }]) := by kernel_rfl
theorem T_sl_api_Write.und : PG.underlying T_sl_api_Write = some (TypeDesc.slice 111) := Try.underlying44
theorem T_sl_api_Write.info : PG.info? T_sl_api_Write = some Try.t44 := by kernel_rfl
theorem T_sl_api_Write.size : Try.t44.size = 1 := rfl
theorem T_sl_api_Write.bytes : Try.t44.bytes = 24 := rfl
theorem T_sl_api_Write.zero : Try.t44.zero = some (Value.slice none 0 0) := rfl
theorem T_sl_api_Write.zc : zcells PG T_sl_api_Write = ((Value.slice none 0 0)).cells := by kernel_rfl
theorem T_sl_api_Write.load {h : PH} {a : Addr} : SemE PG h (Instr.loadAt T_sl_api_Write (.pointer (some a))) = cellH h a := loadAt_cell T_sl_api_Write.und rfl
theorem T_sl_api_Write.len {a : Option Addr} {n c : Nat} {t : TypeId} : SemP PG (Builtin.len_ #[T_sl_api_Write] t #[.slice a n c]) = some (.int .i64 n) := len_slice T_sl_api_Write.und
theorem T_api_Act.und : PG.underlying T_api_Act = some (TypeDesc.struct #[{ name := "Kind", type := 3, offset := 0, embedded := false, tag := "", pkgPath := "", byteOffset := 0 }, { name := "Chain", type := 3, offset := 1, embedded := false, tag := "", pkgPath := "", byteOffset := 8 }, { name := "Timeout", type := 23, offset := 2, embedded := false, tag := "", pkgPath := "", byteOffset := 16 }, { name := "Data", type := 9, offset := 3, embedded := false, tag := "", pkgPath := "", byteOffset := 24 }, { name := "N", type := 3, offset := 4, embedded := false, tag := "", pkgPath := "", byteOffset := 40 }, { name := "Message", type := 43, offset := 5, embedded := false, tag := "", pkgPath := "", byteOffset := 48 }, { name := "Writes", type := 44, offset := 13, embedded := false, tag := "", pkgPath := "", byteOffset := 128 }]) := Try.underlying46
theorem T_api_Act.info : PG.info? T_api_Act = some Try.t46 := by kernel_rfl
theorem T_api_Act.size : Try.t46.size = 14 := rfl
theorem T_api_Act.bytes : Try.t46.bytes = 152 := rfl
theorem T_api_Act.zero : Try.t46.zero = some (Value.agg #[Value.int IntKind.i64 0, Value.int IntKind.i64 0, Value.int IntKind.u64 0, Value.string { data := #[] }, Value.int IntKind.i64 0, Value.int IntKind.i64 0, Value.int IntKind.i64 0, Value.int IntKind.u64 0, Value.int IntKind.i64 0, Value.int IntKind.u64 0, Value.int IntKind.u64 0, Value.string { data := #[] }, Value.string { data := #[] }, Value.slice none 0 0]) := rfl
theorem T_api_Act.zc : zcells PG T_api_Act = ((Value.agg #[Value.int IntKind.i64 0, Value.int IntKind.i64 0, Value.int IntKind.u64 0, Value.string { data := #[] }, Value.int IntKind.i64 0, Value.int IntKind.i64 0, Value.int IntKind.i64 0, Value.int IntKind.u64 0, Value.int IntKind.i64 0, Value.int IntKind.u64 0, Value.int IntKind.u64 0, Value.string { data := #[] }, Value.string { data := #[] }, Value.slice none 0 0])).cells := by kernel_rfl
theorem T_api_Act.loadAgg {h : PH} {b o : Nat} {c : Array Value} {e : TypeId} {fr : Nat × Nat} (hb : h b = some (.cells c e fr)) (hle : o + 14 ≤ c.size) : SemE PG h (Instr.loadAt T_api_Act (.pointer (some ⟨b, o, none⟩))) = some (.agg (c.extract o (o + 14))) := loadAt_agg T_api_Act.und rfl T_api_Act.info T_api_Act.size hb hle
theorem T_api_Act.f0 {b o : Nat} : SemP PG (Instr.fieldAt T_api_Act (.pointer (some ⟨b, o, none⟩)) 0) = some (.pointer (some ⟨b, o, none⟩)) := by kernel_rfl
theorem T_api_Act.f1 {b o : Nat} : SemP PG (Instr.fieldAt T_api_Act (.pointer (some ⟨b, o, none⟩)) 1) = some (.pointer (some ⟨b, o + 1, none⟩)) := by kernel_rfl
theorem T_api_Act.f2 {b o : Nat} : SemP PG (Instr.fieldAt T_api_Act (.pointer (some ⟨b, o, none⟩)) 2) = some (.pointer (some ⟨b, o + 2, none⟩)) := by kernel_rfl
theorem T_api_Act.f3 {b o : Nat} : SemP PG (Instr.fieldAt T_api_Act (.pointer (some ⟨b, o, none⟩)) 3) = some (.pointer (some ⟨b, o + 3, none⟩)) := by kernel_rfl
theorem T_api_Act.f4 {b o : Nat} : SemP PG (Instr.fieldAt T_api_Act (.pointer (some ⟨b, o, none⟩)) 4) = some (.pointer (some ⟨b, o + 4, none⟩)) := by kernel_rfl
theorem T_api_Act.f5 {b o : Nat} : SemP PG (Instr.fieldAt T_api_Act (.pointer (some ⟨b, o, none⟩)) 5) = some (.pointer (some ⟨b, o + 5, none⟩)) := by kernel_rfl
theorem T_api_Act.f6 {b o : Nat} : SemP PG (Instr.fieldAt T_api_Act (.pointer (some ⟨b, o, none⟩)) 6) = some (.pointer (some ⟨b, o + 13, none⟩)) := by kernel_rfl
theorem T_api_Act.build0 : SemP PG (Instr.build T_api_Act #[]) = some (Value.agg #[Value.int IntKind.i64 0, Value.int IntKind.i64 0, Value.int IntKind.u64 0, Value.string { data := #[] }, Value.int IntKind.i64 0, Value.int IntKind.i64 0, Value.int IntKind.i64 0, Value.int IntKind.u64 0, Value.int IntKind.i64 0, Value.int IntKind.u64 0, Value.int IntKind.u64 0, Value.string { data := #[] }, Value.string { data := #[] }, Value.slice none 0 0]) := by kernel_rfl
theorem T_carrackref23_Entry.und : PG.underlying T_carrackref23_Entry = some (TypeDesc.struct #[{ name := "Act", type := 46, offset := 0, embedded := false, tag := "", pkgPath := "", byteOffset := 0 }, { name := "Err", type := 3, offset := 14, embedded := false, tag := "", pkgPath := "", byteOffset := 152 }]) := Try.underlying50
theorem T_carrackref23_Entry.info : PG.info? T_carrackref23_Entry = some Try.t50 := by kernel_rfl
theorem T_carrackref23_Entry.size : Try.t50.size = 15 := rfl
theorem T_carrackref23_Entry.bytes : Try.t50.bytes = 160 := rfl
theorem T_carrackref23_Entry.zero : Try.t50.zero = some (Value.agg #[Value.int IntKind.i64 0, Value.int IntKind.i64 0, Value.int IntKind.u64 0, Value.string { data := #[] }, Value.int IntKind.i64 0, Value.int IntKind.i64 0, Value.int IntKind.i64 0, Value.int IntKind.u64 0, Value.int IntKind.i64 0, Value.int IntKind.u64 0, Value.int IntKind.u64 0, Value.string { data := #[] }, Value.string { data := #[] }, Value.slice none 0 0, Value.int IntKind.i64 0]) := rfl
theorem T_carrackref23_Entry.zc : zcells PG T_carrackref23_Entry = ((Value.agg #[Value.int IntKind.i64 0, Value.int IntKind.i64 0, Value.int IntKind.u64 0, Value.string { data := #[] }, Value.int IntKind.i64 0, Value.int IntKind.i64 0, Value.int IntKind.i64 0, Value.int IntKind.u64 0, Value.int IntKind.i64 0, Value.int IntKind.u64 0, Value.int IntKind.u64 0, Value.string { data := #[] }, Value.string { data := #[] }, Value.slice none 0 0, Value.int IntKind.i64 0])).cells := by kernel_rfl
theorem T_carrackref23_Entry.loadAgg {h : PH} {b o : Nat} {c : Array Value} {e : TypeId} {fr : Nat × Nat} (hb : h b = some (.cells c e fr)) (hle : o + 15 ≤ c.size) : SemE PG h (Instr.loadAt T_carrackref23_Entry (.pointer (some ⟨b, o, none⟩))) = some (.agg (c.extract o (o + 15))) := loadAt_agg T_carrackref23_Entry.und rfl T_carrackref23_Entry.info T_carrackref23_Entry.size hb hle
theorem T_carrackref23_Entry.f0 {b o : Nat} : SemP PG (Instr.fieldAt T_carrackref23_Entry (.pointer (some ⟨b, o, none⟩)) 0) = some (.pointer (some ⟨b, o, none⟩)) := by kernel_rfl
theorem T_carrackref23_Entry.f1 {b o : Nat} : SemP PG (Instr.fieldAt T_carrackref23_Entry (.pointer (some ⟨b, o, none⟩)) 1) = some (.pointer (some ⟨b, o + 14, none⟩)) := by kernel_rfl
theorem T_carrackref23_Entry.build0 : SemP PG (Instr.build T_carrackref23_Entry #[]) = some (Value.agg #[Value.int IntKind.i64 0, Value.int IntKind.i64 0, Value.int IntKind.u64 0, Value.string { data := #[] }, Value.int IntKind.i64 0, Value.int IntKind.i64 0, Value.int IntKind.i64 0, Value.int IntKind.u64 0, Value.int IntKind.i64 0, Value.int IntKind.u64 0, Value.int IntKind.u64 0, Value.string { data := #[] }, Value.string { data := #[] }, Value.slice none 0 0, Value.int IntKind.i64 0]) := by kernel_rfl
theorem T_sl_api_Reply.und : PG.underlying T_sl_api_Reply = some (TypeDesc.slice 56) := Try.underlying53
theorem T_sl_api_Reply.info : PG.info? T_sl_api_Reply = some Try.t53 := by kernel_rfl
theorem T_sl_api_Reply.size : Try.t53.size = 1 := rfl
theorem T_sl_api_Reply.bytes : Try.t53.bytes = 24 := rfl
theorem T_sl_api_Reply.zero : Try.t53.zero = some (Value.slice none 0 0) := rfl
theorem T_sl_api_Reply.zc : zcells PG T_sl_api_Reply = ((Value.slice none 0 0)).cells := by kernel_rfl
theorem T_sl_api_Reply.load {h : PH} {a : Addr} : SemE PG h (Instr.loadAt T_sl_api_Reply (.pointer (some a))) = cellH h a := loadAt_cell T_sl_api_Reply.und rfl
theorem T_sl_api_Reply.len {a : Option Addr} {n c : Nat} {t : TypeId} : SemP PG (Builtin.len_ #[T_sl_api_Reply] t #[.slice a n c]) = some (.int .i64 n) := len_slice T_sl_api_Reply.und
theorem T_sl_api_Errno.und : PG.underlying T_sl_api_Errno = some (TypeDesc.slice 27) := Try.underlying54
theorem T_sl_api_Errno.info : PG.info? T_sl_api_Errno = some Try.t54 := by kernel_rfl
theorem T_sl_api_Errno.size : Try.t54.size = 1 := rfl
theorem T_sl_api_Errno.bytes : Try.t54.bytes = 24 := rfl
theorem T_sl_api_Errno.zero : Try.t54.zero = some (Value.slice none 0 0) := rfl
theorem T_sl_api_Errno.zc : zcells PG T_sl_api_Errno = ((Value.slice none 0 0)).cells := by kernel_rfl
theorem T_sl_api_Errno.load {h : PH} {a : Addr} : SemE PG h (Instr.loadAt T_sl_api_Errno (.pointer (some a))) = cellH h a := loadAt_cell T_sl_api_Errno.und rfl
theorem T_sl_api_Errno.len {a : Option Addr} {n c : Nat} {t : TypeId} : SemP PG (Builtin.len_ #[T_sl_api_Errno] t #[.slice a n c]) = some (.int .i64 n) := len_slice T_sl_api_Errno.und
theorem T_api_Reply.und : PG.underlying T_api_Reply = some (TypeDesc.struct #[{ name := "Err", type := 27, offset := 0, embedded := false, tag := "", pkgPath := "", byteOffset := 0 }, { name := "Seq", type := 23, offset := 1, embedded := false, tag := "", pkgPath := "", byteOffset := 8 }, { name := "Count", type := 3, offset := 2, embedded := false, tag := "", pkgPath := "", byteOffset := 16 }, { name := "Codes", type := 54, offset := 3, embedded := false, tag := "", pkgPath := "", byteOffset := 24 }]) := Try.underlying56
theorem T_api_Reply.info : PG.info? T_api_Reply = some Try.t56 := by kernel_rfl
theorem T_api_Reply.size : Try.t56.size = 4 := rfl
theorem T_api_Reply.bytes : Try.t56.bytes = 48 := rfl
theorem T_api_Reply.zero : Try.t56.zero = some (Value.agg #[Value.int IntKind.i64 0, Value.int IntKind.u64 0, Value.int IntKind.i64 0, Value.slice none 0 0]) := rfl
theorem T_api_Reply.zc : zcells PG T_api_Reply = ((Value.agg #[Value.int IntKind.i64 0, Value.int IntKind.u64 0, Value.int IntKind.i64 0, Value.slice none 0 0])).cells := by kernel_rfl
theorem T_api_Reply.loadAgg {h : PH} {b o : Nat} {c : Array Value} {e : TypeId} {fr : Nat × Nat} (hb : h b = some (.cells c e fr)) (hle : o + 4 ≤ c.size) : SemE PG h (Instr.loadAt T_api_Reply (.pointer (some ⟨b, o, none⟩))) = some (.agg (c.extract o (o + 4))) := loadAt_agg T_api_Reply.und rfl T_api_Reply.info T_api_Reply.size hb hle
theorem T_api_Reply.f0 {b o : Nat} : SemP PG (Instr.fieldAt T_api_Reply (.pointer (some ⟨b, o, none⟩)) 0) = some (.pointer (some ⟨b, o, none⟩)) := by kernel_rfl
theorem T_api_Reply.f1 {b o : Nat} : SemP PG (Instr.fieldAt T_api_Reply (.pointer (some ⟨b, o, none⟩)) 1) = some (.pointer (some ⟨b, o + 1, none⟩)) := by kernel_rfl
theorem T_api_Reply.f2 {b o : Nat} : SemP PG (Instr.fieldAt T_api_Reply (.pointer (some ⟨b, o, none⟩)) 2) = some (.pointer (some ⟨b, o + 2, none⟩)) := by kernel_rfl
theorem T_api_Reply.f3 {b o : Nat} : SemP PG (Instr.fieldAt T_api_Reply (.pointer (some ⟨b, o, none⟩)) 3) = some (.pointer (some ⟨b, o + 3, none⟩)) := by kernel_rfl
theorem T_api_Reply.build0 : SemP PG (Instr.build T_api_Reply #[]) = some (Value.agg #[Value.int IntKind.i64 0, Value.int IntKind.u64 0, Value.int IntKind.i64 0, Value.slice none 0 0]) := by kernel_rfl
theorem T_script_Entry.und : PG.underlying T_script_Entry = some (TypeDesc.struct #[{ name := "Act", type := 46, offset := 0, embedded := false, tag := "", pkgPath := "", byteOffset := 0 }, { name := "Err", type := 27, offset := 14, embedded := false, tag := "", pkgPath := "", byteOffset := 152 }]) := Try.underlying64
theorem T_script_Entry.info : PG.info? T_script_Entry = some Try.t64 := by kernel_rfl
theorem T_script_Entry.size : Try.t64.size = 15 := rfl
theorem T_script_Entry.bytes : Try.t64.bytes = 160 := rfl
theorem T_script_Entry.zero : Try.t64.zero = some (Value.agg #[Value.int IntKind.i64 0, Value.int IntKind.i64 0, Value.int IntKind.u64 0, Value.string { data := #[] }, Value.int IntKind.i64 0, Value.int IntKind.i64 0, Value.int IntKind.i64 0, Value.int IntKind.u64 0, Value.int IntKind.i64 0, Value.int IntKind.u64 0, Value.int IntKind.u64 0, Value.string { data := #[] }, Value.string { data := #[] }, Value.slice none 0 0, Value.int IntKind.i64 0]) := rfl
theorem T_script_Entry.zc : zcells PG T_script_Entry = ((Value.agg #[Value.int IntKind.i64 0, Value.int IntKind.i64 0, Value.int IntKind.u64 0, Value.string { data := #[] }, Value.int IntKind.i64 0, Value.int IntKind.i64 0, Value.int IntKind.i64 0, Value.int IntKind.u64 0, Value.int IntKind.i64 0, Value.int IntKind.u64 0, Value.int IntKind.u64 0, Value.string { data := #[] }, Value.string { data := #[] }, Value.slice none 0 0, Value.int IntKind.i64 0])).cells := by kernel_rfl
theorem T_script_Entry.loadAgg {h : PH} {b o : Nat} {c : Array Value} {e : TypeId} {fr : Nat × Nat} (hb : h b = some (.cells c e fr)) (hle : o + 15 ≤ c.size) : SemE PG h (Instr.loadAt T_script_Entry (.pointer (some ⟨b, o, none⟩))) = some (.agg (c.extract o (o + 15))) := loadAt_agg T_script_Entry.und rfl T_script_Entry.info T_script_Entry.size hb hle
theorem T_script_Entry.f0 {b o : Nat} : SemP PG (Instr.fieldAt T_script_Entry (.pointer (some ⟨b, o, none⟩)) 0) = some (.pointer (some ⟨b, o, none⟩)) := by kernel_rfl
theorem T_script_Entry.f1 {b o : Nat} : SemP PG (Instr.fieldAt T_script_Entry (.pointer (some ⟨b, o, none⟩)) 1) = some (.pointer (some ⟨b, o + 14, none⟩)) := by kernel_rfl
theorem T_script_Entry.build0 : SemP PG (Instr.build T_script_Entry #[]) = some (Value.agg #[Value.int IntKind.i64 0, Value.int IntKind.i64 0, Value.int IntKind.u64 0, Value.string { data := #[] }, Value.int IntKind.i64 0, Value.int IntKind.i64 0, Value.int IntKind.i64 0, Value.int IntKind.u64 0, Value.int IntKind.i64 0, Value.int IntKind.u64 0, Value.int IntKind.u64 0, Value.string { data := #[] }, Value.string { data := #[] }, Value.slice none 0 0, Value.int IntKind.i64 0]) := by kernel_rfl
theorem T_p_uint64.und : PG.underlying T_p_uint64 = some (TypeDesc.pointer 23) := Try.underlying69
theorem T_p_uint64.info : PG.info? T_p_uint64 = some Try.t69 := by kernel_rfl
theorem T_p_uint64.size : Try.t69.size = 1 := rfl
theorem T_p_uint64.bytes : Try.t69.bytes = 8 := rfl
theorem T_p_uint64.zero : Try.t69.zero = some (Value.pointer none) := rfl
theorem T_p_uint64.zc : zcells PG T_p_uint64 = ((Value.pointer none)).cells := by kernel_rfl
theorem T_p_uint64.load {h : PH} {a : Addr} : SemE PG h (Instr.loadAt T_p_uint64 (.pointer (some a))) = cellH h a := loadAt_cell T_p_uint64.und rfl
theorem T_4_p_uint64.und : PG.underlying T_4_p_uint64 = some (TypeDesc.array 4 69) := Try.underlying70
theorem T_4_p_uint64.info : PG.info? T_4_p_uint64 = some Try.t70 := by kernel_rfl
theorem T_4_p_uint64.size : Try.t70.size = 4 := rfl
theorem T_4_p_uint64.bytes : Try.t70.bytes = 32 := rfl
theorem T_4_p_uint64.zero : Try.t70.zero = some (Value.agg #[Value.pointer none, Value.pointer none, Value.pointer none, Value.pointer none]) := rfl
theorem T_4_p_uint64.zc : zcells PG T_4_p_uint64 = ((Value.agg #[Value.pointer none, Value.pointer none, Value.pointer none, Value.pointer none])).cells := by kernel_rfl
theorem T_4_p_uint64.loadAgg {h : PH} {b o : Nat} {c : Array Value} {e : TypeId} {fr : Nat × Nat} (hb : h b = some (.cells c e fr)) (hle : o + 4 ≤ c.size) : SemE PG h (Instr.loadAt T_4_p_uint64 (.pointer (some ⟨b, o, none⟩))) = some (.agg (c.extract o (o + 4))) := loadAt_agg T_4_p_uint64.und rfl T_4_p_uint64.info T_4_p_uint64.size hb hle
theorem T_wire_memory.und : PG.underlying T_wire_memory = some (TypeDesc.struct #[{ name := "e", type := 27, offset := 0, embedded := false, tag := "", pkgPath := "carrack/wire", byteOffset := 0 }]) := Try.underlying74
theorem T_wire_memory.info : PG.info? T_wire_memory = some Try.t74 := by kernel_rfl
theorem T_wire_memory.size : Try.t74.size = 1 := rfl
theorem T_wire_memory.bytes : Try.t74.bytes = 8 := rfl
theorem T_wire_memory.zero : Try.t74.zero = some (Value.agg #[Value.int IntKind.i64 0]) := rfl
theorem T_wire_memory.zc : zcells PG T_wire_memory = ((Value.agg #[Value.int IntKind.i64 0])).cells := by kernel_rfl
theorem T_wire_memory.loadAgg {h : PH} {b o : Nat} {c : Array Value} {e : TypeId} {fr : Nat × Nat} (hb : h b = some (.cells c e fr)) (hle : o + 1 ≤ c.size) : SemE PG h (Instr.loadAt T_wire_memory (.pointer (some ⟨b, o, none⟩))) = some (.agg (c.extract o (o + 1))) := loadAt_agg T_wire_memory.und rfl T_wire_memory.info T_wire_memory.size hb hle
theorem T_wire_memory.f0 {b o : Nat} : SemP PG (Instr.fieldAt T_wire_memory (.pointer (some ⟨b, o, none⟩)) 0) = some (.pointer (some ⟨b, o, none⟩)) := by kernel_rfl
theorem T_wire_memory.build0 : SemP PG (Instr.build T_wire_memory #[]) = some (Value.agg #[Value.int IntKind.i64 0]) := by kernel_rfl
theorem T_wire_Reader.und : PG.underlying T_wire_Reader = some (TypeDesc.struct #[{ name := "memory", type := 74, offset := 0, embedded := true, tag := "", pkgPath := "carrack/wire", byteOffset := 0 }, { name := "s", type := 9, offset := 1, embedded := false, tag := "", pkgPath := "carrack/wire", byteOffset := 8 }]) := Try.underlying76
theorem T_wire_Reader.info : PG.info? T_wire_Reader = some Try.t76 := by kernel_rfl
theorem T_wire_Reader.size : Try.t76.size = 2 := rfl
theorem T_wire_Reader.bytes : Try.t76.bytes = 24 := rfl
theorem T_wire_Reader.zero : Try.t76.zero = some (Value.agg #[Value.int IntKind.i64 0, Value.string { data := #[] }]) := rfl
theorem T_wire_Reader.zc : zcells PG T_wire_Reader = ((Value.agg #[Value.int IntKind.i64 0, Value.string { data := #[] }])).cells := by kernel_rfl
theorem T_wire_Reader.loadAgg {h : PH} {b o : Nat} {c : Array Value} {e : TypeId} {fr : Nat × Nat} (hb : h b = some (.cells c e fr)) (hle : o + 2 ≤ c.size) : SemE PG h (Instr.loadAt T_wire_Reader (.pointer (some ⟨b, o, none⟩))) = some (.agg (c.extract o (o + 2))) := loadAt_agg T_wire_Reader.und rfl T_wire_Reader.info T_wire_Reader.size hb hle
theorem T_wire_Reader.f0 {b o : Nat} : SemP PG (Instr.fieldAt T_wire_Reader (.pointer (some ⟨b, o, none⟩)) 0) = some (.pointer (some ⟨b, o, none⟩)) := by kernel_rfl
theorem T_wire_Reader.f1 {b o : Nat} : SemP PG (Instr.fieldAt T_wire_Reader (.pointer (some ⟨b, o, none⟩)) 1) = some (.pointer (some ⟨b, o + 1, none⟩)) := by kernel_rfl
theorem T_wire_Reader.build0 : SemP PG (Instr.build T_wire_Reader #[]) = some (Value.agg #[Value.int IntKind.i64 0, Value.string { data := #[] }]) := by kernel_rfl
theorem T_funcwire_Writer_api_Act.und : PG.underlying T_funcwire_Writer_api_Act = some (TypeDesc.func #[101, 46] #[] false) := Try.underlying80
theorem T_funcwire_Writer_api_Act.info : PG.info? T_funcwire_Writer_api_Act = some Try.t80 := by kernel_rfl
theorem T_funcwire_Writer_api_Act.size : Try.t80.size = 1 := rfl
theorem T_funcwire_Writer_api_Act.bytes : Try.t80.bytes = 8 := rfl
theorem T_funcwire_Writer_api_Act.zero : Try.t80.zero = some Value.nilFunc := rfl
theorem T_funcwire_Writer_api_Act.zc : zcells PG T_funcwire_Writer_api_Act = (Value.nilFunc).cells := by kernel_rfl
theorem T_funcwire_Writer_api_Act.load {h : PH} {a : Addr} : SemE PG h (Instr.loadAt T_funcwire_Writer_api_Act (.pointer (some a))) = cellH h a := loadAt_cell T_funcwire_Writer_api_Act.und rfl
theorem T_funcwire_Reader_p_api_Act.und : PG.underlying T_funcwire_Reader_p_api_Act = some (TypeDesc.func #[65, 86] #[] false) := Try.underlying81
theorem T_funcwire_Reader_p_api_Act.info : PG.info? T_funcwire_Reader_p_api_Act = some Try.t81 := by kernel_rfl
theorem T_funcwire_Reader_p_api_Act.size : Try.t81.size = 1 := rfl
theorem T_funcwire_Reader_p_api_Act.bytes : Try.t81.bytes = 8 := rfl
theorem T_funcwire_Reader_p_api_Act.zero : Try.t81.zero = some Value.nilFunc := rfl
theorem T_funcwire_Reader_p_api_Act.zc : zcells PG T_funcwire_Reader_p_api_Act = (Value.nilFunc).cells := by kernel_rfl
theorem T_funcwire_Reader_p_api_Act.load {h : PH} {a : Addr} : SemE PG h (Instr.loadAt T_funcwire_Reader_p_api_Act (.pointer (some a))) = cellH h a := loadAt_cell T_funcwire_Reader_p_api_Act.und rfl
theorem T_script_form.und : PG.underlying T_script_form = some (TypeDesc.struct #[{ name := "put", type := 80, offset := 0, embedded := false, tag := "", pkgPath := "carrack/script", byteOffset := 0 }, { name := "get", type := 81, offset := 1, embedded := false, tag := "", pkgPath := "carrack/script", byteOffset := 8 }]) := Try.underlying83
theorem T_script_form.info : PG.info? T_script_form = some Try.t83 := by kernel_rfl
theorem T_script_form.size : Try.t83.size = 2 := rfl
theorem T_script_form.bytes : Try.t83.bytes = 16 := rfl
theorem T_script_form.zero : Try.t83.zero = some (Value.agg #[Value.nilFunc, Value.nilFunc]) := rfl
theorem T_script_form.zc : zcells PG T_script_form = ((Value.agg #[Value.nilFunc, Value.nilFunc])).cells := by kernel_rfl
theorem T_script_form.loadAgg {h : PH} {b o : Nat} {c : Array Value} {e : TypeId} {fr : Nat × Nat} (hb : h b = some (.cells c e fr)) (hle : o + 2 ≤ c.size) : SemE PG h (Instr.loadAt T_script_form (.pointer (some ⟨b, o, none⟩))) = some (.agg (c.extract o (o + 2))) := loadAt_agg T_script_form.und rfl T_script_form.info T_script_form.size hb hle
theorem T_script_form.f0 {b o : Nat} : SemP PG (Instr.fieldAt T_script_form (.pointer (some ⟨b, o, none⟩)) 0) = some (.pointer (some ⟨b, o, none⟩)) := by kernel_rfl
theorem T_script_form.f1 {b o : Nat} : SemP PG (Instr.fieldAt T_script_form (.pointer (some ⟨b, o, none⟩)) 1) = some (.pointer (some ⟨b, o + 1, none⟩)) := by kernel_rfl
theorem T_script_form.build0 : SemP PG (Instr.build T_script_form #[]) = some (Value.agg #[Value.nilFunc, Value.nilFunc]) := by kernel_rfl
theorem T_9_script_form.und : PG.underlying T_9_script_form = some (TypeDesc.array 9 83) := Try.underlying84
theorem T_9_script_form.info : PG.info? T_9_script_form = some Try.t84 := by kernel_rfl
theorem T_9_script_form.size : Try.t84.size = 18 := rfl
theorem T_9_script_form.bytes : Try.t84.bytes = 144 := rfl
theorem T_9_script_form.zero : Try.t84.zero = some (Value.agg #[Value.nilFunc, Value.nilFunc, Value.nilFunc, Value.nilFunc, Value.nilFunc, Value.nilFunc, Value.nilFunc, Value.nilFunc, Value.nilFunc, Value.nilFunc, Value.nilFunc, Value.nilFunc, Value.nilFunc, Value.nilFunc, Value.nilFunc, Value.nilFunc, Value.nilFunc, Value.nilFunc]) := rfl
theorem T_9_script_form.zc : zcells PG T_9_script_form = ((Value.agg #[Value.nilFunc, Value.nilFunc, Value.nilFunc, Value.nilFunc, Value.nilFunc, Value.nilFunc, Value.nilFunc, Value.nilFunc, Value.nilFunc, Value.nilFunc, Value.nilFunc, Value.nilFunc, Value.nilFunc, Value.nilFunc, Value.nilFunc, Value.nilFunc, Value.nilFunc, Value.nilFunc])).cells := by kernel_rfl
theorem T_9_script_form.loadAgg {h : PH} {b o : Nat} {c : Array Value} {e : TypeId} {fr : Nat × Nat} (hb : h b = some (.cells c e fr)) (hle : o + 18 ≤ c.size) : SemE PG h (Instr.loadAt T_9_script_form (.pointer (some ⟨b, o, none⟩))) = some (.agg (c.extract o (o + 18))) := loadAt_agg T_9_script_form.und rfl T_9_script_form.info T_9_script_form.size hb hle
theorem T_p_carrackref03_Reader.und : PG.underlying T_p_carrackref03_Reader = some (TypeDesc.pointer 89) := Try.underlying87
theorem T_p_carrackref03_Reader.info : PG.info? T_p_carrackref03_Reader = some Try.t87 := by kernel_rfl
theorem T_p_carrackref03_Reader.size : Try.t87.size = 1 := rfl
theorem T_p_carrackref03_Reader.bytes : Try.t87.bytes = 8 := rfl
theorem T_p_carrackref03_Reader.zero : Try.t87.zero = some (Value.pointer none) := rfl
theorem T_p_carrackref03_Reader.zc : zcells PG T_p_carrackref03_Reader = ((Value.pointer none)).cells := by kernel_rfl
theorem T_p_carrackref03_Reader.load {h : PH} {a : Addr} : SemE PG h (Instr.loadAt T_p_carrackref03_Reader (.pointer (some a))) = cellH h a := loadAt_cell T_p_carrackref03_Reader.und rfl
theorem T_carrackref03_Reader.und : PG.underlying T_carrackref03_Reader = some (TypeDesc.struct #[{ name := "S", type := 9, offset := 0, embedded := false, tag := "", pkgPath := "", byteOffset := 0 }, { name := "At", type := 3, offset := 1, embedded := false, tag := "", pkgPath := "", byteOffset := 16 }, { name := "Err", type := 3, offset := 2, embedded := false, tag := "", pkgPath := "", byteOffset := 24 }]) := Try.underlying89
theorem T_carrackref03_Reader.info : PG.info? T_carrackref03_Reader = some Try.t89 := by kernel_rfl
theorem T_carrackref03_Reader.size : Try.t89.size = 3 := rfl
theorem T_carrackref03_Reader.bytes : Try.t89.bytes = 32 := rfl
theorem T_carrackref03_Reader.zero : Try.t89.zero = some (Value.agg #[Value.string { data := #[] }, Value.int IntKind.i64 0, Value.int IntKind.i64 0]) := rfl
theorem T_carrackref03_Reader.zc : zcells PG T_carrackref03_Reader = ((Value.agg #[Value.string { data := #[] }, Value.int IntKind.i64 0, Value.int IntKind.i64 0])).cells := by kernel_rfl
theorem T_carrackref03_Reader.loadAgg {h : PH} {b o : Nat} {c : Array Value} {e : TypeId} {fr : Nat × Nat} (hb : h b = some (.cells c e fr)) (hle : o + 3 ≤ c.size) : SemE PG h (Instr.loadAt T_carrackref03_Reader (.pointer (some ⟨b, o, none⟩))) = some (.agg (c.extract o (o + 3))) := loadAt_agg T_carrackref03_Reader.und rfl T_carrackref03_Reader.info T_carrackref03_Reader.size hb hle
theorem T_carrackref03_Reader.f0 {b o : Nat} : SemP PG (Instr.fieldAt T_carrackref03_Reader (.pointer (some ⟨b, o, none⟩)) 0) = some (.pointer (some ⟨b, o, none⟩)) := by kernel_rfl
theorem T_carrackref03_Reader.f1 {b o : Nat} : SemP PG (Instr.fieldAt T_carrackref03_Reader (.pointer (some ⟨b, o, none⟩)) 1) = some (.pointer (some ⟨b, o + 1, none⟩)) := by kernel_rfl
theorem T_carrackref03_Reader.f2 {b o : Nat} : SemP PG (Instr.fieldAt T_carrackref03_Reader (.pointer (some ⟨b, o, none⟩)) 2) = some (.pointer (some ⟨b, o + 2, none⟩)) := by kernel_rfl
theorem T_carrackref03_Reader.build0 : SemP PG (Instr.build T_carrackref03_Reader #[]) = some (Value.agg #[Value.string { data := #[] }, Value.int IntKind.i64 0, Value.int IntKind.i64 0]) := by kernel_rfl
theorem T_carrackref23_reader.und : PG.underlying T_carrackref23_reader = some (TypeDesc.struct #[{ name := "r", type := 87, offset := 0, embedded := false, tag := "", pkgPath := "carrack/carrackref23", byteOffset := 0 }]) := Try.underlying91
theorem T_carrackref23_reader.info : PG.info? T_carrackref23_reader = some Try.t91 := by kernel_rfl
theorem T_carrackref23_reader.size : Try.t91.size = 1 := rfl
theorem T_carrackref23_reader.bytes : Try.t91.bytes = 8 := rfl
theorem T_carrackref23_reader.zero : Try.t91.zero = some (Value.agg #[Value.pointer none]) := rfl
theorem T_carrackref23_reader.zc : zcells PG T_carrackref23_reader = ((Value.agg #[Value.pointer none])).cells := by kernel_rfl
theorem T_carrackref23_reader.loadAgg {h : PH} {b o : Nat} {c : Array Value} {e : TypeId} {fr : Nat × Nat} (hb : h b = some (.cells c e fr)) (hle : o + 1 ≤ c.size) : SemE PG h (Instr.loadAt T_carrackref23_reader (.pointer (some ⟨b, o, none⟩))) = some (.agg (c.extract o (o + 1))) := loadAt_agg T_carrackref23_reader.und rfl T_carrackref23_reader.info T_carrackref23_reader.size hb hle
theorem T_carrackref23_reader.f0 {b o : Nat} : SemP PG (Instr.fieldAt T_carrackref23_reader (.pointer (some ⟨b, o, none⟩)) 0) = some (.pointer (some ⟨b, o, none⟩)) := by kernel_rfl
theorem T_carrackref23_reader.build0 : SemP PG (Instr.build T_carrackref23_reader #[]) = some (Value.agg #[Value.pointer none]) := by kernel_rfl
theorem T_p_strings_Builder.und : PG.underlying T_p_strings_Builder = some (TypeDesc.pointer 97) := Try.underlying94
theorem T_p_strings_Builder.info : PG.info? T_p_strings_Builder = some Try.t94 := by kernel_rfl
theorem T_p_strings_Builder.size : Try.t94.size = 1 := rfl
theorem T_p_strings_Builder.bytes : Try.t94.bytes = 8 := rfl
theorem T_p_strings_Builder.zero : Try.t94.zero = some (Value.pointer none) := rfl
theorem T_p_strings_Builder.zc : zcells PG T_p_strings_Builder = ((Value.pointer none)).cells := by kernel_rfl
theorem T_p_strings_Builder.load {h : PH} {a : Addr} : SemE PG h (Instr.loadAt T_p_strings_Builder (.pointer (some a))) = cellH h a := loadAt_cell T_p_strings_Builder.und rfl
theorem T_sl_uint8.und : PG.underlying T_sl_uint8 = some (TypeDesc.slice 5) := Try.underlying95
theorem T_sl_uint8.info : PG.info? T_sl_uint8 = some Try.t95 := by kernel_rfl
theorem T_sl_uint8.size : Try.t95.size = 1 := rfl
theorem T_sl_uint8.bytes : Try.t95.bytes = 24 := rfl
theorem T_sl_uint8.zero : Try.t95.zero = some (Value.slice none 0 0) := rfl
theorem T_sl_uint8.zc : zcells PG T_sl_uint8 = ((Value.slice none 0 0)).cells := by kernel_rfl
theorem T_sl_uint8.load {h : PH} {a : Addr} : SemE PG h (Instr.loadAt T_sl_uint8 (.pointer (some a))) = cellH h a := loadAt_cell T_sl_uint8.und rfl
theorem T_sl_uint8.len {a : Option Addr} {n c : Nat} {t : TypeId} : SemP PG (Builtin.len_ #[T_sl_uint8] t #[.slice a n c]) = some (.int .i64 n) := len_slice T_sl_uint8.und
theorem T_strings_Builder.und : PG.underlying T_strings_Builder = some (TypeDesc.struct #[{ name := "addr", type := 94, offset := 0, embedded := false, tag := "", pkgPath := "strings", byteOffset := 0 }, { name := "buf", type := 95, offset := 1, embedded := false, tag := "", pkgPath := "strings", byteOffset := 8 }]) := Try.underlying97
theorem T_strings_Builder.info : PG.info? T_strings_Builder = some Try.t97 := by kernel_rfl
theorem T_strings_Builder.size : Try.t97.size = 2 := rfl
theorem T_strings_Builder.bytes : Try.t97.bytes = 32 := rfl
theorem T_strings_Builder.zero : Try.t97.zero = some (Value.agg #[Value.pointer none, Value.slice none 0 0]) := rfl
theorem T_strings_Builder.zc : zcells PG T_strings_Builder = ((Value.agg #[Value.pointer none, Value.slice none 0 0])).cells := by kernel_rfl
theorem T_strings_Builder.loadAgg {h : PH} {b o : Nat} {c : Array Value} {e : TypeId} {fr : Nat × Nat} (hb : h b = some (.cells c e fr)) (hle : o + 2 ≤ c.size) : SemE PG h (Instr.loadAt T_strings_Builder (.pointer (some ⟨b, o, none⟩))) = some (.agg (c.extract o (o + 2))) := loadAt_agg T_strings_Builder.und rfl T_strings_Builder.info T_strings_Builder.size hb hle
theorem T_strings_Builder.f0 {b o : Nat} : SemP PG (Instr.fieldAt T_strings_Builder (.pointer (some ⟨b, o, none⟩)) 0) = some (.pointer (some ⟨b, o, none⟩)) := by kernel_rfl
theorem T_strings_Builder.f1 {b o : Nat} : SemP PG (Instr.fieldAt T_strings_Builder (.pointer (some ⟨b, o, none⟩)) 1) = some (.pointer (some ⟨b, o + 1, none⟩)) := by kernel_rfl
theorem T_strings_Builder.build0 : SemP PG (Instr.build T_strings_Builder #[]) = some (Value.agg #[Value.pointer none, Value.slice none 0 0]) := by kernel_rfl
theorem T_wire_Writer.und : PG.underlying T_wire_Writer = some (TypeDesc.struct #[{ name := "m", type := 74, offset := 0, embedded := false, tag := "", pkgPath := "carrack/wire", byteOffset := 0 }, { name := "b", type := 97, offset := 1, embedded := false, tag := "", pkgPath := "carrack/wire", byteOffset := 8 }]) := Try.underlying99
theorem T_wire_Writer.info : PG.info? T_wire_Writer = some Try.t99 := by kernel_rfl
theorem T_wire_Writer.size : Try.t99.size = 3 := rfl
theorem T_wire_Writer.bytes : Try.t99.bytes = 40 := rfl
theorem T_wire_Writer.zero : Try.t99.zero = some (Value.agg #[Value.int IntKind.i64 0, Value.pointer none, Value.slice none 0 0]) := rfl
theorem T_wire_Writer.zc : zcells PG T_wire_Writer = ((Value.agg #[Value.int IntKind.i64 0, Value.pointer none, Value.slice none 0 0])).cells := by kernel_rfl
theorem T_wire_Writer.loadAgg {h : PH} {b o : Nat} {c : Array Value} {e : TypeId} {fr : Nat × Nat} (hb : h b = some (.cells c e fr)) (hle : o + 3 ≤ c.size) : SemE PG h (Instr.loadAt T_wire_Writer (.pointer (some ⟨b, o, none⟩))) = some (.agg (c.extract o (o + 3))) := loadAt_agg T_wire_Writer.und rfl T_wire_Writer.info T_wire_Writer.size hb hle
theorem T_wire_Writer.f0 {b o : Nat} : SemP PG (Instr.fieldAt T_wire_Writer (.pointer (some ⟨b, o, none⟩)) 0) = some (.pointer (some ⟨b, o, none⟩)) := by kernel_rfl
theorem T_wire_Writer.f1 {b o : Nat} : SemP PG (Instr.fieldAt T_wire_Writer (.pointer (some ⟨b, o, none⟩)) 1) = some (.pointer (some ⟨b, o + 1, none⟩)) := by kernel_rfl
theorem T_wire_Writer.build0 : SemP PG (Instr.build T_wire_Writer #[]) = some (Value.agg #[Value.int IntKind.i64 0, Value.pointer none, Value.slice none 0 0]) := by kernel_rfl
theorem T_4_uint64.und : PG.underlying T_4_uint64 = some (TypeDesc.array 4 23) := Try.underlying104
theorem T_4_uint64.info : PG.info? T_4_uint64 = some Try.t104 := by kernel_rfl
theorem T_4_uint64.size : Try.t104.size = 4 := rfl
theorem T_4_uint64.bytes : Try.t104.bytes = 32 := rfl
theorem T_4_uint64.zero : Try.t104.zero = some (Value.agg #[Value.int IntKind.u64 0, Value.int IntKind.u64 0, Value.int IntKind.u64 0, Value.int IntKind.u64 0]) := rfl
theorem T_4_uint64.zc : zcells PG T_4_uint64 = ((Value.agg #[Value.int IntKind.u64 0, Value.int IntKind.u64 0, Value.int IntKind.u64 0, Value.int IntKind.u64 0])).cells := by kernel_rfl
theorem T_4_uint64.loadAgg {h : PH} {b o : Nat} {c : Array Value} {e : TypeId} {fr : Nat × Nat} (hb : h b = some (.cells c e fr)) (hle : o + 4 ≤ c.size) : SemE PG h (Instr.loadAt T_4_uint64 (.pointer (some ⟨b, o, none⟩))) = some (.agg (c.extract o (o + 4))) := loadAt_agg T_4_uint64.und rfl T_4_uint64.info T_4_uint64.size hb hle
theorem T_api_Write.und : PG.underlying T_api_Write = some (TypeDesc.struct #[{ name := "Lasts", type := 4, offset := 0, embedded := false, tag := "", pkgPath := "", byteOffset := 0 }, { name := "Torn", type := 3, offset := 1, embedded := false, tag := "", pkgPath := "", byteOffset := 8 }]) := Try.underlying111
theorem T_api_Write.info : PG.info? T_api_Write = some Try.t111 := by kernel_rfl
theorem T_api_Write.size : Try.t111.size = 2 := rfl
theorem T_api_Write.bytes : Try.t111.bytes = 16 := rfl
theorem T_api_Write.zero : Try.t111.zero = some (Value.agg #[Value.bool false, Value.int IntKind.i64 0]) := rfl
theorem T_api_Write.zc : zcells PG T_api_Write = ((Value.agg #[Value.bool false, Value.int IntKind.i64 0])).cells := by kernel_rfl
theorem T_api_Write.loadAgg {h : PH} {b o : Nat} {c : Array Value} {e : TypeId} {fr : Nat × Nat} (hb : h b = some (.cells c e fr)) (hle : o + 2 ≤ c.size) : SemE PG h (Instr.loadAt T_api_Write (.pointer (some ⟨b, o, none⟩))) = some (.agg (c.extract o (o + 2))) := loadAt_agg T_api_Write.und rfl T_api_Write.info T_api_Write.size hb hle
theorem T_api_Write.f0 {b o : Nat} : SemP PG (Instr.fieldAt T_api_Write (.pointer (some ⟨b, o, none⟩)) 0) = some (.pointer (some ⟨b, o, none⟩)) := by kernel_rfl
theorem T_api_Write.f1 {b o : Nat} : SemP PG (Instr.fieldAt T_api_Write (.pointer (some ⟨b, o, none⟩)) 1) = some (.pointer (some ⟨b, o + 1, none⟩)) := by kernel_rfl
theorem T_api_Write.build0 : SemP PG (Instr.build T_api_Write #[]) = some (Value.agg #[Value.bool false, Value.int IntKind.i64 0]) := by kernel_rfl
theorem T_carrackref03_Call.und : PG.underlying T_carrackref03_Call = some (TypeDesc.struct #[{ name := "Kind", type := 3, offset := 0, embedded := false, tag := "", pkgPath := "", byteOffset := 0 }, { name := "K", type := 3, offset := 1, embedded := false, tag := "", pkgPath := "", byteOffset := 8 }, { name := "N", type := 23, offset := 2, embedded := false, tag := "", pkgPath := "", byteOffset := 16 }, { name := "S", type := 9, offset := 3, embedded := false, tag := "", pkgPath := "", byteOffset := 24 }]) := Try.underlying125
theorem T_carrackref03_Call.info : PG.info? T_carrackref03_Call = some Try.t125 := by kernel_rfl
theorem T_carrackref03_Call.size : Try.t125.size = 4 := rfl
theorem T_carrackref03_Call.bytes : Try.t125.bytes = 40 := rfl
theorem T_carrackref03_Call.zero : Try.t125.zero = some (Value.agg #[Value.int IntKind.i64 0, Value.int IntKind.i64 0, Value.int IntKind.u64 0, Value.string { data := #[] }]) := rfl
theorem T_carrackref03_Call.zc : zcells PG T_carrackref03_Call = ((Value.agg #[Value.int IntKind.i64 0, Value.int IntKind.i64 0, Value.int IntKind.u64 0, Value.string { data := #[] }])).cells := by kernel_rfl
theorem T_carrackref03_Call.loadAgg {h : PH} {b o : Nat} {c : Array Value} {e : TypeId} {fr : Nat × Nat} (hb : h b = some (.cells c e fr)) (hle : o + 4 ≤ c.size) : SemE PG h (Instr.loadAt T_carrackref03_Call (.pointer (some ⟨b, o, none⟩))) = some (.agg (c.extract o (o + 4))) := loadAt_agg T_carrackref03_Call.und rfl T_carrackref03_Call.info T_carrackref03_Call.size hb hle
theorem T_carrackref03_Call.f0 {b o : Nat} : SemP PG (Instr.fieldAt T_carrackref03_Call (.pointer (some ⟨b, o, none⟩)) 0) = some (.pointer (some ⟨b, o, none⟩)) := by kernel_rfl
theorem T_carrackref03_Call.f1 {b o : Nat} : SemP PG (Instr.fieldAt T_carrackref03_Call (.pointer (some ⟨b, o, none⟩)) 1) = some (.pointer (some ⟨b, o + 1, none⟩)) := by kernel_rfl
theorem T_carrackref03_Call.f2 {b o : Nat} : SemP PG (Instr.fieldAt T_carrackref03_Call (.pointer (some ⟨b, o, none⟩)) 2) = some (.pointer (some ⟨b, o + 2, none⟩)) := by kernel_rfl
theorem T_carrackref03_Call.f3 {b o : Nat} : SemP PG (Instr.fieldAt T_carrackref03_Call (.pointer (some ⟨b, o, none⟩)) 3) = some (.pointer (some ⟨b, o + 3, none⟩)) := by kernel_rfl
theorem T_carrackref03_Call.build0 : SemP PG (Instr.build T_carrackref03_Call #[]) = some (Value.agg #[Value.int IntKind.i64 0, Value.int IntKind.i64 0, Value.int IntKind.u64 0, Value.string { data := #[] }]) := by kernel_rfl
theorem T_p_uint8.und : PG.underlying T_p_uint8 = some (TypeDesc.pointer 5) := Try.underlying129
theorem T_p_uint8.info : PG.info? T_p_uint8 = some Try.t129 := by kernel_rfl
theorem T_p_uint8.size : Try.t129.size = 1 := rfl
theorem T_p_uint8.bytes : Try.t129.bytes = 8 := rfl
theorem T_p_uint8.zero : Try.t129.zero = some (Value.pointer none) := rfl
theorem T_p_uint8.zc : zcells PG T_p_uint8 = ((Value.pointer none)).cells := by kernel_rfl
theorem T_p_uint8.load {h : PH} {a : Addr} : SemE PG h (Instr.loadAt T_p_uint8 (.pointer (some a))) = cellH h a := loadAt_cell T_p_uint8.und rfl
theorem T_unsafe_Pointer.und : PG.underlying T_unsafe_Pointer = some TypeDesc.unsafePointer := Try.underlying134
theorem T_unsafe_Pointer.info : PG.info? T_unsafe_Pointer = some Try.t134 := by kernel_rfl
theorem T_unsafe_Pointer.size : Try.t134.size = 1 := rfl
theorem T_unsafe_Pointer.bytes : Try.t134.bytes = 8 := rfl
theorem T_unsafe_Pointer.zero : Try.t134.zero = some (Value.pointer none) := rfl
theorem T_unsafe_Pointer.zc : zcells PG T_unsafe_Pointer = ((Value.pointer none)).cells := by kernel_rfl
theorem T_unsafe_Pointer.load {h : PH} {a : Addr} : SemE PG h (Instr.loadAt T_unsafe_Pointer (.pointer (some a))) = cellH h a := loadAt_cell T_unsafe_Pointer.und rfl
end Go.Proofs.Ytflgnfiebgcegaa
