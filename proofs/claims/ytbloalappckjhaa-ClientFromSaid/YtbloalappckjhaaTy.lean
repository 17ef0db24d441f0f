/- The types that the printed functions use, by program. -/
import Derived.Test.YtbloalappckjhaaHMore
import Derived.Test.YtbloalappckjhaaChecked
import Derived.KernelRfl
set_option maxRecDepth 100000
set_option linter.unusedVariables false
namespace Go.Proofs.Ytbloalappckjhaa
open Go
noncomputable abbrev PG : Program := Try.prog
theorem mix : PG.follows .mixedOrders = true := by kernel_rfl
abbrev id_carracklaw24_BoundTells : FuncId := 3
abbrev id_carracklaw20_NetMoves : FuncId := 4
abbrev id_carracklaw20_NetCounts : FuncId := 5
abbrev id_carracklaw20_NetPlays : FuncId := 6
abbrev id_carracklaw20_NetOrder : FuncId := 7
abbrev id_carracklaw12_ClientPlays : FuncId := 8
abbrev id_carracklaw12_ClientKeeps : FuncId := 9
abbrev id_carracklaw12_ClientOrder : FuncId := 10
abbrev id_carracklaw12_ClientFrom : FuncId := 11
abbrev id_carracklaw24_awake : FuncId := 12
abbrev id_bound_Rounds : FuncId := 13
abbrev id_carrackref24_Rounds : FuncId := 14
abbrev id_carracklaw20_awake : FuncId := 15
abbrev id_net_New : FuncId := 16
abbrev id_net_Net_Send : FuncId := 17
abbrev id_net_Net_List : FuncId := 18
abbrev id_net_Net_Move : FuncId := 19
abbrev id_carrackref19_Same : FuncId := 20
abbrev id_net_Net_Twice : FuncId := 21
abbrev id_carracklaw20_few : FuncId := 22
abbrev id_net_Net_Take : FuncId := 23
abbrev id_carrackref20_Net_Send : FuncId := 24
abbrev id_carrackref20_Net_Take : FuncId := 25
abbrev id_carrackref20_Net_Twice : FuncId := 26
abbrev id_carrackref20_Net_Move : FuncId := 27
abbrev id_net_Net_Len : FuncId := 28
abbrev id_carracklaw12_awake : FuncId := 29
abbrev id_client_New : FuncId := 30
abbrev id_client_Client_Set : FuncId := 31
abbrev id_carrackref12_Client_Set : FuncId := 32
abbrev id_client_Client_Root : FuncId := 33
abbrev id_carrackref12_Client_Root : FuncId := 34
abbrev id_client_Client_From : FuncId := 35
abbrev id_carrackref12_Client_From : FuncId := 36
abbrev id_client_Client_Latest : FuncId := 37
abbrev id_carrackref12_Client_Latest : FuncId := 38
abbrev id_carracklaw12_numbers : FuncId := 39
abbrev id_client_Client_Heights : FuncId := 40
abbrev id_carrackref12_Client_Heights : FuncId := 41
abbrev id_bound_Rounds_1 : FuncId := 42
abbrev id_carracklaw20_one : FuncId := 43
abbrev id_slices_Clone_sl_api_Message_api_Message : FuncId := 44
abbrev id_net_Net_there : FuncId := 45
abbrev id_slices_Delete_sl_api_Message_api_Message : FuncId := 46
abbrev id_client_Client_place : FuncId := 47
abbrev id_slices_Clone_sl_uint64_uint64 : FuncId := 48
abbrev id_sort_Search : FuncId := 49
abbrev id_client_Client_place_1 : FuncId := 50
abbrev T_ : TypeId := 0
abbrev T_int : TypeId := 3
abbrev T_bool : TypeId := 4
abbrev T_uint8 : TypeId := 5
abbrev T_string : TypeId := 9
abbrev T_api_Errno : TypeId := 23
abbrev T_sl_api_Message : TypeId := 29
abbrev T_p_net_Net : TypeId := 30
abbrev T_uint64 : TypeId := 36
abbrev T_api_Packet : TypeId := 38
abbrev T_api_Message : TypeId := 40
abbrev T_sl_carrackref20_Act : TypeId := 43
abbrev T_map_api_Message_bool : TypeId := 45
abbrev T_carrackref20_Act : TypeId := 47
abbrev T_carrackref20_Net : TypeId := 52
abbrev T_sl_carrackref12_Known : TypeId := 59
abbrev T_p_client_Client : TypeId := 60
abbrev T_carrackref12_Client : TypeId := 64
abbrev T_carrackref12_Known : TypeId := 67
abbrev T_sl_uint64 : TypeId := 75
abbrev T_map_uint64_string : TypeId := 78
abbrev T_map_uint64_bool : TypeId := 80
abbrev T_net_Net : TypeId := 84
abbrev T_sl_uint8 : TypeId := 88
abbrev T_client_Client : TypeId := 90
abbrev T_uint : TypeId := 94
theorem T_.und : PG.underlying T_ = some (TypeDesc.tuple #[]) := Try.underlying0
theorem T_.info : PG.info? T_ = some Try.t0 := by kernel_rfl
theorem T_.size : Try.t0.size = 1 := rfl
theorem T_.bytes : Try.t0.bytes = 0 := rfl
theorem T_.zero : Try.t0.zero = some (Value.tuple #[]) := rfl
theorem T_.zc : zcells PG T_ = ((Value.tuple #[])).cells := by kernel_rfl
theorem T_.load {h : PH} {a : Addr} : SemE PG h (Instr.loadAt T_ (.pointer (some a))) = cellH h a := loadAt_cell T_.und rfl
theorem T_int.und : PG.underlying T_int = some (TypeDesc.int IntKind.i64) := Try.underlying3
theorem T_int.info : PG.info? T_int = some Try.t3 := by kernel_rfl
theorem T_int.size : Try.t3.size = 1 := rfl
theorem T_int.bytes : Try.t3.bytes = 8 := rfl
theorem T_int.zero : Try.t3.zero = some (Value.int IntKind.i64 0) := rfl
theorem T_int.zc : zcells PG T_int = ((Value.int IntKind.i64 0)).cells := by kernel_rfl
theorem T_int.load {h : PH} {a : Addr} : SemE PG h (Instr.loadAt T_int (.pointer (some a))) = cellH h a := loadAt_cell T_int.und rfl
theorem T_bool.und : PG.underlying T_bool = some TypeDesc.bool := Try.underlying4
theorem T_bool.info : PG.info? T_bool = some Try.t4 := by kernel_rfl
theorem T_bool.size : Try.t4.size = 1 := rfl
theorem T_bool.bytes : Try.t4.bytes = 1 := rfl
theorem T_bool.zero : Try.t4.zero = some (Value.bool false) := rfl
theorem T_bool.zc : zcells PG T_bool = ((Value.bool false)).cells := by kernel_rfl
theorem T_bool.load {h : PH} {a : Addr} : SemE PG h (Instr.loadAt T_bool (.pointer (some a))) = cellH h a := loadAt_cell T_bool.und rfl
theorem T_uint8.und : PG.underlying T_uint8 = some (TypeDesc.int IntKind.u8) := Try.underlying5
theorem T_uint8.info : PG.info? T_uint8 = some Try.t5 := by kernel_rfl
theorem T_uint8.size : Try.t5.size = 1 := rfl
theorem T_uint8.bytes : Try.t5.bytes = 1 := rfl
theorem T_uint8.zero : Try.t5.zero = some (Value.int IntKind.u8 0) := rfl
theorem T_uint8.zc : zcells PG T_uint8 = ((Value.int IntKind.u8 0)).cells := by kernel_rfl
theorem T_uint8.load {h : PH} {a : Addr} : SemE PG h (Instr.loadAt T_uint8 (.pointer (some a))) = cellH h a := loadAt_cell T_uint8.und rfl
theorem T_string.und : PG.underlying T_string = some TypeDesc.string := Try.underlying9
theorem T_string.info : PG.info? T_string = some Try.t9 := by kernel_rfl
theorem T_string.size : Try.t9.size = 1 := rfl
theorem T_string.bytes : Try.t9.bytes = 16 := rfl
theorem T_string.zero : Try.t9.zero = some (Value.string { data := #[] }) := rfl
theorem T_string.zc : zcells PG T_string = ((Value.string { data := #[] })).cells := by kernel_rfl
theorem T_string.load {h : PH} {a : Addr} : SemE PG h (Instr.loadAt T_string (.pointer (some a))) = cellH h a := loadAt_cell T_string.und rfl
theorem T_string.len {s : ByteArray} {t : TypeId} : SemP PG (Builtin.len_ #[T_string] t #[.string s]) = some (.int .i64 s.size) := len_string T_string.und
theorem T_api_Errno.und : PG.underlying T_api_Errno = some (TypeDesc.int IntKind.i64) := Try.underlying23
theorem T_api_Errno.info : PG.info? T_api_Errno = some Try.t23 := by kernel_rfl
theorem T_api_Errno.size : Try.t23.size = 1 := rfl
theorem T_api_Errno.bytes : Try.t23.bytes = 8 := rfl
theorem T_api_Errno.zero : Try.t23.zero = some (Value.int IntKind.i64 0) := rfl
theorem T_api_Errno.zc : zcells PG T_api_Errno = ((Value.int IntKind.i64 0)).cells := by kernel_rfl
theorem T_api_Errno.load {h : PH} {a : Addr} : SemE PG h (Instr.loadAt T_api_Errno (.pointer (some a))) = cellH h a := loadAt_cell T_api_Errno.und rfl
theorem T_sl_api_Message.und : PG.underlying T_sl_api_Message = some (TypeDesc.slice 40) := Try.underlying29
theorem T_sl_api_Message.info : PG.info? T_sl_api_Message = some Try.t29 := by kernel_rfl
theorem T_sl_api_Message.size : Try.t29.size = 1 := rfl
theorem T_sl_api_Message.bytes : Try.t29.bytes = 24 := rfl
theorem T_sl_api_Message.zero : Try.t29.zero = some (Value.slice none 0 0) := rfl
theorem T_sl_api_Message.zc : zcells PG T_sl_api_Message = ((Value.slice none 0 0)).cells := by kernel_rfl
theorem T_sl_api_Message.load {h : PH} {a : Addr} : SemE PG h (Instr.loadAt T_sl_api_Message (.pointer (some a))) = cellH h a := loadAt_cell T_sl_api_Message.und rfl
theorem T_sl_api_Message.len {a : Option Addr} {n c : Nat} {t : TypeId} : SemP PG (Builtin.len_ #[T_sl_api_Message] t #[.slice a n c]) = some (.int .i64 n) := len_slice T_sl_api_Message.und
theorem T_p_net_Net.und : PG.underlying T_p_net_Net = some (TypeDesc.pointer 84) := Try.underlying30
theorem T_p_net_Net.info : PG.info? T_p_net_Net = some Try.t30 := by kernel_rfl
theorem T_p_net_Net.size : Try.t30.size = 1 := rfl
theorem T_p_net_Net.bytes : Try.t30.bytes = 8 := rfl
theorem T_p_net_Net.zero : Try.t30.zero = some (Value.pointer none) := rfl
theorem T_p_net_Net.zc : zcells PG T_p_net_Net = ((Value.pointer none)).cells := by kernel_rfl
theorem T_p_net_Net.load {h : PH} {a : Addr} : SemE PG h (Instr.loadAt T_p_net_Net (.pointer (some a))) = cellH h a := loadAt_cell T_p_net_Net.und rfl
theorem T_uint64.und : PG.underlying T_uint64 = some (TypeDesc.int IntKind.u64) := Try.underlying36
theorem T_uint64.info : PG.info? T_uint64 = some Try.t36 := by kernel_rfl
theorem T_uint64.size : Try.t36.size = 1 := rfl
theorem T_uint64.bytes : Try.t36.bytes = 8 := rfl
theorem T_uint64.zero : Try.t36.zero = some (Value.int IntKind.u64 0) := rfl
theorem T_uint64.zc : zcells PG T_uint64 = ((Value.int IntKind.u64 0)).cells := by kernel_rfl
theorem T_uint64.load {h : PH} {a : Addr} : SemE PG h (Instr.loadAt T_uint64 (.pointer (some a))) = cellH h a := loadAt_cell T_uint64.und rfl
theorem T_api_Packet.und : PG.underlying T_api_Packet = some (TypeDesc.struct #[{ name := "From", type := 3, offset := 0, embedded := false, tag := "", pkgPath := "", byteOffset := 0 }, { name := "Seq", type := 36, offset := 1, embedded := false, tag := "", pkgPath := "", byteOffset := 8 }, { name := "Timeout", type := 36, offset := 2, embedded := false, tag := "", pkgPath := "", byteOffset := 16 }, { name := "Data", type := 9, offset := 3, embedded := false, tag := "", pkgPath := "", byteOffset := 24 }]) := Try.underlying38
theorem T_api_Packet.info : PG.info? T_api_Packet = some Try.t38 := by kernel_rfl
theorem T_api_Packet.size : Try.t38.size = 4 := rfl
theorem T_api_Packet.bytes : Try.t38.bytes = 40 := rfl
theorem T_api_Packet.zero : Try.t38.zero = some (Value.agg #[Value.int IntKind.i64 0, Value.int IntKind.u64 0, Value.int IntKind.u64 0, Value.string { data := #[] }]) := rfl
theorem T_api_Packet.zc : zcells PG T_api_Packet = ((Value.agg #[Value.int IntKind.i64 0, Value.int IntKind.u64 0, Value.int IntKind.u64 0, Value.string { data := #[] }])).cells := by kernel_rfl
theorem T_api_Packet.loadAgg {h : PH} {b o : Nat} {c : Array Value} {e : TypeId} {fr : Nat × Nat} (hb : h b = some (.cells c e fr)) (hle : o + 4 ≤ c.size) : SemE PG h (Instr.loadAt T_api_Packet (.pointer (some ⟨b, o, none⟩))) = some (.agg (c.extract o (o + 4))) := loadAt_agg T_api_Packet.und rfl T_api_Packet.info T_api_Packet.size hb hle
theorem T_api_Packet.f0 {b o : Nat} : SemP PG (Instr.fieldAt T_api_Packet (.pointer (some ⟨b, o, none⟩)) 0) = some (.pointer (some ⟨b, o, none⟩)) := by kernel_rfl
theorem T_api_Packet.f1 {b o : Nat} : SemP PG (Instr.fieldAt T_api_Packet (.pointer (some ⟨b, o, none⟩)) 1) = some (.pointer (some ⟨b, o + 1, none⟩)) := by kernel_rfl
theorem T_api_Packet.f2 {b o : Nat} : SemP PG (Instr.fieldAt T_api_Packet (.pointer (some ⟨b, o, none⟩)) 2) = some (.pointer (some ⟨b, o + 2, none⟩)) := by kernel_rfl
theorem T_api_Packet.f3 {b o : Nat} : SemP PG (Instr.fieldAt T_api_Packet (.pointer (some ⟨b, o, none⟩)) 3) = some (.pointer (some ⟨b, o + 3, none⟩)) := by kernel_rfl
theorem T_api_Packet.build0 : SemP PG (Instr.build T_api_Packet #[]) = some (Value.agg #[Value.int IntKind.i64 0, Value.int IntKind.u64 0, Value.int IntKind.u64 0, Value.string { data := #[] }]) := by kernel_rfl
theorem T_api_Message.und : PG.underlying T_api_Message = some (TypeDesc.struct #[{ name := "Kind", type := 3, offset := 0, embedded := false, tag := "", pkgPath := "", byteOffset := 0 }, { name := "To", type := 3, offset := 1, embedded := false, tag := "", pkgPath := "", byteOffset := 8 }, { name := "Height", type := 36, offset := 2, embedded := false, tag := "", pkgPath := "", byteOffset := 16 }, { name := "Packet", type := 38, offset := 3, embedded := false, tag := "", pkgPath := "", byteOffset := 24 }, { name := "Proof", type := 9, offset := 7, embedded := false, tag := "", pkgPath := "", byteOffset := 64 }]) := Try.underlying40
theorem T_api_Message.info : PG.info? T_api_Message = some Try.t40 := by kernel_rfl
theorem T_api_Message.size : Try.t40.size = 8 := rfl
theorem T_api_Message.bytes : Try.t40.bytes = 80 := rfl
theorem T_api_Message.zero : Try.t40.zero = some (Value.agg #[Value.int IntKind.i64 0, Value.int IntKind.i64 0, Value.int IntKind.u64 0, Value.int IntKind.i64 0, Value.int IntKind.u64 0, Value.int IntKind.u64 0, Value.string { data := #[] }, Value.string { data := #[] }]) := rfl
theorem T_api_Message.zc : zcells PG T_api_Message = ((Value.agg #[Value.int IntKind.i64 0, Value.int IntKind.i64 0, Value.int IntKind.u64 0, Value.int IntKind.i64 0, Value.int IntKind.u64 0, Value.int IntKind.u64 0, Value.string { data := #[] }, Value.string { data := #[] }])).cells := by kernel_rfl
theorem T_api_Message.loadAgg {h : PH} {b o : Nat} {c : Array Value} {e : TypeId} {fr : Nat × Nat} (hb : h b = some (.cells c e fr)) (hle : o + 8 ≤ c.size) : SemE PG h (Instr.loadAt T_api_Message (.pointer (some ⟨b, o, none⟩))) = some (.agg (c.extract o (o + 8))) := loadAt_agg T_api_Message.und rfl T_api_Message.info T_api_Message.size hb hle
theorem T_api_Message.f0 {b o : Nat} : SemP PG (Instr.fieldAt T_api_Message (.pointer (some ⟨b, o, none⟩)) 0) = some (.pointer (some ⟨b, o, none⟩)) := by kernel_rfl
theorem T_api_Message.f1 {b o : Nat} : SemP PG (Instr.fieldAt T_api_Message (.pointer (some ⟨b, o, none⟩)) 1) = some (.pointer (some ⟨b, o + 1, none⟩)) := by kernel_rfl
theorem T_api_Message.f2 {b o : Nat} : SemP PG (Instr.fieldAt T_api_Message (.pointer (some ⟨b, o, none⟩)) 2) = some (.pointer (some ⟨b, o + 2, none⟩)) := by kernel_rfl
theorem T_api_Message.f3 {b o : Nat} : SemP PG (Instr.fieldAt T_api_Message (.pointer (some ⟨b, o, none⟩)) 3) = some (.pointer (some ⟨b, o + 3, none⟩)) := by kernel_rfl
theorem T_api_Message.f4 {b o : Nat} : SemP PG (Instr.fieldAt T_api_Message (.pointer (some ⟨b, o, none⟩)) 4) = some (.pointer (some ⟨b, o + 7, none⟩)) := by kernel_rfl
theorem T_api_Message.build0 : SemP PG (Instr.build T_api_Message #[]) = some (Value.agg #[Value.int IntKind.i64 0, Value.int IntKind.i64 0, Value.int IntKind.u64 0, Value.int IntKind.i64 0, Value.int IntKind.u64 0, Value.int IntKind.u64 0, Value.string { data := #[] }, Value.string { data := #[] }]) := by kernel_rfl
theorem T_sl_carrackref20_Act.und : PG.underlying T_sl_carrackref20_Act = some (TypeDesc.slice 47) := Try.underlying43
theorem T_sl_carrackref20_Act.info : PG.info? T_sl_carrackref20_Act = some Try.t43 := by kernel_rfl
theorem T_sl_carrackref20_Act.size : Try.t43.size = 1 := rfl
theorem T_sl_carrackref20_Act.bytes : Try.t43.bytes = 24 := rfl
theorem T_sl_carrackref20_Act.zero : Try.t43.zero = some (Value.slice none 0 0) := rfl
theorem T_sl_carrackref20_Act.zc : zcells PG T_sl_carrackref20_Act = ((Value.slice none 0 0)).cells := by kernel_rfl
theorem T_sl_carrackref20_Act.load {h : PH} {a : Addr} : SemE PG h (Instr.loadAt T_sl_carrackref20_Act (.pointer (some a))) = cellH h a := loadAt_cell T_sl_carrackref20_Act.und rfl
theorem T_sl_carrackref20_Act.len {a : Option Addr} {n c : Nat} {t : TypeId} : SemP PG (Builtin.len_ #[T_sl_carrackref20_Act] t #[.slice a n c]) = some (.int .i64 n) := len_slice T_sl_carrackref20_Act.und
theorem T_map_api_Message_bool.und : PG.underlying T_map_api_Message_bool = some (TypeDesc.map 40 4) := Try.underlying45
theorem T_map_api_Message_bool.info : PG.info? T_map_api_Message_bool = some Try.t45 := by kernel_rfl
theorem T_map_api_Message_bool.size : Try.t45.size = 1 := rfl
theorem T_map_api_Message_bool.bytes : Try.t45.bytes = 8 := rfl
theorem T_map_api_Message_bool.zero : Try.t45.zero = some (Value.map none) := rfl
theorem T_map_api_Message_bool.zc : zcells PG T_map_api_Message_bool = ((Value.map none)).cells := by kernel_rfl
theorem T_map_api_Message_bool.load {h : PH} {a : Addr} : SemE PG h (Instr.loadAt T_map_api_Message_bool (.pointer (some a))) = cellH h a := loadAt_cell T_map_api_Message_bool.und rfl
theorem T_carrackref20_Act.und : PG.underlying T_carrackref20_Act = some (TypeDesc.struct #[{ name := "Kind", type := 3, offset := 0, embedded := false, tag := "", pkgPath := "", byteOffset := 0 }, { name := "K", type := 3, offset := 1, embedded := false, tag := "", pkgPath := "", byteOffset := 8 }, { name := "To", type := 3, offset := 2, embedded := false, tag := "", pkgPath := "", byteOffset := 16 }, { name := "L", type := 29, offset := 3, embedded := false, tag := "", pkgPath := "", byteOffset := 24 }]) := Try.underlying47
theorem T_carrackref20_Act.info : PG.info? T_carrackref20_Act = some Try.t47 := by kernel_rfl
theorem T_carrackref20_Act.size : Try.t47.size = 4 := rfl
theorem T_carrackref20_Act.bytes : Try.t47.bytes = 48 := rfl
theorem T_carrackref20_Act.zero : Try.t47.zero = some (Value.agg #[Value.int IntKind.i64 0, Value.int IntKind.i64 0, Value.int IntKind.i64 0, Value.slice none 0 0]) := rfl
theorem T_carrackref20_Act.zc : zcells PG T_carrackref20_Act = ((Value.agg #[Value.int IntKind.i64 0, Value.int IntKind.i64 0, Value.int IntKind.i64 0, Value.slice none 0 0])).cells := by kernel_rfl
theorem T_carrackref20_Act.loadAgg {h : PH} {b o : Nat} {c : Array Value} {e : TypeId} {fr : Nat × Nat} (hb : h b = some (.cells c e fr)) (hle : o + 4 ≤ c.size) : SemE PG h (Instr.loadAt T_carrackref20_Act (.pointer (some ⟨b, o, none⟩))) = some (.agg (c.extract o (o + 4))) := loadAt_agg T_carrackref20_Act.und rfl T_carrackref20_Act.info T_carrackref20_Act.size hb hle
theorem T_carrackref20_Act.f0 {b o : Nat} : SemP PG (Instr.fieldAt T_carrackref20_Act (.pointer (some ⟨b, o, none⟩)) 0) = some (.pointer (some ⟨b, o, none⟩)) := by kernel_rfl
theorem T_carrackref20_Act.f1 {b o : Nat} : SemP PG (Instr.fieldAt T_carrackref20_Act (.pointer (some ⟨b, o, none⟩)) 1) = some (.pointer (some ⟨b, o + 1, none⟩)) := by kernel_rfl
theorem T_carrackref20_Act.f2 {b o : Nat} : SemP PG (Instr.fieldAt T_carrackref20_Act (.pointer (some ⟨b, o, none⟩)) 2) = some (.pointer (some ⟨b, o + 2, none⟩)) := by kernel_rfl
theorem T_carrackref20_Act.f3 {b o : Nat} : SemP PG (Instr.fieldAt T_carrackref20_Act (.pointer (some ⟨b, o, none⟩)) 3) = some (.pointer (some ⟨b, o + 3, none⟩)) := by kernel_rfl
theorem T_carrackref20_Act.build0 : SemP PG (Instr.build T_carrackref20_Act #[]) = some (Value.agg #[Value.int IntKind.i64 0, Value.int IntKind.i64 0, Value.int IntKind.i64 0, Value.slice none 0 0]) := by kernel_rfl
theorem T_carrackref20_Net.und : PG.underlying T_carrackref20_Net = some (TypeDesc.struct #[{ name := "L", type := 29, offset := 0, embedded := false, tag := "", pkgPath := "", byteOffset := 0 }]) := Try.underlying52
theorem T_carrackref20_Net.info : PG.info? T_carrackref20_Net = some Try.t52 := by kernel_rfl
theorem T_carrackref20_Net.size : Try.t52.size = 1 := rfl
theorem T_carrackref20_Net.bytes : Try.t52.bytes = 24 := rfl
theorem T_carrackref20_Net.zero : Try.t52.zero = some (Value.agg #[Value.slice none 0 0]) := rfl
theorem T_carrackref20_Net.zc : zcells PG T_carrackref20_Net = ((Value.agg #[Value.slice none 0 0])).cells := by kernel_rfl
theorem T_carrackref20_Net.loadAgg {h : PH} {b o : Nat} {c : Array Value} {e : TypeId} {fr : Nat × Nat} (hb : h b = some (.cells c e fr)) (hle : o + 1 ≤ c.size) : SemE PG h (Instr.loadAt T_carrackref20_Net (.pointer (some ⟨b, o, none⟩))) = some (.agg (c.extract o (o + 1))) := loadAt_agg T_carrackref20_Net.und rfl T_carrackref20_Net.info T_carrackref20_Net.size hb hle
theorem T_carrackref20_Net.f0 {b o : Nat} : SemP PG (Instr.fieldAt T_carrackref20_Net (.pointer (some ⟨b, o, none⟩)) 0) = some (.pointer (some ⟨b, o, none⟩)) := by kernel_rfl
theorem T_carrackref20_Net.build0 : SemP PG (Instr.build T_carrackref20_Net #[]) = some (Value.agg #[Value.slice none 0 0]) := by kernel_rfl
theorem T_sl_carrackref12_Known.und : PG.underlying T_sl_carrackref12_Known = some (TypeDesc.slice 67) := Try.underlying59
theorem T_sl_carrackref12_Known.info : PG.info? T_sl_carrackref12_Known = some Try.t59 := by kernel_rfl
theorem T_sl_carrackref12_Known.size : Try.t59.size = 1 := rfl
theorem T_sl_carrackref12_Known.bytes : Try.t59.bytes = 24 := rfl
theorem T_sl_carrackref12_Known.zero : Try.t59.zero = some (Value.slice none 0 0) := rfl
theorem T_sl_carrackref12_Known.zc : zcells PG T_sl_carrackref12_Known = ((Value.slice none 0 0)).cells := by kernel_rfl
theorem T_sl_carrackref12_Known.load {h : PH} {a : Addr} : SemE PG h (Instr.loadAt T_sl_carrackref12_Known (.pointer (some a))) = cellH h a := loadAt_cell T_sl_carrackref12_Known.und rfl
theorem T_sl_carrackref12_Known.len {a : Option Addr} {n c : Nat} {t : TypeId} : SemP PG (Builtin.len_ #[T_sl_carrackref12_Known] t #[.slice a n c]) = some (.int .i64 n) := len_slice T_sl_carrackref12_Known.und
theorem T_p_client_Client.und : PG.underlying T_p_client_Client = some (TypeDesc.pointer 90) := Try.underlying60
theorem T_p_client_Client.info : PG.info? T_p_client_Client = some Try.t60 := by kernel_rfl
theorem T_p_client_Client.size : Try.t60.size = 1 := rfl
theorem T_p_client_Client.bytes : Try.t60.bytes = 8 := rfl
theorem T_p_client_Client.zero : Try.t60.zero = some (Value.pointer none) := rfl
theorem T_p_client_Client.zc : zcells PG T_p_client_Client = ((Value.pointer none)).cells := by kernel_rfl
theorem T_p_client_Client.load {h : PH} {a : Addr} : SemE PG h (Instr.loadAt T_p_client_Client (.pointer (some a))) = cellH h a := loadAt_cell T_p_client_Client.und rfl
theorem T_carrackref12_Client.und : PG.underlying T_carrackref12_Client = some (TypeDesc.struct #[{ name := "L", type := 59, offset := 0, embedded := false, tag := "", pkgPath := "", byteOffset := 0 }]) := Try.underlying64
theorem T_carrackref12_Client.info : PG.info? T_carrackref12_Client = some Try.t64 := by kernel_rfl
theorem T_carrackref12_Client.size : Try.t64.size = 1 := rfl
theorem T_carrackref12_Client.bytes : Try.t64.bytes = 24 := rfl
theorem T_carrackref12_Client.zero : Try.t64.zero = some (Value.agg #[Value.slice none 0 0]) := rfl
theorem T_carrackref12_Client.zc : zcells PG T_carrackref12_Client = ((Value.agg #[Value.slice none 0 0])).cells := by kernel_rfl
theorem T_carrackref12_Client.loadAgg {h : PH} {b o : Nat} {c : Array Value} {e : TypeId} {fr : Nat × Nat} (hb : h b = some (.cells c e fr)) (hle : o + 1 ≤ c.size) : SemE PG h (Instr.loadAt T_carrackref12_Client (.pointer (some ⟨b, o, none⟩))) = some (.agg (c.extract o (o + 1))) := loadAt_agg T_carrackref12_Client.und rfl T_carrackref12_Client.info T_carrackref12_Client.size hb hle
theorem T_carrackref12_Client.f0 {b o : Nat} : SemP PG (Instr.fieldAt T_carrackref12_Client (.pointer (some ⟨b, o, none⟩)) 0) = some (.pointer (some ⟨b, o, none⟩)) := by kernel_rfl
theorem T_carrackref12_Client.build0 : SemP PG (Instr.build T_carrackref12_Client #[]) = some (Value.agg #[Value.slice none 0 0]) := by kernel_rfl
theorem T_carrackref12_Known.und : PG.underlying T_carrackref12_Known = some (TypeDesc.struct #[{ name := "Height", type := 36, offset := 0, embedded := false, tag := "", pkgPath := "", byteOffset := 0 }, { name := "Root", type := 9, offset := 1, embedded := false, tag := "", pkgPath := "", byteOffset := 8 }]) := Try.underlying67
theorem T_carrackref12_Known.info : PG.info? T_carrackref12_Known = some Try.t67 := by kernel_rfl
theorem T_carrackref12_Known.size : Try.t67.size = 2 := rfl
theorem T_carrackref12_Known.bytes : Try.t67.bytes = 24 := rfl
theorem T_carrackref12_Known.zero : Try.t67.zero = some (Value.agg #[Value.int IntKind.u64 0, Value.string { data := #[] }]) := rfl
theorem T_carrackref12_Known.zc : zcells PG T_carrackref12_Known = ((Value.agg #[Value.int IntKind.u64 0, Value.string { data := #[] }])).cells := by kernel_rfl
theorem T_carrackref12_Known.loadAgg {h : PH} {b o : Nat} {c : Array Value} {e : TypeId} {fr : Nat × Nat} (hb : h b = some (.cells c e fr)) (hle : o + 2 ≤ c.size) : SemE PG h (Instr.loadAt T_carrackref12_Known (.pointer (some ⟨b, o, none⟩))) = some (.agg (c.extract o (o + 2))) := loadAt_agg T_carrackref12_Known.und rfl T_carrackref12_Known.info T_carrackref12_Known.size hb hle
theorem T_carrackref12_Known.f0 {b o : Nat} : SemP PG (Instr.fieldAt T_carrackref12_Known (.pointer (some ⟨b, o, none⟩)) 0) = some (.pointer (some ⟨b, o, none⟩)) := by kernel_rfl
theorem T_carrackref12_Known.f1 {b o : Nat} : SemP PG (Instr.fieldAt T_carrackref12_Known (.pointer (some ⟨b, o, none⟩)) 1) = some (.pointer (some ⟨b, o + 1, none⟩)) := by kernel_rfl
theorem T_carrackref12_Known.build0 : SemP PG (Instr.build T_carrackref12_Known #[]) = some (Value.agg #[Value.int IntKind.u64 0, Value.string { data := #[] }]) := by kernel_rfl
theorem T_sl_uint64.und : PG.underlying T_sl_uint64 = some (TypeDesc.slice 36) := Try.underlying75
theorem T_sl_uint64.info : PG.info? T_sl_uint64 = some Try.t75 := by kernel_rfl
theorem T_sl_uint64.size : Try.t75.size = 1 := rfl
theorem T_sl_uint64.bytes : Try.t75.bytes = 24 := rfl
theorem T_sl_uint64.zero : Try.t75.zero = some (Value.slice none 0 0) := rfl
theorem T_sl_uint64.zc : zcells PG T_sl_uint64 = ((Value.slice none 0 0)).cells := by kernel_rfl
theorem T_sl_uint64.load {h : PH} {a : Addr} : SemE PG h (Instr.loadAt T_sl_uint64 (.pointer (some a))) = cellH h a := loadAt_cell T_sl_uint64.und rfl
theorem T_sl_uint64.len {a : Option Addr} {n c : Nat} {t : TypeId} : SemP PG (Builtin.len_ #[T_sl_uint64] t #[.slice a n c]) = some (.int .i64 n) := len_slice T_sl_uint64.und
theorem T_map_uint64_string.und : PG.underlying T_map_uint64_string = some (TypeDesc.map 36 9) := Try.underlying78
theorem T_map_uint64_string.info : PG.info? T_map_uint64_string = some Try.t78 := by kernel_rfl
theorem T_map_uint64_string.size : Try.t78.size = 1 := rfl
theorem T_map_uint64_string.bytes : Try.t78.bytes = 8 := rfl
theorem T_map_uint64_string.zero : Try.t78.zero = some (Value.map none) := rfl
theorem T_map_uint64_string.zc : zcells PG T_map_uint64_string = ((Value.map none)).cells := by kernel_rfl
theorem T_map_uint64_string.load {h : PH} {a : Addr} : SemE PG h (Instr.loadAt T_map_uint64_string (.pointer (some a))) = cellH h a := loadAt_cell T_map_uint64_string.und rfl
theorem T_map_uint64_bool.und : PG.underlying T_map_uint64_bool = some (TypeDesc.map 36 4) := Try.underlying80
theorem T_map_uint64_bool.info : PG.info? T_map_uint64_bool = some Try.t80 := by kernel_rfl
theorem T_map_uint64_bool.size : Try.t80.size = 1 := rfl
theorem T_map_uint64_bool.bytes : Try.t80.bytes = 8 := rfl
theorem T_map_uint64_bool.zero : Try.t80.zero = some (Value.map none) := rfl
theorem T_map_uint64_bool.zc : zcells PG T_map_uint64_bool = ((Value.map none)).cells := by kernel_rfl
theorem T_map_uint64_bool.load {h : PH} {a : Addr} : SemE PG h (Instr.loadAt T_map_uint64_bool (.pointer (some a))) = cellH h a := loadAt_cell T_map_uint64_bool.und rfl
theorem T_net_Net.und : PG.underlying T_net_Net = some (TypeDesc.struct #[{ name := "l", type := 29, offset := 0, embedded := false, tag := "", pkgPath := "carrack/net", byteOffset := 0 }]) := Try.underlying84
theorem T_net_Net.info : PG.info? T_net_Net = some Try.t84 := by kernel_rfl
theorem T_net_Net.size : Try.t84.size = 1 := rfl
theorem T_net_Net.bytes : Try.t84.bytes = 24 := rfl
theorem T_net_Net.zero : Try.t84.zero = some (Value.agg #[Value.slice none 0 0]) := rfl
theorem T_net_Net.zc : zcells PG T_net_Net = ((Value.agg #[Value.slice none 0 0])).cells := by kernel_rfl
theorem T_net_Net.loadAgg {h : PH} {b o : Nat} {c : Array Value} {e : TypeId} {fr : Nat × Nat} (hb : h b = some (.cells c e fr)) (hle : o + 1 ≤ c.size) : SemE PG h (Instr.loadAt T_net_Net (.pointer (some ⟨b, o, none⟩))) = some (.agg (c.extract o (o + 1))) := loadAt_agg T_net_Net.und rfl T_net_Net.info T_net_Net.size hb hle
theorem T_net_Net.f0 {b o : Nat} : SemP PG (Instr.fieldAt T_net_Net (.pointer (some ⟨b, o, none⟩)) 0) = some (.pointer (some ⟨b, o, none⟩)) := by kernel_rfl
theorem T_net_Net.build0 : SemP PG (Instr.build T_net_Net #[]) = some (Value.agg #[Value.slice none 0 0]) := by kernel_rfl
theorem T_sl_uint8.und : PG.underlying T_sl_uint8 = some (TypeDesc.slice 5) := Try.underlying88
theorem T_sl_uint8.info : PG.info? T_sl_uint8 = some Try.t88 := by kernel_rfl
theorem T_sl_uint8.size : Try.t88.size = 1 := rfl
theorem T_sl_uint8.bytes : Try.t88.bytes = 24 := rfl
theorem T_sl_uint8.zero : Try.t88.zero = some (Value.slice none 0 0) := rfl
theorem T_sl_uint8.zc : zcells PG T_sl_uint8 = ((Value.slice none 0 0)).cells := by kernel_rfl
theorem T_sl_uint8.load {h : PH} {a : Addr} : SemE PG h (Instr.loadAt T_sl_uint8 (.pointer (some a))) = cellH h a := loadAt_cell T_sl_uint8.und rfl
theorem T_sl_uint8.len {a : Option Addr} {n c : Nat} {t : TypeId} : SemP PG (Builtin.len_ #[T_sl_uint8] t #[.slice a n c]) = some (.int .i64 n) := len_slice T_sl_uint8.und
theorem T_client_Client.und : PG.underlying T_client_Client = some (TypeDesc.struct #[{ name := "roots", type := 78, offset := 0, embedded := false, tag := "", pkgPath := "carrack/client", byteOffset := 0 }, { name := "heights", type := 75, offset := 1, embedded := false, tag := "", pkgPath := "carrack/client", byteOffset := 8 }]) := Try.underlying90
theorem T_client_Client.info : PG.info? T_client_Client = some Try.t90 := by kernel_rfl
theorem T_client_Client.size : Try.t90.size = 2 := rfl
theorem T_client_Client.bytes : Try.t90.bytes = 32 := rfl
theorem T_client_Client.zero : Try.t90.zero = some (Value.agg #[Value.map none, Value.slice none 0 0]) := rfl
theorem T_client_Client.zc : zcells PG T_client_Client = ((Value.agg #[Value.map none, Value.slice none 0 0])).cells := by kernel_rfl
theorem T_client_Client.loadAgg {h : PH} {b o : Nat} {c : Array Value} {e : TypeId} {fr : Nat × Nat} (hb : h b = some (.cells c e fr)) (hle : o + 2 ≤ c.size) : SemE PG h (Instr.loadAt T_client_Client (.pointer (some ⟨b, o, none⟩))) = some (.agg (c.extract o (o + 2))) := loadAt_agg T_client_Client.und rfl T_client_Client.info T_client_Client.size hb hle
theorem T_client_Client.f0 {b o : Nat} : SemP PG (Instr.fieldAt T_client_Client (.pointer (some ⟨b, o, none⟩)) 0) = some (.pointer (some ⟨b, o, none⟩)) := by kernel_rfl
theorem T_client_Client.f1 {b o : Nat} : SemP PG (Instr.fieldAt T_client_Client (.pointer (some ⟨b, o, none⟩)) 1) = some (.pointer (some ⟨b, o + 1, none⟩)) := by kernel_rfl
theorem T_client_Client.build0 : SemP PG (Instr.build T_client_Client #[]) = some (Value.agg #[Value.map none, Value.slice none 0 0]) := by kernel_rfl
theorem T_uint.und : PG.underlying T_uint = some (TypeDesc.int IntKind.u64) := Try.underlying94
theorem T_uint.info : PG.info? T_uint = some Try.t94 := by kernel_rfl
theorem T_uint.size : Try.t94.size = 1 := rfl
theorem T_uint.bytes : Try.t94.bytes = 8 := rfl
theorem T_uint.zero : Try.t94.zero = some (Value.int IntKind.u64 0) := rfl
theorem T_uint.zc : zcells PG T_uint = ((Value.int IntKind.u64 0)).cells := by kernel_rfl
theorem T_uint.load {h : PH} {a : Addr} : SemE PG h (Instr.loadAt T_uint (.pointer (some a))) = cellH h a := loadAt_cell T_uint.und rfl
end Go.Proofs.Ytbloalappckjhaa
