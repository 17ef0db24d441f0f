/- The types that the printed functions use, by program. -/
import Derived.Test.YtbloalappckjhaaDoorHMore
import Derived.Test.YtbloalappckjhaaDoorChecked
import Derived.KernelRfl
set_option maxRecDepth 100000
set_option linter.unusedVariables false
namespace Go.Proofs.YtbloalappckjhaaDoor
open Go
noncomputable abbrev PG : Program := Tryd.prog
theorem mix : PG.follows .mixedOrders = true := by kernel_rfl
abbrev id_carracklaw22_ModelOrder : FuncId := 3
abbrev id_carracklaw22_ModelTells : FuncId := 4
abbrev id_carracklaw22_ModelCounts : FuncId := 5
abbrev id_carracklaw22_awake : FuncId := 6
abbrev id_carracklaw22_ModelOrder_1 : FuncId := 7
abbrev id_carracklaw22_ModelOrder_2 : FuncId := 8
abbrev id_model_Step : FuncId := 9
abbrev id_model_Follows : FuncId := 10
abbrev id_model_Reached : FuncId := 11
abbrev id_carracklaw22_turned : FuncId := 12
abbrev id_carrackref22_Follows : FuncId := 13
abbrev id_carrackref22_Reached : FuncId := 14
abbrev id_carrackref22_Step : FuncId := 15
abbrev id_model_Open : FuncId := 16
abbrev id_carrackref22_Open : FuncId := 17
abbrev id_model_Count : FuncId := 18
abbrev id_slices_ContainsFunc_sl_model_Entry_model_Entry : FuncId := 19
abbrev id_model_Step_1 : FuncId := 20
abbrev id_slices_Contains_sl_2_int_2_int : FuncId := 21
abbrev id_model_state : FuncId := 22
abbrev id_slices_ContainsFunc_sl_2_int_2_int : FuncId := 23
abbrev id_model_Reached_1 : FuncId := 24
abbrev id_slices_IndexFunc_sl_model_Entry_model_Entry : FuncId := 25
abbrev id_slices_Index_sl_2_int_2_int : FuncId := 26
abbrev id_slices_IndexFunc_sl_2_int_2_int : FuncId := 27
abbrev T_int : TypeId := 3
abbrev T_bool : TypeId := 4
abbrev T_string : TypeId := 9
abbrev T_uint64 : TypeId := 22
abbrev T_api_Packet : TypeId := 24
abbrev T_sl_model_Entry : TypeId := 26
abbrev T_model_Entry : TypeId := 28
abbrev T_sl_carrackref22_Entry : TypeId := 34
abbrev T_5_int : TypeId := 37
abbrev T_carrackref22_Entry : TypeId := 38
abbrev T_sl_api_Packet : TypeId := 39
abbrev T_map_api_Packet_int : TypeId := 44
abbrev T_sl_2_int : TypeId := 49
abbrev T_2_int : TypeId := 50
abbrev T_4_2_int : TypeId := 51
abbrev T_map_int_bool : TypeId := 54
theorem T_int.und : PG.underlying T_int = some (TypeDesc.int IntKind.i64) := Tryd.underlying3
theorem T_int.info : PG.info? T_int = some Tryd.t3 := by kernel_rfl
theorem T_int.size : Tryd.t3.size = 1 := rfl
theorem T_int.bytes : Tryd.t3.bytes = 8 := rfl
theorem T_int.zero : Tryd.t3.zero = some (Value.int IntKind.i64 0) := rfl
theorem T_int.zc : zcells PG T_int = ((Value.int IntKind.i64 0)).cells := by kernel_rfl
theorem T_int.load {h : PH} {a : Addr} : SemE PG h (Instr.loadAt T_int (.pointer (some a))) = cellH h a := loadAt_cell T_int.und rfl
theorem T_bool.und : PG.underlying T_bool = some TypeDesc.bool := Tryd.underlying4
theorem T_bool.info : PG.info? T_bool = some Tryd.t4 := by kernel_rfl
theorem T_bool.size : Tryd.t4.size = 1 := rfl
theorem T_bool.bytes : Tryd.t4.bytes = 1 := rfl
theorem T_bool.zero : Tryd.t4.zero = some (Value.bool false) := rfl
theorem T_bool.zc : zcells PG T_bool = ((Value.bool false)).cells := by kernel_rfl
theorem T_bool.load {h : PH} {a : Addr} : SemE PG h (Instr.loadAt T_bool (.pointer (some a))) = cellH h a := loadAt_cell T_bool.und rfl
theorem T_string.und : PG.underlying T_string = some TypeDesc.string := Tryd.underlying9
theorem T_string.info : PG.info? T_string = some Tryd.t9 := by kernel_rfl
theorem T_string.size : Tryd.t9.size = 1 := rfl
theorem T_string.bytes : Tryd.t9.bytes = 16 := rfl
theorem T_string.zero : Tryd.t9.zero = some (Value.string { data := #[] }) := rfl
theorem T_string.zc : zcells PG T_string = ((Value.string { data := #[] })).cells := by kernel_rfl
theorem T_string.load {h : PH} {a : Addr} : SemE PG h (Instr.loadAt T_string (.pointer (some a))) = cellH h a := loadAt_cell T_string.und rfl
theorem T_string.len {s : ByteArray} {t : TypeId} : SemP PG (Builtin.len_ #[T_string] t #[.string s]) = some (.int .i64 s.size) := len_string T_string.und
theorem T_uint64.und : PG.underlying T_uint64 = some (TypeDesc.int IntKind.u64) := Tryd.underlying22
theorem T_uint64.info : PG.info? T_uint64 = some Tryd.t22 := by kernel_rfl
theorem T_uint64.size : Tryd.t22.size = 1 := rfl
theorem T_uint64.bytes : Tryd.t22.bytes = 8 := rfl
theorem T_uint64.zero : Tryd.t22.zero = some (Value.int IntKind.u64 0) := rfl
theorem T_uint64.zc : zcells PG T_uint64 = ((Value.int IntKind.u64 0)).cells := by kernel_rfl
theorem T_uint64.load {h : PH} {a : Addr} : SemE PG h (Instr.loadAt T_uint64 (.pointer (some a))) = cellH h a := loadAt_cell T_uint64.und rfl
theorem T_api_Packet.und : PG.underlying T_api_Packet = some (TypeDesc.struct #[{ name := "From", type := 3, offset := 0, embedded := false, tag := "", pkgPath := "", byteOffset := 0 }, { name := "Seq", type := 22, offset := 1, embedded := false, tag := "", pkgPath := "", byteOffset := 8 }, { name := "Timeout", type := 22, offset := 2, embedded := false, tag := "", pkgPath := "", byteOffset := 16 }, { name := "Data", type := 9, offset := 3, embedded := false, tag := "", pkgPath := "", byteOffset := 24 }]) := Tryd.underlying24
theorem T_api_Packet.info : PG.info? T_api_Packet = some Tryd.t24 := by kernel_rfl
theorem T_api_Packet.size : Tryd.t24.size = 4 := rfl
theorem T_api_Packet.bytes : Tryd.t24.bytes = 40 := rfl
theorem T_api_Packet.zero : Tryd.t24.zero = some (Value.agg #[Value.int IntKind.i64 0, Value.int IntKind.u64 0, Value.int IntKind.u64 0, Value.string { data := #[] }]) := rfl
theorem T_api_Packet.zc : zcells PG T_api_Packet = ((Value.agg #[Value.int IntKind.i64 0, Value.int IntKind.u64 0, Value.int IntKind.u64 0, Value.string { data := #[] }])).cells := by kernel_rfl
theorem T_api_Packet.loadAgg {h : PH} {b o : Nat} {c : Array Value} {e : TypeId} {fr : Nat × Nat} (hb : h b = some (.cells c e fr)) (hle : o + 4 ≤ c.size) : SemE PG h (Instr.loadAt T_api_Packet (.pointer (some ⟨b, o, none⟩))) = some (.agg (c.extract o (o + 4))) := loadAt_agg T_api_Packet.und rfl T_api_Packet.info T_api_Packet.size hb hle
theorem T_api_Packet.f0 {b o : Nat} : SemP PG (Instr.fieldAt T_api_Packet (.pointer (some ⟨b, o, none⟩)) 0) = some (.pointer (some ⟨b, o, none⟩)) := by kernel_rfl
theorem T_api_Packet.f1 {b o : Nat} : SemP PG (Instr.fieldAt T_api_Packet (.pointer (some ⟨b, o, none⟩)) 1) = some (.pointer (some ⟨b, o + 1, none⟩)) := by kernel_rfl
theorem T_api_Packet.f2 {b o : Nat} : SemP PG (Instr.fieldAt T_api_Packet (.pointer (some ⟨b, o, none⟩)) 2) = some (.pointer (some ⟨b, o + 2, none⟩)) := by kernel_rfl
theorem T_api_Packet.f3 {b o : Nat} : SemP PG (Instr.fieldAt T_api_Packet (.pointer (some ⟨b, o, none⟩)) 3) = some (.pointer (some ⟨b, o + 3, none⟩)) := by kernel_rfl
theorem T_api_Packet.build0 : SemP PG (Instr.build T_api_Packet #[]) = some (Value.agg #[Value.int IntKind.i64 0, Value.int IntKind.u64 0, Value.int IntKind.u64 0, Value.string { data := #[] }]) := by kernel_rfl
theorem T_sl_model_Entry.und : PG.underlying T_sl_model_Entry = some (TypeDesc.slice 28) := Tryd.underlying26
theorem T_sl_model_Entry.info : PG.info? T_sl_model_Entry = some Tryd.t26 := by kernel_rfl
theorem T_sl_model_Entry.size : Tryd.t26.size = 1 := rfl
theorem T_sl_model_Entry.bytes : Tryd.t26.bytes = 24 := rfl
theorem T_sl_model_Entry.zero : Tryd.t26.zero = some (Value.slice none 0 0) := rfl
theorem T_sl_model_Entry.zc : zcells PG T_sl_model_Entry = ((Value.slice none 0 0)).cells := by kernel_rfl
theorem T_sl_model_Entry.load {h : PH} {a : Addr} : SemE PG h (Instr.loadAt T_sl_model_Entry (.pointer (some a))) = cellH h a := loadAt_cell T_sl_model_Entry.und rfl
theorem T_sl_model_Entry.len {a : Option Addr} {n c : Nat} {t : TypeId} : SemP PG (Builtin.len_ #[T_sl_model_Entry] t #[.slice a n c]) = some (.int .i64 n) := len_slice T_sl_model_Entry.und
theorem T_model_Entry.und : PG.underlying T_model_Entry = some (TypeDesc.struct #[{ name := "Packet", type := 24, offset := 0, embedded := false, tag := "", pkgPath := "", byteOffset := 0 }, { name := "State", type := 3, offset := 4, embedded := false, tag := "", pkgPath := "", byteOffset := 40 }]) := Tryd.underlying28
theorem T_model_Entry.info : PG.info? T_model_Entry = some Tryd.t28 := by kernel_rfl
theorem T_model_Entry.size : Tryd.t28.size = 5 := rfl
theorem T_model_Entry.bytes : Tryd.t28.bytes = 48 := rfl
theorem T_model_Entry.zero : Tryd.t28.zero = some (Value.agg #[Value.int IntKind.i64 0, Value.int IntKind.u64 0, Value.int IntKind.u64 0, Value.string { data := #[] }, Value.int IntKind.i64 0]) := rfl
theorem T_model_Entry.zc : zcells PG T_model_Entry = ((Value.agg #[Value.int IntKind.i64 0, Value.int IntKind.u64 0, Value.int IntKind.u64 0, Value.string { data := #[] }, Value.int IntKind.i64 0])).cells := by kernel_rfl
theorem T_model_Entry.loadAgg {h : PH} {b o : Nat} {c : Array Value} {e : TypeId} {fr : Nat × Nat} (hb : h b = some (.cells c e fr)) (hle : o + 5 ≤ c.size) : SemE PG h (Instr.loadAt T_model_Entry (.pointer (some ⟨b, o, none⟩))) = some (.agg (c.extract o (o + 5))) := loadAt_agg T_model_Entry.und rfl T_model_Entry.info T_model_Entry.size hb hle
theorem T_model_Entry.f0 {b o : Nat} : SemP PG (Instr.fieldAt T_model_Entry (.pointer (some ⟨b, o, none⟩)) 0) = some (.pointer (some ⟨b, o, none⟩)) := by kernel_rfl
theorem T_model_Entry.f1 {b o : Nat} : SemP PG (Instr.fieldAt T_model_Entry (.pointer (some ⟨b, o, none⟩)) 1) = some (.pointer (some ⟨b, o + 4, none⟩)) := by kernel_rfl
theorem T_model_Entry.build0 : SemP PG (Instr.build T_model_Entry #[]) = some (Value.agg #[Value.int IntKind.i64 0, Value.int IntKind.u64 0, Value.int IntKind.u64 0, Value.string { data := #[] }, Value.int IntKind.i64 0]) := by kernel_rfl
theorem T_sl_carrackref22_Entry.und : PG.underlying T_sl_carrackref22_Entry = some (TypeDesc.slice 38) := Tryd.underlying34
theorem T_sl_carrackref22_Entry.info : PG.info? T_sl_carrackref22_Entry = some Tryd.t34 := by kernel_rfl
theorem T_sl_carrackref22_Entry.size : Tryd.t34.size = 1 := rfl
theorem T_sl_carrackref22_Entry.bytes : Tryd.t34.bytes = 24 := rfl
theorem T_sl_carrackref22_Entry.zero : Tryd.t34.zero = some (Value.slice none 0 0) := rfl
theorem T_sl_carrackref22_Entry.zc : zcells PG T_sl_carrackref22_Entry = ((Value.slice none 0 0)).cells := by kernel_rfl
theorem T_sl_carrackref22_Entry.load {h : PH} {a : Addr} : SemE PG h (Instr.loadAt T_sl_carrackref22_Entry (.pointer (some a))) = cellH h a := loadAt_cell T_sl_carrackref22_Entry.und rfl
theorem T_sl_carrackref22_Entry.len {a : Option Addr} {n c : Nat} {t : TypeId} : SemP PG (Builtin.len_ #[T_sl_carrackref22_Entry] t #[.slice a n c]) = some (.int .i64 n) := len_slice T_sl_carrackref22_Entry.und
theorem T_5_int.und : PG.underlying T_5_int = some (TypeDesc.array 5 3) := Tryd.underlying37
theorem T_5_int.info : PG.info? T_5_int = some Tryd.t37 := by kernel_rfl
theorem T_5_int.size : Tryd.t37.size = 5 := rfl
theorem T_5_int.bytes : Tryd.t37.bytes = 40 := rfl
theorem T_5_int.zero : Tryd.t37.zero = some (Value.agg #[Value.int IntKind.i64 0, Value.int IntKind.i64 0, Value.int IntKind.i64 0, Value.int IntKind.i64 0, Value.int IntKind.i64 0]) := rfl
theorem T_5_int.zc : zcells PG T_5_int = ((Value.agg #[Value.int IntKind.i64 0, Value.int IntKind.i64 0, Value.int IntKind.i64 0, Value.int IntKind.i64 0, Value.int IntKind.i64 0])).cells := by kernel_rfl
theorem T_5_int.loadAgg {h : PH} {b o : Nat} {c : Array Value} {e : TypeId} {fr : Nat × Nat} (hb : h b = some (.cells c e fr)) (hle : o + 5 ≤ c.size) : SemE PG h (Instr.loadAt T_5_int (.pointer (some ⟨b, o, none⟩))) = some (.agg (c.extract o (o + 5))) := loadAt_agg T_5_int.und rfl T_5_int.info T_5_int.size hb hle
theorem T_carrackref22_Entry.und : PG.underlying T_carrackref22_Entry = some (TypeDesc.struct #[{ name := "Packet", type := 24, offset := 0, embedded := false, tag := "", pkgPath := "", byteOffset := 0 }, { name := "State", type := 3, offset := 4, embedded := false, tag := "", pkgPath := "", byteOffset := 40 }]) := Tryd.underlying38
theorem T_carrackref22_Entry.info : PG.info? T_carrackref22_Entry = some Tryd.t38 := by kernel_rfl
theorem T_carrackref22_Entry.size : Tryd.t38.size = 5 := rfl
theorem T_carrackref22_Entry.bytes : Tryd.t38.bytes = 48 := rfl
theorem T_carrackref22_Entry.zero : Tryd.t38.zero = some (Value.agg #[Value.int IntKind.i64 0, Value.int IntKind.u64 0, Value.int IntKind.u64 0, Value.string { data := #[] }, Value.int IntKind.i64 0]) := rfl
theorem T_carrackref22_Entry.zc : zcells PG T_carrackref22_Entry = ((Value.agg #[Value.int IntKind.i64 0, Value.int IntKind.u64 0, Value.int IntKind.u64 0, Value.string { data := #[] }, Value.int IntKind.i64 0])).cells := by kernel_rfl
theorem T_carrackref22_Entry.loadAgg {h : PH} {b o : Nat} {c : Array Value} {e : TypeId} {fr : Nat × Nat} (hb : h b = some (.cells c e fr)) (hle : o + 5 ≤ c.size) : SemE PG h (Instr.loadAt T_carrackref22_Entry (.pointer (some ⟨b, o, none⟩))) = some (.agg (c.extract o (o + 5))) := loadAt_agg T_carrackref22_Entry.und rfl T_carrackref22_Entry.info T_carrackref22_Entry.size hb hle
theorem T_carrackref22_Entry.f0 {b o : Nat} : SemP PG (Instr.fieldAt T_carrackref22_Entry (.pointer (some ⟨b, o, none⟩)) 0) = some (.pointer (some ⟨b, o, none⟩)) := by kernel_rfl
theorem T_carrackref22_Entry.f1 {b o : Nat} : SemP PG (Instr.fieldAt T_carrackref22_Entry (.pointer (some ⟨b, o, none⟩)) 1) = some (.pointer (some ⟨b, o + 4, none⟩)) := by kernel_rfl
theorem T_carrackref22_Entry.build0 : SemP PG (Instr.build T_carrackref22_Entry #[]) = some (Value.agg #[Value.int IntKind.i64 0, Value.int IntKind.u64 0, Value.int IntKind.u64 0, Value.string { data := #[] }, Value.int IntKind.i64 0]) := by kernel_rfl
theorem T_sl_api_Packet.und : PG.underlying T_sl_api_Packet = some (TypeDesc.slice 24) := Tryd.underlying39
theorem T_sl_api_Packet.info : PG.info? T_sl_api_Packet = some Tryd.t39 := by kernel_rfl
theorem T_sl_api_Packet.size : Tryd.t39.size = 1 := rfl
theorem T_sl_api_Packet.bytes : Tryd.t39.bytes = 24 := rfl
theorem T_sl_api_Packet.zero : Tryd.t39.zero = some (Value.slice none 0 0) := rfl
theorem T_sl_api_Packet.zc : zcells PG T_sl_api_Packet = ((Value.slice none 0 0)).cells := by kernel_rfl
theorem T_sl_api_Packet.load {h : PH} {a : Addr} : SemE PG h (Instr.loadAt T_sl_api_Packet (.pointer (some a))) = cellH h a := loadAt_cell T_sl_api_Packet.und rfl
theorem T_sl_api_Packet.len {a : Option Addr} {n c : Nat} {t : TypeId} : SemP PG (Builtin.len_ #[T_sl_api_Packet] t #[.slice a n c]) = some (.int .i64 n) := len_slice T_sl_api_Packet.und
theorem T_map_api_Packet_int.und : PG.underlying T_map_api_Packet_int = some (TypeDesc.map 24 3) := Tryd.underlying44
theorem T_map_api_Packet_int.info : PG.info? T_map_api_Packet_int = some Tryd.t44 := by kernel_rfl
theorem T_map_api_Packet_int.size : Tryd.t44.size = 1 := rfl
theorem T_map_api_Packet_int.bytes : Tryd.t44.bytes = 8 := rfl
theorem T_map_api_Packet_int.zero : Tryd.t44.zero = some (Value.map none) := rfl
theorem T_map_api_Packet_int.zc : zcells PG T_map_api_Packet_int = ((Value.map none)).cells := by kernel_rfl
theorem T_map_api_Packet_int.load {h : PH} {a : Addr} : SemE PG h (Instr.loadAt T_map_api_Packet_int (.pointer (some a))) = cellH h a := loadAt_cell T_map_api_Packet_int.und rfl
theorem T_sl_2_int.und : PG.underlying T_sl_2_int = some (TypeDesc.slice 50) := Tryd.underlying49
theorem T_sl_2_int.info : PG.info? T_sl_2_int = some Tryd.t49 := by kernel_rfl
theorem T_sl_2_int.size : Tryd.t49.size = 1 := rfl
theorem T_sl_2_int.bytes : Tryd.t49.bytes = 24 := rfl
theorem T_sl_2_int.zero : Tryd.t49.zero = some (Value.slice none 0 0) := rfl
theorem T_sl_2_int.zc : zcells PG T_sl_2_int = ((Value.slice none 0 0)).cells := by kernel_rfl
theorem T_sl_2_int.load {h : PH} {a : Addr} : SemE PG h (Instr.loadAt T_sl_2_int (.pointer (some a))) = cellH h a := loadAt_cell T_sl_2_int.und rfl
theorem T_sl_2_int.len {a : Option Addr} {n c : Nat} {t : TypeId} : SemP PG (Builtin.len_ #[T_sl_2_int] t #[.slice a n c]) = some (.int .i64 n) := len_slice T_sl_2_int.und
theorem T_2_int.und : PG.underlying T_2_int = some (TypeDesc.array 2 3) := Tryd.underlying50
theorem T_2_int.info : PG.info? T_2_int = some Tryd.t50 := by kernel_rfl
theorem T_2_int.size : Tryd.t50.size = 2 := rfl
theorem T_2_int.bytes : Tryd.t50.bytes = 16 := rfl
theorem T_2_int.zero : Tryd.t50.zero = some (Value.agg #[Value.int IntKind.i64 0, Value.int IntKind.i64 0]) := rfl
theorem T_2_int.zc : zcells PG T_2_int = ((Value.agg #[Value.int IntKind.i64 0, Value.int IntKind.i64 0])).cells := by kernel_rfl
theorem T_2_int.loadAgg {h : PH} {b o : Nat} {c : Array Value} {e : TypeId} {fr : Nat × Nat} (hb : h b = some (.cells c e fr)) (hle : o + 2 ≤ c.size) : SemE PG h (Instr.loadAt T_2_int (.pointer (some ⟨b, o, none⟩))) = some (.agg (c.extract o (o + 2))) := loadAt_agg T_2_int.und rfl T_2_int.info T_2_int.size hb hle
theorem T_4_2_int.und : PG.underlying T_4_2_int = some (TypeDesc.array 4 50) := Tryd.underlying51
theorem T_4_2_int.info : PG.info? T_4_2_int = some Tryd.t51 := by kernel_rfl
theorem T_4_2_int.size : Tryd.t51.size = 8 := rfl
theorem T_4_2_int.bytes : Tryd.t51.bytes = 64 := rfl
theorem T_4_2_int.zero : Tryd.t51.zero = some (Value.agg #[Value.int IntKind.i64 0, Value.int IntKind.i64 0, Value.int IntKind.i64 0, Value.int IntKind.i64 0, Value.int IntKind.i64 0, Value.int IntKind.i64 0, Value.int IntKind.i64 0, Value.int IntKind.i64 0]) := rfl
theorem T_4_2_int.zc : zcells PG T_4_2_int = ((Value.agg #[Value.int IntKind.i64 0, Value.int IntKind.i64 0, Value.int IntKind.i64 0, Value.int IntKind.i64 0, Value.int IntKind.i64 0, Value.int IntKind.i64 0, Value.int IntKind.i64 0, Value.int IntKind.i64 0])).cells := by kernel_rfl
theorem T_4_2_int.loadAgg {h : PH} {b o : Nat} {c : Array Value} {e : TypeId} {fr : Nat × Nat} (hb : h b = some (.cells c e fr)) (hle : o + 8 ≤ c.size) : SemE PG h (Instr.loadAt T_4_2_int (.pointer (some ⟨b, o, none⟩))) = some (.agg (c.extract o (o + 8))) := loadAt_agg T_4_2_int.und rfl T_4_2_int.info T_4_2_int.size hb hle
theorem T_map_int_bool.und : PG.underlying T_map_int_bool = some (TypeDesc.map 3 4) := Tryd.underlying54
theorem T_map_int_bool.info : PG.info? T_map_int_bool = some Tryd.t54 := by kernel_rfl
theorem T_map_int_bool.size : Tryd.t54.size = 1 := rfl
theorem T_map_int_bool.bytes : Tryd.t54.bytes = 8 := rfl
theorem T_map_int_bool.zero : Tryd.t54.zero = some (Value.map none) := rfl
theorem T_map_int_bool.zc : zcells PG T_map_int_bool = ((Value.map none)).cells := by kernel_rfl
theorem T_map_int_bool.load {h : PH} {a : Addr} : SemE PG h (Instr.loadAt T_map_int_bool (.pointer (some a))) = cellH h a := loadAt_cell T_map_int_bool.und rfl
end Go.Proofs.YtbloalappckjhaaDoor
