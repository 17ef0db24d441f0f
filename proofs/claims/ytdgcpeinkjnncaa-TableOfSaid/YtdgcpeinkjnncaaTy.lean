/- The types that the printed functions use, by program. -/
import Derived.Test.YtdgcpeinkjnncaaHMore
import Derived.Test.YtdgcpeinkjnncaaChecked
import Derived.KernelRfl
set_option maxRecDepth 100000
set_option linter.unusedVariables false
namespace Go.Proofs.Ytdgcpeinkjnncaa
open Go
noncomputable abbrev PG : Program := Try.prog
theorem mix : PG.follows .mixedOrders = true := by kernel_rfl
abbrev id_carracklaw15_TableLives : FuncId := 3
abbrev id_carracklaw15_TableOf : FuncId := 4
abbrev id_carracklaw15_TableBounds : FuncId := 5
abbrev id_carracklaw15_TablePlays : FuncId := 6
abbrev id_carracklaw15_TableSame : FuncId := 7
abbrev id_carracklaw15_awake : FuncId := 8
abbrev id_carracklaw15_few : FuncId := 9
abbrev id_carracklaw15_notes : FuncId := 10
abbrev id_table_New : FuncId := 11
abbrev id_carracklaw15_do : FuncId := 12
abbrev id_table_Table_Drop : FuncId := 13
abbrev id_table_Table_Items : FuncId := 14
abbrev id_table_Table_Apply : FuncId := 15
abbrev id_table_Table_Get : FuncId := 16
abbrev id_table_Table_Len : FuncId := 17
abbrev id_carrackref14_SameItems : FuncId := 18
abbrev id_table_Of : FuncId := 19
abbrev id_carrackref15_Of : FuncId := 20
abbrev id_table_Table_Copy : FuncId := 21
abbrev id_table_Table_Fit : FuncId := 22
abbrev id_carrackref15_Table_Act : FuncId := 23
abbrev id_carrackref15_Table_Get : FuncId := 24
abbrev id_carrackref15_Table_Fit : FuncId := 25
abbrev id_table_Table_Room : FuncId := 26
abbrev id_carracklaw15_one : FuncId := 27
abbrev id_slices_Collect_api_Item : FuncId := 28
abbrev id_maps_Values_map_table_id_api_Item_table_id_api_Item : FuncId := 29
abbrev id_slices_SortFunc_sl_api_Item_api_Item : FuncId := 30
abbrev id_table_Table_Items_1 : FuncId := 31
abbrev id_cmp_Or_int : FuncId := 32
abbrev id_cmp_Compare_int : FuncId := 33
abbrev id_cmp_Compare_uint64 : FuncId := 34
abbrev id_note_Check : FuncId := 35
abbrev id_table_Table_sent : FuncId := 36
abbrev id_table_Table_received : FuncId := 37
abbrev id_table_Table_over : FuncId := 38
abbrev id_packet_Check : FuncId := 39
abbrev id_carrackref14_RightItem : FuncId := 40
abbrev id_carrackref15_Table_place : FuncId := 41
abbrev id_carrackref15_Table_put : FuncId := 42
abbrev id_maps_Clone_map_table_id_api_Item_table_id_api_Item : FuncId := 43
abbrev id_carrackref15_Table_Drop : FuncId := 44
abbrev id_carrackref15_Table_Apply : FuncId := 45
abbrev id_carrackref15_Table_Copy : FuncId := 46
abbrev id_slices_AppendSeq_sl_api_Item_api_Item : FuncId := 47
abbrev id_maps_Values_map_table_id_api_Item_table_id_api_Item_1 : FuncId := 48
abbrev id_cmp_isNaN_int : FuncId := 51
abbrev id_cmp_isNaN_uint64 : FuncId := 52
abbrev id_table_Table_put : FuncId := 53
abbrev id_carrackref10_Right : FuncId := 54
abbrev id_maps_clone : FuncId := 55
abbrev id_carrackref14_Right : FuncId := 56
abbrev T_ : TypeId := 0
abbrev T_int : TypeId := 3
abbrev T_bool : TypeId := 4
abbrev T_string : TypeId := 9
abbrev T_interface : TypeId := 20
abbrev T_sl_carrackref15_Act : TypeId := 22
abbrev T_uint64 : TypeId := 23
abbrev T_api_Packet : TypeId := 25
abbrev T_sl_api_Note : TypeId := 28
abbrev T_p_table_Table : TypeId := 30
abbrev T_api_Errno : TypeId := 31
abbrev T_api_Note : TypeId := 36
abbrev T_carrackref15_Act : TypeId := 38
abbrev T_sl_api_Item : TypeId := 40
abbrev T_api_Item : TypeId := 44
abbrev T_p_carrackref15_Table : TypeId := 51
abbrev T_carrackref15_Table : TypeId := 55
abbrev T_map_table_id_api_Item : TypeId := 64
abbrev T_table_Table : TypeId := 66
abbrev T_table_id : TypeId := 68
abbrev T_functable_Table_table_id_api_Packet_api_Errno : TypeId := 78
abbrev T_5_functable_Table_table_id_api_Packet_api_Errno : TypeId := 80
abbrev T_sl_int : TypeId := 94
theorem T_.und : PG.underlying T_ = some (TypeDesc.tuple #[]) := Try.underlying0
theorem T_.info : PG.info? T_ = some Try.t0 := by kernel_rfl
theorem T_.size : Try.t0.size = 1 := rfl
theorem T_.bytes : Try.t0.bytes = 0 := rfl
theorem T_.zero : Try.t0.zero = some (Value.tuple #[]) := rfl
theorem T_.zc : zcells PG T_ = ((Value.tuple #[])).cells := by kernel_rfl
theorem T_.load {h : PH} {a : Addr} : SemE PG h (Instr.loadAt T_ (.pointer (some a))) = cellH h a := loadAt_cell T_.und rfl
theorem T_int.und : PG.underlying T_int = some (TypeDesc.int IntKind.i64) := Try.underlying3
theorem T_int.info : PG.info? T_int = some Try.t3 := by kernel_rfl
theorem T_int.size : Try.t3.size = 1 := rfl
theorem T_int.bytes : Try.t3.bytes = 8 := rfl
theorem T_int.zero : Try.t3.zero = some (Value.int IntKind.i64 0) := rfl
theorem T_int.zc : zcells PG T_int = ((Value.int IntKind.i64 0)).cells := by kernel_rfl
theorem T_int.load {h : PH} {a : Addr} : SemE PG h (Instr.loadAt T_int (.pointer (some a))) = cellH h a := loadAt_cell T_int.und rfl
theorem T_bool.und : PG.underlying T_bool = some TypeDesc.bool := Try.underlying4
theorem T_bool.info : PG.info? T_bool = some Try.t4 := by kernel_rfl
theorem T_bool.size : Try.t4.size = 1 := rfl
theorem T_bool.bytes : Try.t4.bytes = 1 := rfl
theorem T_bool.zero : Try.t4.zero = some (Value.bool false) := rfl
theorem T_bool.zc : zcells PG T_bool = ((Value.bool false)).cells := by kernel_rfl
theorem T_bool.load {h : PH} {a : Addr} : SemE PG h (Instr.loadAt T_bool (.pointer (some a))) = cellH h a := loadAt_cell T_bool.und rfl
theorem T_string.und : PG.underlying T_string = some TypeDesc.string := Try.underlying9
theorem T_string.info : PG.info? T_string = some Try.t9 := by kernel_rfl
theorem T_string.size : Try.t9.size = 1 := rfl
theorem T_string.bytes : Try.t9.bytes = 16 := rfl
theorem T_string.zero : Try.t9.zero = some (Value.string { data := #[] }) := rfl
theorem T_string.zc : zcells PG T_string = ((Value.string { data := #[] })).cells := by kernel_rfl
theorem T_string.load {h : PH} {a : Addr} : SemE PG h (Instr.loadAt T_string (.pointer (some a))) = cellH h a := loadAt_cell T_string.und rfl
theorem T_string.len {s : ByteArray} {t : TypeId} : SemP PG (Builtin.len_ #[T_string] t #[.string s]) = some (.int .i64 s.size) := len_string T_string.und
theorem T_interface.und : PG.underlying T_interface = some (TypeDesc.interface #[]) := Try.underlying20
theorem T_interface.info : PG.info? T_interface = some Try.t20 := by kernel_rfl
theorem T_interface.size : Try.t20.size = 1 := rfl
theorem T_interface.bytes : Try.t20.bytes = 16 := rfl
theorem T_interface.zero : Try.t20.zero = some Value.nilIface := rfl
theorem T_interface.zc : zcells PG T_interface = (Value.nilIface).cells := by kernel_rfl
theorem T_interface.load {h : PH} {a : Addr} : SemE PG h (Instr.loadAt T_interface (.pointer (some a))) = cellH h a := loadAt_cell T_interface.und rfl
theorem T_sl_carrackref15_Act.und : PG.underlying T_sl_carrackref15_Act = some (TypeDesc.slice 38) := Try.underlying22
theorem T_sl_carrackref15_Act.info : PG.info? T_sl_carrackref15_Act = some Try.t22 := by kernel_rfl
theorem T_sl_carrackref15_Act.size : Try.t22.size = 1 := rfl
theorem T_sl_carrackref15_Act.bytes : Try.t22.bytes = 24 := rfl
theorem T_sl_carrackref15_Act.zero : Try.t22.zero = some (Value.slice none 0 0) := rfl
theorem T_sl_carrackref15_Act.zc : zcells PG T_sl_carrackref15_Act = ((Value.slice none 0 0)).cells := by kernel_rfl
theorem T_sl_carrackref15_Act.load {h : PH} {a : Addr} : SemE PG h (Instr.loadAt T_sl_carrackref15_Act (.pointer (some a))) = cellH h a := loadAt_cell T_sl_carrackref15_Act.und rfl
theorem T_sl_carrackref15_Act.len {a : Option Addr} {n c : Nat} {t : TypeId} : SemP PG (Builtin.len_ #[T_sl_carrackref15_Act] t #[.slice a n c]) = some (.int .i64 n) := len_slice T_sl_carrackref15_Act.und
theorem T_uint64.und : PG.underlying T_uint64 = some (TypeDesc.int IntKind.u64) := Try.underlying23
theorem T_uint64.info : PG.info? T_uint64 = some Try.t23 := by kernel_rfl
theorem T_uint64.size : Try.t23.size = 1 := rfl
theorem T_uint64.bytes : Try.t23.bytes = 8 := rfl
theorem T_uint64.zero : Try.t23.zero = some (Value.int IntKind.u64 0) := rfl
theorem T_uint64.zc : zcells PG T_uint64 = ((Value.int IntKind.u64 0)).cells := by kernel_rfl
theorem T_uint64.load {h : PH} {a : Addr} : SemE PG h (Instr.loadAt T_uint64 (.pointer (some a))) = cellH h a := loadAt_cell T_uint64.und rfl
theorem T_api_Packet.und : PG.underlying T_api_Packet = some (TypeDesc.struct #[{ name := "From", type := 3, offset := 0, embedded := false, tag := "", pkgPath := "", byteOffset := 0 }, { name := "Seq", type := 23, offset := 1, embedded := false, tag := "", pkgPath := "", byteOffset := 8 }, { name := "Timeout", type := 23, offset := 2, embedded := false, tag := "", pkgPath := "", byteOffset := 16 }, { name := "Data", type := 9, offset := 3, embedded := false, tag := "", pkgPath := "", byteOffset := 24 }]) := Try.underlying25
theorem T_api_Packet.info : PG.info? T_api_Packet = some Try.t25 := by kernel_rfl
theorem T_api_Packet.size : Try.t25.size = 4 := rfl
theorem T_api_Packet.bytes : Try.t25.bytes = 40 := rfl
theorem T_api_Packet.zero : Try.t25.zero = some (Value.agg #[Value.int IntKind.i64 0, Value.int IntKind.u64 0, Value.int IntKind.u64 0, Value.string { data := #[] }]) := rfl
theorem T_api_Packet.zc : zcells PG T_api_Packet = ((Value.agg #[Value.int IntKind.i64 0, Value.int IntKind.u64 0, Value.int IntKind.u64 0, Value.string { data := #[] }])).cells := by kernel_rfl
theorem T_api_Packet.loadAgg {h : PH} {b o : Nat} {c : Array Value} {e : TypeId} {fr : Nat × Nat} (hb : h b = some (.cells c e fr)) (hle : o + 4 ≤ c.size) : SemE PG h (Instr.loadAt T_api_Packet (.pointer (some ⟨b, o, none⟩))) = some (.agg (c.extract o (o + 4))) := loadAt_agg T_api_Packet.und rfl T_api_Packet.info T_api_Packet.size hb hle
theorem T_api_Packet.f0 {b o : Nat} : SemP PG (Instr.fieldAt T_api_Packet (.pointer (some ⟨b, o, none⟩)) 0) = some (.pointer (some ⟨b, o, none⟩)) := by kernel_rfl
theorem T_api_Packet.f1 {b o : Nat} : SemP PG (Instr.fieldAt T_api_Packet (.pointer (some ⟨b, o, none⟩)) 1) = some (.pointer (some ⟨b, o + 1, none⟩)) := by kernel_rfl
theorem T_api_Packet.f2 {b o : Nat} : SemP PG (Instr.fieldAt T_api_Packet (.pointer (some ⟨b, o, none⟩)) 2) = some (.pointer (some ⟨b, o + 2, none⟩)) := by kernel_rfl
theorem T_api_Packet.f3 {b o : Nat} : SemP PG (Instr.fieldAt T_api_Packet (.pointer (some ⟨b, o, none⟩)) 3) = some (.pointer (some ⟨b, o + 3, none⟩)) := by kernel_rfl
theorem T_api_Packet.build0 : SemP PG (Instr.build T_api_Packet #[]) = some (Value.agg #[Value.int IntKind.i64 0, Value.int IntKind.u64 0, Value.int IntKind.u64 0, Value.string { data := #[] }]) := by kernel_rfl
theorem T_sl_api_Note.und : PG.underlying T_sl_api_Note = some (TypeDesc.slice 36) := Try.underlying28
theorem T_sl_api_Note.info : PG.info? T_sl_api_Note = some Try.t28 := by kernel_rfl
theorem T_sl_api_Note.size : Try.t28.size = 1 := rfl
theorem T_sl_api_Note.bytes : Try.t28.bytes = 24 := rfl
theorem T_sl_api_Note.zero : Try.t28.zero = some (Value.slice none 0 0) := rfl
theorem T_sl_api_Note.zc : zcells PG T_sl_api_Note = ((Value.slice none 0 0)).cells := by kernel_rfl
theorem T_sl_api_Note.load {h : PH} {a : Addr} : SemE PG h (Instr.loadAt T_sl_api_Note (.pointer (some a))) = cellH h a := loadAt_cell T_sl_api_Note.und rfl
theorem T_sl_api_Note.len {a : Option Addr} {n c : Nat} {t : TypeId} : SemP PG (Builtin.len_ #[T_sl_api_Note] t #[.slice a n c]) = some (.int .i64 n) := len_slice T_sl_api_Note.und
theorem T_p_table_Table.und : PG.underlying T_p_table_Table = some (TypeDesc.pointer 66) := Try.underlying30
theorem T_p_table_Table.info : PG.info? T_p_table_Table = some Try.t30 := by kernel_rfl
theorem T_p_table_Table.size : Try.t30.size = 1 := rfl
theorem T_p_table_Table.bytes : Try.t30.bytes = 8 := rfl
theorem T_p_table_Table.zero : Try.t30.zero = some (Value.pointer none) := rfl
theorem T_p_table_Table.zc : zcells PG T_p_table_Table = ((Value.pointer none)).cells := by kernel_rfl
theorem T_p_table_Table.load {h : PH} {a : Addr} : SemE PG h (Instr.loadAt T_p_table_Table (.pointer (some a))) = cellH h a := loadAt_cell T_p_table_Table.und rfl
theorem T_api_Errno.und : PG.underlying T_api_Errno = some (TypeDesc.int IntKind.i64) := Try.underlying31
theorem T_api_Errno.info : PG.info? T_api_Errno = some Try.t31 := by kernel_rfl
theorem T_api_Errno.size : Try.t31.size = 1 := rfl
theorem T_api_Errno.bytes : Try.t31.bytes = 8 := rfl
theorem T_api_Errno.zero : Try.t31.zero = some (Value.int IntKind.i64 0) := rfl
theorem T_api_Errno.zc : zcells PG T_api_Errno = ((Value.int IntKind.i64 0)).cells := by kernel_rfl
theorem T_api_Errno.load {h : PH} {a : Addr} : SemE PG h (Instr.loadAt T_api_Errno (.pointer (some a))) = cellH h a := loadAt_cell T_api_Errno.und rfl
theorem T_api_Note.und : PG.underlying T_api_Note = some (TypeDesc.struct #[{ name := "Kind", type := 3, offset := 0, embedded := false, tag := "", pkgPath := "", byteOffset := 0 }, { name := "Packet", type := 25, offset := 1, embedded := false, tag := "", pkgPath := "", byteOffset := 8 }]) := Try.underlying36
theorem T_api_Note.info : PG.info? T_api_Note = some Try.t36 := by kernel_rfl
theorem T_api_Note.size : Try.t36.size = 5 := rfl
theorem T_api_Note.bytes : Try.t36.bytes = 48 := rfl
theorem T_api_Note.zero : Try.t36.zero = some (Value.agg #[Value.int IntKind.i64 0, Value.int IntKind.i64 0, Value.int IntKind.u64 0, Value.int IntKind.u64 0, Value.string { data := #[] }]) := rfl
theorem T_api_Note.zc : zcells PG T_api_Note = ((Value.agg #[Value.int IntKind.i64 0, Value.int IntKind.i64 0, Value.int IntKind.u64 0, Value.int IntKind.u64 0, Value.string { data := #[] }])).cells := by kernel_rfl
theorem T_api_Note.loadAgg {h : PH} {b o : Nat} {c : Array Value} {e : TypeId} {fr : Nat × Nat} (hb : h b = some (.cells c e fr)) (hle : o + 5 ≤ c.size) : SemE PG h (Instr.loadAt T_api_Note (.pointer (some ⟨b, o, none⟩))) = some (.agg (c.extract o (o + 5))) := loadAt_agg T_api_Note.und rfl T_api_Note.info T_api_Note.size hb hle
theorem T_api_Note.f0 {b o : Nat} : SemP PG (Instr.fieldAt T_api_Note (.pointer (some ⟨b, o, none⟩)) 0) = some (.pointer (some ⟨b, o, none⟩)) := by kernel_rfl
theorem T_api_Note.f1 {b o : Nat} : SemP PG (Instr.fieldAt T_api_Note (.pointer (some ⟨b, o, none⟩)) 1) = some (.pointer (some ⟨b, o + 1, none⟩)) := by kernel_rfl
theorem T_api_Note.build0 : SemP PG (Instr.build T_api_Note #[]) = some (Value.agg #[Value.int IntKind.i64 0, Value.int IntKind.i64 0, Value.int IntKind.u64 0, Value.int IntKind.u64 0, Value.string { data := #[] }]) := by kernel_rfl
theorem T_carrackref15_Act.und : PG.underlying T_carrackref15_Act = some (TypeDesc.struct #[{ name := "Drop", type := 4, offset := 0, embedded := false, tag := "", pkgPath := "", byteOffset := 0 }, { name := "N", type := 36, offset := 1, embedded := false, tag := "", pkgPath := "", byteOffset := 8 }]) := Try.underlying38
theorem T_carrackref15_Act.info : PG.info? T_carrackref15_Act = some Try.t38 := by kernel_rfl
theorem T_carrackref15_Act.size : Try.t38.size = 6 := rfl
theorem T_carrackref15_Act.bytes : Try.t38.bytes = 56 := rfl
theorem T_carrackref15_Act.zero : Try.t38.zero = some (Value.agg #[Value.bool false, Value.int IntKind.i64 0, Value.int IntKind.i64 0, Value.int IntKind.u64 0, Value.int IntKind.u64 0, Value.string { data := #[] }]) := rfl
theorem T_carrackref15_Act.zc : zcells PG T_carrackref15_Act = ((Value.agg #[Value.bool false, Value.int IntKind.i64 0, Value.int IntKind.i64 0, Value.int IntKind.u64 0, Value.int IntKind.u64 0, Value.string { data := #[] }])).cells := by kernel_rfl
theorem T_carrackref15_Act.loadAgg {h : PH} {b o : Nat} {c : Array Value} {e : TypeId} {fr : Nat × Nat} (hb : h b = some (.cells c e fr)) (hle : o + 6 ≤ c.size) : SemE PG h (Instr.loadAt T_carrackref15_Act (.pointer (some ⟨b, o, none⟩))) = some (.agg (c.extract o (o + 6))) := loadAt_agg T_carrackref15_Act.und rfl T_carrackref15_Act.info T_carrackref15_Act.size hb hle
theorem T_carrackref15_Act.f0 {b o : Nat} : SemP PG (Instr.fieldAt T_carrackref15_Act (.pointer (some ⟨b, o, none⟩)) 0) = some (.pointer (some ⟨b, o, none⟩)) := by kernel_rfl
theorem T_carrackref15_Act.f1 {b o : Nat} : SemP PG (Instr.fieldAt T_carrackref15_Act (.pointer (some ⟨b, o, none⟩)) 1) = some (.pointer (some ⟨b, o + 1, none⟩)) := by kernel_rfl
theorem T_carrackref15_Act.build0 : SemP PG (Instr.build T_carrackref15_Act #[]) = some (Value.agg #[Value.bool false, Value.int IntKind.i64 0, Value.int IntKind.i64 0, Value.int IntKind.u64 0, Value.int IntKind.u64 0, Value.string { data := #[] }]) := by kernel_rfl
theorem T_sl_api_Item.und : PG.underlying T_sl_api_Item = some (TypeDesc.slice 44) := Try.underlying40
theorem T_sl_api_Item.info : PG.info? T_sl_api_Item = some Try.t40 := by kernel_rfl
theorem T_sl_api_Item.size : Try.t40.size = 1 := rfl
theorem T_sl_api_Item.bytes : Try.t40.bytes = 24 := rfl
theorem T_sl_api_Item.zero : Try.t40.zero = some (Value.slice none 0 0) := rfl
theorem T_sl_api_Item.zc : zcells PG T_sl_api_Item = ((Value.slice none 0 0)).cells := by kernel_rfl
theorem T_sl_api_Item.load {h : PH} {a : Addr} : SemE PG h (Instr.loadAt T_sl_api_Item (.pointer (some a))) = cellH h a := loadAt_cell T_sl_api_Item.und rfl
theorem T_sl_api_Item.len {a : Option Addr} {n c : Nat} {t : TypeId} : SemP PG (Builtin.len_ #[T_sl_api_Item] t #[.slice a n c]) = some (.int .i64 n) := len_slice T_sl_api_Item.und
theorem T_api_Item.und : PG.underlying T_api_Item = some (TypeDesc.struct #[{ name := "Packet", type := 25, offset := 0, embedded := false, tag := "", pkgPath := "", byteOffset := 0 }, { name := "Stage", type := 3, offset := 4, embedded := false, tag := "", pkgPath := "", byteOffset := 40 }]) := Try.underlying44
theorem T_api_Item.info : PG.info? T_api_Item = some Try.t44 := by kernel_rfl
theorem T_api_Item.size : Try.t44.size = 5 := rfl
theorem T_api_Item.bytes : Try.t44.bytes = 48 := rfl
theorem T_api_Item.zero : Try.t44.zero = some (Value.agg #[Value.int IntKind.i64 0, Value.int IntKind.u64 0, Value.int IntKind.u64 0, Value.string { data := #[] }, Value.int IntKind.i64 0]) := rfl
theorem T_api_Item.zc : zcells PG T_api_Item = ((Value.agg #[Value.int IntKind.i64 0, Value.int IntKind.u64 0, Value.int IntKind.u64 0, Value.string { data := #[] }, Value.int IntKind.i64 0])).cells := by kernel_rfl
theorem T_api_Item.loadAgg {h : PH} {b o : Nat} {c : Array Value} {e : TypeId} {fr : Nat × Nat} (hb : h b = some (.cells c e fr)) (hle : o + 5 ≤ c.size) : SemE PG h (Instr.loadAt T_api_Item (.pointer (some ⟨b, o, none⟩))) = some (.agg (c.extract o (o + 5))) := loadAt_agg T_api_Item.und rfl T_api_Item.info T_api_Item.size hb hle
theorem T_api_Item.f0 {b o : Nat} : SemP PG (Instr.fieldAt T_api_Item (.pointer (some ⟨b, o, none⟩)) 0) = some (.pointer (some ⟨b, o, none⟩)) := by kernel_rfl
theorem T_api_Item.f1 {b o : Nat} : SemP PG (Instr.fieldAt T_api_Item (.pointer (some ⟨b, o, none⟩)) 1) = some (.pointer (some ⟨b, o + 4, none⟩)) := by kernel_rfl
theorem T_api_Item.build0 : SemP PG (Instr.build T_api_Item #[]) = some (Value.agg #[Value.int IntKind.i64 0, Value.int IntKind.u64 0, Value.int IntKind.u64 0, Value.string { data := #[] }, Value.int IntKind.i64 0]) := by kernel_rfl
theorem T_p_carrackref15_Table.und : PG.underlying T_p_carrackref15_Table = some (TypeDesc.pointer 55) := Try.underlying51
theorem T_p_carrackref15_Table.info : PG.info? T_p_carrackref15_Table = some Try.t51 := by kernel_rfl
theorem T_p_carrackref15_Table.size : Try.t51.size = 1 := rfl
theorem T_p_carrackref15_Table.bytes : Try.t51.bytes = 8 := rfl
theorem T_p_carrackref15_Table.zero : Try.t51.zero = some (Value.pointer none) := rfl
theorem T_p_carrackref15_Table.zc : zcells PG T_p_carrackref15_Table = ((Value.pointer none)).cells := by kernel_rfl
theorem T_p_carrackref15_Table.load {h : PH} {a : Addr} : SemE PG h (Instr.loadAt T_p_carrackref15_Table (.pointer (some a))) = cellH h a := loadAt_cell T_p_carrackref15_Table.und rfl
theorem T_carrackref15_Table.und : PG.underlying T_carrackref15_Table = some (TypeDesc.struct #[{ name := "L", type := 40, offset := 0, embedded := false, tag := "", pkgPath := "", byteOffset := 0 }, { name := "Room", type := 3, offset := 1, embedded := false, tag := "", pkgPath := "", byteOffset := 24 }]) := Try.underlying55
theorem T_carrackref15_Table.info : PG.info? T_carrackref15_Table = some Try.t55 := by kernel_rfl
theorem T_carrackref15_Table.size : Try.t55.size = 2 := rfl
theorem T_carrackref15_Table.bytes : Try.t55.bytes = 32 := rfl
theorem T_carrackref15_Table.zero : Try.t55.zero = some (Value.agg #[Value.slice none 0 0, Value.int IntKind.i64 0]) := rfl
theorem T_carrackref15_Table.zc : zcells PG T_carrackref15_Table = ((Value.agg #[Value.slice none 0 0, Value.int IntKind.i64 0])).cells := by kernel_rfl
theorem T_carrackref15_Table.loadAgg {h : PH} {b o : Nat} {c : Array Value} {e : TypeId} {fr : Nat × Nat} (hb : h b = some (.cells c e fr)) (hle : o + 2 ≤ c.size) : SemE PG h (Instr.loadAt T_carrackref15_Table (.pointer (some ⟨b, o, none⟩))) = some (.agg (c.extract o (o + 2))) := loadAt_agg T_carrackref15_Table.und rfl T_carrackref15_Table.info T_carrackref15_Table.size hb hle
theorem T_carrackref15_Table.f0 {b o : Nat} : SemP PG (Instr.fieldAt T_carrackref15_Table (.pointer (some ⟨b, o, none⟩)) 0) = some (.pointer (some ⟨b, o, none⟩)) := by kernel_rfl
theorem T_carrackref15_Table.f1 {b o : Nat} : SemP PG (Instr.fieldAt T_carrackref15_Table (.pointer (some ⟨b, o, none⟩)) 1) = some (.pointer (some ⟨b, o + 1, none⟩)) := by kernel_rfl
theorem T_carrackref15_Table.build0 : SemP PG (Instr.build T_carrackref15_Table #[]) = some (Value.agg #[Value.slice none 0 0, Value.int IntKind.i64 0]) := by kernel_rfl
theorem T_map_table_id_api_Item.und : PG.underlying T_map_table_id_api_Item = some (TypeDesc.map 68 44) := Try.underlying64
theorem T_map_table_id_api_Item.info : PG.info? T_map_table_id_api_Item = some Try.t64 := by kernel_rfl
theorem T_map_table_id_api_Item.size : Try.t64.size = 1 := rfl
theorem T_map_table_id_api_Item.bytes : Try.t64.bytes = 8 := rfl
theorem T_map_table_id_api_Item.zero : Try.t64.zero = some (Value.map none) := rfl
theorem T_map_table_id_api_Item.zc : zcells PG T_map_table_id_api_Item = ((Value.map none)).cells := by kernel_rfl
theorem T_map_table_id_api_Item.load {h : PH} {a : Addr} : SemE PG h (Instr.loadAt T_map_table_id_api_Item (.pointer (some a))) = cellH h a := loadAt_cell T_map_table_id_api_Item.und rfl
theorem T_table_Table.und : PG.underlying T_table_Table = some (TypeDesc.struct #[{ name := "of", type := 64, offset := 0, embedded := false, tag := "", pkgPath := "carrack/table", byteOffset := 0 }, { name := "room", type := 3, offset := 1, embedded := false, tag := "", pkgPath := "carrack/table", byteOffset := 8 }]) := Try.underlying66
theorem T_table_Table.info : PG.info? T_table_Table = some Try.t66 := by kernel_rfl
theorem T_table_Table.size : Try.t66.size = 2 := rfl
theorem T_table_Table.bytes : Try.t66.bytes = 16 := rfl
theorem T_table_Table.zero : Try.t66.zero = some (Value.agg #[Value.map none, Value.int IntKind.i64 0]) := rfl
theorem T_table_Table.zc : zcells PG T_table_Table = ((Value.agg #[Value.map none, Value.int IntKind.i64 0])).cells := by kernel_rfl
theorem T_table_Table.loadAgg {h : PH} {b o : Nat} {c : Array Value} {e : TypeId} {fr : Nat × Nat} (hb : h b = some (.cells c e fr)) (hle : o + 2 ≤ c.size) : SemE PG h (Instr.loadAt T_table_Table (.pointer (some ⟨b, o, none⟩))) = some (.agg (c.extract o (o + 2))) := loadAt_agg T_table_Table.und rfl T_table_Table.info T_table_Table.size hb hle
theorem T_table_Table.f0 {b o : Nat} : SemP PG (Instr.fieldAt T_table_Table (.pointer (some ⟨b, o, none⟩)) 0) = some (.pointer (some ⟨b, o, none⟩)) := by kernel_rfl
theorem T_table_Table.f1 {b o : Nat} : SemP PG (Instr.fieldAt T_table_Table (.pointer (some ⟨b, o, none⟩)) 1) = some (.pointer (some ⟨b, o + 1, none⟩)) := by kernel_rfl
theorem T_table_Table.build0 : SemP PG (Instr.build T_table_Table #[]) = some (Value.agg #[Value.map none, Value.int IntKind.i64 0]) := by kernel_rfl
theorem T_table_id.und : PG.underlying T_table_id = some (TypeDesc.struct #[{ name := "from", type := 3, offset := 0, embedded := false, tag := "", pkgPath := "carrack/table", byteOffset := 0 }, { name := "seq", type := 23, offset := 1, embedded := false, tag := "", pkgPath := "carrack/table", byteOffset := 8 }]) := Try.underlying68
theorem T_table_id.info : PG.info? T_table_id = some Try.t68 := by kernel_rfl
theorem T_table_id.size : Try.t68.size = 2 := rfl
theorem T_table_id.bytes : Try.t68.bytes = 16 := rfl
theorem T_table_id.zero : Try.t68.zero = some (Value.agg #[Value.int IntKind.i64 0, Value.int IntKind.u64 0]) := rfl
theorem T_table_id.zc : zcells PG T_table_id = ((Value.agg #[Value.int IntKind.i64 0, Value.int IntKind.u64 0])).cells := by kernel_rfl
theorem T_table_id.loadAgg {h : PH} {b o : Nat} {c : Array Value} {e : TypeId} {fr : Nat × Nat} (hb : h b = some (.cells c e fr)) (hle : o + 2 ≤ c.size) : SemE PG h (Instr.loadAt T_table_id (.pointer (some ⟨b, o, none⟩))) = some (.agg (c.extract o (o + 2))) := loadAt_agg T_table_id.und rfl T_table_id.info T_table_id.size hb hle
theorem T_table_id.f0 {b o : Nat} : SemP PG (Instr.fieldAt T_table_id (.pointer (some ⟨b, o, none⟩)) 0) = some (.pointer (some ⟨b, o, none⟩)) := by kernel_rfl
theorem T_table_id.f1 {b o : Nat} : SemP PG (Instr.fieldAt T_table_id (.pointer (some ⟨b, o, none⟩)) 1) = some (.pointer (some ⟨b, o + 1, none⟩)) := by kernel_rfl
theorem T_table_id.build0 : SemP PG (Instr.build T_table_id #[]) = some (Value.agg #[Value.int IntKind.i64 0, Value.int IntKind.u64 0]) := by kernel_rfl
theorem T_functable_Table_table_id_api_Packet_api_Errno.und : PG.underlying T_functable_Table_table_id_api_Packet_api_Errno = some (TypeDesc.func #[30, 68, 25] #[31] false) := Try.underlying78
theorem T_functable_Table_table_id_api_Packet_api_Errno.info : PG.info? T_functable_Table_table_id_api_Packet_api_Errno = some Try.t78 := by kernel_rfl
theorem T_functable_Table_table_id_api_Packet_api_Errno.size : Try.t78.size = 1 := rfl
theorem T_functable_Table_table_id_api_Packet_api_Errno.bytes : Try.t78.bytes = 8 := rfl
theorem T_functable_Table_table_id_api_Packet_api_Errno.zero : Try.t78.zero = some Value.nilFunc := rfl
theorem T_functable_Table_table_id_api_Packet_api_Errno.zc : zcells PG T_functable_Table_table_id_api_Packet_api_Errno = (Value.nilFunc).cells := by kernel_rfl
theorem T_functable_Table_table_id_api_Packet_api_Errno.load {h : PH} {a : Addr} : SemE PG h (Instr.loadAt T_functable_Table_table_id_api_Packet_api_Errno (.pointer (some a))) = cellH h a := loadAt_cell T_functable_Table_table_id_api_Packet_api_Errno.und rfl
theorem T_5_functable_Table_table_id_api_Packet_api_Errno.und : PG.underlying T_5_functable_Table_table_id_api_Packet_api_Errno = some (TypeDesc.array 5 78) := Try.underlying80
theorem T_5_functable_Table_table_id_api_Packet_api_Errno.info : PG.info? T_5_functable_Table_table_id_api_Packet_api_Errno = some Try.t80 := by kernel_rfl
theorem T_5_functable_Table_table_id_api_Packet_api_Errno.size : Try.t80.size = 5 := rfl
theorem T_5_functable_Table_table_id_api_Packet_api_Errno.bytes : Try.t80.bytes = 40 := rfl
theorem T_5_functable_Table_table_id_api_Packet_api_Errno.zero : Try.t80.zero = some (Value.agg #[Value.nilFunc, Value.nilFunc, Value.nilFunc, Value.nilFunc, Value.nilFunc]) := rfl
theorem T_5_functable_Table_table_id_api_Packet_api_Errno.zc : zcells PG T_5_functable_Table_table_id_api_Packet_api_Errno = ((Value.agg #[Value.nilFunc, Value.nilFunc, Value.nilFunc, Value.nilFunc, Value.nilFunc])).cells := by kernel_rfl
theorem T_5_functable_Table_table_id_api_Packet_api_Errno.loadAgg {h : PH} {b o : Nat} {c : Array Value} {e : TypeId} {fr : Nat × Nat} (hb : h b = some (.cells c e fr)) (hle : o + 5 ≤ c.size) : SemE PG h (Instr.loadAt T_5_functable_Table_table_id_api_Packet_api_Errno (.pointer (some ⟨b, o, none⟩))) = some (.agg (c.extract o (o + 5))) := loadAt_agg T_5_functable_Table_table_id_api_Packet_api_Errno.und rfl T_5_functable_Table_table_id_api_Packet_api_Errno.info T_5_functable_Table_table_id_api_Packet_api_Errno.size hb hle
theorem T_sl_int.und : PG.underlying T_sl_int = some (TypeDesc.slice 3) := Try.underlying94
theorem T_sl_int.info : PG.info? T_sl_int = some Try.t94 := by kernel_rfl
theorem T_sl_int.size : Try.t94.size = 1 := rfl
theorem T_sl_int.bytes : Try.t94.bytes = 24 := rfl
theorem T_sl_int.zero : Try.t94.zero = some (Value.slice none 0 0) := rfl
theorem T_sl_int.zc : zcells PG T_sl_int = ((Value.slice none 0 0)).cells := by kernel_rfl
theorem T_sl_int.load {h : PH} {a : Addr} : SemE PG h (Instr.loadAt T_sl_int (.pointer (some a))) = cellH h a := loadAt_cell T_sl_int.und rfl
theorem T_sl_int.len {a : Option Addr} {n c : Nat} {t : TypeId} : SemP PG (Builtin.len_ #[T_sl_int] t #[.slice a n c]) = some (.int .i64 n) := len_slice T_sl_int.und
end Go.Proofs.Ytdgcpeinkjnncaa
