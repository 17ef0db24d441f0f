/- The types that the printed functions use, by program. -/
import Derived.Test.YtllopddcpkhfjaaDoorHMore
import Derived.Test.YtllopddcpkhfjaaDoorChecked
import Derived.KernelRfl
set_option maxRecDepth 100000
set_option linter.unusedVariables false
namespace Go.Proofs.YtllopddcpkhfjaaDoor
open Go
noncomputable abbrev PG : Program := Tryd.prog
theorem mix : PG.follows .mixedOrders = true := by kernel_rfl
abbrev id_carracklaw11_StoreBlocks : FuncId := 3
abbrev id_carracklaw11_StoreBack : FuncId := 4
abbrev id_carracklaw11_StoreSame : FuncId := 5
abbrev id_carracklaw11_StoreKeeps : FuncId := 6
abbrev id_carracklaw11_awake : FuncId := 7
abbrev id_carracklaw11_few : FuncId := 8
abbrev id_store_New : FuncId := 9
abbrev id_carrackref11_New : FuncId := 10
abbrev id_store_Store_Height : FuncId := 11
abbrev id_carracklaw11_do : FuncId := 12
abbrev id_store_Store_At : FuncId := 13
abbrev id_store_Store_Root : FuncId := 14
abbrev id_store_Store_Blocks : FuncId := 15
abbrev id_store_Store_Get : FuncId := 16
abbrev id_store_Store_Set : FuncId := 17
abbrev id_store_Store_Delete : FuncId := 18
abbrev id_store_Store_Commit : FuncId := 19
abbrev id_store_Store_Len : FuncId := 20
abbrev id_merkle_Check : FuncId := 21
abbrev id_merkle_Root : FuncId := 22
abbrev id_carrackref11_Pairs : FuncId := 23
abbrev id_carrackref11_Store_Set : FuncId := 24
abbrev id_carrackref11_Store_Delete : FuncId := 25
abbrev id_carrackref11_Store_Commit : FuncId := 26
abbrev id_store_Store_at : FuncId := 27
abbrev id_store_sorted_pairs : FuncId := 28
abbrev id_slices_SortFunc_sl_api_Pair_api_Pair : FuncId := 29
abbrev id_store_Store_Commit_1 : FuncId := 30
abbrev id_cmp_Compare_string : FuncId := 31
abbrev id_merkle_Top : FuncId := 32
abbrev id_merkle_digest : FuncId := 33
abbrev id_carrackref11_Store_find : FuncId := 34
abbrev id_carrackref11_Store_Height : FuncId := 35
abbrev id_slices_Clone_sl_api_Pair_api_Pair : FuncId := 36
abbrev id_math_bits_Len : FuncId := 38
abbrev id_cmp_isNaN_string : FuncId := 39
abbrev id_merkle_one : FuncId := 40
abbrev id_sha_Sum : FuncId := 41
abbrev id_merkle_Leaf : FuncId := 42
abbrev id_merkle_left : FuncId := 43
abbrev id_merkle_both : FuncId := 44
abbrev id_math_bits_Len32 : FuncId := 53
abbrev id_math_bits_Len64 : FuncId := 54
abbrev id_sha_New : FuncId := 55
abbrev id_sha_Hash_Write : FuncId := 56
abbrev id_sha_Hash_Sum : FuncId := 57
abbrev id_sha_begin : FuncId := 63
abbrev id_strings_Clone : FuncId := 64
abbrev id_sha_state_mix : FuncId := 65
abbrev id_strings_Builder_WriteByte : FuncId := 66
abbrev id_strings_Repeat : FuncId := 67
abbrev id_strings_Builder_String : FuncId := 68
abbrev id_sha_state_digest : FuncId := 69
abbrev id_internal_stringslite_Clone : FuncId := 71
abbrev id_sha_words : FuncId := 72
abbrev id_sha_turn : FuncId := 73
abbrev id_strings_Builder_copyCheck : FuncId := 74
abbrev id_math_bits_Mul : FuncId := 75
abbrev id_strings_HasPrefix : FuncId := 76
abbrev id_strings_Builder_Grow : FuncId := 77
abbrev id_strings_Builder_WriteString : FuncId := 78
abbrev id_strings_Builder_Len : FuncId := 79
abbrev id_math_bits_RotateLeft32 : FuncId := 80
abbrev id_internal_abi_NoEscape : FuncId := 81
abbrev id_math_bits_Mul32 : FuncId := 82
abbrev id_math_bits_Mul64 : FuncId := 83
abbrev id_internal_stringslite_HasPrefix : FuncId := 84
abbrev id_strings_Builder_grow : FuncId := 85
abbrev id_internal_bytealg_MakeNoZero : FuncId := 86
abbrev T_ : TypeId := 0
abbrev T_int : TypeId := 3
abbrev T_uint8 : TypeId := 5
abbrev T_string : TypeId := 9
abbrev T_uint64 : TypeId := 22
abbrev T_sl_carrackref11_Act : TypeId := 23
abbrev T_p_store_Store : TypeId := 26
abbrev T_carrackref11_Act : TypeId := 33
abbrev T_sl_api_Pair : TypeId := 34
abbrev T_api_Errno : TypeId := 35
abbrev T_api_Pair : TypeId := 51
abbrev T_sl_sl_api_Pair : TypeId := 55
abbrev T_sl_string : TypeId := 56
abbrev T_map_string_string : TypeId := 58
abbrev T_store_sorted : TypeId := 60
abbrev T_store_block : TypeId := 62
abbrev T_sl_store_block : TypeId := 63
abbrev T_store_Store : TypeId := 65
abbrev T_carrackref11_Store : TypeId := 67
abbrev T_uint : TypeId := 83
abbrev T_uint32 : TypeId := 98
abbrev T_sl_uint8 : TypeId := 100
abbrev T_8_uint32 : TypeId := 110
abbrev T_sha_state : TypeId := 112
abbrev T_sha_Hash : TypeId := 115
abbrev T_p_strings_Builder : TypeId := 117
abbrev T_strings_Builder : TypeId := 119
abbrev T_64_uint32 : TypeId := 128
abbrev T_sl_uint32 : TypeId := 131
abbrev T_p_uint8 : TypeId := 138
abbrev T_unsafe_Pointer : TypeId := 139
theorem T_.und : PG.underlying T_ = some (TypeDesc.tuple #[]) := Tryd.underlying0
theorem T_.info : PG.info? T_ = some Tryd.t0 := by kernel_rfl
theorem T_.size : Tryd.t0.size = 1 := rfl
theorem T_.bytes : Tryd.t0.bytes = 0 := rfl
theorem T_.zero : Tryd.t0.zero = some (Value.tuple #[]) := rfl
theorem T_.zc : zcells PG T_ = ((Value.tuple #[])).cells := by kernel_rfl
theorem T_.load {h : PH} {a : Addr} : SemE PG h (Instr.loadAt T_ (.pointer (some a))) = cellH h a := loadAt_cell T_.und rfl
theorem T_int.und : PG.underlying T_int = some (TypeDesc.int IntKind.i64) := Tryd.underlying3
theorem T_int.info : PG.info? T_int = some Tryd.t3 := by kernel_rfl
theorem T_int.size : Tryd.t3.size = 1 := rfl
theorem T_int.bytes : Tryd.t3.bytes = 8 := rfl
theorem T_int.zero : Tryd.t3.zero = some (Value.int IntKind.i64 0) := rfl
theorem T_int.zc : zcells PG T_int = ((Value.int IntKind.i64 0)).cells := by kernel_rfl
theorem T_int.load {h : PH} {a : Addr} : SemE PG h (Instr.loadAt T_int (.pointer (some a))) = cellH h a := loadAt_cell T_int.und rfl
theorem T_uint8.und : PG.underlying T_uint8 = some (TypeDesc.int IntKind.u8) := Tryd.underlying5
theorem T_uint8.info : PG.info? T_uint8 = some Tryd.t5 := by kernel_rfl
theorem T_uint8.size : Tryd.t5.size = 1 := rfl
theorem T_uint8.bytes : Tryd.t5.bytes = 1 := rfl
theorem T_uint8.zero : Tryd.t5.zero = some (Value.int IntKind.u8 0) := rfl
theorem T_uint8.zc : zcells PG T_uint8 = ((Value.int IntKind.u8 0)).cells := by kernel_rfl
theorem T_uint8.load {h : PH} {a : Addr} : SemE PG h (Instr.loadAt T_uint8 (.pointer (some a))) = cellH h a := loadAt_cell T_uint8.und rfl
theorem T_string.und : PG.underlying T_string = some TypeDesc.string := Tryd.underlying9
theorem T_string.info : PG.info? T_string = some Tryd.t9 := by kernel_rfl
theorem T_string.size : Tryd.t9.size = 1 := rfl
theorem T_string.bytes : Tryd.t9.bytes = 16 := rfl
theorem T_string.zero : Tryd.t9.zero = some (Value.string { data := #[] }) := rfl
theorem T_string.zc : zcells PG T_string = ((Value.string { data := #[] })).cells := by kernel_rfl
theorem T_string.load {h : PH} {a : Addr} : SemE PG h (Instr.loadAt T_string (.pointer (some a))) = cellH h a := loadAt_cell T_string.und rfl
theorem T_string.len {s : ByteArray} {t : TypeId} : SemP PG (Builtin.len_ #[T_string] t #[.string s]) = some (.int .i64 s.size) := len_string T_string.und
theorem T_uint64.und : PG.underlying T_uint64 = some (TypeDesc.int IntKind.u64) := Tryd.underlying22
theorem T_uint64.info : PG.info? T_uint64 = some Tryd.t22 := by kernel_rfl
theorem T_uint64.size : Tryd.t22.size = 1 := rfl
theorem T_uint64.bytes : Tryd.t22.bytes = 8 := rfl
theorem T_uint64.zero : Tryd.t22.zero = some (Value.int IntKind.u64 0) := rfl
theorem T_uint64.zc : zcells PG T_uint64 = ((Value.int IntKind.u64 0)).cells := by kernel_rfl
theorem T_uint64.load {h : PH} {a : Addr} : SemE PG h (Instr.loadAt T_uint64 (.pointer (some a))) = cellH h a := loadAt_cell T_uint64.und rfl
theorem T_sl_carrackref11_Act.und : PG.underlying T_sl_carrackref11_Act = some (TypeDesc.slice 33) := Tryd.underlying23
theorem T_sl_carrackref11_Act.info : PG.info? T_sl_carrackref11_Act = some Tryd.t23 := by kernel_rfl
theorem T_sl_carrackref11_Act.size : Tryd.t23.size = 1 := rfl
theorem T_sl_carrackref11_Act.bytes : Tryd.t23.bytes = 24 := rfl
theorem T_sl_carrackref11_Act.zero : Tryd.t23.zero = some (Value.slice none 0 0) := rfl
theorem T_sl_carrackref11_Act.zc : zcells PG T_sl_carrackref11_Act = ((Value.slice none 0 0)).cells := by kernel_rfl
theorem T_sl_carrackref11_Act.load {h : PH} {a : Addr} : SemE PG h (Instr.loadAt T_sl_carrackref11_Act (.pointer (some a))) = cellH h a := loadAt_cell T_sl_carrackref11_Act.und rfl
theorem T_sl_carrackref11_Act.len {a : Option Addr} {n c : Nat} {t : TypeId} : SemP PG (Builtin.len_ #[T_sl_carrackref11_Act] t #[.slice a n c]) = some (.int .i64 n) := len_slice T_sl_carrackref11_Act.und
theorem T_p_store_Store.und : PG.underlying T_p_store_Store = some (TypeDesc.pointer 65) := Tryd.underlying26
theorem T_p_store_Store.info : PG.info? T_p_store_Store = some Tryd.t26 := by kernel_rfl
theorem T_p_store_Store.size : Tryd.t26.size = 1 := rfl
theorem T_p_store_Store.bytes : Tryd.t26.bytes = 8 := rfl
theorem T_p_store_Store.zero : Tryd.t26.zero = some (Value.pointer none) := rfl
theorem T_p_store_Store.zc : zcells PG T_p_store_Store = ((Value.pointer none)).cells := by kernel_rfl
theorem T_p_store_Store.load {h : PH} {a : Addr} : SemE PG h (Instr.loadAt T_p_store_Store (.pointer (some a))) = cellH h a := loadAt_cell T_p_store_Store.und rfl
theorem T_carrackref11_Act.und : PG.underlying T_carrackref11_Act = some (TypeDesc.struct #[{ name := "Kind", type := 3, offset := 0, embedded := false, tag := "", pkgPath := "", byteOffset := 0 }, { name := "Key", type := 9, offset := 1, embedded := false, tag := "", pkgPath := "", byteOffset := 8 }, { name := "Value", type := 9, offset := 2, embedded := false, tag := "", pkgPath := "", byteOffset := 24 }]) := Tryd.underlying33
theorem T_carrackref11_Act.info : PG.info? T_carrackref11_Act = some Tryd.t33 := by kernel_rfl
theorem T_carrackref11_Act.size : Tryd.t33.size = 3 := rfl
theorem T_carrackref11_Act.bytes : Tryd.t33.bytes = 40 := rfl
theorem T_carrackref11_Act.zero : Tryd.t33.zero = some (Value.agg #[Value.int IntKind.i64 0, Value.string { data := #[] }, Value.string { data := #[] }]) := rfl
theorem T_carrackref11_Act.zc : zcells PG T_carrackref11_Act = ((Value.agg #[Value.int IntKind.i64 0, Value.string { data := #[] }, Value.string { data := #[] }])).cells := by kernel_rfl
theorem T_carrackref11_Act.loadAgg {h : PH} {b o : Nat} {c : Array Value} {e : TypeId} {fr : Nat × Nat} (hb : h b = some (.cells c e fr)) (hle : o + 3 ≤ c.size) : SemE PG h (Instr.loadAt T_carrackref11_Act (.pointer (some ⟨b, o, none⟩))) = some (.agg (c.extract o (o + 3))) := loadAt_agg T_carrackref11_Act.und rfl T_carrackref11_Act.info T_carrackref11_Act.size hb hle
theorem T_carrackref11_Act.f0 {b o : Nat} : SemP PG (Instr.fieldAt T_carrackref11_Act (.pointer (some ⟨b, o, none⟩)) 0) = some (.pointer (some ⟨b, o, none⟩)) := by kernel_rfl
theorem T_carrackref11_Act.f1 {b o : Nat} : SemP PG (Instr.fieldAt T_carrackref11_Act (.pointer (some ⟨b, o, none⟩)) 1) = some (.pointer (some ⟨b, o + 1, none⟩)) := by kernel_rfl
theorem T_carrackref11_Act.f2 {b o : Nat} : SemP PG (Instr.fieldAt T_carrackref11_Act (.pointer (some ⟨b, o, none⟩)) 2) = some (.pointer (some ⟨b, o + 2, none⟩)) := by kernel_rfl
theorem T_carrackref11_Act.build0 : SemP PG (Instr.build T_carrackref11_Act #[]) = some (Value.agg #[Value.int IntKind.i64 0, Value.string { data := #[] }, Value.string { data := #[] }]) := by kernel_rfl
theorem T_sl_api_Pair.und : PG.underlying T_sl_api_Pair = some (TypeDesc.slice 51) := Tryd.underlying34
theorem T_sl_api_Pair.info : PG.info? T_sl_api_Pair = some Tryd.t34 := by kernel_rfl
theorem T_sl_api_Pair.size : Tryd.t34.size = 1 := rfl
theorem T_sl_api_Pair.bytes : Tryd.t34.bytes = 24 := rfl
theorem T_sl_api_Pair.zero : Tryd.t34.zero = some (Value.slice none 0 0) := rfl
theorem T_sl_api_Pair.zc : zcells PG T_sl_api_Pair = ((Value.slice none 0 0)).cells := by kernel_rfl
theorem T_sl_api_Pair.load {h : PH} {a : Addr} : SemE PG h (Instr.loadAt T_sl_api_Pair (.pointer (some a))) = cellH h a := loadAt_cell T_sl_api_Pair.und rfl
theorem T_sl_api_Pair.len {a : Option Addr} {n c : Nat} {t : TypeId} : SemP PG (Builtin.len_ #[T_sl_api_Pair] t #[.slice a n c]) = some (.int .i64 n) := len_slice T_sl_api_Pair.und
theorem T_api_Errno.und : PG.underlying T_api_Errno = some (TypeDesc.int IntKind.i64) := Tryd.underlying35
theorem T_api_Errno.info : PG.info? T_api_Errno = some Tryd.t35 := by kernel_rfl
theorem T_api_Errno.size : Tryd.t35.size = 1 := rfl
theorem T_api_Errno.bytes : Tryd.t35.bytes = 8 := rfl
theorem T_api_Errno.zero : Tryd.t35.zero = some (Value.int IntKind.i64 0) := rfl
theorem T_api_Errno.zc : zcells PG T_api_Errno = ((Value.int IntKind.i64 0)).cells := by kernel_rfl
theorem T_api_Errno.load {h : PH} {a : Addr} : SemE PG h (Instr.loadAt T_api_Errno (.pointer (some a))) = cellH h a := loadAt_cell T_api_Errno.und rfl
theorem T_api_Pair.und : PG.underlying T_api_Pair = some (TypeDesc.struct #[{ name := "Key", type := 9, offset := 0, embedded := false, tag := "", pkgPath := "", byteOffset := 0 }, { name := "Value", type := 9, offset := 1, embedded := false, tag := "", pkgPath := "", byteOffset := 16 }]) := Tryd.underlying51
theorem T_api_Pair.info : PG.info? T_api_Pair = some Tryd.t51 := by kernel_rfl
theorem T_api_Pair.size : Tryd.t51.size = 2 := rfl
theorem T_api_Pair.bytes : Tryd.t51.bytes = 32 := rfl
theorem T_api_Pair.zero : Tryd.t51.zero = some (Value.agg #[Value.string { data := #[] }, Value.string { data := #[] }]) := rfl
theorem T_api_Pair.zc : zcells PG T_api_Pair = ((Value.agg #[Value.string { data := #[] }, Value.string { data := #[] }])).cells := by kernel_rfl
theorem T_api_Pair.loadAgg {h : PH} {b o : Nat} {c : Array Value} {e : TypeId} {fr : Nat × Nat} (hb : h b = some (.cells c e fr)) (hle : o + 2 ≤ c.size) : SemE PG h (Instr.loadAt T_api_Pair (.pointer (some ⟨b, o, none⟩))) = some (.agg (c.extract o (o + 2))) := loadAt_agg T_api_Pair.und rfl T_api_Pair.info T_api_Pair.size hb hle
theorem T_api_Pair.f0 {b o : Nat} : SemP PG (Instr.fieldAt T_api_Pair (.pointer (some ⟨b, o, none⟩)) 0) = some (.pointer (some ⟨b, o, none⟩)) := by kernel_rfl
theorem T_api_Pair.f1 {b o : Nat} : SemP PG (Instr.fieldAt T_api_Pair (.pointer (some ⟨b, o, none⟩)) 1) = some (.pointer (some ⟨b, o + 1, none⟩)) := by kernel_rfl
theorem T_api_Pair.build0 : SemP PG (Instr.build T_api_Pair #[]) = some (Value.agg #[Value.string { data := #[] }, Value.string { data := #[] }]) := by kernel_rfl
theorem T_sl_sl_api_Pair.und : PG.underlying T_sl_sl_api_Pair = some (TypeDesc.slice 34) := Tryd.underlying55
theorem T_sl_sl_api_Pair.info : PG.info? T_sl_sl_api_Pair = some Tryd.t55 := by kernel_rfl
theorem T_sl_sl_api_Pair.size : Tryd.t55.size = 1 := rfl
theorem T_sl_sl_api_Pair.bytes : Tryd.t55.bytes = 24 := rfl
theorem T_sl_sl_api_Pair.zero : Tryd.t55.zero = some (Value.slice none 0 0) := rfl
theorem T_sl_sl_api_Pair.zc : zcells PG T_sl_sl_api_Pair = ((Value.slice none 0 0)).cells := by kernel_rfl
theorem T_sl_sl_api_Pair.load {h : PH} {a : Addr} : SemE PG h (Instr.loadAt T_sl_sl_api_Pair (.pointer (some a))) = cellH h a := loadAt_cell T_sl_sl_api_Pair.und rfl
theorem T_sl_sl_api_Pair.len {a : Option Addr} {n c : Nat} {t : TypeId} : SemP PG (Builtin.len_ #[T_sl_sl_api_Pair] t #[.slice a n c]) = some (.int .i64 n) := len_slice T_sl_sl_api_Pair.und
theorem T_sl_string.und : PG.underlying T_sl_string = some (TypeDesc.slice 9) := Tryd.underlying56
theorem T_sl_string.info : PG.info? T_sl_string = some Tryd.t56 := by kernel_rfl
theorem T_sl_string.size : Tryd.t56.size = 1 := rfl
theorem T_sl_string.bytes : Tryd.t56.bytes = 24 := rfl
theorem T_sl_string.zero : Tryd.t56.zero = some (Value.slice none 0 0) := rfl
theorem T_sl_string.zc : zcells PG T_sl_string = ((Value.slice none 0 0)).cells := by kernel_rfl
theorem T_sl_string.load {h : PH} {a : Addr} : SemE PG h (Instr.loadAt T_sl_string (.pointer (some a))) = cellH h a := loadAt_cell T_sl_string.und rfl
theorem T_sl_string.len {a : Option Addr} {n c : Nat} {t : TypeId} : SemP PG (Builtin.len_ #[T_sl_string] t #[.slice a n c]) = some (.int .i64 n) := len_slice T_sl_string.und
theorem T_map_string_string.und : PG.underlying T_map_string_string = some (TypeDesc.map 9 9) := Tryd.underlying58
theorem T_map_string_string.info : PG.info? T_map_string_string = some Tryd.t58 := by kernel_rfl
theorem T_map_string_string.size : Tryd.t58.size = 1 := rfl
theorem T_map_string_string.bytes : Tryd.t58.bytes = 8 := rfl
theorem T_map_string_string.zero : Tryd.t58.zero = some (Value.map none) := rfl
theorem T_map_string_string.zc : zcells PG T_map_string_string = ((Value.map none)).cells := by kernel_rfl
theorem T_map_string_string.load {h : PH} {a : Addr} : SemE PG h (Instr.loadAt T_map_string_string (.pointer (some a))) = cellH h a := loadAt_cell T_map_string_string.und rfl
theorem T_store_sorted.und : PG.underlying T_store_sorted = some (TypeDesc.struct #[{ name := "l", type := 34, offset := 0, embedded := false, tag := "", pkgPath := "carrack/store", byteOffset := 0 }]) := Tryd.underlying60
theorem T_store_sorted.info : PG.info? T_store_sorted = some Tryd.t60 := by kernel_rfl
theorem T_store_sorted.size : Tryd.t60.size = 1 := rfl
theorem T_store_sorted.bytes : Tryd.t60.bytes = 24 := rfl
theorem T_store_sorted.zero : Tryd.t60.zero = some (Value.agg #[Value.slice none 0 0]) := rfl
theorem T_store_sorted.zc : zcells PG T_store_sorted = ((Value.agg #[Value.slice none 0 0])).cells := by kernel_rfl
theorem T_store_sorted.loadAgg {h : PH} {b o : Nat} {c : Array Value} {e : TypeId} {fr : Nat × Nat} (hb : h b = some (.cells c e fr)) (hle : o + 1 ≤ c.size) : SemE PG h (Instr.loadAt T_store_sorted (.pointer (some ⟨b, o, none⟩))) = some (.agg (c.extract o (o + 1))) := loadAt_agg T_store_sorted.und rfl T_store_sorted.info T_store_sorted.size hb hle
theorem T_store_sorted.f0 {b o : Nat} : SemP PG (Instr.fieldAt T_store_sorted (.pointer (some ⟨b, o, none⟩)) 0) = some (.pointer (some ⟨b, o, none⟩)) := by kernel_rfl
theorem T_store_sorted.build0 : SemP PG (Instr.build T_store_sorted #[]) = some (Value.agg #[Value.slice none 0 0]) := by kernel_rfl
theorem T_store_block.und : PG.underlying T_store_block = some (TypeDesc.struct #[{ name := "sorted", type := 60, offset := 0, embedded := true, tag := "", pkgPath := "carrack/store", byteOffset := 0 }, { name := "root", type := 9, offset := 1, embedded := false, tag := "", pkgPath := "carrack/store", byteOffset := 24 }]) := Tryd.underlying62
theorem T_store_block.info : PG.info? T_store_block = some Tryd.t62 := by kernel_rfl
theorem T_store_block.size : Tryd.t62.size = 2 := rfl
theorem T_store_block.bytes : Tryd.t62.bytes = 40 := rfl
theorem T_store_block.zero : Tryd.t62.zero = some (Value.agg #[Value.slice none 0 0, Value.string { data := #[] }]) := rfl
theorem T_store_block.zc : zcells PG T_store_block = ((Value.agg #[Value.slice none 0 0, Value.string { data := #[] }])).cells := by kernel_rfl
theorem T_store_block.loadAgg {h : PH} {b o : Nat} {c : Array Value} {e : TypeId} {fr : Nat × Nat} (hb : h b = some (.cells c e fr)) (hle : o + 2 ≤ c.size) : SemE PG h (Instr.loadAt T_store_block (.pointer (some ⟨b, o, none⟩))) = some (.agg (c.extract o (o + 2))) := loadAt_agg T_store_block.und rfl T_store_block.info T_store_block.size hb hle
theorem T_store_block.f0 {b o : Nat} : SemP PG (Instr.fieldAt T_store_block (.pointer (some ⟨b, o, none⟩)) 0) = some (.pointer (some ⟨b, o, none⟩)) := by kernel_rfl
theorem T_store_block.f1 {b o : Nat} : SemP PG (Instr.fieldAt T_store_block (.pointer (some ⟨b, o, none⟩)) 1) = some (.pointer (some ⟨b, o + 1, none⟩)) := by kernel_rfl
theorem T_store_block.build0 : SemP PG (Instr.build T_store_block #[]) = some (Value.agg #[Value.slice none 0 0, Value.string { data := #[] }]) := by kernel_rfl
theorem T_sl_store_block.und : PG.underlying T_sl_store_block = some (TypeDesc.slice 62) := Tryd.underlying63
theorem T_sl_store_block.info : PG.info? T_sl_store_block = some Tryd.t63 := by kernel_rfl
theorem T_sl_store_block.size : Tryd.t63.size = 1 := rfl
theorem T_sl_store_block.bytes : Tryd.t63.bytes = 24 := rfl
theorem T_sl_store_block.zero : Tryd.t63.zero = some (Value.slice none 0 0) := rfl
theorem T_sl_store_block.zc : zcells PG T_sl_store_block = ((Value.slice none 0 0)).cells := by kernel_rfl
theorem T_sl_store_block.load {h : PH} {a : Addr} : SemE PG h (Instr.loadAt T_sl_store_block (.pointer (some a))) = cellH h a := loadAt_cell T_sl_store_block.und rfl
theorem T_sl_store_block.len {a : Option Addr} {n c : Nat} {t : TypeId} : SemP PG (Builtin.len_ #[T_sl_store_block] t #[.slice a n c]) = some (.int .i64 n) := len_slice T_sl_store_block.und
theorem T_store_Store.und : PG.underlying T_store_Store = some (TypeDesc.struct #[{ name := "now", type := 58, offset := 0, embedded := false, tag := "", pkgPath := "carrack/store", byteOffset := 0 }, { name := "blocks", type := 63, offset := 1, embedded := false, tag := "", pkgPath := "carrack/store", byteOffset := 8 }, { name := "height", type := 22, offset := 2, embedded := false, tag := "", pkgPath := "carrack/store", byteOffset := 32 }]) := Tryd.underlying65
theorem T_store_Store.info : PG.info? T_store_Store = some Tryd.t65 := by kernel_rfl
theorem T_store_Store.size : Tryd.t65.size = 3 := rfl
theorem T_store_Store.bytes : Tryd.t65.bytes = 40 := rfl
theorem T_store_Store.zero : Tryd.t65.zero = some (Value.agg #[Value.map none, Value.slice none 0 0, Value.int IntKind.u64 0]) := rfl
theorem T_store_Store.zc : zcells PG T_store_Store = ((Value.agg #[Value.map none, Value.slice none 0 0, Value.int IntKind.u64 0])).cells := by kernel_rfl
theorem T_store_Store.loadAgg {h : PH} {b o : Nat} {c : Array Value} {e : TypeId} {fr : Nat × Nat} (hb : h b = some (.cells c e fr)) (hle : o + 3 ≤ c.size) : SemE PG h (Instr.loadAt T_store_Store (.pointer (some ⟨b, o, none⟩))) = some (.agg (c.extract o (o + 3))) := loadAt_agg T_store_Store.und rfl T_store_Store.info T_store_Store.size hb hle
theorem T_store_Store.f0 {b o : Nat} : SemP PG (Instr.fieldAt T_store_Store (.pointer (some ⟨b, o, none⟩)) 0) = some (.pointer (some ⟨b, o, none⟩)) := by kernel_rfl
theorem T_store_Store.f1 {b o : Nat} : SemP PG (Instr.fieldAt T_store_Store (.pointer (some ⟨b, o, none⟩)) 1) = some (.pointer (some ⟨b, o + 1, none⟩)) := by kernel_rfl
theorem T_store_Store.f2 {b o : Nat} : SemP PG (Instr.fieldAt T_store_Store (.pointer (some ⟨b, o, none⟩)) 2) = some (.pointer (some ⟨b, o + 2, none⟩)) := by kernel_rfl
theorem T_store_Store.build0 : SemP PG (Instr.build T_store_Store #[]) = some (Value.agg #[Value.map none, Value.slice none 0 0, Value.int IntKind.u64 0]) := by kernel_rfl
theorem T_carrackref11_Store.und : PG.underlying T_carrackref11_Store = some (TypeDesc.struct #[{ name := "Now", type := 34, offset := 0, embedded := false, tag := "", pkgPath := "", byteOffset := 0 }, { name := "First", type := 22, offset := 1, embedded := false, tag := "", pkgPath := "", byteOffset := 24 }, { name := "Blocks", type := 55, offset := 2, embedded := false, tag := "", pkgPath := "", byteOffset := 32 }]) := Tryd.underlying67
theorem T_carrackref11_Store.info : PG.info? T_carrackref11_Store = some Tryd.t67 := by kernel_rfl
theorem T_carrackref11_Store.size : Tryd.t67.size = 3 := rfl
theorem T_carrackref11_Store.bytes : Tryd.t67.bytes = 56 := rfl
theorem T_carrackref11_Store.zero : Tryd.t67.zero = some (Value.agg #[Value.slice none 0 0, Value.int IntKind.u64 0, Value.slice none 0 0]) := rfl
theorem T_carrackref11_Store.zc : zcells PG T_carrackref11_Store = ((Value.agg #[Value.slice none 0 0, Value.int IntKind.u64 0, Value.slice none 0 0])).cells := by kernel_rfl
theorem T_carrackref11_Store.loadAgg {h : PH} {b o : Nat} {c : Array Value} {e : TypeId} {fr : Nat × Nat} (hb : h b = some (.cells c e fr)) (hle : o + 3 ≤ c.size) : SemE PG h (Instr.loadAt T_carrackref11_Store (.pointer (some ⟨b, o, none⟩))) = some (.agg (c.extract o (o + 3))) := loadAt_agg T_carrackref11_Store.und rfl T_carrackref11_Store.info T_carrackref11_Store.size hb hle
theorem T_carrackref11_Store.f0 {b o : Nat} : SemP PG (Instr.fieldAt T_carrackref11_Store (.pointer (some ⟨b, o, none⟩)) 0) = some (.pointer (some ⟨b, o, none⟩)) := by kernel_rfl
theorem T_carrackref11_Store.f1 {b o : Nat} : SemP PG (Instr.fieldAt T_carrackref11_Store (.pointer (some ⟨b, o, none⟩)) 1) = some (.pointer (some ⟨b, o + 1, none⟩)) := by kernel_rfl
theorem T_carrackref11_Store.f2 {b o : Nat} : SemP PG (Instr.fieldAt T_carrackref11_Store (.pointer (some ⟨b, o, none⟩)) 2) = some (.pointer (some ⟨b, o + 2, none⟩)) := by kernel_rfl
theorem T_carrackref11_Store.build0 : SemP PG (Instr.build T_carrackref11_Store #[]) = some (Value.agg #[Value.slice none 0 0, Value.int IntKind.u64 0, Value.slice none 0 0]) := by kernel_rfl
theorem T_uint.und : PG.underlying T_uint = some (TypeDesc.int IntKind.u64) := Tryd.underlying83
theorem T_uint.info : PG.info? T_uint = some Tryd.t83 := by kernel_rfl
theorem T_uint.size : Tryd.t83.size = 1 := rfl
theorem T_uint.bytes : Tryd.t83.bytes = 8 := rfl
theorem T_uint.zero : Tryd.t83.zero = some (Value.int IntKind.u64 0) := rfl
theorem T_uint.zc : zcells PG T_uint = ((Value.int IntKind.u64 0)).cells := by kernel_rfl
theorem T_uint.load {h : PH} {a : Addr} : SemE PG h (Instr.loadAt T_uint (.pointer (some a))) = cellH h a := loadAt_cell T_uint.und rfl
theorem T_uint32.und : PG.underlying T_uint32 = some (TypeDesc.int IntKind.u32) := Tryd.underlying98
theorem T_uint32.info : PG.info? T_uint32 = some Tryd.t98 := by kernel_rfl
theorem T_uint32.size : Tryd.t98.size = 1 := rfl
theorem T_uint32.bytes : Tryd.t98.bytes = 4 := rfl
theorem T_uint32.zero : Tryd.t98.zero = some (Value.int IntKind.u32 0) := rfl
theorem T_uint32.zc : zcells PG T_uint32 = ((Value.int IntKind.u32 0)).cells := by kernel_rfl
theorem T_uint32.load {h : PH} {a : Addr} : SemE PG h (Instr.loadAt T_uint32 (.pointer (some a))) = cellH h a := loadAt_cell T_uint32.und rfl
theorem T_sl_uint8.und : PG.underlying T_sl_uint8 = some (TypeDesc.slice 5) := Tryd.underlying100
theorem T_sl_uint8.info : PG.info? T_sl_uint8 = some Tryd.t100 := by kernel_rfl
theorem T_sl_uint8.size : Tryd.t100.size = 1 := rfl
theorem T_sl_uint8.bytes : Tryd.t100.bytes = 24 := rfl
theorem T_sl_uint8.zero : Tryd.t100.zero = some (Value.slice none 0 0) := rfl
theorem T_sl_uint8.zc : zcells PG T_sl_uint8 = ((Value.slice none 0 0)).cells := by kernel_rfl
theorem T_sl_uint8.load {h : PH} {a : Addr} : SemE PG h (Instr.loadAt T_sl_uint8 (.pointer (some a))) = cellH h a := loadAt_cell T_sl_uint8.und rfl
theorem T_sl_uint8.len {a : Option Addr} {n c : Nat} {t : TypeId} : SemP PG (Builtin.len_ #[T_sl_uint8] t #[.slice a n c]) = some (.int .i64 n) := len_slice T_sl_uint8.und
theorem T_8_uint32.und : PG.underlying T_8_uint32 = some (TypeDesc.array 8 98) := Tryd.underlying110
theorem T_8_uint32.info : PG.info? T_8_uint32 = some Tryd.t110 := by kernel_rfl
theorem T_8_uint32.size : Tryd.t110.size = 8 := rfl
theorem T_8_uint32.bytes : Tryd.t110.bytes = 32 := rfl
theorem T_8_uint32.zero : Tryd.t110.zero = some (Value.agg #[Value.int IntKind.u32 0, Value.int IntKind.u32 0, Value.int IntKind.u32 0, Value.int IntKind.u32 0, Value.int IntKind.u32 0, Value.int IntKind.u32 0, Value.int IntKind.u32 0, Value.int IntKind.u32 0]) := rfl
theorem T_8_uint32.zc : zcells PG T_8_uint32 = ((Value.agg #[Value.int IntKind.u32 0, Value.int IntKind.u32 0, Value.int IntKind.u32 0, Value.int IntKind.u32 0, Value.int IntKind.u32 0, Value.int IntKind.u32 0, Value.int IntKind.u32 0, Value.int IntKind.u32 0])).cells := by kernel_rfl
theorem T_8_uint32.loadAgg {h : PH} {b o : Nat} {c : Array Value} {e : TypeId} {fr : Nat × Nat} (hb : h b = some (.cells c e fr)) (hle : o + 8 ≤ c.size) : SemE PG h (Instr.loadAt T_8_uint32 (.pointer (some ⟨b, o, none⟩))) = some (.agg (c.extract o (o + 8))) := loadAt_agg T_8_uint32.und rfl T_8_uint32.info T_8_uint32.size hb hle
theorem T_sha_state.und : PG.underlying T_sha_state = some (TypeDesc.struct #[{ name := "h", type := 110, offset := 0, embedded := false, tag := "", pkgPath := "carrack/sha", byteOffset := 0 }]) := Tryd.underlying112
theorem T_sha_state.info : PG.info? T_sha_state = some Tryd.t112 := by kernel_rfl
theorem T_sha_state.size : Tryd.t112.size = 8 := rfl
theorem T_sha_state.bytes : Tryd.t112.bytes = 32 := rfl
theorem T_sha_state.zero : Tryd.t112.zero = some (Value.agg #[Value.int IntKind.u32 0, Value.int IntKind.u32 0, Value.int IntKind.u32 0, Value.int IntKind.u32 0, Value.int IntKind.u32 0, Value.int IntKind.u32 0, Value.int IntKind.u32 0, Value.int IntKind.u32 0]) := rfl
theorem T_sha_state.zc : zcells PG T_sha_state = ((Value.agg #[Value.int IntKind.u32 0, Value.int IntKind.u32 0, Value.int IntKind.u32 0, Value.int IntKind.u32 0, Value.int IntKind.u32 0, Value.int IntKind.u32 0, Value.int IntKind.u32 0, Value.int IntKind.u32 0])).cells := by kernel_rfl
theorem T_sha_state.loadAgg {h : PH} {b o : Nat} {c : Array Value} {e : TypeId} {fr : Nat × Nat} (hb : h b = some (.cells c e fr)) (hle : o + 8 ≤ c.size) : SemE PG h (Instr.loadAt T_sha_state (.pointer (some ⟨b, o, none⟩))) = some (.agg (c.extract o (o + 8))) := loadAt_agg T_sha_state.und rfl T_sha_state.info T_sha_state.size hb hle
theorem T_sha_state.f0 {b o : Nat} : SemP PG (Instr.fieldAt T_sha_state (.pointer (some ⟨b, o, none⟩)) 0) = some (.pointer (some ⟨b, o, none⟩)) := by kernel_rfl
theorem T_sha_state.build0 : SemP PG (Instr.build T_sha_state #[]) = some (Value.agg #[Value.int IntKind.u32 0, Value.int IntKind.u32 0, Value.int IntKind.u32 0, Value.int IntKind.u32 0, Value.int IntKind.u32 0, Value.int IntKind.u32 0, Value.int IntKind.u32 0, Value.int IntKind.u32 0]) := by kernel_rfl
theorem T_sha_Hash.und : PG.underlying T_sha_Hash = some (TypeDesc.struct #[{ name := "state", type := 112, offset := 0, embedded := true, tag := "", pkgPath := "carrack/sha", byteOffset := 0 }, { name := "rest", type := 9, offset := 8, embedded := false, tag := "", pkgPath := "carrack/sha", byteOffset := 32 }, { name := "n", type := 3, offset := 9, embedded := false, tag := "", pkgPath := "carrack/sha", byteOffset := 48 }]) := Tryd.underlying115
theorem T_sha_Hash.info : PG.info? T_sha_Hash = some Tryd.t115 := by kernel_rfl
theorem T_sha_Hash.size : Tryd.t115.size = 10 := rfl
theorem T_sha_Hash.bytes : Tryd.t115.bytes = 56 := rfl
theorem T_sha_Hash.zero : Tryd.t115.zero = some (Value.agg #[Value.int IntKind.u32 0, Value.int IntKind.u32 0, Value.int IntKind.u32 0, Value.int IntKind.u32 0, Value.int IntKind.u32 0, Value.int IntKind.u32 0, Value.int IntKind.u32 0, Value.int IntKind.u32 0, Value.string { data := #[] }, Value.int IntKind.i64 0]) := rfl
theorem T_sha_Hash.zc : zcells PG T_sha_Hash = ((Value.agg #[Value.int IntKind.u32 0, Value.int IntKind.u32 0, Value.int IntKind.u32 0, Value.int IntKind.u32 0, Value.int IntKind.u32 0, Value.int IntKind.u32 0, Value.int IntKind.u32 0, Value.int IntKind.u32 0, Value.string { data := #[] }, Value.int IntKind.i64 0])).cells := by kernel_rfl
theorem T_sha_Hash.loadAgg {h : PH} {b o : Nat} {c : Array Value} {e : TypeId} {fr : Nat × Nat} (hb : h b = some (.cells c e fr)) (hle : o + 10 ≤ c.size) : SemE PG h (Instr.loadAt T_sha_Hash (.pointer (some ⟨b, o, none⟩))) = some (.agg (c.extract o (o + 10))) := loadAt_agg T_sha_Hash.und rfl T_sha_Hash.info T_sha_Hash.size hb hle
theorem T_sha_Hash.f0 {b o : Nat} : SemP PG (Instr.fieldAt T_sha_Hash (.pointer (some ⟨b, o, none⟩)) 0) = some (.pointer (some ⟨b, o, none⟩)) := by kernel_rfl
theorem T_sha_Hash.f1 {b o : Nat} : SemP PG (Instr.fieldAt T_sha_Hash (.pointer (some ⟨b, o, none⟩)) 1) = some (.pointer (some ⟨b, o + 8, none⟩)) := by kernel_rfl
theorem T_sha_Hash.f2 {b o : Nat} : SemP PG (Instr.fieldAt T_sha_Hash (.pointer (some ⟨b, o, none⟩)) 2) = some (.pointer (some ⟨b, o + 9, none⟩)) := by kernel_rfl
theorem T_sha_Hash.build0 : SemP PG (Instr.build T_sha_Hash #[]) = some (Value.agg #[Value.int IntKind.u32 0, Value.int IntKind.u32 0, Value.int IntKind.u32 0, Value.int IntKind.u32 0, Value.int IntKind.u32 0, Value.int IntKind.u32 0, Value.int IntKind.u32 0, Value.int IntKind.u32 0, Value.string { data := #[] }, Value.int IntKind.i64 0]) := by kernel_rfl
theorem T_p_strings_Builder.und : PG.underlying T_p_strings_Builder = some (TypeDesc.pointer 119) := Tryd.underlying117
theorem T_p_strings_Builder.info : PG.info? T_p_strings_Builder = some Tryd.t117 := by kernel_rfl
theorem T_p_strings_Builder.size : Tryd.t117.size = 1 := rfl
theorem T_p_strings_Builder.bytes : Tryd.t117.bytes = 8 := rfl
theorem T_p_strings_Builder.zero : Tryd.t117.zero = some (Value.pointer none) := rfl
theorem T_p_strings_Builder.zc : zcells PG T_p_strings_Builder = ((Value.pointer none)).cells := by kernel_rfl
theorem T_p_strings_Builder.load {h : PH} {a : Addr} : SemE PG h (Instr.loadAt T_p_strings_Builder (.pointer (some a))) = cellH h a := loadAt_cell T_p_strings_Builder.und rfl
theorem T_strings_Builder.und : PG.underlying T_strings_Builder = some (TypeDesc.struct #[{ name := "addr", type := 117, offset := 0, embedded := false, tag := "", pkgPath := "strings", byteOffset := 0 }, { name := "buf", type := 100, offset := 1, embedded := false, tag := "", pkgPath := "strings", byteOffset := 8 }]) := Tryd.underlying119
theorem T_strings_Builder.info : PG.info? T_strings_Builder = some Tryd.t119 := by kernel_rfl
theorem T_strings_Builder.size : Tryd.t119.size = 2 := rfl
theorem T_strings_Builder.bytes : Tryd.t119.bytes = 32 := rfl
theorem T_strings_Builder.zero : Tryd.t119.zero = some (Value.agg #[Value.pointer none, Value.slice none 0 0]) := rfl
theorem T_strings_Builder.zc : zcells PG T_strings_Builder = ((Value.agg #[Value.pointer none, Value.slice none 0 0])).cells := by kernel_rfl
theorem T_strings_Builder.loadAgg {h : PH} {b o : Nat} {c : Array Value} {e : TypeId} {fr : Nat × Nat} (hb : h b = some (.cells c e fr)) (hle : o + 2 ≤ c.size) : SemE PG h (Instr.loadAt T_strings_Builder (.pointer (some ⟨b, o, none⟩))) = some (.agg (c.extract o (o + 2))) := loadAt_agg T_strings_Builder.und rfl T_strings_Builder.info T_strings_Builder.size hb hle
theorem T_strings_Builder.f0 {b o : Nat} : SemP PG (Instr.fieldAt T_strings_Builder (.pointer (some ⟨b, o, none⟩)) 0) = some (.pointer (some ⟨b, o, none⟩)) := by kernel_rfl
theorem T_strings_Builder.f1 {b o : Nat} : SemP PG (Instr.fieldAt T_strings_Builder (.pointer (some ⟨b, o, none⟩)) 1) = some (.pointer (some ⟨b, o + 1, none⟩)) := by kernel_rfl
theorem T_strings_Builder.build0 : SemP PG (Instr.build T_strings_Builder #[]) = some (Value.agg #[Value.pointer none, Value.slice none 0 0]) := by kernel_rfl
theorem T_64_uint32.und : PG.underlying T_64_uint32 = some (TypeDesc.array 64 98) := Tryd.underlying128
theorem T_64_uint32.info : PG.info? T_64_uint32 = some Tryd.t128 := by kernel_rfl
theorem T_64_uint32.size : Tryd.t128.size = 64 := rfl
theorem T_64_uint32.bytes : Tryd.t128.bytes = 256 := rfl
theorem T_64_uint32.zero : Tryd.t128.zero = some (Value.agg #[Value.int IntKind.u32 0, Value.int IntKind.u32 0, Value.int IntKind.u32 0, Value.int IntKind.u32 0, Value.int IntKind.u32 0, Value.int IntKind.u32 0, Value.int IntKind.u32 0, Value.int IntKind.u32 0, Value.int IntKind.u32 0, Value.int IntKind.u32 0, Value.int IntKind.u32 0, Value.int IntKind.u32 0, Value.int IntKind.u32 0, Value.int IntKind.u32 0, Value.int IntKind.u32 0, Value.int IntKind.u32 0, Value.int IntKind.u32 0, Value.int IntKind.u32 0, Value.int IntKind.u32 0, Value.int IntKind.u32 0, Value.int IntKind.u32 0, Value.int IntKind.u32 0, Value.int IntKind.u32 0, Value.int IntKind.u32 0, Value.int IntKind.u32 0, Value.int IntKind.u32 0, Value.int IntKind.u32 0, Value.int IntKind.u32 0, Value.int IntKind.u32 0, Value.int IntKind.u32 0, Value.int IntKind.u32 0, Value.int IntKind.u32 0, Value.int IntKind.u32 0, Value.int IntKind.u32 0, Value.int IntKind.u32 0, Value.int IntKind.u32 0, Value.int IntKind.u32 0, Value.int IntKind.u32 0, Value.int IntKind.u32 0, Value.int IntKind.u32 0, Value.int IntKind.u32 0, Value.int IntKind.u32 0, Value.int IntKind.u32 0, Value.int IntKind.u32 0, Value.int IntKind.u32 0, Value.int IntKind.u32 0, Value.int IntKind.u32 0, Value.int IntKind.u32 0, Value.int IntKind.u32 0, Value.int IntKind.u32 0, Value.int IntKind.u32 0, Value.int IntKind.u32 0, Value.int IntKind.u32 0, Value.int IntKind.u32 0, Value.int IntKind.u32 0, Value.int IntKind.u32 0, Value.int IntKind.u32 0, Value.int IntKind.u32 0, Value.int IntKind.u32 0, Value.int IntKind.u32 0, Value.int IntKind.u32 0, Value.int IntKind.u32 0, Value.int IntKind.u32 0, Value.int IntKind.u32 0]) := rfl
theorem T_64_uint32.zc : zcells PG T_64_uint32 = ((Value.agg #[Value.int IntKind.u32 0, Value.int IntKind.u32 0, Value.int IntKind.u32 0, Value.int IntKind.u32 0, Value.int IntKind.u32 0, Value.int IntKind.u32 0, Value.int IntKind.u32 0, Value.int IntKind.u32 0, Value.int IntKind.u32 0, Value.int IntKind.u32 0, Value.int IntKind.u32 0, Value.int IntKind.u32 0, Value.int IntKind.u32 0, Value.int IntKind.u32 0, Value.int IntKind.u32 0, Value.int IntKind.u32 0, Value.int IntKind.u32 0, Value.int IntKind.u32 0, Value.int IntKind.u32 0, Value.int IntKind.u32 0, Value.int IntKind.u32 0, Value.int IntKind.u32 0, Value.int IntKind.u32 0, Value.int IntKind.u32 0, Value.int IntKind.u32 0, Value.int IntKind.u32 0, Value.int IntKind.u32 0, Value.int IntKind.u32 0, Value.int IntKind.u32 0, Value.int IntKind.u32 0, Value.int IntKind.u32 0, Value.int IntKind.u32 0, Value.int IntKind.u32 0, Value.int IntKind.u32 0, Value.int IntKind.u32 0, Value.int IntKind.u32 0, Value.int IntKind.u32 0, Value.int IntKind.u32 0, Value.int IntKind.u32 0, Value.int IntKind.u32 0, Value.int IntKind.u32 0, Value.int IntKind.u32 0, Value.int IntKind.u32 0, Value.int IntKind.u32 0, Value.int IntKind.u32 0, Value.int IntKind.u32 0, Value.int IntKind.u32 0, Value.int IntKind.u32 0, Value.int IntKind.u32 0, Value.int IntKind.u32 0, Value.int IntKind.u32 0, Value.int IntKind.u32 0, Value.int IntKind.u32 0, Value.int IntKind.u32 0, Value.int IntKind.u32 0, Value.int IntKind.u32 0, Value.int IntKind.u32 0, Value.int IntKind.u32 0, Value.int IntKind.u32 0, Value.int IntKind.u32 0, Value.int IntKind.u32 0, Value.int IntKind.u32 0, Value.int IntKind.u32 0, Value.int IntKind.u32 0])).cells := by kernel_rfl
theorem T_64_uint32.loadAgg {h : PH} {b o : Nat} {c : Array Value} {e : TypeId} {fr : Nat × Nat} (hb : h b = some (.cells c e fr)) (hle : o + 64 ≤ c.size) : SemE PG h (Instr.loadAt T_64_uint32 (.pointer (some ⟨b, o, none⟩))) = some (.agg (c.extract o (o + 64))) := loadAt_agg T_64_uint32.und rfl T_64_uint32.info T_64_uint32.size hb hle
theorem T_sl_uint32.und : PG.underlying T_sl_uint32 = some (TypeDesc.slice 98) := Tryd.underlying131
theorem T_sl_uint32.info : PG.info? T_sl_uint32 = some Tryd.t131 := by kernel_rfl
theorem T_sl_uint32.size : Tryd.t131.size = 1 := rfl
theorem T_sl_uint32.bytes : Tryd.t131.bytes = 24 := rfl
theorem T_sl_uint32.zero : Tryd.t131.zero = some (Value.slice none 0 0) := rfl
theorem T_sl_uint32.zc : zcells PG T_sl_uint32 = ((Value.slice none 0 0)).cells := by kernel_rfl
theorem T_sl_uint32.load {h : PH} {a : Addr} : SemE PG h (Instr.loadAt T_sl_uint32 (.pointer (some a))) = cellH h a := loadAt_cell T_sl_uint32.und rfl
theorem T_sl_uint32.len {a : Option Addr} {n c : Nat} {t : TypeId} : SemP PG (Builtin.len_ #[T_sl_uint32] t #[.slice a n c]) = some (.int .i64 n) := len_slice T_sl_uint32.und
theorem T_p_uint8.und : PG.underlying T_p_uint8 = some (TypeDesc.pointer 5) := Tryd.underlying138
theorem T_p_uint8.info : PG.info? T_p_uint8 = some Tryd.t138 := by kernel_rfl
theorem T_p_uint8.size : Tryd.t138.size = 1 := rfl
theorem T_p_uint8.bytes : Tryd.t138.bytes = 8 := rfl
theorem T_p_uint8.zero : Tryd.t138.zero = some (Value.pointer none) := rfl
theorem T_p_uint8.zc : zcells PG T_p_uint8 = ((Value.pointer none)).cells := by kernel_rfl
theorem T_p_uint8.load {h : PH} {a : Addr} : SemE PG h (Instr.loadAt T_p_uint8 (.pointer (some a))) = cellH h a := loadAt_cell T_p_uint8.und rfl
theorem T_unsafe_Pointer.und : PG.underlying T_unsafe_Pointer = some TypeDesc.unsafePointer := Tryd.underlying139
theorem T_unsafe_Pointer.info : PG.info? T_unsafe_Pointer = some Tryd.t139 := by kernel_rfl
theorem T_unsafe_Pointer.size : Tryd.t139.size = 1 := rfl
theorem T_unsafe_Pointer.bytes : Tryd.t139.bytes = 8 := rfl
theorem T_unsafe_Pointer.zero : Tryd.t139.zero = some (Value.pointer none) := rfl
theorem T_unsafe_Pointer.zc : zcells PG T_unsafe_Pointer = ((Value.pointer none)).cells := by kernel_rfl
theorem T_unsafe_Pointer.load {h : PH} {a : Addr} : SemE PG h (Instr.loadAt T_unsafe_Pointer (.pointer (some a))) = cellH h a := loadAt_cell T_unsafe_Pointer.und rfl
end Go.Proofs.YtllopddcpkhfjaaDoor
