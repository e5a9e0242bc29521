/- The numbers of this seat under names (printed by a program of ours off the translation). -/
import Derived.Test.YtekilljcoplacaaRows
import Derived.Test.YtekilljcoplacaaXMap
namespace Go.Proofs.Ytekilljcoplacaa.X

theorem mixed : Try.prog.follows .mixedOrders = true := by kernel_rfl
abbrev t_int : Nat := 3
theorem U_int : Try.prog.underlying 3 = some (.int .i64) := by kernel_rfl
theorem sz_int : (Try.prog.info? 3).map (·.size) = some 1 := by kernel_rfl
theorem szs_int : ((Try.prog.info? 3).map (·.size)).isSome = true := by kernel_rfl
theorem by_int : (Try.prog.info? 3).map (·.bytes) = some 8 := by kernel_rfl
theorem one_int : oneB Try.prog 3 = true := by kernel_rfl
theorem zs_int : (zeroOf Try.prog 3).map (·.size) = some 1 := by kernel_rfl
theorem z_int : zeroOf Try.prog 3 = some [(.int .i64 0)].toArray := by kernel_rfl
theorem zv_int : (Try.prog.info? 3).bind (·.zero) = some (.int .i64 0) := by kernel_rfl
abbrev t_bool : Nat := 4
theorem U_bool : Try.prog.underlying 4 = some .bool := by kernel_rfl
theorem sz_bool : (Try.prog.info? 4).map (·.size) = some 1 := by kernel_rfl
theorem szs_bool : ((Try.prog.info? 4).map (·.size)).isSome = true := by kernel_rfl
theorem by_bool : (Try.prog.info? 4).map (·.bytes) = some 1 := by kernel_rfl
theorem one_bool : oneB Try.prog 4 = true := by kernel_rfl
theorem zs_bool : (zeroOf Try.prog 4).map (·.size) = some 1 := by kernel_rfl
theorem z_bool : zeroOf Try.prog 4 = some [(.bool false)].toArray := by kernel_rfl
theorem zv_bool : (Try.prog.info? 4).bind (·.zero) = some (.bool false) := by kernel_rfl
abbrev t_uint8 : Nat := 5
theorem U_uint8 : Try.prog.underlying 5 = some (.int .u8) := by kernel_rfl
theorem sz_uint8 : (Try.prog.info? 5).map (·.size) = some 1 := by kernel_rfl
theorem szs_uint8 : ((Try.prog.info? 5).map (·.size)).isSome = true := by kernel_rfl
theorem by_uint8 : (Try.prog.info? 5).map (·.bytes) = some 1 := by kernel_rfl
theorem one_uint8 : oneB Try.prog 5 = true := by kernel_rfl
theorem zs_uint8 : (zeroOf Try.prog 5).map (·.size) = some 1 := by kernel_rfl
theorem z_uint8 : zeroOf Try.prog 5 = some [(.int .u8 0)].toArray := by kernel_rfl
theorem zv_uint8 : (Try.prog.info? 5).bind (·.zero) = some (.int .u8 0) := by kernel_rfl
abbrev t_sl_uint8 : Nat := 23
theorem U_sl_uint8 : Try.prog.underlying 23 = some (.slice 5) := by kernel_rfl
theorem sz_sl_uint8 : (Try.prog.info? 23).map (·.size) = some 1 := by kernel_rfl
theorem szs_sl_uint8 : ((Try.prog.info? 23).map (·.size)).isSome = true := by kernel_rfl
theorem by_sl_uint8 : (Try.prog.info? 23).map (·.bytes) = some 24 := by kernel_rfl
theorem one_sl_uint8 : oneB Try.prog 23 = true := by kernel_rfl
theorem zs_sl_uint8 : (zeroOf Try.prog 23).map (·.size) = some 1 := by kernel_rfl
theorem z_sl_uint8 : zeroOf Try.prog 23 = some [(.slice none 0 0)].toArray := by kernel_rfl
theorem zv_sl_uint8 : (Try.prog.info? 23).bind (·.zero) = some (.slice none 0 0) := by kernel_rfl
abbrev t_p_disk_Disk : Nat := 25
theorem U_p_disk_Disk : Try.prog.underlying 25 = some (.pointer 86) := by kernel_rfl
theorem sz_p_disk_Disk : (Try.prog.info? 25).map (·.size) = some 1 := by kernel_rfl
theorem szs_p_disk_Disk : ((Try.prog.info? 25).map (·.size)).isSome = true := by kernel_rfl
theorem by_p_disk_Disk : (Try.prog.info? 25).map (·.bytes) = some 8 := by kernel_rfl
theorem one_p_disk_Disk : oneB Try.prog 25 = true := by kernel_rfl
theorem zs_p_disk_Disk : (zeroOf Try.prog 25).map (·.size) = some 1 := by kernel_rfl
theorem z_p_disk_Disk : zeroOf Try.prog 25 = some [(.pointer none)].toArray := by kernel_rfl
theorem zv_p_disk_Disk : (Try.prog.info? 25).bind (·.zero) = some (.pointer none) := by kernel_rfl
abbrev t_api_Errno : Nat := 26
theorem U_api_Errno : Try.prog.underlying 26 = some (.int .i64) := by kernel_rfl
theorem sz_api_Errno : (Try.prog.info? 26).map (·.size) = some 1 := by kernel_rfl
theorem szs_api_Errno : ((Try.prog.info? 26).map (·.size)).isSome = true := by kernel_rfl
theorem by_api_Errno : (Try.prog.info? 26).map (·.bytes) = some 8 := by kernel_rfl
theorem one_api_Errno : oneB Try.prog 26 = true := by kernel_rfl
theorem zs_api_Errno : (zeroOf Try.prog 26).map (·.size) = some 1 := by kernel_rfl
theorem z_api_Errno : zeroOf Try.prog 26 = some [(.int .i64 0)].toArray := by kernel_rfl
theorem zv_api_Errno : (Try.prog.info? 26).bind (·.zero) = some (.int .i64 0) := by kernel_rfl
abbrev t_p_coppiceref06_Disk : Nat := 29
theorem U_p_coppiceref06_Disk : Try.prog.underlying 29 = some (.pointer 56) := by kernel_rfl
theorem sz_p_coppiceref06_Disk : (Try.prog.info? 29).map (·.size) = some 1 := by kernel_rfl
theorem szs_p_coppiceref06_Disk : ((Try.prog.info? 29).map (·.size)).isSome = true := by kernel_rfl
theorem by_p_coppiceref06_Disk : (Try.prog.info? 29).map (·.bytes) = some 8 := by kernel_rfl
theorem one_p_coppiceref06_Disk : oneB Try.prog 29 = true := by kernel_rfl
theorem zs_p_coppiceref06_Disk : (zeroOf Try.prog 29).map (·.size) = some 1 := by kernel_rfl
theorem z_p_coppiceref06_Disk : zeroOf Try.prog 29 = some [(.pointer none)].toArray := by kernel_rfl
theorem zv_p_coppiceref06_Disk : (Try.prog.info? 29).bind (·.zero) = some (.pointer none) := by kernel_rfl
abbrev t_coppicelaw06_Start : Nat := 37
theorem sz_coppicelaw06_Start : (Try.prog.info? 37).map (·.size) = some 2 := by kernel_rfl
theorem szs_coppicelaw06_Start : ((Try.prog.info? 37).map (·.size)).isSome = true := by kernel_rfl
theorem by_coppicelaw06_Start : (Try.prog.info? 37).map (·.bytes) = some 32 := by kernel_rfl
theorem many_coppicelaw06_Start : manyB Try.prog 37 2 = true := by kernel_rfl
theorem zs_coppicelaw06_Start : (zeroOf Try.prog 37).map (·.size) = some 2 := by kernel_rfl
theorem z_coppicelaw06_Start : zeroOf Try.prog 37 = some [(.int .i64 0), (.slice none 0 0)].toArray := by kernel_rfl
theorem fo_coppicelaw06_Start_0 : fieldOff Try.prog 37 0 = some 0 := by kernel_rfl
theorem fo_coppicelaw06_Start_1 : fieldOff Try.prog 37 1 = some 1 := by kernel_rfl
abbrev t_sl_coppicelaw06_Op : Nat := 38
theorem U_sl_coppicelaw06_Op : Try.prog.underlying 38 = some (.slice 43) := by kernel_rfl
theorem sz_sl_coppicelaw06_Op : (Try.prog.info? 38).map (·.size) = some 1 := by kernel_rfl
theorem szs_sl_coppicelaw06_Op : ((Try.prog.info? 38).map (·.size)).isSome = true := by kernel_rfl
theorem by_sl_coppicelaw06_Op : (Try.prog.info? 38).map (·.bytes) = some 24 := by kernel_rfl
theorem one_sl_coppicelaw06_Op : oneB Try.prog 38 = true := by kernel_rfl
theorem zs_sl_coppicelaw06_Op : (zeroOf Try.prog 38).map (·.size) = some 1 := by kernel_rfl
theorem z_sl_coppicelaw06_Op : zeroOf Try.prog 38 = some [(.slice none 0 0)].toArray := by kernel_rfl
theorem zv_sl_coppicelaw06_Op : (Try.prog.info? 38).bind (·.zero) = some (.slice none 0 0) := by kernel_rfl
abbrev t_sl_bool : Nat := 41
theorem U_sl_bool : Try.prog.underlying 41 = some (.slice 4) := by kernel_rfl
theorem sz_sl_bool : (Try.prog.info? 41).map (·.size) = some 1 := by kernel_rfl
theorem szs_sl_bool : ((Try.prog.info? 41).map (·.size)).isSome = true := by kernel_rfl
theorem by_sl_bool : (Try.prog.info? 41).map (·.bytes) = some 24 := by kernel_rfl
theorem one_sl_bool : oneB Try.prog 41 = true := by kernel_rfl
theorem zs_sl_bool : (zeroOf Try.prog 41).map (·.size) = some 1 := by kernel_rfl
theorem z_sl_bool : zeroOf Try.prog 41 = some [(.slice none 0 0)].toArray := by kernel_rfl
theorem zv_sl_bool : (Try.prog.info? 41).bind (·.zero) = some (.slice none 0 0) := by kernel_rfl
abbrev t_coppicelaw06_Op : Nat := 43
theorem sz_coppicelaw06_Op : (Try.prog.info? 43).map (·.size) = some 4 := by kernel_rfl
theorem szs_coppicelaw06_Op : ((Try.prog.info? 43).map (·.size)).isSome = true := by kernel_rfl
theorem by_coppicelaw06_Op : (Try.prog.info? 43).map (·.bytes) = some 64 := by kernel_rfl
theorem many_coppicelaw06_Op : manyB Try.prog 43 4 = true := by kernel_rfl
theorem zs_coppicelaw06_Op : (zeroOf Try.prog 43).map (·.size) = some 4 := by kernel_rfl
theorem z_coppicelaw06_Op : zeroOf Try.prog 43 = some [(.int .i64 0), (.int .i64 0), (.slice none 0 0), (.slice none 0 0)].toArray := by kernel_rfl
theorem fo_coppicelaw06_Op_0 : fieldOff Try.prog 43 0 = some 0 := by kernel_rfl
theorem fo_coppicelaw06_Op_1 : fieldOff Try.prog 43 1 = some 1 := by kernel_rfl
theorem fo_coppicelaw06_Op_2 : fieldOff Try.prog 43 2 = some 2 := by kernel_rfl
theorem fo_coppicelaw06_Op_3 : fieldOff Try.prog 43 3 = some 3 := by kernel_rfl
abbrev t_sl_int : Nat := 52
theorem U_sl_int : Try.prog.underlying 52 = some (.slice 3) := by kernel_rfl
theorem sz_sl_int : (Try.prog.info? 52).map (·.size) = some 1 := by kernel_rfl
theorem szs_sl_int : ((Try.prog.info? 52).map (·.size)).isSome = true := by kernel_rfl
theorem by_sl_int : (Try.prog.info? 52).map (·.bytes) = some 24 := by kernel_rfl
theorem one_sl_int : oneB Try.prog 52 = true := by kernel_rfl
theorem zs_sl_int : (zeroOf Try.prog 52).map (·.size) = some 1 := by kernel_rfl
theorem z_sl_int : zeroOf Try.prog 52 = some [(.slice none 0 0)].toArray := by kernel_rfl
theorem zv_sl_int : (Try.prog.info? 52).bind (·.zero) = some (.slice none 0 0) := by kernel_rfl
abbrev t_sl_coppiceref06_Written : Nat := 54
theorem U_sl_coppiceref06_Written : Try.prog.underlying 54 = some (.slice 92) := by kernel_rfl
theorem sz_sl_coppiceref06_Written : (Try.prog.info? 54).map (·.size) = some 1 := by kernel_rfl
theorem szs_sl_coppiceref06_Written : ((Try.prog.info? 54).map (·.size)).isSome = true := by kernel_rfl
theorem by_sl_coppiceref06_Written : (Try.prog.info? 54).map (·.bytes) = some 24 := by kernel_rfl
theorem one_sl_coppiceref06_Written : oneB Try.prog 54 = true := by kernel_rfl
theorem zs_sl_coppiceref06_Written : (zeroOf Try.prog 54).map (·.size) = some 1 := by kernel_rfl
theorem z_sl_coppiceref06_Written : zeroOf Try.prog 54 = some [(.slice none 0 0)].toArray := by kernel_rfl
theorem zv_sl_coppiceref06_Written : (Try.prog.info? 54).bind (·.zero) = some (.slice none 0 0) := by kernel_rfl
abbrev t_coppiceref06_Disk : Nat := 56
theorem sz_coppiceref06_Disk : (Try.prog.info? 56).map (·.size) = some 6 := by kernel_rfl
theorem szs_coppiceref06_Disk : ((Try.prog.info? 56).map (·.size)).isSome = true := by kernel_rfl
theorem by_coppiceref06_Disk : (Try.prog.info? 56).map (·.bytes) = some 80 := by kernel_rfl
theorem many_coppiceref06_Disk : manyB Try.prog 56 6 = true := by kernel_rfl
theorem zs_coppiceref06_Disk : (zeroOf Try.prog 56).map (·.size) = some 6 := by kernel_rfl
theorem z_coppiceref06_Disk : zeroOf Try.prog 56 = some [(.slice none 0 0), (.slice none 0 0), (.bool false), (.int .i64 0), (.int .i64 0), (.int .i64 0)].toArray := by kernel_rfl
theorem fo_coppiceref06_Disk_0 : fieldOff Try.prog 56 0 = some 0 := by kernel_rfl
theorem fo_coppiceref06_Disk_1 : fieldOff Try.prog 56 1 = some 1 := by kernel_rfl
theorem fo_coppiceref06_Disk_2 : fieldOff Try.prog 56 2 = some 2 := by kernel_rfl
theorem fo_coppiceref06_Disk_3 : fieldOff Try.prog 56 3 = some 3 := by kernel_rfl
theorem fo_coppiceref06_Disk_4 : fieldOff Try.prog 56 4 = some 4 := by kernel_rfl
theorem fo_coppiceref06_Disk_5 : fieldOff Try.prog 56 5 = some 5 := by kernel_rfl
abbrev t_coppicelaw06_Two : Nat := 59
theorem sz_coppicelaw06_Two : (Try.prog.info? 59).map (·.size) = some 2 := by kernel_rfl
theorem szs_coppicelaw06_Two : ((Try.prog.info? 59).map (·.size)).isSome = true := by kernel_rfl
theorem by_coppicelaw06_Two : (Try.prog.info? 59).map (·.bytes) = some 48 := by kernel_rfl
theorem many_coppicelaw06_Two : manyB Try.prog 59 2 = true := by kernel_rfl
theorem zs_coppicelaw06_Two : (zeroOf Try.prog 59).map (·.size) = some 2 := by kernel_rfl
theorem z_coppicelaw06_Two : zeroOf Try.prog 59 = some [(.slice none 0 0), (.slice none 0 0)].toArray := by kernel_rfl
theorem fo_coppicelaw06_Two_0 : fieldOff Try.prog 59 0 = some 0 := by kernel_rfl
theorem fo_coppicelaw06_Two_1 : fieldOff Try.prog 59 1 = some 1 := by kernel_rfl
abbrev t_sl_sl_uint8 : Nat := 67
theorem U_sl_sl_uint8 : Try.prog.underlying 67 = some (.slice 23) := by kernel_rfl
theorem sz_sl_sl_uint8 : (Try.prog.info? 67).map (·.size) = some 1 := by kernel_rfl
theorem szs_sl_sl_uint8 : ((Try.prog.info? 67).map (·.size)).isSome = true := by kernel_rfl
theorem by_sl_sl_uint8 : (Try.prog.info? 67).map (·.bytes) = some 24 := by kernel_rfl
theorem one_sl_sl_uint8 : oneB Try.prog 67 = true := by kernel_rfl
theorem zs_sl_sl_uint8 : (zeroOf Try.prog 67).map (·.size) = some 1 := by kernel_rfl
theorem z_sl_sl_uint8 : zeroOf Try.prog 67 = some [(.slice none 0 0)].toArray := by kernel_rfl
theorem zv_sl_sl_uint8 : (Try.prog.info? 67).bind (·.zero) = some (.slice none 0 0) := by kernel_rfl
abbrev t_sl_sl_int : Nat := 68
theorem U_sl_sl_int : Try.prog.underlying 68 = some (.slice 52) := by kernel_rfl
theorem sz_sl_sl_int : (Try.prog.info? 68).map (·.size) = some 1 := by kernel_rfl
theorem szs_sl_sl_int : ((Try.prog.info? 68).map (·.size)).isSome = true := by kernel_rfl
theorem by_sl_sl_int : (Try.prog.info? 68).map (·.bytes) = some 24 := by kernel_rfl
theorem one_sl_sl_int : oneB Try.prog 68 = true := by kernel_rfl
theorem zs_sl_sl_int : (zeroOf Try.prog 68).map (·.size) = some 1 := by kernel_rfl
theorem z_sl_sl_int : zeroOf Try.prog 68 = some [(.slice none 0 0)].toArray := by kernel_rfl
theorem zv_sl_sl_int : (Try.prog.info? 68).bind (·.zero) = some (.slice none 0 0) := by kernel_rfl
abbrev t_disk_block : Nat := 78
theorem U_disk_block : Try.prog.underlying 78 = some (.array 512 5) := by kernel_rfl
theorem sz_disk_block : (Try.prog.info? 78).map (·.size) = some 512 := by kernel_rfl
theorem szs_disk_block : ((Try.prog.info? 78).map (·.size)).isSome = true := by kernel_rfl
theorem by_disk_block : (Try.prog.info? 78).map (·.bytes) = some 512 := by kernel_rfl
theorem many_disk_block : manyB Try.prog 78 512 = true := by kernel_rfl
theorem zs_disk_block : (zeroOf Try.prog 78).map (·.size) = some 512 := by kernel_rfl
theorem z_disk_block : zeroOf Try.prog 78 = some (rep 512 (Value.int .u8 0)).toArray := by kernel_rfl
theorem zv_disk_block : (Try.prog.info? 78).bind (·.zero) = some (.agg (rep 512 (Value.int .u8 0)).toArray) := by kernel_rfl
abbrev t_funcint_bool : Nat := 80
theorem sz_funcint_bool : (Try.prog.info? 80).map (·.size) = some 1 := by kernel_rfl
theorem szs_funcint_bool : ((Try.prog.info? 80).map (·.size)).isSome = true := by kernel_rfl
theorem by_funcint_bool : (Try.prog.info? 80).map (·.bytes) = some 8 := by kernel_rfl
theorem one_funcint_bool : oneB Try.prog 80 = true := by kernel_rfl
theorem zs_funcint_bool : (zeroOf Try.prog 80).map (·.size) = some 1 := by kernel_rfl
theorem z_funcint_bool : zeroOf Try.prog 80 = some [.nilFunc].toArray := by kernel_rfl
theorem zv_funcint_bool : (Try.prog.info? 80).bind (·.zero) = some .nilFunc := by kernel_rfl
abbrev t_m_int_disk_block : Nat := 83
theorem U_m_int_disk_block : Try.prog.underlying 83 = some (.map 3 78) := by kernel_rfl
theorem sz_m_int_disk_block : (Try.prog.info? 83).map (·.size) = some 1 := by kernel_rfl
theorem szs_m_int_disk_block : ((Try.prog.info? 83).map (·.size)).isSome = true := by kernel_rfl
theorem by_m_int_disk_block : (Try.prog.info? 83).map (·.bytes) = some 8 := by kernel_rfl
theorem one_m_int_disk_block : oneB Try.prog 83 = true := by kernel_rfl
theorem zs_m_int_disk_block : (zeroOf Try.prog 83).map (·.size) = some 1 := by kernel_rfl
theorem z_m_int_disk_block : zeroOf Try.prog 83 = some [(.map none)].toArray := by kernel_rfl
theorem zv_m_int_disk_block : (Try.prog.info? 83).bind (·.zero) = some (.map none) := by kernel_rfl
abbrev t_sl_disk_write : Nat := 84
theorem U_sl_disk_write : Try.prog.underlying 84 = some (.slice 89) := by kernel_rfl
theorem sz_sl_disk_write : (Try.prog.info? 84).map (·.size) = some 1 := by kernel_rfl
theorem szs_sl_disk_write : ((Try.prog.info? 84).map (·.size)).isSome = true := by kernel_rfl
theorem by_sl_disk_write : (Try.prog.info? 84).map (·.bytes) = some 24 := by kernel_rfl
theorem one_sl_disk_write : oneB Try.prog 84 = true := by kernel_rfl
theorem zs_sl_disk_write : (zeroOf Try.prog 84).map (·.size) = some 1 := by kernel_rfl
theorem z_sl_disk_write : zeroOf Try.prog 84 = some [(.slice none 0 0)].toArray := by kernel_rfl
theorem zv_sl_disk_write : (Try.prog.info? 84).bind (·.zero) = some (.slice none 0 0) := by kernel_rfl
abbrev t_disk_Disk : Nat := 86
theorem sz_disk_Disk : (Try.prog.info? 86).map (·.size) = some 8 := by kernel_rfl
theorem szs_disk_Disk : ((Try.prog.info? 86).map (·.size)).isSome = true := by kernel_rfl
theorem by_disk_Disk : (Try.prog.info? 86).map (·.bytes) = some 80 := by kernel_rfl
theorem many_disk_Disk : manyB Try.prog 86 8 = true := by kernel_rfl
theorem zs_disk_Disk : (zeroOf Try.prog 86).map (·.size) = some 8 := by kernel_rfl
theorem z_disk_Disk : zeroOf Try.prog 86 = some [(.int .i64 0), (.map none), (.slice none 0 0), (.map none), (.bool false), (.int .i64 0), (.int .i64 0), (.int .i64 0)].toArray := by kernel_rfl
theorem fo_disk_Disk_0 : fieldOff Try.prog 86 0 = some 0 := by kernel_rfl
theorem fo_disk_Disk_1 : fieldOff Try.prog 86 1 = some 1 := by kernel_rfl
theorem fo_disk_Disk_2 : fieldOff Try.prog 86 2 = some 2 := by kernel_rfl
theorem fo_disk_Disk_3 : fieldOff Try.prog 86 3 = some 3 := by kernel_rfl
theorem fo_disk_Disk_4 : fieldOff Try.prog 86 4 = some 4 := by kernel_rfl
theorem fo_disk_Disk_5 : fieldOff Try.prog 86 5 = some 5 := by kernel_rfl
theorem fo_disk_Disk_6 : fieldOff Try.prog 86 6 = some 6 := by kernel_rfl
theorem fo_disk_Disk_7 : fieldOff Try.prog 86 7 = some 7 := by kernel_rfl
abbrev t_disk_write : Nat := 89
theorem sz_disk_write : (Try.prog.info? 89).map (·.size) = some 513 := by kernel_rfl
theorem szs_disk_write : ((Try.prog.info? 89).map (·.size)).isSome = true := by kernel_rfl
theorem by_disk_write : (Try.prog.info? 89).map (·.bytes) = some 520 := by kernel_rfl
theorem many_disk_write : manyB Try.prog 89 513 = true := by kernel_rfl
theorem zs_disk_write : (zeroOf Try.prog 89).map (·.size) = some 513 := by kernel_rfl
theorem fo_disk_write_0 : fieldOff Try.prog 89 0 = some 0 := by kernel_rfl
theorem fo_disk_write_1 : fieldOff Try.prog 89 1 = some 1 := by kernel_rfl
abbrev t_coppiceref06_Written : Nat := 92
theorem sz_coppiceref06_Written : (Try.prog.info? 92).map (·.size) = some 2 := by kernel_rfl
theorem szs_coppiceref06_Written : ((Try.prog.info? 92).map (·.size)).isSome = true := by kernel_rfl
theorem by_coppiceref06_Written : (Try.prog.info? 92).map (·.bytes) = some 32 := by kernel_rfl
theorem many_coppiceref06_Written : manyB Try.prog 92 2 = true := by kernel_rfl
theorem zs_coppiceref06_Written : (zeroOf Try.prog 92).map (·.size) = some 2 := by kernel_rfl
theorem z_coppiceref06_Written : zeroOf Try.prog 92 = some [(.int .i64 0), (.slice none 0 0)].toArray := by kernel_rfl
theorem fo_coppiceref06_Written_0 : fieldOff Try.prog 92 0 = some 0 := by kernel_rfl
theorem fo_coppiceref06_Written_1 : fieldOff Try.prog 92 1 = some 1 := by kernel_rfl
abbrev F_law06_DiskNames : Nat := 3
theorem cal_law06_DiskNames : Callable Try.prog 3 := ⟨Try.f3, Try.func3, by kernel_rfl, by kernel_rfl⟩
theorem func_law06_DiskNames : Try.prog.funcs[3]? = some Try.f3 := Try.func3
theorem nt_law06_DiskNames : Try.f3.ntmps = 1 := Try.ntmps3
abbrev F_law24_ForestNames : Nat := 4
theorem cal_law24_ForestNames : Callable Try.prog 4 := ⟨Try.f4, Try.func4, by kernel_rfl, by kernel_rfl⟩
theorem func_law24_ForestNames : Try.prog.funcs[4]? = some Try.f4 := Try.func4
theorem nt_law24_ForestNames : Try.f4.ntmps = 1 := Try.ntmps4
abbrev F_law30_MirrorNames : Nat := 5
theorem cal_law30_MirrorNames : Callable Try.prog 5 := ⟨Try.f5, Try.func5, by kernel_rfl, by kernel_rfl⟩
theorem func_law30_MirrorNames : Try.prog.funcs[5]? = some Try.f5 := Try.func5
theorem nt_law30_MirrorNames : Try.f5.ntmps = 1 := Try.ntmps5
abbrev F_law32_DeskNames : Nat := 6
theorem cal_law32_DeskNames : Callable Try.prog 6 := ⟨Try.f6, Try.func6, by kernel_rfl, by kernel_rfl⟩
theorem func_law32_DeskNames : Try.prog.funcs[6]? = some Try.f6 := Try.func6
theorem nt_law32_DeskNames : Try.f6.ntmps = 1 := Try.ntmps6
abbrev F_law27_TxnNames : Nat := 7
theorem cal_law27_TxnNames : Callable Try.prog 7 := ⟨Try.f7, Try.func7, by kernel_rfl, by kernel_rfl⟩
theorem func_law27_TxnNames : Try.prog.funcs[7]? = some Try.f7 := Try.func7
theorem nt_law27_TxnNames : Try.f7.ntmps = 1 := Try.ntmps7
abbrev F_law06_DiskTaken : Nat := 8
theorem cal_law06_DiskTaken : Callable Try.prog 8 := ⟨Try.f8, Try.func8, by kernel_rfl, by kernel_rfl⟩
theorem func_law06_DiskTaken : Try.prog.funcs[8]? = some Try.f8 := Try.func8
theorem nt_law06_DiskTaken : Try.f8.ntmps = 61 := Try.ntmps8
abbrev F_law06_DiskAlarm : Nat := 9
theorem cal_law06_DiskAlarm : Callable Try.prog 9 := ⟨Try.f9, Try.func9, by kernel_rfl, by kernel_rfl⟩
theorem func_law06_DiskAlarm : Try.prog.funcs[9]? = some Try.f9 := Try.func9
theorem nt_law06_DiskAlarm : Try.f9.ntmps = 108 := Try.ntmps9
abbrev F_law06_DiskMakes : Nat := 10
theorem cal_law06_DiskMakes : Callable Try.prog 10 := ⟨Try.f10, Try.func10, by kernel_rfl, by kernel_rfl⟩
theorem func_law06_DiskMakes : Try.prog.funcs[10]? = some Try.f10 := Try.func10
theorem nt_law06_DiskMakes : Try.f10.ntmps = 59 := Try.ntmps10
abbrev F_law06_DiskSynced : Nat := 11
theorem cal_law06_DiskSynced : Callable Try.prog 11 := ⟨Try.f11, Try.func11, by kernel_rfl, by kernel_rfl⟩
theorem func_law06_DiskSynced : Try.prog.funcs[11]? = some Try.f11 := Try.func11
theorem nt_law06_DiskSynced : Try.f11.ntmps = 96 := Try.ntmps11
abbrev F_law06_DiskKeeps : Nat := 12
theorem cal_law06_DiskKeeps : Callable Try.prog 12 := ⟨Try.f12, Try.func12, by kernel_rfl, by kernel_rfl⟩
theorem func_law06_DiskKeeps : Try.prog.funcs[12]? = some Try.f12 := Try.func12
theorem nt_law06_DiskKeeps : Try.f12.ntmps = 170 := Try.ntmps12
abbrev F_law06_DiskAgain : Nat := 13
theorem cal_law06_DiskAgain : Callable Try.prog 13 := ⟨Try.f13, Try.func13, by kernel_rfl, by kernel_rfl⟩
theorem func_law06_DiskAgain : Try.prog.funcs[13]? = some Try.f13 := Try.func13
theorem nt_law06_DiskAgain : Try.f13.ntmps = 93 := Try.ntmps13
abbrev F_law06_DiskFresh : Nat := 14
theorem cal_law06_DiskFresh : Callable Try.prog 14 := ⟨Try.f14, Try.func14, by kernel_rfl, by kernel_rfl⟩
theorem func_law06_DiskFresh : Try.prog.funcs[14]? = some Try.f14 := Try.func14
theorem nt_law06_DiskFresh : Try.f14.ntmps = 185 := Try.ntmps14
abbrev F_ref00_CopyBytes : Nat := 15
theorem cal_ref00_CopyBytes : Callable Try.prog 15 := ⟨Try.f15, Try.func15, by kernel_rfl, by kernel_rfl⟩
theorem func_ref00_CopyBytes : Try.prog.funcs[15]? = some Try.f15 := Try.func15
theorem nt_ref00_CopyBytes : Try.f15.ntmps = 22 := Try.ntmps15
abbrev F_disk_From : Nat := 16
theorem cal_disk_From : Callable Try.prog 16 := ⟨Try.f16, Try.func16, by kernel_rfl, by kernel_rfl⟩
theorem func_disk_From : Try.prog.funcs[16]? = some Try.f16 := Try.func16
theorem nt_disk_From : Try.f16.ntmps = 42 := Try.ntmps16
abbrev F_ref06_From : Nat := 17
theorem cal_ref06_From : Callable Try.prog 17 := ⟨Try.f17, Try.func17, by kernel_rfl, by kernel_rfl⟩
theorem func_ref06_From : Try.prog.funcs[17]? = some Try.f17 := Try.func17
theorem nt_ref06_From : Try.f17.ntmps = 19 := Try.ntmps17
abbrev F_law06_works : Nat := 18
theorem cal_law06_works : Callable Try.prog 18 := ⟨Try.f18, Try.func18, by kernel_rfl, by kernel_rfl⟩
theorem func_law06_works : Try.prog.funcs[18]? = some Try.f18 := Try.func18
theorem nt_law06_works : Try.f18.ntmps = 61 := Try.ntmps18
abbrev F_ref00_EqBytes : Nat := 19
theorem cal_ref00_EqBytes : Callable Try.prog 19 := ⟨Try.f19, Try.func19, by kernel_rfl, by kernel_rfl⟩
theorem func_ref00_EqBytes : Try.prog.funcs[19]? = some Try.f19 := Try.func19
theorem nt_ref00_EqBytes : Try.f19.ntmps = 9 := Try.ntmps19
abbrev F_disk_Disk_Image : Nat := 20
theorem cal_disk_Disk_Image : Callable Try.prog 20 := ⟨Try.f20, Try.func20, by kernel_rfl, by kernel_rfl⟩
theorem func_disk_Disk_Image : Try.prog.funcs[20]? = some Try.f20 := Try.func20
theorem nt_disk_Disk_Image : Try.f20.ntmps = 29 := Try.ntmps20
abbrev F_law06_whole : Nat := 21
theorem cal_law06_whole : Callable Try.prog 21 := ⟨Try.f21, Try.func21, by kernel_rfl, by kernel_rfl⟩
theorem func_law06_whole : Try.prog.funcs[21]? = some Try.f21 := Try.func21
theorem nt_law06_whole : Try.f21.ntmps = 27 := Try.ntmps21
abbrev F_law06_started : Nat := 22
theorem cal_law06_started : Callable Try.prog 22 := ⟨Try.f22, Try.func22, by kernel_rfl, by kernel_rfl⟩
theorem func_law06_started : Try.prog.funcs[22]? = some Try.f22 := Try.func22
theorem nt_law06_started : Try.f22.ntmps = 26 := Try.ntmps22
abbrev F_disk_Disk_Arm : Nat := 23
theorem cal_disk_Disk_Arm : Callable Try.prog 23 := ⟨Try.f23, Try.func23, by kernel_rfl, by kernel_rfl⟩
theorem func_disk_Disk_Arm : Try.prog.funcs[23]? = some Try.f23 := Try.func23
theorem nt_disk_Disk_Arm : Try.f23.ntmps = 13 := Try.ntmps23
abbrev F_disk_Disk_Sync : Nat := 24
theorem cal_disk_Disk_Sync : Callable Try.prog 24 := ⟨Try.f24, Try.func24, by kernel_rfl, by kernel_rfl⟩
theorem func_disk_Disk_Sync : Try.prog.funcs[24]? = some Try.f24 := Try.func24
theorem nt_disk_Disk_Sync : Try.f24.ntmps = 22 := Try.ntmps24
abbrev F_disk_Disk_Write : Nat := 25
theorem cal_disk_Disk_Write : Callable Try.prog 25 := ⟨Try.f25, Try.func25, by kernel_rfl, by kernel_rfl⟩
theorem func_disk_Disk_Write : Try.prog.funcs[25]? = some Try.f25 := Try.func25
theorem nt_disk_Disk_Write : Try.f25.ntmps = 57 := Try.ntmps25
abbrev F_disk_Disk_Acts : Nat := 26
theorem cal_disk_Disk_Acts : Callable Try.prog 26 := ⟨Try.f26, Try.func26, by kernel_rfl, by kernel_rfl⟩
theorem func_disk_Disk_Acts : Try.prog.funcs[26]? = some Try.f26 := Try.func26
theorem nt_disk_Disk_Acts : Try.f26.ntmps = 12 := Try.ntmps26
abbrev F_disk_Disk_IsOn : Nat := 27
theorem cal_disk_Disk_IsOn : Callable Try.prog 27 := ⟨Try.f27, Try.func27, by kernel_rfl, by kernel_rfl⟩
theorem func_disk_Disk_IsOn : Try.prog.funcs[27]? = some Try.f27 := Try.func27
theorem nt_disk_Disk_IsOn : Try.f27.ntmps = 7 := Try.ntmps27
abbrev F_law06_makes : Nat := 28
theorem cal_law06_makes : Callable Try.prog 28 := ⟨Try.f28, Try.func28, by kernel_rfl, by kernel_rfl⟩
theorem func_law06_makes : Try.prog.funcs[28]? = some Try.f28 := Try.func28
theorem nt_law06_makes : Try.f28.ntmps = 74 := Try.ntmps28
abbrev F_disk_Disk_Blocks : Nat := 29
theorem cal_disk_Disk_Blocks : Callable Try.prog 29 := ⟨Try.f29, Try.func29, by kernel_rfl, by kernel_rfl⟩
theorem func_disk_Disk_Blocks : Try.prog.funcs[29]? = some Try.f29 := Try.func29
theorem nt_disk_Disk_Blocks : Try.f29.ntmps = 7 := Try.ntmps29
abbrev F_ref06_Disk_Blocks : Nat := 30
theorem cal_ref06_Disk_Blocks : Callable Try.prog 30 := ⟨Try.f30, Try.func30, by kernel_rfl, by kernel_rfl⟩
theorem func_ref06_Disk_Blocks : Try.prog.funcs[30]? = some Try.f30 := Try.func30
theorem nt_ref06_Disk_Blocks : Try.f30.ntmps = 9 := Try.ntmps30
abbrev F_disk_Disk_Unsynced : Nat := 31
theorem cal_disk_Disk_Unsynced : Callable Try.prog 31 := ⟨Try.f31, Try.func31, by kernel_rfl, by kernel_rfl⟩
theorem func_disk_Disk_Unsynced : Try.prog.funcs[31]? = some Try.f31 := Try.func31
theorem nt_disk_Disk_Unsynced : Try.f31.ntmps = 22 := Try.ntmps31
abbrev F_law06_run : Nat := 32
theorem cal_law06_run : Callable Try.prog 32 := ⟨Try.f32, Try.func32, by kernel_rfl, by kernel_rfl⟩
theorem func_law06_run : Try.prog.funcs[32]? = some Try.f32 := Try.func32
theorem nt_law06_run : Try.f32.ntmps = 57 := Try.ntmps32
abbrev F_disk_Disk_Off : Nat := 33
theorem cal_disk_Disk_Off : Callable Try.prog 33 := ⟨Try.f33, Try.func33, by kernel_rfl, by kernel_rfl⟩
theorem func_disk_Disk_Off : Try.prog.funcs[33]? = some Try.f33 := Try.func33
theorem nt_disk_Disk_Off : Try.f33.ntmps = 8 := Try.ntmps33
abbrev F_disk_Disk_On : Nat := 34
theorem cal_disk_Disk_On : Callable Try.prog 34 := ⟨Try.f34, Try.func34, by kernel_rfl, by kernel_rfl⟩
theorem func_disk_Disk_On : Try.prog.funcs[34]? = some Try.f34 := Try.func34
theorem nt_disk_Disk_On : Try.f34.ntmps = 14 := Try.ntmps34
abbrev F_law06_copyBools : Nat := 35
theorem cal_law06_copyBools : Callable Try.prog 35 := ⟨Try.f35, Try.func35, by kernel_rfl, by kernel_rfl⟩
theorem func_law06_copyBools : Try.prog.funcs[35]? = some Try.f35 := Try.func35
theorem nt_law06_copyBools : Try.f35.ntmps = 22 := Try.ntmps35
abbrev F_ref00_EqInts : Nat := 36
theorem cal_ref00_EqInts : Callable Try.prog 36 := ⟨Try.f36, Try.func36, by kernel_rfl, by kernel_rfl⟩
theorem func_ref00_EqInts : Try.prog.funcs[36]? = some Try.f36 := Try.func36
theorem nt_ref00_EqInts : Try.f36.ntmps = 26 := Try.ntmps36
abbrev F_ref06_Disk_Write : Nat := 37
theorem cal_ref06_Disk_Write : Callable Try.prog 37 := ⟨Try.f37, Try.func37, by kernel_rfl, by kernel_rfl⟩
theorem func_ref06_Disk_Write : Try.prog.funcs[37]? = some Try.f37 := Try.func37
theorem nt_ref06_Disk_Write : Try.f37.ntmps = 42 := Try.ntmps37
abbrev F_disk_Disk_Lay : Nat := 38
theorem cal_disk_Disk_Lay : Callable Try.prog 38 := ⟨Try.f38, Try.func38, by kernel_rfl, by kernel_rfl⟩
theorem func_disk_Disk_Lay : Try.prog.funcs[38]? = some Try.f38 := Try.func38
theorem nt_disk_Disk_Lay : Try.f38.ntmps = 30 := Try.ntmps38
abbrev F_ref06_Disk_Lay : Nat := 39
theorem cal_ref06_Disk_Lay : Callable Try.prog 39 := ⟨Try.f39, Try.func39, by kernel_rfl, by kernel_rfl⟩
theorem func_ref06_Disk_Lay : Try.prog.funcs[39]? = some Try.f39 := Try.func39
theorem nt_ref06_Disk_Lay : Try.f39.ntmps = 26 := Try.ntmps39
abbrev F_disk_Disk_Read : Nat := 40
theorem cal_disk_Disk_Read : Callable Try.prog 40 := ⟨Try.f40, Try.func40, by kernel_rfl, by kernel_rfl⟩
theorem func_disk_Disk_Read : Try.prog.funcs[40]? = some Try.f40 := Try.func40
theorem nt_disk_Disk_Read : Try.f40.ntmps = 42 := Try.ntmps40
abbrev F_ref06_Disk_Read : Nat := 41
theorem cal_ref06_Disk_Read : Callable Try.prog 41 := ⟨Try.f41, Try.func41, by kernel_rfl, by kernel_rfl⟩
theorem func_ref06_Disk_Read : Try.prog.funcs[41]? = some Try.f41 := Try.func41
theorem nt_ref06_Disk_Read : Try.f41.ntmps = 18 := Try.ntmps41
abbrev F_law06_plays : Nat := 42
theorem cal_law06_plays : Callable Try.prog 42 := ⟨Try.f42, Try.func42, by kernel_rfl, by kernel_rfl⟩
theorem func_law06_plays : Try.prog.funcs[42]? = some Try.f42 := Try.func42
theorem nt_law06_plays : Try.f42.ntmps = 113 := Try.ntmps42
abbrev F_ref00_Apart : Nat := 43
theorem cal_ref00_Apart : Callable Try.prog 43 := ⟨Try.f43, Try.func43, by kernel_rfl, by kernel_rfl⟩
theorem func_ref00_Apart : Try.prog.funcs[43]? = some Try.f43 := Try.func43
theorem nt_ref00_Apart : Try.f43.ntmps = 125 := Try.ntmps43
abbrev F_ref00_ApartInts : Nat := 44
theorem cal_ref00_ApartInts : Callable Try.prog 44 := ⟨Try.f44, Try.func44, by kernel_rfl, by kernel_rfl⟩
theorem func_ref00_ApartInts : Try.prog.funcs[44]? = some Try.f44 := Try.func44
theorem nt_ref00_ApartInts : Try.f44.ntmps = 117 := Try.ntmps44
abbrev F_ref06_Disk_Unsynced : Nat := 45
theorem cal_ref06_Disk_Unsynced : Callable Try.prog 45 := ⟨Try.f45, Try.func45, by kernel_rfl, by kernel_rfl⟩
theorem func_ref06_Disk_Unsynced : Try.prog.funcs[45]? = some Try.f45 := Try.func45
theorem nt_ref06_Disk_Unsynced : Try.f45.ntmps = 26 := Try.ntmps45
abbrev F_disk_over : Nat := 46
theorem cal_disk_over : Callable Try.prog 46 := ⟨Try.f46, Try.func46, by kernel_rfl, by kernel_rfl⟩
theorem func_disk_over : Try.prog.funcs[46]? = some Try.f46 := Try.func46
theorem nt_disk_over : Try.f46.ntmps = 8 := Try.ntmps46
abbrev F_disk_Disk_keep : Nat := 47
theorem cal_disk_Disk_keep : Callable Try.prog 47 := ⟨Try.f47, Try.func47, by kernel_rfl, by kernel_rfl⟩
theorem func_disk_Disk_keep : Try.prog.funcs[47]? = some Try.f47 := Try.func47
theorem nt_disk_Disk_keep : Try.f47.ntmps = 20 := Try.ntmps47
abbrev F_ref06_fits : Nat := 48
theorem cal_ref06_fits : Callable Try.prog 48 := ⟨Try.f48, Try.func48, by kernel_rfl, by kernel_rfl⟩
theorem func_ref06_fits : Try.prog.funcs[48]? = some Try.f48 := Try.func48
theorem nt_ref06_fits : Try.f48.ntmps = 9 := Try.ntmps48
abbrev F_disk_New : Nat := 49
theorem cal_disk_New : Callable Try.prog 49 := ⟨Try.f49, Try.func49, by kernel_rfl, by kernel_rfl⟩
theorem func_disk_New : Try.prog.funcs[49]? = some Try.f49 := Try.func49
theorem nt_disk_New : Try.f49.ntmps = 12 := Try.ntmps49
abbrev F_ref00_Compare : Nat := 50
theorem cal_ref00_Compare : Callable Try.prog 50 := ⟨Try.f50, Try.func50, by kernel_rfl, by kernel_rfl⟩
theorem func_ref00_Compare : Try.prog.funcs[50]? = some Try.f50 := Try.func50
theorem nt_ref00_Compare : Try.f50.ntmps = 46 := Try.ntmps50
abbrev F_disk_Disk_act : Nat := 51
theorem cal_disk_Disk_act : Callable Try.prog 51 := ⟨Try.f51, Try.func51, by kernel_rfl, by kernel_rfl⟩
theorem func_disk_Disk_act : Try.prog.funcs[51]? = some Try.f51 := Try.func51
theorem nt_disk_Disk_act : Try.f51.ntmps = 22 := Try.ntmps51
abbrev F_disk_Disk_settle : Nat := 52
theorem cal_disk_Disk_settle : Callable Try.prog 52 := ⟨Try.f52, Try.func52, by kernel_rfl, by kernel_rfl⟩
theorem func_disk_Disk_settle : Try.prog.funcs[52]? = some Try.f52 := Try.func52
theorem nt_disk_Disk_settle : Try.f52.ntmps = 33 := Try.ntmps52
abbrev F_disk_Disk_Sync_1 : Nat := 53
theorem cal_disk_Disk_Sync_1 : Callable Try.prog 53 := ⟨Try.f53, Try.func53, by kernel_rfl, by kernel_rfl⟩
theorem func_disk_Disk_Sync_1 : Try.prog.funcs[53]? = some Try.f53 := Try.func53
theorem nt_disk_Disk_Sync_1 : Try.f53.ntmps = 3 := Try.ntmps53
abbrev F_disk_Disk_there : Nat := 54
theorem cal_disk_Disk_there : Callable Try.prog 54 := ⟨Try.f54, Try.func54, by kernel_rfl, by kernel_rfl⟩
theorem func_disk_Disk_there : Try.prog.funcs[54]? = some Try.f54 := Try.func54
theorem nt_disk_Disk_there : Try.f54.ntmps = 15 := Try.ntmps54
abbrev F_ref00_Spare : Nat := 55
theorem cal_ref00_Spare : Callable Try.prog 55 := ⟨Try.f55, Try.func55, by kernel_rfl, by kernel_rfl⟩
theorem func_ref00_Spare : Try.prog.funcs[55]? = some Try.f55 := Try.func55
theorem nt_ref00_Spare : Try.f55.ntmps = 36 := Try.ntmps55
abbrev F_ref00_Kept : Nat := 56
theorem cal_ref00_Kept : Callable Try.prog 56 := ⟨Try.f56, Try.func56, by kernel_rfl, by kernel_rfl⟩
theorem func_ref00_Kept : Try.prog.funcs[56]? = some Try.f56 := Try.func56
theorem nt_ref00_Kept : Try.f56.ntmps = 32 := Try.ntmps56
abbrev F_ref06_New : Nat := 57
theorem cal_ref06_New : Callable Try.prog 57 := ⟨Try.f57, Try.func57, by kernel_rfl, by kernel_rfl⟩
theorem func_ref06_New : Try.prog.funcs[57]? = some Try.f57 := Try.func57
theorem nt_ref06_New : Try.f57.ntmps = 12 := Try.ntmps57
abbrev F_disk_Disk_On_1 : Nat := 58
theorem cal_disk_Disk_On_1 : Callable Try.prog 58 := ⟨Try.f58, Try.func58, by kernel_rfl, by kernel_rfl⟩
theorem func_disk_Disk_On_1 : Try.prog.funcs[58]? = some Try.f58 := Try.func58
theorem nt_disk_Disk_On_1 : Try.f58.ntmps = 14 := Try.ntmps58
abbrev F_ref06_Disk_has : Nat := 59
theorem cal_ref06_Disk_has : Callable Try.prog 59 := ⟨Try.f59, Try.func59, by kernel_rfl, by kernel_rfl⟩
theorem func_ref06_Disk_has : Try.prog.funcs[59]? = some Try.f59 := Try.func59
theorem nt_ref06_Disk_has : Try.f59.ntmps = 13 := Try.ntmps59
abbrev F_ref06_Disk_act : Nat := 60
theorem cal_ref06_Disk_act : Callable Try.prog 60 := ⟨Try.f60, Try.func60, by kernel_rfl, by kernel_rfl⟩
theorem func_ref06_Disk_act : Try.prog.funcs[60]? = some Try.f60 := Try.func60
theorem nt_ref06_Disk_act : Try.f60.ntmps = 27 := Try.ntmps60
abbrev F_ref06_Disk_lay : Nat := 61
theorem cal_ref06_Disk_lay : Callable Try.prog 61 := ⟨Try.f61, Try.func61, by kernel_rfl, by kernel_rfl⟩
theorem func_ref06_Disk_lay : Try.prog.funcs[61]? = some Try.f61 := Try.func61
theorem nt_ref06_Disk_lay : Try.f61.ntmps = 24 := Try.ntmps61
abbrev F_ref06_Disk_Shows : Nat := 62
theorem cal_ref06_Disk_Shows : Callable Try.prog 62 := ⟨Try.f62, Try.func62, by kernel_rfl, by kernel_rfl⟩
theorem func_ref06_Disk_Shows : Try.prog.funcs[62]? = some Try.f62 := Try.func62
theorem nt_ref06_Disk_Shows : Try.f62.ntmps = 46 := Try.ntmps62
abbrev F_ref06_Disk_Sync : Nat := 63
theorem cal_ref06_Disk_Sync : Callable Try.prog 63 := ⟨Try.f63, Try.func63, by kernel_rfl, by kernel_rfl⟩
theorem func_ref06_Disk_Sync : Try.prog.funcs[63]? = some Try.f63 := Try.func63
theorem nt_ref06_Disk_Sync : Try.f63.ntmps = 49 := Try.ntmps63
abbrev F_ref06_Disk_Arm : Nat := 64
theorem cal_ref06_Disk_Arm : Callable Try.prog 64 := ⟨Try.f64, Try.func64, by kernel_rfl, by kernel_rfl⟩
theorem func_ref06_Disk_Arm : Try.prog.funcs[64]? = some Try.f64 := Try.func64
theorem nt_ref06_Disk_Arm : Try.f64.ntmps = 17 := Try.ntmps64
abbrev F_ref06_Disk_Off : Nat := 65
theorem cal_ref06_Disk_Off : Callable Try.prog 65 := ⟨Try.f65, Try.func65, by kernel_rfl, by kernel_rfl⟩
theorem func_ref06_Disk_Off : Try.prog.funcs[65]? = some Try.f65 := Try.func65
theorem nt_ref06_Disk_Off : Try.f65.ntmps = 8 := Try.ntmps65
abbrev F_ref06_Disk_On : Nat := 66
theorem cal_ref06_Disk_On : Callable Try.prog 66 := ⟨Try.f66, Try.func66, by kernel_rfl, by kernel_rfl⟩
theorem func_ref06_Disk_On : Try.prog.funcs[66]? = some Try.f66 := Try.func66
theorem nt_ref06_Disk_On : Try.f66.ntmps = 55 := Try.ntmps66
abbrev F_law06_eqBools : Nat := 67
theorem cal_law06_eqBools : Callable Try.prog 67 := ⟨Try.f67, Try.func67, by kernel_rfl, by kernel_rfl⟩
theorem func_law06_eqBools : Try.prog.funcs[67]? = some Try.f67 := Try.func67
theorem nt_law06_eqBools : Try.f67.ntmps = 26 := Try.ntmps67
abbrev F_law06_asks : Nat := 68
theorem cal_law06_asks : Callable Try.prog 68 := ⟨Try.f68, Try.func68, by kernel_rfl, by kernel_rfl⟩
theorem func_law06_asks : Try.prog.funcs[68]? = some Try.f68 := Try.func68
theorem nt_law06_asks : Try.f68.ntmps = 91 := Try.ntmps68
abbrev F_ref06_Disk_IsOn : Nat := 69
theorem cal_ref06_Disk_IsOn : Callable Try.prog 69 := ⟨Try.f69, Try.func69, by kernel_rfl, by kernel_rfl⟩
theorem func_ref06_Disk_IsOn : Try.prog.funcs[69]? = some Try.f69 := Try.func69
theorem nt_ref06_Disk_IsOn : Try.f69.ntmps = 7 := Try.ntmps69
abbrev F_ref06_Disk_Acts : Nat := 70
theorem cal_ref06_Disk_Acts : Callable Try.prog 70 := ⟨Try.f70, Try.func70, by kernel_rfl, by kernel_rfl⟩
theorem func_ref06_Disk_Acts : Try.prog.funcs[70]? = some Try.f70 := Try.func70
theorem nt_ref06_Disk_Acts : Try.f70.ntmps = 12 := Try.ntmps70

end Go.Proofs.Ytekilljcoplacaa.X
