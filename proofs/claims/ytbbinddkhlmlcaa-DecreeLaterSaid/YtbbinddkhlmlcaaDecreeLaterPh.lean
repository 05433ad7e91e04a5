/- Texts of the proof. -/
import Derived.Test.YtbbinddkhlmlcaaDecreeLaterPg
section
namespace Go.Proofs
open Go.Tm
theorem Try.tm_1 : Try.tm 1 = { kind := 1, size := 1, offs := [], zero := [.nilfn], el := 0, esz := 0, eby := 0, eagg := false, ik := none, eqs := false, ezero := [] } := by kernel_rfl
theorem Try.tm_2 : Try.tm 2 = { kind := 6, size := 1, offs := [], zero := [.int .i64 0], el := 0, esz := 0, eby := 0, eagg := false, ik := some .i64, eqs := false, ezero := [] } := by kernel_rfl
theorem Try.tm_3 : Try.tm 3 = { kind := 6, size := 1, offs := [], zero := [.int .i64 0], el := 0, esz := 0, eby := 0, eagg := false, ik := some .i64, eqs := false, ezero := [] } := by kernel_rfl
theorem Try.tm_4 : Try.tm 4 = { kind := 8, size := 1, offs := [], zero := [.bool false], el := 0, esz := 0, eby := 0, eagg := false, ik := none, eqs := false, ezero := [] } := by kernel_rfl
theorem Try.tm_5 : Try.tm 5 = { kind := 6, size := 1, offs := [], zero := [.int .u8 0], el := 0, esz := 0, eby := 0, eagg := false, ik := some .u8, eqs := false, ezero := [] } := by kernel_rfl
theorem Try.tm_6 : Try.tm 6 = { kind := 6, size := 1, offs := [], zero := [.int .u8 0], el := 0, esz := 0, eby := 0, eagg := false, ik := some .u8, eqs := false, ezero := [] } := by kernel_rfl
theorem Try.tm_7 : Try.tm 7 = { kind := 2, size := 4, offs := [(0, 1, false), (1, 1, false), (2, 1, false), (3, 1, false)], zero := [.int .i64 0, .int .i64 0, .bool false, .int .u8 0], el := 0, esz := 0, eby := 0, eagg := false, ik := none, eqs := false, ezero := [] } := by kernel_rfl
theorem Try.tm_8 : Try.tm 8 = { kind := 2, size := 4, offs := [(0, 1, false), (1, 1, false), (2, 1, false), (3, 1, false)], zero := [.int .i64 0, .int .i64 0, .bool false, .int .u8 0], el := 0, esz := 0, eby := 0, eagg := false, ik := none, eqs := false, ezero := [] } := by kernel_rfl
theorem Try.tm_9 : Try.tm 9 = { kind := 5, size := 1, offs := [], zero := [.str []], el := 0, esz := 0, eby := 0, eagg := false, ik := none, eqs := false, ezero := [] } := by kernel_rfl
theorem Try.tm_10 : Try.tm 10 = { kind := 5, size := 1, offs := [], zero := [.str []], el := 0, esz := 0, eby := 0, eagg := false, ik := none, eqs := false, ezero := [] } := by kernel_rfl
theorem Try.tm_11 : Try.tm 11 = { kind := 5, size := 1, offs := [], zero := [.str []], el := 0, esz := 0, eby := 0, eagg := false, ik := none, eqs := false, ezero := [] } := by kernel_rfl
theorem Try.tm_12 : Try.tm 12 = { kind := 6, size := 1, offs := [], zero := [.int .u64 0], el := 0, esz := 0, eby := 0, eagg := false, ik := some .u64, eqs := false, ezero := [] } := by kernel_rfl
theorem Try.tm_13 : Try.tm 13 = { kind := 2, size := 2, offs := [(0, 1, false), (1, 1, false)], zero := [.str [], .int .u64 0], el := 0, esz := 0, eby := 0, eagg := false, ik := none, eqs := false, ezero := [] } := by kernel_rfl
theorem Try.tm_14 : Try.tm 14 = { kind := 2, size := 2, offs := [(0, 1, false), (1, 1, false)], zero := [.str [], .int .u64 0], el := 0, esz := 0, eby := 0, eagg := false, ik := none, eqs := false, ezero := [] } := by kernel_rfl
theorem Try.tm_15 : Try.tm 15 = { kind := 1, size := 1, offs := [], zero := [.nilptr], el := 0, esz := 0, eby := 0, eagg := false, ik := none, eqs := false, ezero := [] } := by kernel_rfl
theorem Try.tm_16 : Try.tm 16 = { kind := 1, size := 1, offs := [], zero := [.nilptr], el := 0, esz := 0, eby := 0, eagg := false, ik := none, eqs := false, ezero := [] } := by kernel_rfl
theorem Try.tm_17 : Try.tm 17 = { kind := 1, size := 1, offs := [], zero := [.nilptr], el := 0, esz := 0, eby := 0, eagg := false, ik := none, eqs := false, ezero := [] } := by kernel_rfl
theorem Try.tm_18 : Try.tm 18 = { kind := 2, size := 1, offs := [(0, 1, false)], zero := [.nilptr], el := 0, esz := 0, eby := 0, eagg := false, ik := none, eqs := false, ezero := [] } := by kernel_rfl
theorem Try.tm_19 : Try.tm 19 = { kind := 2, size := 1, offs := [(0, 1, false)], zero := [.nilptr], el := 0, esz := 0, eby := 0, eagg := false, ik := none, eqs := false, ezero := [] } := by kernel_rfl
theorem Try.tm_20 : Try.tm 20 = { kind := 7, size := 1, offs := [], zero := [.nilIface], el := 0, esz := 0, eby := 0, eagg := false, ik := none, eqs := false, ezero := [] } := by kernel_rfl
theorem Try.tm_21 : Try.tm 21 = { kind := 6, size := 1, offs := [], zero := [.int .i32 0], el := 0, esz := 0, eby := 0, eagg := false, ik := some .i32, eqs := false, ezero := [] } := by kernel_rfl
theorem Try.tm_22 : Try.tm 22 = { kind := 3, size := 1, offs := [], zero := [.imm 0 [] 0], el := 3, esz := 1, eby := 8, eagg := false, ik := none, eqs := false, ezero := [.int .i64 0] } := by kernel_rfl
theorem Try.tm_23 : Try.tm 23 = { kind := 3, size := 1, offs := [], zero := [.imm 0 [] 0], el := 36, esz := 4, eby := 40, eagg := true, ik := none, eqs := false, ezero := [.int .u8 0, .int .i64 0, .int .i64 0, .str []] } := by kernel_rfl
theorem Try.tm_24 : Try.tm 24 = { kind := 1, size := 1, offs := [], zero := [.nilfn], el := 0, esz := 0, eby := 0, eagg := false, ik := none, eqs := false, ezero := [] } := by kernel_rfl
theorem Try.tm_25 : Try.tm 25 = { kind := 1, size := 1, offs := [], zero := [.nilfn], el := 0, esz := 0, eby := 0, eagg := false, ik := none, eqs := false, ezero := [] } := by kernel_rfl
theorem Try.tm_26 : Try.tm 26 = { kind := 3, size := 1, offs := [], zero := [.imm 0 [] 0], el := 52, esz := 3, eby := 32, eagg := true, ik := none, eqs := false, ezero := [.int .i64 0, .int .i64 0, .str []] } := by kernel_rfl
theorem Try.tm_27 : Try.tm 27 = { kind := 3, size := 1, offs := [], zero := [.imm 0 [] 0], el := 45, esz := 7, eby := 120, eagg := true, ik := none, eqs := false, ezero := [.int .u8 0, .int .i64 0, .imm 0 [] 0, .str [], .str [], .imm 0 [] 0, .imm 0 [] 0] } := by kernel_rfl
theorem Try.tm_28 : Try.tm 28 = { kind := 3, size := 1, offs := [], zero := [.imm 0 [] 0], el := 47, esz := 10, eby := 88, eagg := true, ik := none, eqs := false, ezero := [.int .i64 0, .int .i64 0, .int .u8 0, .int .i64 0, .int .i64 0, .int .i64 0, .int .i64 0, .str [], .int .i64 0, .int .i64 0] } := by kernel_rfl
theorem Try.tm_29 : Try.tm 29 = { kind := 3, size := 1, offs := [], zero := [.imm 0 [] 0], el := 38, esz := 2, eby := 24, eagg := true, ik := none, eqs := false, ezero := [.int .i64 0, .str []] } := by kernel_rfl
theorem Try.tm_30 : Try.tm 30 = { kind := 2, size := 5, offs := [(0, 1, false), (1, 1, false), (2, 1, false), (3, 1, false), (4, 1, false)], zero := [.imm 0 [] 0, .imm 0 [] 0, .imm 0 [] 0, .imm 0 [] 0, .imm 0 [] 0], el := 0, esz := 0, eby := 0, eagg := false, ik := none, eqs := false, ezero := [] } := by kernel_rfl
theorem Try.tm_31 : Try.tm 31 = { kind := 2, size := 5, offs := [(0, 1, false), (1, 1, false), (2, 1, false), (3, 1, false), (4, 1, false)], zero := [.imm 0 [] 0, .imm 0 [] 0, .imm 0 [] 0, .imm 0 [] 0, .imm 0 [] 0], el := 0, esz := 0, eby := 0, eagg := false, ik := none, eqs := false, ezero := [] } := by kernel_rfl
theorem Try.tm_32 : Try.tm 32 = { kind := 6, size := 1, offs := [], zero := [.int .i64 0], el := 0, esz := 0, eby := 0, eagg := false, ik := some .i64, eqs := false, ezero := [] } := by kernel_rfl
theorem Try.tm_34 : Try.tm 34 = { kind := 1, size := 1, offs := [], zero := [.nilfn], el := 0, esz := 0, eby := 0, eagg := false, ik := none, eqs := false, ezero := [] } := by kernel_rfl
theorem Try.tm_35 : Try.tm 35 = { kind := 2, size := 4, offs := [(0, 1, false), (1, 1, false), (2, 1, false), (3, 1, false)], zero := [.int .u8 0, .int .i64 0, .int .i64 0, .str []], el := 0, esz := 0, eby := 0, eagg := false, ik := none, eqs := false, ezero := [] } := by kernel_rfl
theorem Try.tm_36 : Try.tm 36 = { kind := 2, size := 4, offs := [(0, 1, false), (1, 1, false), (2, 1, false), (3, 1, false)], zero := [.int .u8 0, .int .i64 0, .int .i64 0, .str []], el := 0, esz := 0, eby := 0, eagg := false, ik := none, eqs := true, ezero := [] } := by kernel_rfl
theorem Try.tm_37 : Try.tm 37 = { kind := 2, size := 2, offs := [(0, 1, false), (1, 1, false)], zero := [.int .i64 0, .str []], el := 0, esz := 0, eby := 0, eagg := false, ik := none, eqs := false, ezero := [] } := by kernel_rfl
theorem Try.tm_38 : Try.tm 38 = { kind := 2, size := 2, offs := [(0, 1, false), (1, 1, false)], zero := [.int .i64 0, .str []], el := 0, esz := 0, eby := 0, eagg := false, ik := none, eqs := true, ezero := [] } := by kernel_rfl
theorem Try.tm_39 : Try.tm 39 = { kind := 1, size := 1, offs := [], zero := [.nilfn], el := 0, esz := 0, eby := 0, eagg := false, ik := none, eqs := false, ezero := [] } := by kernel_rfl
theorem Try.tm_40 : Try.tm 40 = { kind := 1, size := 1, offs := [], zero := [.nilfn], el := 0, esz := 0, eby := 0, eagg := false, ik := none, eqs := false, ezero := [] } := by kernel_rfl
theorem Try.tm_41 : Try.tm 41 = { kind := 1, size := 1, offs := [], zero := [.nilfn], el := 0, esz := 0, eby := 0, eagg := false, ik := none, eqs := false, ezero := [] } := by kernel_rfl
theorem Try.tm_42 : Try.tm 42 = { kind := 1, size := 1, offs := [], zero := [.nilfn], el := 0, esz := 0, eby := 0, eagg := false, ik := none, eqs := false, ezero := [] } := by kernel_rfl
theorem Try.tm_43 : Try.tm 43 = { kind := 3, size := 1, offs := [], zero := [.imm 0 [] 0], el := 77, esz := 3, eby := 32, eagg := true, ik := none, eqs := false, ezero := [.int .i64 0, .int .i64 0, .str []] } := by kernel_rfl
theorem Try.tm_44 : Try.tm 44 = { kind := 2, size := 7, offs := [(0, 1, false), (1, 1, false), (2, 1, false), (3, 1, false), (4, 1, false), (5, 1, false), (6, 1, false)], zero := [.int .u8 0, .int .i64 0, .imm 0 [] 0, .str [], .str [], .imm 0 [] 0, .imm 0 [] 0], el := 0, esz := 0, eby := 0, eagg := false, ik := none, eqs := false, ezero := [] } := by kernel_rfl
theorem Try.tm_45 : Try.tm 45 = { kind := 2, size := 7, offs := [(0, 1, false), (1, 1, false), (2, 1, false), (3, 1, false), (4, 1, false), (5, 1, false), (6, 1, false)], zero := [.int .u8 0, .int .i64 0, .imm 0 [] 0, .str [], .str [], .imm 0 [] 0, .imm 0 [] 0], el := 0, esz := 0, eby := 0, eagg := false, ik := none, eqs := false, ezero := [] } := by kernel_rfl
theorem Try.tm_46 : Try.tm 46 = { kind := 2, size := 10, offs := [(0, 1, false), (1, 1, false), (2, 1, false), (3, 1, false), (4, 1, false), (5, 1, false), (6, 1, false), (7, 1, false), (8, 1, false), (9, 1, false)], zero := [.int .i64 0, .int .i64 0, .int .u8 0, .int .i64 0, .int .i64 0, .int .i64 0, .int .i64 0, .str [], .int .i64 0, .int .i64 0], el := 0, esz := 0, eby := 0, eagg := false, ik := none, eqs := false, ezero := [] } := by kernel_rfl
theorem Try.tm_47 : Try.tm 47 = { kind := 2, size := 10, offs := [(0, 1, false), (1, 1, false), (2, 1, false), (3, 1, false), (4, 1, false), (5, 1, false), (6, 1, false), (7, 1, false), (8, 1, false), (9, 1, false)], zero := [.int .i64 0, .int .i64 0, .int .u8 0, .int .i64 0, .int .i64 0, .int .i64 0, .int .i64 0, .str [], .int .i64 0, .int .i64 0], el := 0, esz := 0, eby := 0, eagg := false, ik := none, eqs := true, ezero := [] } := by kernel_rfl
theorem Try.tm_48 : Try.tm 48 = { kind := 1, size := 1, offs := [], zero := [.nilfn], el := 0, esz := 0, eby := 0, eagg := false, ik := none, eqs := false, ezero := [] } := by kernel_rfl
theorem Try.tm_49 : Try.tm 49 = { kind := 1, size := 1, offs := [], zero := [.nilfn], el := 0, esz := 0, eby := 0, eagg := false, ik := none, eqs := false, ezero := [] } := by kernel_rfl
theorem Try.tm_50 : Try.tm 50 = { kind := 1, size := 1, offs := [], zero := [.nilfn], el := 0, esz := 0, eby := 0, eagg := false, ik := none, eqs := false, ezero := [] } := by kernel_rfl
theorem Try.tm_51 : Try.tm 51 = { kind := 2, size := 3, offs := [(0, 1, false), (1, 1, false), (2, 1, false)], zero := [.int .i64 0, .int .i64 0, .str []], el := 0, esz := 0, eby := 0, eagg := false, ik := none, eqs := false, ezero := [] } := by kernel_rfl
theorem Try.tm_52 : Try.tm 52 = { kind := 2, size := 3, offs := [(0, 1, false), (1, 1, false), (2, 1, false)], zero := [.int .i64 0, .int .i64 0, .str []], el := 0, esz := 0, eby := 0, eagg := false, ik := none, eqs := true, ezero := [] } := by kernel_rfl
theorem Try.tm_53 : Try.tm 53 = { kind := 1, size := 1, offs := [], zero := [.nilfn], el := 0, esz := 0, eby := 0, eagg := false, ik := none, eqs := false, ezero := [] } := by kernel_rfl
theorem Try.tm_54 : Try.tm 54 = { kind := 1, size := 1, offs := [], zero := [.nilfn], el := 0, esz := 0, eby := 0, eagg := false, ik := none, eqs := false, ezero := [] } := by kernel_rfl
theorem Try.tm_55 : Try.tm 55 = { kind := 1, size := 1, offs := [], zero := [.nilfn], el := 0, esz := 0, eby := 0, eagg := false, ik := none, eqs := false, ezero := [] } := by kernel_rfl
theorem Try.tm_56 : Try.tm 56 = { kind := 1, size := 1, offs := [], zero := [.nilfn], el := 0, esz := 0, eby := 0, eagg := false, ik := none, eqs := false, ezero := [] } := by kernel_rfl
theorem Try.tm_57 : Try.tm 57 = { kind := 1, size := 1, offs := [], zero := [.nilfn], el := 0, esz := 0, eby := 0, eagg := false, ik := none, eqs := false, ezero := [] } := by kernel_rfl
theorem Try.tm_59 : Try.tm 59 = { kind := 1, size := 1, offs := [], zero := [.nilfn], el := 0, esz := 0, eby := 0, eagg := false, ik := none, eqs := false, ezero := [] } := by kernel_rfl
theorem Try.tm_60 : Try.tm 60 = { kind := 1, size := 1, offs := [], zero := [.nilfn], el := 0, esz := 0, eby := 0, eagg := false, ik := none, eqs := false, ezero := [] } := by kernel_rfl
theorem Try.tm_61 : Try.tm 61 = { kind := 1, size := 1, offs := [], zero := [.nilfn], el := 0, esz := 0, eby := 0, eagg := false, ik := none, eqs := false, ezero := [] } := by kernel_rfl
theorem Try.tm_62 : Try.tm 62 = { kind := 1, size := 1, offs := [], zero := [.nilfn], el := 0, esz := 0, eby := 0, eagg := false, ik := none, eqs := false, ezero := [] } := by kernel_rfl
theorem Try.tm_63 : Try.tm 63 = { kind := 1, size := 1, offs := [], zero := [.nilptr], el := 0, esz := 0, eby := 0, eagg := false, ik := none, eqs := false, ezero := [] } := by kernel_rfl
theorem Try.tm_64 : Try.tm 64 = { kind := 1, size := 1, offs := [], zero := [.nilfn], el := 0, esz := 0, eby := 0, eagg := false, ik := none, eqs := false, ezero := [] } := by kernel_rfl
theorem Try.tm_65 : Try.tm 65 = { kind := 2, size := 5, offs := [(0, 5, true)], zero := [.imm 0 [] 0, .imm 0 [] 0, .imm 0 [] 0, .imm 0 [] 0, .imm 0 [] 0], el := 0, esz := 0, eby := 0, eagg := false, ik := none, eqs := false, ezero := [] } := by kernel_rfl
theorem Try.tm_66 : Try.tm 66 = { kind := 2, size := 5, offs := [(0, 5, true)], zero := [.imm 0 [] 0, .imm 0 [] 0, .imm 0 [] 0, .imm 0 [] 0, .imm 0 [] 0], el := 0, esz := 0, eby := 0, eagg := false, ik := none, eqs := false, ezero := [] } := by kernel_rfl
theorem Try.tm_67 : Try.tm 67 = { kind := 1, size := 1, offs := [], zero := [.nilfn], el := 0, esz := 0, eby := 0, eagg := false, ik := none, eqs := false, ezero := [] } := by kernel_rfl
theorem Try.tm_68 : Try.tm 68 = { kind := 1, size := 1, offs := [], zero := [.nilfn], el := 0, esz := 0, eby := 0, eagg := false, ik := none, eqs := false, ezero := [] } := by kernel_rfl
theorem Try.tm_69 : Try.tm 69 = { kind := 1, size := 1, offs := [], zero := [.nilfn], el := 0, esz := 0, eby := 0, eagg := false, ik := none, eqs := false, ezero := [] } := by kernel_rfl
theorem Try.tm_70 : Try.tm 70 = { kind := 1, size := 1, offs := [], zero := [.nilfn], el := 0, esz := 0, eby := 0, eagg := false, ik := none, eqs := false, ezero := [] } := by kernel_rfl
theorem Try.tm_71 : Try.tm 71 = { kind := 1, size := 1, offs := [], zero := [.nilfn], el := 0, esz := 0, eby := 0, eagg := false, ik := none, eqs := false, ezero := [] } := by kernel_rfl
theorem Try.tm_72 : Try.tm 72 = { kind := 1, size := 1, offs := [], zero := [.nilfn], el := 0, esz := 0, eby := 0, eagg := false, ik := none, eqs := false, ezero := [] } := by kernel_rfl
theorem Try.tm_73 : Try.tm 73 = { kind := 1, size := 1, offs := [], zero := [.nilfn], el := 0, esz := 0, eby := 0, eagg := false, ik := none, eqs := false, ezero := [] } := by kernel_rfl
theorem Try.tm_74 : Try.tm 74 = { kind := 1, size := 1, offs := [], zero := [.nilfn], el := 0, esz := 0, eby := 0, eagg := false, ik := none, eqs := false, ezero := [] } := by kernel_rfl
theorem Try.tm_75 : Try.tm 75 = { kind := 1, size := 1, offs := [], zero := [.nilfn], el := 0, esz := 0, eby := 0, eagg := false, ik := none, eqs := false, ezero := [] } := by kernel_rfl
theorem Try.tm_76 : Try.tm 76 = { kind := 2, size := 3, offs := [(0, 1, false), (1, 1, false), (2, 1, false)], zero := [.int .i64 0, .int .i64 0, .str []], el := 0, esz := 0, eby := 0, eagg := false, ik := none, eqs := false, ezero := [] } := by kernel_rfl
theorem Try.tm_77 : Try.tm 77 = { kind := 2, size := 3, offs := [(0, 1, false), (1, 1, false), (2, 1, false)], zero := [.int .i64 0, .int .i64 0, .str []], el := 0, esz := 0, eby := 0, eagg := false, ik := none, eqs := true, ezero := [] } := by kernel_rfl
theorem Try.tm_78 : Try.tm 78 = { kind := 1, size := 1, offs := [], zero := [.nilfn], el := 0, esz := 0, eby := 0, eagg := false, ik := none, eqs := false, ezero := [] } := by kernel_rfl
theorem Try.tm_79 : Try.tm 79 = { kind := 1, size := 1, offs := [], zero := [.nilfn], el := 0, esz := 0, eby := 0, eagg := false, ik := none, eqs := false, ezero := [] } := by kernel_rfl
theorem Try.tm_80 : Try.tm 80 = { kind := 1, size := 1, offs := [], zero := [.nilfn], el := 0, esz := 0, eby := 0, eagg := false, ik := none, eqs := false, ezero := [] } := by kernel_rfl
theorem Try.tm_81 : Try.tm 81 = { kind := 1, size := 1, offs := [], zero := [.nilfn], el := 0, esz := 0, eby := 0, eagg := false, ik := none, eqs := false, ezero := [] } := by kernel_rfl
theorem Try.tm_82 : Try.tm 82 = { kind := 1, size := 1, offs := [], zero := [.nilfn], el := 0, esz := 0, eby := 0, eagg := false, ik := none, eqs := false, ezero := [] } := by kernel_rfl
theorem Try.tm_83 : Try.tm 83 = { kind := 1, size := 1, offs := [], zero := [.nilfn], el := 0, esz := 0, eby := 0, eagg := false, ik := none, eqs := false, ezero := [] } := by kernel_rfl
theorem Try.tm_84 : Try.tm 84 = { kind := 1, size := 1, offs := [], zero := [.nilfn], el := 0, esz := 0, eby := 0, eagg := false, ik := none, eqs := false, ezero := [] } := by kernel_rfl
theorem Try.tm_85 : Try.tm 85 = { kind := 1, size := 1, offs := [], zero := [.nilfn], el := 0, esz := 0, eby := 0, eagg := false, ik := none, eqs := false, ezero := [] } := by kernel_rfl
theorem Try.tm_87 : Try.tm 87 = { kind := 1, size := 1, offs := [], zero := [.nilfn], el := 0, esz := 0, eby := 0, eagg := false, ik := none, eqs := false, ezero := [] } := by kernel_rfl
theorem Try.tm_89 : Try.tm 89 = { kind := 1, size := 1, offs := [], zero := [.nilfn], el := 0, esz := 0, eby := 0, eagg := false, ik := none, eqs := false, ezero := [] } := by kernel_rfl
theorem Try.tm_91 : Try.tm 91 = { kind := 1, size := 1, offs := [], zero := [.nilfn], el := 0, esz := 0, eby := 0, eagg := false, ik := none, eqs := false, ezero := [] } := by kernel_rfl
theorem Try.tm_92 : Try.tm 92 = { kind := 1, size := 1, offs := [], zero := [.nilfn], el := 0, esz := 0, eby := 0, eagg := false, ik := none, eqs := false, ezero := [] } := by kernel_rfl
theorem Try.tm_93 : Try.tm 93 = { kind := 1, size := 1, offs := [], zero := [.nilfn], el := 0, esz := 0, eby := 0, eagg := false, ik := none, eqs := false, ezero := [] } := by kernel_rfl
theorem Try.tm_94 : Try.tm 94 = { kind := 1, size := 1, offs := [], zero := [.nilfn], el := 0, esz := 0, eby := 0, eagg := false, ik := none, eqs := false, ezero := [] } := by kernel_rfl
theorem Try.tm_95 : Try.tm 95 = { kind := 1, size := 1, offs := [], zero := [.nilfn], el := 0, esz := 0, eby := 0, eagg := false, ik := none, eqs := false, ezero := [] } := by kernel_rfl
theorem Try.tm_96 : Try.tm 96 = { kind := 1, size := 1, offs := [], zero := [.nilfn], el := 0, esz := 0, eby := 0, eagg := false, ik := none, eqs := false, ezero := [] } := by kernel_rfl
theorem Try.tm_97 : Try.tm 97 = { kind := 1, size := 1, offs := [], zero := [.nilfn], el := 0, esz := 0, eby := 0, eagg := false, ik := none, eqs := false, ezero := [] } := by kernel_rfl
theorem Try.tm_99 : Try.tm 99 = { kind := 1, size := 1, offs := [], zero := [.nilfn], el := 0, esz := 0, eby := 0, eagg := false, ik := none, eqs := false, ezero := [] } := by kernel_rfl
theorem Try.tm_100 : Try.tm 100 = { kind := 1, size := 1, offs := [], zero := [.nilfn], el := 0, esz := 0, eby := 0, eagg := false, ik := none, eqs := false, ezero := [] } := by kernel_rfl
theorem Try.tm_101 : Try.tm 101 = { kind := 1, size := 1, offs := [], zero := [.nilfn], el := 0, esz := 0, eby := 0, eagg := false, ik := none, eqs := false, ezero := [] } := by kernel_rfl
theorem Try.tm_102 : Try.tm 102 = { kind := 1, size := 1, offs := [], zero := [.nilfn], el := 0, esz := 0, eby := 0, eagg := false, ik := none, eqs := false, ezero := [] } := by kernel_rfl
theorem Try.tm_103 : Try.tm 103 = { kind := 1, size := 1, offs := [], zero := [.nilfn], el := 0, esz := 0, eby := 0, eagg := false, ik := none, eqs := false, ezero := [] } := by kernel_rfl
theorem Try.tm_104 : Try.tm 104 = { kind := 1, size := 1, offs := [], zero := [.nilfn], el := 0, esz := 0, eby := 0, eagg := false, ik := none, eqs := false, ezero := [] } := by kernel_rfl
theorem Try.tm_105 : Try.tm 105 = { kind := 1, size := 1, offs := [], zero := [.nilfn], el := 0, esz := 0, eby := 0, eagg := false, ik := none, eqs := false, ezero := [] } := by kernel_rfl
theorem Try.tm_106 : Try.tm 106 = { kind := 6, size := 1, offs := [], zero := [.int .u64 0], el := 0, esz := 0, eby := 0, eagg := false, ik := some .u64, eqs := false, ezero := [] } := by kernel_rfl
theorem Try.tm_107 : Try.tm 107 = { kind := 1, size := 1, offs := [], zero := [.nilfn], el := 0, esz := 0, eby := 0, eagg := false, ik := none, eqs := false, ezero := [] } := by kernel_rfl
theorem Try.tm_108 : Try.tm 108 = { kind := 1, size := 1, offs := [], zero := [.nilfn], el := 0, esz := 0, eby := 0, eagg := false, ik := none, eqs := false, ezero := [] } := by kernel_rfl
theorem Try.tm_109 : Try.tm 109 = { kind := 1, size := 1, offs := [], zero := [.nilfn], el := 0, esz := 0, eby := 0, eagg := false, ik := none, eqs := false, ezero := [] } := by kernel_rfl
theorem Try.tm_110 : Try.tm 110 = { kind := 1, size := 1, offs := [], zero := [.nilfn], el := 0, esz := 0, eby := 0, eagg := false, ik := none, eqs := false, ezero := [] } := by kernel_rfl
theorem Try.tm_111 : Try.tm 111 = { kind := 1, size := 1, offs := [], zero := [.nilfn], el := 0, esz := 0, eby := 0, eagg := false, ik := none, eqs := false, ezero := [] } := by kernel_rfl
theorem Try.tm_112 : Try.tm 112 = { kind := 1, size := 1, offs := [], zero := [.nilfn], el := 0, esz := 0, eby := 0, eagg := false, ik := none, eqs := false, ezero := [] } := by kernel_rfl
theorem Try.tm_113 : Try.tm 113 = { kind := 6, size := 1, offs := [], zero := [.int .u32 0], el := 0, esz := 0, eby := 0, eagg := false, ik := some .u32, eqs := false, ezero := [] } := by kernel_rfl
theorem Try.tm_114 : Try.tm 114 = { kind := 1, size := 1, offs := [], zero := [.nilfn], el := 0, esz := 0, eby := 0, eagg := false, ik := none, eqs := false, ezero := [] } := by kernel_rfl
theorem Try.tm_115 : Try.tm 115 = { kind := 6, size := 1, offs := [], zero := [.int .u64 0], el := 0, esz := 0, eby := 0, eagg := false, ik := some .u64, eqs := false, ezero := [] } := by kernel_rfl
theorem Try.tm_116 : Try.tm 116 = { kind := 1, size := 1, offs := [], zero := [.nilfn], el := 0, esz := 0, eby := 0, eagg := false, ik := none, eqs := false, ezero := [] } := by kernel_rfl
theorem Try.tm_117 : Try.tm 117 = { kind := 1, size := 1, offs := [], zero := [.nilfn], el := 0, esz := 0, eby := 0, eagg := false, ik := none, eqs := false, ezero := [] } := by kernel_rfl
theorem Try.tm_118 : Try.tm 118 = { kind := 1, size := 1, offs := [], zero := [.nilfn], el := 0, esz := 0, eby := 0, eagg := false, ik := none, eqs := false, ezero := [] } := by kernel_rfl
theorem Try.tm_119 : Try.tm 119 = { kind := 1, size := 1, offs := [], zero := [.nilfn], el := 0, esz := 0, eby := 0, eagg := false, ik := none, eqs := false, ezero := [] } := by kernel_rfl
theorem Try.tm_120 : Try.tm 120 = { kind := 1, size := 1, offs := [], zero := [.nilfn], el := 0, esz := 0, eby := 0, eagg := false, ik := none, eqs := false, ezero := [] } := by kernel_rfl
theorem Try.tm_121 : Try.tm 121 = { kind := 2, size := 4, offs := [(0, 1, false), (1, 1, false), (2, 1, false), (3, 1, false)], zero := [.nilptr, .nilptr, .nilptr, .str []], el := 0, esz := 0, eby := 0, eagg := false, ik := none, eqs := false, ezero := [] } := by kernel_rfl
theorem Try.tm_122 : Try.tm 122 = { kind := 2, size := 4, offs := [(0, 1, false), (1, 1, false), (2, 1, false), (3, 1, false)], zero := [.nilptr, .nilptr, .nilptr, .str []], el := 0, esz := 0, eby := 0, eagg := false, ik := none, eqs := false, ezero := [] } := by kernel_rfl
theorem Try.tm_123 : Try.tm 123 = { kind := 4, size := 0, offs := [], zero := [], el := 0, esz := 0, eby := 0, eagg := false, ik := none, eqs := false, ezero := [] } := by kernel_rfl
theorem Try.tm_126 : Try.tm 126 = { kind := 1, size := 1, offs := [], zero := [.nilfn], el := 0, esz := 0, eby := 0, eagg := false, ik := none, eqs := false, ezero := [] } := by kernel_rfl
theorem Try.tm_127 : Try.tm 127 = { kind := 6, size := 1, offs := [], zero := [.int .u8 0], el := 0, esz := 0, eby := 0, eagg := false, ik := some .u8, eqs := false, ezero := [] } := by kernel_rfl
theorem Try.tm_128 : Try.tm 128 = { kind := 6, size := 1, offs := [], zero := [.int .u8 0], el := 0, esz := 0, eby := 0, eagg := false, ik := some .u8, eqs := false, ezero := [] } := by kernel_rfl
theorem Try.tm_129 : Try.tm 129 = { kind := 1, size := 1, offs := [], zero := [.nilfn], el := 0, esz := 0, eby := 0, eagg := false, ik := none, eqs := false, ezero := [] } := by kernel_rfl
theorem Try.tm_130 : Try.tm 130 = { kind := 1, size := 1, offs := [], zero := [.nilptr], el := 0, esz := 0, eby := 0, eagg := false, ik := none, eqs := false, ezero := [] } := by kernel_rfl
theorem Try.tm_131 : Try.tm 131 = { kind := 6, size := 1, offs := [], zero := [.int .i32 0], el := 0, esz := 0, eby := 0, eagg := false, ik := some .i32, eqs := false, ezero := [] } := by kernel_rfl
theorem Try.tm_132 : Try.tm 132 = { kind := 6, size := 1, offs := [], zero := [.int .i32 0], el := 0, esz := 0, eby := 0, eagg := false, ik := some .i32, eqs := false, ezero := [] } := by kernel_rfl
theorem Try.tm_133 : Try.tm 133 = { kind := 2, size := 11, offs := [(0, 1, false), (1, 1, false), (2, 1, false), (3, 1, false), (4, 1, false), (5, 1, false), (6, 1, false), (7, 1, false), (8, 1, false), (9, 1, false), (10, 1, false)], zero := [.int .u64 0, .int .u64 0, .int .u32 0, .int .u8 0, .int .u8 0, .int .u8 0, .int .u8 0, .nilfn, .nilptr, .int .i32 0, .int .i32 0], el := 0, esz := 0, eby := 0, eagg := false, ik := none, eqs := false, ezero := [] } := by kernel_rfl
theorem Try.tm_134 : Try.tm 134 = { kind := 2, size := 11, offs := [(0, 1, false), (1, 1, false), (2, 1, false), (3, 1, false), (4, 1, false), (5, 1, false), (6, 1, false), (7, 1, false), (8, 1, false), (9, 1, false), (10, 1, false)], zero := [.int .u64 0, .int .u64 0, .int .u32 0, .int .u8 0, .int .u8 0, .int .u8 0, .int .u8 0, .nilfn, .nilptr, .int .i32 0, .int .i32 0], el := 0, esz := 0, eby := 0, eagg := false, ik := none, eqs := false, ezero := [] } := by kernel_rfl
end Go.Proofs
end
section
namespace Go.Proofs
open Go.Tm
theorem Try.S : Seat Try.prog Try.tm := ⟨Try.tmOk, Try.tmMixed⟩
end Go.Proofs
end
section
namespace Go.Proofs
open Go.Tm
set_option linter.unusedVariables false
def m_ballot_node (a0 : Int) : Option Bool :=
 some ((decide (a0 ≥ 0)) && (decide (a0 < 6)))
def m_attempt_Best_loop1 : List TPromise → (List UInt8) → Int → Option ((List UInt8))
 | [], s2, n1 =>
  some s2
 | y1 :: rest1, s2, n1 =>
  Option.bind (α := (List UInt8) × Int) (if y1.Ballot > n1 then
  some (y1.Value, y1.Ballot)
  else
  some (s2, n1)) fun (s3, n3) =>
  m_attempt_Best_loop1 rest1 s3 n3
def m_attempt_Best (l : List TPromise) (wish : List UInt8) : Option ((List UInt8)) :=
 Option.bind (α := (List UInt8)) (m_attempt_Best_loop1 l wish 0) fun s1 =>
 some s1
def m_attempt_nodes_loop1 : List TPromise → (List Int) → Option ((List Int))
 | [], l2 =>
  some l2
 | y1 :: rest1, l2 =>
  if l2.length + [y1.Node].length < 1000000 then
  m_attempt_nodes_loop1 rest1 (l2 ++ [y1.Node])
  else none
theorem m_attempt_nodes_loop1_n (l2 : List Int) : m_attempt_nodes_loop1 [] l2 =
  (some l2 : Option ((List Int))) := rfl
theorem m_attempt_nodes_loop1_c (y1 : TPromise) (rest1 : List TPromise) (l2 : List Int) : m_attempt_nodes_loop1 (y1 :: rest1) l2 =
  (if l2.length + [y1.Node].length < 1000000 then
  m_attempt_nodes_loop1 rest1 (l2 ++ [y1.Node])
  else none : Option ((List Int))) := rfl
def m_attempt_nodes (l : List TPromise) : Option ((List Int)) :=
 Option.bind (α := (List Int)) (m_attempt_nodes_loop1 l []) fun l1 =>
 some l1
def m_slices_Index_int_int_loop1 (v : Int) : List Int → Nat → Option (Int ⊕ Unit)
 | [], n1 =>
  some (.inr ())
 | y1 :: rest1, n1 =>
  if v = y1 then
  some (.inl (n1 : Int))
  else
  m_slices_Index_int_int_loop1 v rest1 (n1 + 1) 
def m_slices_Index_int_int (s : List Int) (v : Int) : Option Int :=
 Option.bind (α := Int ⊕ Unit) (m_slices_Index_int_int_loop1 v s 0 ) fun z => match z with
 | (.inl r) => some r
 | (.inr _) =>
 some (-1)
def m_slices_Contains_int_int (a0 : List Int) (a1 : Int) : Option Bool :=
 Option.bind (m_slices_Index_int_int a0 a1) fun v1 =>
 some (decide (v1 ≥ 0))
def m_quorum_Has (a0 : List Int) (a1 : Int) : Option Bool :=
 Option.bind (m_slices_Contains_int_int a0 a1) fun v1 =>
 some v1
def m_quorum_Check_loop1 : List Int → Int → Option (Int ⊕ Int)
 | [], n2 =>
  some (.inr n2)
 | y1 :: rest1, n2 =>
  if (y1 ≤ n2) ∨ (y1 ≥ 6) then
  some (.inl 60)
  else
  m_quorum_Check_loop1 rest1 (y1)
def m_quorum_Check (a0 : List Int) : Option Int :=
 if (a0.length : Int) > 6 then
 some 4
 else
 Option.bind (α := Int ⊕ Int) (m_quorum_Check_loop1 a0 (-1)) fun z => match z with
 | (.inl r) => some r
 | (.inr n1) =>
 if n1 < 0 then
 some 60
 else
 some 0
def m_ballot_Of (a0 : Int) : Option (Int × Int × Int) :=
 Option.bind (if ¬ (((wr .i64 (a0.tdiv 8)) < 1) ∨ ((wr .i64 (a0.tdiv 8)) > 1048576)) then m_ballot_node (a0.tmod 8) else some default) fun v1 =>
 if (((wr .i64 (a0.tdiv 8)) < 1) ∨ ((wr .i64 (a0.tdiv 8)) > 1048576)) ∨ (¬ (v1 = true)) then
 some (0, 0, 50)
 else
 some ((wr .i64 (a0.tdiv 8)), (a0.tmod 8), 0)
def m_ballot_Check (a0 : Int) : Option Int :=
 Option.bind (m_ballot_Of a0) fun v1 =>
 if ¬ (v1.2.2 = 0) then
 some v1.2.2
 else
 some 0
def m_quorum_Need (a0 : List Int) : Option (Int × Int) :=
 Option.bind (m_quorum_Check a0) fun v1 =>
 if ¬ (v1 = 0) then
 some (0, v1)
 else
 some ((wr .i64 ((wr .i64 ((a0.length : Int).tdiv 2)) + 1)), 0)
def m_attempt_rising_loop1 (a0 : List Int) (a1 : List Int) : List Int → Nat → Option (Bool ⊕ Unit)
 | [], n1 =>
  some (.inr ())
 | y1 :: rest1, n1 =>
  Option.bind (if ¬ (((n1 : Int) > 0) ∧ (y1 ≤ (a0.getD (n1 - 1) default))) then m_quorum_Has a1 (y1) else some default) fun v1 =>
  if (((n1 : Int) > 0) ∧ (y1 ≤ (a0.getD (n1 - 1) default))) ∨ (¬ (v1 = true)) then
  some (.inl false)
  else
  m_attempt_rising_loop1 a0 a1 rest1 (n1 + 1) 
def m_attempt_rising (a0 : List Int) (a1 : List Int) : Option Bool :=
 Option.bind (α := Bool ⊕ Unit) (m_attempt_rising_loop1 a0 a1 a0 0 ) fun z => match z with
 | (.inl r) => some r
 | (.inr _) =>
 some true
def m_attempt_may (a0 : TPromise) (a1 : Int) : Option Bool :=
 if a0.Ballot = 0 then
 some (a0.Value == [])
 else
 Option.bind (m_ballot_Check a0.Ballot) fun v1 =>
 some (((v1 == 0) && (decide (a0.Ballot < a1))) && (decide ((a0.Value.length : Int) ≤ 1024)))
end Go.Proofs
end
section
namespace Go.Proofs
open Go.Tm Go.RowKit Go.WideShapes
set_option maxRecDepth 100000
set_option maxHeartbeats 4000000
set_option linter.unusedSimpArgs false
set_option linter.unusedVariables false
attribute [local go_sem] argVars runE runK isCallV stepE aop opd opdsL opds opdO ev ofVal keep List.any natbeq Bool.false_or Bool.true_or aggEq cond_true cond_false Bool.cond_false_right Bool.cond_true_left beq_true beq_false imp_self implies_true getR getL put St.app effL del nwB blt_dec Nat.lt_irrefl Nat.lt_add_one ble_dec Nat.le_refl Nat.beq_refl roomNZ appendIn capS capK mkZ_zero mkZL_zero zeroEl D.ids D.idsL bin arith sarith binT dpick Tm.part splice fillD oneD loadD storeD srcD sliceD idxOk decide_true gval dstAt D.cells List.map_cons List.map_nil List.take List.drop List.length_map List.append Int.toNat_natCast and_true true_and decide_false List.length_cons List.length_nil List.append_nil List.nil_append Bool.and_true Bool.true_and Bool.not_false Bool.not_true ne_eq not_false_eq_true BEq.rfl List.getElem?_cons_zero List.getElem?_cons_succ List.getElem?_nil Nat.zero_add List.all_cons List.all_nil List.isEmpty_cons List.isEmpty_nil Option.getD_some Option.getD_none List.any_cons List.any_nil List.drop_succ_cons List.drop_zero unfL unf okM okML low3 List.cons_append true_or or_true Nat.zero_mul Nat.zero_le findD_int findD_str  getD_int getD_str getD_bool Option.isSome_map keyD List.length_replicate List.map_replicate setEl List.length_set bytesD_map map_ub mx_len mkZ_one mkZL_one mkM mkML mk1_int mk1_str mk1_bool drop_map take_map take_map_len List.take_length Int.toNat_zero toNat_pred fpOf metIds opIds mvV mvH mvF pickL D.ren D.renL Blk.ren List.map_append List.length_append Bool.not_not Bool.or_not_self Bool.not_or_self Bool.or_true
attribute [local go_sem] Try.tm_1 Try.tm_2 Try.tm_3 Try.tm_4 Try.tm_5 Try.tm_6 Try.tm_7 Try.tm_8 Try.tm_9 Try.tm_10 Try.tm_11 Try.tm_12 Try.tm_13 Try.tm_14 Try.tm_15 Try.tm_16 Try.tm_17 Try.tm_18 Try.tm_19 Try.tm_20 Try.tm_21 Try.tm_22 Try.tm_23 Try.tm_24 Try.tm_25 Try.tm_26 Try.tm_27 Try.tm_28 Try.tm_29 Try.tm_30 Try.tm_31 Try.tm_32 Try.tm_34 Try.tm_35 Try.tm_36 Try.tm_37 Try.tm_38 Try.tm_39 Try.tm_40 Try.tm_41 Try.tm_42 Try.tm_43 Try.tm_44 Try.tm_45 Try.tm_46 Try.tm_47 Try.tm_48 Try.tm_49 Try.tm_50 Try.tm_51 Try.tm_52 Try.tm_53 Try.tm_54 Try.tm_55 Try.tm_56 Try.tm_57 Try.tm_59 Try.tm_60 Try.tm_61 Try.tm_62 Try.tm_63 Try.tm_64 Try.tm_65 Try.tm_66 Try.tm_67 Try.tm_68 Try.tm_69 Try.tm_70 Try.tm_71 Try.tm_72 Try.tm_73 Try.tm_74 Try.tm_75 Try.tm_76 Try.tm_77 Try.tm_78 Try.tm_79 Try.tm_80 Try.tm_81 Try.tm_82 Try.tm_83 Try.tm_84 Try.tm_85 Try.tm_87 Try.tm_89 Try.tm_91 Try.tm_92 Try.tm_93 Try.tm_94 Try.tm_95 Try.tm_96 Try.tm_97 Try.tm_99 Try.tm_100 Try.tm_101 Try.tm_102 Try.tm_103 Try.tm_104 Try.tm_105 Try.tm_106 Try.tm_107 Try.tm_108 Try.tm_109 Try.tm_110 Try.tm_111 Try.tm_112 Try.tm_113 Try.tm_114 Try.tm_115 Try.tm_116 Try.tm_117 Try.tm_118 Try.tm_119 Try.tm_120 Try.tm_121 Try.tm_122 Try.tm_123 Try.tm_126 Try.tm_127 Try.tm_128 Try.tm_129 Try.tm_130 Try.tm_131 Try.tm_132 Try.tm_133 Try.tm_134 TPromise.d TAttempt.d TAttempt.n mk1_TPromise mk1_TAttempt Try.f37 Try.f36 Try.f31 Try.f67 Try.f58 Try.f51 Try.f15 Try.f18 Try.f28 Try.f59 Try.f30 Try.f34
theorem callP_ballot_node (a0 : Int) (r : Bool) (h : m_ballot_node a0 = some r) : CallP Try.prog 37 [.int .i64 a0] (.bool r) := by
 refine callP_intro Try.tmOk 2 Try.func37 rfl (by decide) rfl rfl (Nat.le_of_ble_eq_true rfl) ?_
 intro hwf
 unfold m_ballot_node at h
 refine .seq ?_
 refine .pl Try.S [0] ?_
 refine .seq ?_
 refine .pl Try.S [0] ?_
 have hq := Option.some.inj h
 subst r
 exact .ret ⟨.inr rfl, rsi⟩
def Try.St_attempt_Best_1 (s1 : List UInt8) : St := ⟨[(1, .str s1)], [], 0⟩
attribute [local go_sem] Try.St_attempt_Best_1
def Try.St_attempt_Best_3 (l : List TPromise) (n2 : Nat) (s2 : List UInt8) (n1 : Int) : St := ⟨[(1, .str s2), (5, .int .i64 n1), (8, .imm 3 (l.map TPromise.d) 4), (9, .int .i64 (l.length : Int)), (10, .int .i64 (n2 : Int))], [], 0⟩
attribute [local go_sem] Try.St_attempt_Best_3
def Try.St_attempt_Best_5 (l : List TPromise) (n2 : Nat) (s3 : List UInt8) (n3 : Int) : St := ⟨[(1, .str s3), (5, .int .i64 n3), (8, .imm 3 (l.map TPromise.d) 4), (9, .int .i64 (l.length : Int)), (10, .int .i64 (n2 : Int))], [], 0⟩
attribute [local go_sem] Try.St_attempt_Best_5
theorem callP_attempt_Best (l : List TPromise) (wish : List UInt8) (r : (List UInt8)) (h : m_attempt_Best l wish = some r) : CallP Try.prog 36 [.imm 3 (l.map TPromise.d) 4, .str wish] (.str r) := by
 refine callP_intro Try.tmOk 3 Try.func36 rfl (by decide) rfl rfl (Nat.le_of_ble_eq_true rfl) ?_
 intro hwf
 unfold m_attempt_Best at h
 refine .seq ?_
 refine .pl Try.S [0, 1] ?_
 refine .seq ?_
 refine .pl Try.S [0, 1] ?_
 obtain ⟨x1, hx1, h⟩ := bind_some h
 refine .seqM 0 (fun (j : (List UInt8)) => Try.St_attempt_Best_1 j) (fun j => x1 = j) (Nat.le_of_ble_eq_true rfl) ?_ ?_
 ·skip
  refine .seq ?_
  refine .pl Try.S [0, 1, 5] ?_
  refine .block ?_
  refine .loopG 0 (fun (j : Nat × (List UInt8) × Int) => Try.St_attempt_Best_3 l j.1 j.2.1 j.2.2) (fun j => j.1 ≤ l.length ∧ m_attempt_Best_loop1 (l.drop j.1) j.2.1 j.2.2 = some x1) (fun j => l.length - j.1) (0, wish, 0) (Nat.le_of_ble_eq_true rfl) ?_ ⟨Nat.zero_le _, hx1⟩ ?_
  ·skip
   exact .m [1, 5, 8, 9, 10] [] []
  rintro ⟨n2, s2, n1⟩ ⟨hi1, hx1⟩
  simp only [Try.St_attempt_Best_3]
  simp only at hi1 hx1
  refine .wf 9 (.int .i64 (l.length : Int)) rfl ?_
  intro hln2
  replace hln2 : (l.length : Int) ≤ 9223372036854775807 := by simp only [wf, wfL, IntKind.max, IntKind.min, IntKind.signed, IntKind.bits, List.length_map] at hln2; first | exact hln2.2 | exact hln2.1 | (simp at hln2; omega)
  refine .seq ?_
  refine .pl Try.S [1, 5, 8, 9, 10] ?_
  refine .seq ?_
  refine .cond rfl rfl (fun hc1 => ?_) (fun hc1 => ?_)
  ·skip
   have h1 : n2 < l.length := by simpa using hc1
   have hwn2 : wr .i64 ((n2 : Int) + 1) = ((n2 + 1 : Nat) : Int) := wr_succ h1 hln2
   have hpn2 : wr .i64 ((n2 : Int) - 1) = (n2 : Int) - 1 := wr_pred h1 hln2
   rw [List.drop_eq_getElem_cons h1, m_attempt_Best_loop1] at hx1
   refine .skip ?_
   obtain ⟨x2, hx2, hx1⟩ := bind_some hx1
   refine .seqM 0 (fun (j : (List UInt8) × Int) => Try.St_attempt_Best_5 l n2 j.1 j.2) (fun j => x2 = j) (Nat.le_of_ble_eq_true rfl) ?_ ?_
   ·skip
    refine .block ?_
    refine .seq ?_
    have e1 := nth_map TPromise.d l n2 h1
    refine .plx Try.S (And.intro e1 hwn2) [1, 5, 8, 9, 10] ?_
    refine .seq ?_
    refine .plx Try.S hwn2 [1, 5, 7, 8, 9, 10] ?_
    refine .cond rfl rfl (fun hc2 => ?_) (fun hc2 => ?_)
    ·skip
     replace hx2 := ite_lc hx2 hc2
     refine .drx Try.S hwn2 [7, 8, 9, 10] ?_
     refine ⟨_, ?_, (Option.some.inj hx2).symm⟩
     exact .m [1, 5, 8, 9, 10] [] []
    ·skip
     replace hx2 := ite_rc hx2 hc2
     refine .skip ?_
     refine ⟨_, ?_, (Option.some.inj hx2).symm⟩
     exact .m [1, 5, 8, 9, 10] [] []
   ·skip
    rintro ⟨s3, n3⟩ hj1
    subst x2
    try dsimp only at hx1
    simp only [Try.St_attempt_Best_5]
    refine .plx Try.S hwn2 [1, 5, 8, 9, 10] ?_
    refine ⟨(n2 + 1, _, _), ?_, ⟨by omega, hx1⟩, by dsimp only; omega⟩
    exact .m [1, 5, 8, 9, 10] [] []
  ·skip
   have h2 : n2 = l.length := by have h2b := of_decide_eq_false hc1; omega
   rw [List.drop_of_length_le (by omega), m_attempt_Best_loop1] at hx1
   refine .exit ?_
   refine ⟨_, ?_, (Option.some.inj hx1).symm⟩
   exact .m [1] [] []
 ·skip
  rintro s1 hj2
  subst x1
  try dsimp only at h
  simp only [Try.St_attempt_Best_1]
  refine .seq ?_
  refine .pl Try.S [1] ?_
  have hq := Option.some.inj h
  subst r
  exact .ret ⟨.inr rfl, rsi⟩
def Try.St_attempt_nodes_1 (l1 : List Int) : St := ⟨[(2, .ref 0 1 0 l1.length (some unkC))], [(0, .arr 3 1 true (l1.map (D.int .i64)))], 1⟩
attribute [local go_sem] Try.St_attempt_nodes_1
def Try.St_attempt_nodes_3 (l : List TPromise) (n1 : Nat) (l2 : List Int) : St := ⟨[(2, .ref 0 1 0 l2.length (some unkC)), (5, .imm 3 (l.map TPromise.d) 4), (6, .int .i64 (l.length : Int)), (7, .int .i64 (n1 : Int))], [(0, .arr 3 1 true (l2.map (D.int .i64)))], 1⟩
attribute [local go_sem] Try.St_attempt_nodes_3
def Try.Re_attempt_nodes (r : (List Int)) : St := ⟨[(2, .ref 0 1 0 r.length (some unkC))], [(0, .arr 3 1 true (r.map (D.int .i64)))], 1⟩
attribute [local go_sem] Try.Re_attempt_nodes
theorem callH_attempt_nodes (l : List TPromise) (r : (List Int)) (h : m_attempt_nodes l = some r) : CallH Try.prog 31 [.imm 3 (l.map TPromise.d) 4] [] (.ref 0 1 0 r.length (some unkC)) [(0, some (.arr 3 1 true (r.map (D.int .i64))))] (0, 6) := by
 refine callH_intro' Try.tmOk Try.func31 rfl (by decide) (Nat.le_of_ble_eq_true rfl) (by simp) ?_
 intro hwf
 unfold m_attempt_nodes at h
 refine .ends 0 (Nat.le_refl _) ?_
 refine .seq ?_
 refine .pl Try.S [0] ?_
 obtain ⟨x1, hx1, h⟩ := bind_some h
 refine .seqM 0 (fun (j : (List Int)) => Try.St_attempt_nodes_1 j) (fun j => x1 = j) (Nat.le_of_ble_eq_true rfl) ?_ ?_
 ·skip
  refine .seq ?_
  refine .pl Try.S [0, 2] ?_
  refine .block ?_
  refine .loopG 0 (fun (j : Nat × (List Int)) => Try.St_attempt_nodes_3 l j.1 j.2) (fun j => j.1 ≤ l.length ∧ m_attempt_nodes_loop1 (l.drop j.1) j.2 = some x1) (fun j => l.length - j.1) (0, []) (Nat.le_of_ble_eq_true rfl) ?_ ⟨Nat.zero_le _, hx1⟩ ?_
  ·skip
   refine Goes.new0 1 3 (Nat.le_of_ble_eq_true rfl) ?_
   refine Goes.wk 2 _ (.ref 0 1 0 0 (some unkC)) rfl (.own0 0 _ _ _ (by decide)) ?_
   exact .m [2, 5, 6, 7] [0] []
  rintro ⟨n1, l2⟩ ⟨hi1, hx1⟩
  simp only [Try.St_attempt_nodes_3]
  simp only at hi1 hx1
  refine .wf 6 (.int .i64 (l.length : Int)) rfl ?_
  intro hln1
  replace hln1 : (l.length : Int) ≤ 9223372036854775807 := by simp only [wf, wfL, IntKind.max, IntKind.min, IntKind.signed, IntKind.bits, List.length_map] at hln1; first | exact hln1.2 | exact hln1.1 | (simp at hln1; omega)
  refine .seq ?_
  refine .pl Try.S [2, 5, 6, 7] ?_
  refine .seq ?_
  refine .cond rfl rfl (fun hc1 => ?_) (fun hc1 => ?_)
  ·skip
   have h1 : n1 < l.length := by simpa using hc1
   have hwn1 : wr .i64 ((n1 : Int) + 1) = ((n1 + 1 : Nat) : Int) := wr_succ h1 hln1
   have hpn1 : wr .i64 ((n1 : Int) - 1) = (n1 : Int) - 1 := wr_pred h1 hln1
   rw [List.drop_eq_getElem_cons h1, m_attempt_nodes_loop1_c] at hx1
   refine .skip ?_
   refine .seq ?_
   refine .block ?_
   refine .seq ?_
   have e1 := nth_map TPromise.d l n1 h1
   refine .plx Try.S (And.intro e1 hwn1) [2, 5, 6, 7] ?_
   obtain ⟨k1, hx1⟩ := ite_ck hx1
   refine .plx Try.S hwn1 [2, 4, 5, 6, 7] ?_
   refine .plx Try.S hwn1 [2, 5, 6, 7] ?_
   refine ⟨(n1 + 1, _), ?_, ⟨by omega, hx1⟩, by dsimp only; omega⟩
   exact .m [2, 5, 6, 7] [3] [(3, 0)]
  ·skip
   have h2 : n1 = l.length := by have h2b := of_decide_eq_false hc1; omega
   rw [List.drop_of_length_le (by omega), m_attempt_nodes_loop1_n] at hx1
   refine .exit ?_
   refine ⟨_, ?_, (Option.some.inj hx1).symm⟩
   exact .m [2] [0] []
 ·skip
  rintro l1 hj1
  subst x1
  try dsimp only at h
  simp only [Try.St_attempt_nodes_1]
  refine .seq ?_
  refine .pl Try.S [2] ?_
  have hq := Option.some.inj h
  subst r
  refine .ret ⟨Try.Re_attempt_nodes l1, ?_, .inr rfl, retH [0] ?_ ?_⟩
  ·skip
   exact .m [2] [0] []
  ·exact rsi0
  ·rfl
theorem callP_attempt_nodes (l : List TPromise) (r : (List Int)) (h : m_attempt_nodes l = some r) : CallP Try.prog 31 [.imm 3 (l.map TPromise.d) 4] (.imm 1 (r.map (D.int .i64)) 12) :=
 callP_frz (frz_ref0 pl0_i64 rfl rfl) (callH_attempt_nodes l r h)
def Try.St_slices_Index_int_int_1 : St := ⟨[], [], 0⟩
attribute [local go_sem] Try.St_slices_Index_int_int_1
def Try.St_slices_Index_int_int_3 (s : List Int) (v : Int) (n1 : Nat) : St := ⟨[(0, .imm 1 (s.map (D.int .i64)) 4), (1, .int .i64 v), (7, .int .i64 (s.length : Int)), (8, .int .i64 (n1 : Int))], [], 0⟩
attribute [local go_sem] Try.St_slices_Index_int_int_3
theorem callP_slices_Index_int_int (s : List Int) (v : Int) (r : Int) (h : m_slices_Index_int_int s v = some r) : CallP Try.prog 67 [.imm 1 (s.map (D.int .i64)) 4, .int .i64 v] (.int .i64 r) := by
 refine callP_intro Try.tmOk 2 Try.func67 rfl (by decide) rfl rfl (Nat.le_of_ble_eq_true rfl) ?_
 intro hwf
 unfold m_slices_Index_int_int at h
 refine .seq ?_
 refine .pl Try.S [0, 1] ?_
 obtain ⟨x1, hx1, h⟩ := bind_some h
 refine .seqM 0 (fun (j : Unit) => Try.St_slices_Index_int_int_1) (fun j => x1 = (.inr j)) (Nat.le_of_ble_eq_true rfl) ?_ ?_
 ·skip
  refine .seq ?_
  refine .pl Try.S [0, 1] ?_
  refine .block ?_
  refine .loopG 0 (fun (j : Nat) => Try.St_slices_Index_int_int_3 s v j) (fun j => j ≤ s.length ∧ m_slices_Index_int_int_loop1 v (s.drop j) j  = some x1) (fun j => s.length - j) (0) (Nat.le_of_ble_eq_true rfl) ?_ ⟨Nat.zero_le _, hx1⟩ ?_
  ·skip
   exact .m [0, 1, 7, 8] [] []
  rintro n1 ⟨hi1, hx1⟩
  simp only [Try.St_slices_Index_int_int_3]
  refine .wf 7 (.int .i64 (s.length : Int)) rfl ?_
  intro hln1
  replace hln1 : (s.length : Int) ≤ 9223372036854775807 := by simp only [wf, wfL, IntKind.max, IntKind.min, IntKind.signed, IntKind.bits, List.length_map] at hln1; first | exact hln1.2 | exact hln1.1 | (simp at hln1; omega)
  refine .seq ?_
  refine .pl Try.S [0, 1, 7, 8] ?_
  refine .seq ?_
  refine .cond rfl rfl (fun hc1 => ?_) (fun hc1 => ?_)
  ·skip
   have h1 : n1 < s.length := by simpa using hc1
   have hwn1 : wr .i64 ((n1 : Int) + 1) = ((n1 + 1 : Nat) : Int) := wr_succ h1 hln1
   have hpn1 : wr .i64 ((n1 : Int) - 1) = (n1 : Int) - 1 := wr_pred h1 hln1
   rw [List.drop_eq_getElem_cons h1, m_slices_Index_int_int_loop1] at hx1
   refine .skip ?_
   refine .seq ?_
   refine .block ?_
   refine .seq ?_
   refine .plx Try.S hwn1 [0, 1, 7, 8] ?_
   refine .seq ?_
   have e1 := nth_map (D.int .i64) s n1 h1
   refine .plx Try.S (And.intro e1 hwn1) [0, 1, 5, 7, 8] ?_
   refine .cond rfl rfl (fun hc2 => ?_) (fun hc2 => ?_)
   ·skip
    replace hx1 := ite_lc hx1 hc2
    refine .seq ?_
    refine .plx Try.S hwn1 [5] ?_
    have hq := Option.some.inj hx1
    subst x1
    try dsimp only at h
    have hq := Option.some.inj h
    subst r
    exact .ret ⟨.inr rfl, rsi⟩
   ·skip
    replace hx1 := ite_rc hx1 hc2
    refine .skip ?_
    refine .plx Try.S hwn1 [0, 1, 7, 8] ?_
    refine ⟨n1 + 1, ?_, ⟨by omega, hx1⟩, by dsimp only; omega⟩
    exact .m [0, 1, 7, 8] [] []
  ·skip
   have h2 : n1 = s.length := by have h2b := of_decide_eq_false hc1; omega
   rw [List.drop_of_length_le (by omega), m_slices_Index_int_int_loop1] at hx1
   refine .exit ?_
   refine ⟨_, ?_, (Option.some.inj hx1).symm⟩
   exact .m [] [] []
 ·skip
  rintro ⟨⟩ hj1
  subst x1
  try dsimp only at h
  simp only [Try.St_slices_Index_int_int_1]
  refine .seq ?_
  refine .pl Try.S [] ?_
  have hq := Option.some.inj h
  subst r
  exact .ret ⟨.inr rfl, rsi⟩
theorem callP_slices_Contains_int_int (a0 : List Int) (a1 : Int) (r : Bool) (h : m_slices_Contains_int_int a0 a1 = some r) : CallP Try.prog 58 [.imm 1 (a0.map (D.int .i64)) 4, .int .i64 a1] (.bool r) := by
 refine callP_intro Try.tmOk 2 Try.func58 rfl (by decide) rfl rfl (Nat.le_of_ble_eq_true rfl) ?_
 intro hwf
 unfold m_slices_Contains_int_int at h
 refine .seq ?_
 refine .pl Try.S [0, 1] ?_
 refine .seq ?_
 obtain ⟨v1, hv1, h⟩ := bind_some h
 refine .rg Try.S [0, 1] ?_
 refine .rn 2 ?_
 refine .call (r := .int .i64 v1) rfl rfl rfl rfl rfl rfl (callP_slices_Index_int_int a0 a1 v1 hv1) ?_
 refine .rn 2 ?_
 refine .nil ⟨nofun, ?_⟩
 have hq := Option.some.inj h
 subst r
 exact .ret ⟨.inr rfl, rsi⟩
theorem callP_quorum_Has (a0 : List Int) (a1 : Int) (r : Bool) (h : m_quorum_Has a0 a1 = some r) : CallP Try.prog 51 [.imm 1 (a0.map (D.int .i64)) 4, .int .i64 a1] (.bool r) := by
 refine callP_intro Try.tmOk 2 Try.func51 rfl (by decide) rfl rfl (Nat.le_of_ble_eq_true rfl) ?_
 intro hwf
 unfold m_quorum_Has at h
 refine .seq ?_
 refine .pl Try.S [0, 1] ?_
 refine .seq ?_
 obtain ⟨v1, hv1, h⟩ := bind_some h
 refine .rg Try.S [0, 1] ?_
 refine .rn 2 ?_
 refine .call (r := .bool v1) rfl rfl rfl rfl rfl rfl (callP_slices_Contains_int_int a0 a1 v1 hv1) ?_
 refine .rn 1 ?_
 refine .nil ⟨nofun, ?_⟩
 have hq := Option.some.inj h
 subst r
 exact .ret ⟨.inr rfl, rsi⟩
def Try.St_quorum_Check_1 (n1 : Int) : St := ⟨[(3, .int .i64 n1)], [], 0⟩
attribute [local go_sem] Try.St_quorum_Check_1
def Try.St_quorum_Check_3 (a0 : List Int) (n3 : Nat) (n2 : Int) : St := ⟨[(3, .int .i64 n2), (9, .imm 1 (a0.map (D.int .i64)) 4), (10, .int .i64 (a0.length : Int)), (11, .int .i64 (n3 : Int))], [], 0⟩
attribute [local go_sem] Try.St_quorum_Check_3
theorem callP_quorum_Check (a0 : List Int) (r : Int) (h : m_quorum_Check a0 = some r) : CallP Try.prog 15 [.imm 1 (a0.map (D.int .i64)) 4] (.int .i64 r) := by
 refine callP_intro Try.tmOk 2 Try.func15 rfl (by decide) rfl rfl (Nat.le_of_ble_eq_true rfl) ?_
 intro hwf
 unfold m_quorum_Check at h
 refine .seq ?_
 refine .pl Try.S [0] ?_
 refine .seq ?_
 refine .seq ?_
 refine .pl Try.S [0] ?_
 refine .cond rfl rfl (fun hc1 => ?_) (fun hc1 => ?_)
 ·skip
  replace h := ite_lc h hc1
  refine .seq ?_
  refine .pl Try.S [] ?_
  have hq := Option.some.inj h
  subst r
  exact .ret ⟨.inr rfl, rsi⟩
 ·skip
  replace h := ite_rc h hc1
  refine .skip ?_
  refine .seq ?_
  refine .pl Try.S [0] ?_
  obtain ⟨x1, hx1, h⟩ := bind_some h
  refine .seqM 0 (fun (j : Int) => Try.St_quorum_Check_1 j) (fun j => x1 = (.inr j)) (Nat.le_of_ble_eq_true rfl) ?_ ?_
  ·skip
   refine .seq ?_
   refine .pl Try.S [0, 3] ?_
   refine .block ?_
   refine .loopG 0 (fun (j : Nat × Int) => Try.St_quorum_Check_3 a0 j.1 j.2) (fun j => j.1 ≤ a0.length ∧ m_quorum_Check_loop1 (a0.drop j.1) j.2 = some x1) (fun j => a0.length - j.1) (0, (-1)) (Nat.le_of_ble_eq_true rfl) ?_ ⟨Nat.zero_le _, hx1⟩ ?_
   ·skip
    exact .m [3, 9, 10, 11] [] []
   rintro ⟨n3, n2⟩ ⟨hi1, hx1⟩
   simp only [Try.St_quorum_Check_3]
   simp only at hi1 hx1
   refine .wf 10 (.int .i64 (a0.length : Int)) rfl ?_
   intro hln3
   replace hln3 : (a0.length : Int) ≤ 9223372036854775807 := by simp only [wf, wfL, IntKind.max, IntKind.min, IntKind.signed, IntKind.bits, List.length_map] at hln3; first | exact hln3.2 | exact hln3.1 | (simp at hln3; omega)
   refine .seq ?_
   refine .pl Try.S [3, 9, 10, 11] ?_
   refine .seq ?_
   refine .cond rfl rfl (fun hc2 => ?_) (fun hc2 => ?_)
   ·skip
    have h1 : n3 < a0.length := by simpa using hc2
    have hwn3 : wr .i64 ((n3 : Int) + 1) = ((n3 + 1 : Nat) : Int) := wr_succ h1 hln3
    have hpn3 : wr .i64 ((n3 : Int) - 1) = (n3 : Int) - 1 := wr_pred h1 hln3
    rw [List.drop_eq_getElem_cons h1, m_quorum_Check_loop1] at hx1
    refine .skip ?_
    refine .seq ?_
    refine .block ?_
    refine .seq ?_
    have e1 := nth_map (D.int .i64) a0 n3 h1
    refine .plx Try.S (And.intro e1 hwn3) [3, 9, 10, 11] ?_
    refine .seq ?_
    refine .seq ?_
    refine .plx Try.S hwn3 [3, 5, 9, 10, 11] ?_
    refine .cond rfl rfl (fun hc3 => ?_) (fun hc3 => ?_)
    ·skip
     replace hx1 := ite_lc hx1 hc3
     refine .seq ?_
     refine .plx Try.S hwn3 [] ?_
     have hq := Option.some.inj hx1
     subst x1
     try dsimp only at h
     have hq := Option.some.inj h
     subst r
     exact .ret ⟨.inr rfl, rsi⟩
    ·skip
     replace hx1 := ite_rc hx1 hc3
     refine .skip ?_
     refine .plx Try.S hwn3 [5, 9, 10, 11] ?_
     refine .plx Try.S hwn3 [3, 9, 10, 11] ?_
     refine ⟨(n3 + 1, _), ?_, ⟨by omega, hx1⟩, by dsimp only; omega⟩
     exact .m [3, 9, 10, 11] [] []
   ·skip
    have h2 : n3 = a0.length := by have h2b := of_decide_eq_false hc2; omega
    rw [List.drop_of_length_le (by omega), m_quorum_Check_loop1] at hx1
    refine .exit ?_
    refine ⟨_, ?_, (Option.some.inj hx1).symm⟩
    exact .m [3] [] []
  ·skip
   rintro n1 hj1
   subst x1
   try dsimp only at h
   simp only [Try.St_quorum_Check_1]
   refine .seq ?_
   refine .seq ?_
   refine .pl Try.S [3] ?_
   refine .cond rfl rfl (fun hc4 => ?_) (fun hc4 => ?_)
   ·skip
    replace h := ite_lc h hc4
    refine .seq ?_
    refine .pl Try.S [] ?_
    have hq := Option.some.inj h
    subst r
    exact .ret ⟨.inr rfl, rsi⟩
   ·skip
    replace h := ite_rc h hc4
    refine .skip ?_
    refine .seq ?_
    refine .pl Try.S [] ?_
    have hq := Option.some.inj h
    subst r
    exact .ret ⟨.inr rfl, rsi⟩
theorem callP_ballot_Of (a0 : Int) (r : Int × Int × Int) (h : m_ballot_Of a0 = some r) : CallP Try.prog 18 [.int .i64 a0] (.tuple [.int .i64 r.1, .int .i64 r.2.1, .int .i64 r.2.2]) := by
 refine callP_intro Try.tmOk 2 Try.func18 rfl (by decide) rfl rfl (Nat.le_of_ble_eq_true rfl) ?_
 intro hwf
 unfold m_ballot_Of at h
 refine .seq ?_
 refine .pl Try.S [0] ?_
 refine .seq ?_
 refine .pl Try.S [0] ?_
 refine .seq ?_
 refine .seq ?_
 obtain ⟨v1, hv1, h⟩ := bind_some h
 refine .rg Try.S [2, 3] ?_
 refine .rn 8 ?_
 refine .gcall (r := .bool v1) rfl rfl rfl rfl rfl (fun hg => ⟨[], [.int .i64 (a0.tmod 8)], _, rfl, gd hg, rfl, (callP_ballot_node (a0.tmod 8) v1 (ite_lc hv1 hg))⟩) ?_
 refine .rn 2 ?_
 refine .nil ⟨nofun, ?_⟩
 refine .cond rfl rfl (fun hc1 => ?_) (fun hc1 => ?_)
 ·skip
  replace h := ite_lc h hc1
  refine .seq ?_
  refine .pl Try.S [] ?_
  have hq := Option.some.inj h
  subst r
  exact .ret ⟨.inr rfl, rsi⟩
 ·skip
  replace h := ite_rc h hc1
  refine .skip ?_
  refine .seq ?_
  refine .pl Try.S [2, 3] ?_
  have hq := Option.some.inj h
  subst r
  exact .ret ⟨.inr rfl, rsi⟩
theorem callP_ballot_Check (a0 : Int) (r : Int) (h : m_ballot_Check a0 = some r) : CallP Try.prog 28 [.int .i64 a0] (.int .i64 r) := by
 refine callP_intro Try.tmOk 2 Try.func28 rfl (by decide) rfl rfl (Nat.le_of_ble_eq_true rfl) ?_
 intro hwf
 unfold m_ballot_Check at h
 refine .seq ?_
 refine .pl Try.S [0] ?_
 refine .seq ?_
 refine .seq ?_
 obtain ⟨v1, hv1, h⟩ := bind_some h
 refine .rg Try.S [0] ?_
 refine .rn 1 ?_
 refine .call (r := .tuple [.int .i64 v1.1, .int .i64 v1.2.1, .int .i64 v1.2.2]) rfl rfl rfl rfl rfl rfl (callP_ballot_Of a0 v1 hv1) ?_
 refine .rn 7 ?_
 refine .nil ⟨nofun, ?_⟩
 refine .seq ?_
 refine .pl Try.S [5] ?_
 refine .cond rfl rfl (fun hc1 => ?_) (fun hc1 => ?_)
 ·skip
  replace h := ite_lc h hc1
  refine .seq ?_
  refine .pl Try.S [5] ?_
  have hq := Option.some.inj h
  subst r
  exact .ret ⟨.inr rfl, rsi⟩
 ·skip
  replace h := ite_rc h hc1
  refine .skip ?_
  refine .seq ?_
  refine .pl Try.S [] ?_
  have hq := Option.some.inj h
  subst r
  exact .ret ⟨.inr rfl, rsi⟩
theorem callP_quorum_Need (a0 : List Int) (r : Int × Int) (h : m_quorum_Need a0 = some r) : CallP Try.prog 59 [.imm 1 (a0.map (D.int .i64)) 4] (.tuple [.int .i64 r.1, .int .i64 r.2]) := by
 refine callP_intro Try.tmOk 2 Try.func59 rfl (by decide) rfl rfl (Nat.le_of_ble_eq_true rfl) ?_
 intro hwf
 unfold m_quorum_Need at h
 refine .seq ?_
 refine .pl Try.S [0] ?_
 refine .seq ?_
 refine .seq ?_
 obtain ⟨v1, hv1, h⟩ := bind_some h
 refine .rg Try.S [0] ?_
 refine .rn 1 ?_
 refine .call (r := .int .i64 v1) rfl rfl rfl rfl rfl rfl (callP_quorum_Check a0 v1 hv1) ?_
 refine .rn 1 ?_
 refine .nil ⟨nofun, ?_⟩
 refine .seq ?_
 refine .pl Try.S [0, 4] ?_
 refine .cond rfl rfl (fun hc1 => ?_) (fun hc1 => ?_)
 ·skip
  replace h := ite_lc h hc1
  refine .seq ?_
  refine .pl Try.S [4] ?_
  have hq := Option.some.inj h
  subst r
  exact .ret ⟨.inr rfl, rsi⟩
 ·skip
  replace h := ite_rc h hc1
  refine .skip ?_
  refine .seq ?_
  refine .pl Try.S [0] ?_
  have hq := Option.some.inj h
  subst r
  exact .ret ⟨.inr rfl, rsi⟩
def Try.St_attempt_rising_1 : St := ⟨[], [], 0⟩
attribute [local go_sem] Try.St_attempt_rising_1
def Try.St_attempt_rising_3 (a0 : List Int) (a1 : List Int) (n1 : Nat) : St := ⟨[(0, .imm 1 (a0.map (D.int .i64)) 4), (1, .imm 1 (a1.map (D.int .i64)) 4), (7, .imm 1 (a0.map (D.int .i64)) 4), (8, .int .i64 (a0.length : Int)), (9, .int .i64 (n1 : Int))], [], 0⟩
attribute [local go_sem] Try.St_attempt_rising_3
theorem callP_attempt_rising (a0 : List Int) (a1 : List Int) (r : Bool) (h : m_attempt_rising a0 a1 = some r) : CallP Try.prog 30 [.imm 1 (a0.map (D.int .i64)) 4, .imm 1 (a1.map (D.int .i64)) 4] (.bool r) := by
 refine callP_intro Try.tmOk 2 Try.func30 rfl (by decide) rfl rfl (Nat.le_of_ble_eq_true rfl) ?_
 intro hwf
 unfold m_attempt_rising at h
 refine .seq ?_
 refine .pl Try.S [0, 1] ?_
 obtain ⟨x1, hx1, h⟩ := bind_some h
 refine .seqM 0 (fun (j : Unit) => Try.St_attempt_rising_1) (fun j => x1 = (.inr j)) (Nat.le_of_ble_eq_true rfl) ?_ ?_
 ·skip
  refine .seq ?_
  refine .pl Try.S [0, 1] ?_
  refine .block ?_
  refine .loopG 0 (fun (j : Nat) => Try.St_attempt_rising_3 a0 a1 j) (fun j => j ≤ a0.length ∧ m_attempt_rising_loop1 a0 a1 (a0.drop j) j  = some x1) (fun j => a0.length - j) (0) (Nat.le_of_ble_eq_true rfl) ?_ ⟨Nat.zero_le _, hx1⟩ ?_
  ·skip
   exact .m [0, 1, 7, 8, 9] [] []
  rintro n1 ⟨hi1, hx1⟩
  simp only [Try.St_attempt_rising_3]
  refine .wf 8 (.int .i64 (a0.length : Int)) rfl ?_
  intro hln1
  replace hln1 : (a0.length : Int) ≤ 9223372036854775807 := by simp only [wf, wfL, IntKind.max, IntKind.min, IntKind.signed, IntKind.bits, List.length_map] at hln1; first | exact hln1.2 | exact hln1.1 | (simp at hln1; omega)
  refine .seq ?_
  refine .pl Try.S [0, 1, 7, 8, 9] ?_
  refine .seq ?_
  refine .cond rfl rfl (fun hc1 => ?_) (fun hc1 => ?_)
  ·skip
   have h1 : n1 < a0.length := by simpa using hc1
   have hwn1 : wr .i64 ((n1 : Int) + 1) = ((n1 + 1 : Nat) : Int) := wr_succ h1 hln1
   have hpn1 : wr .i64 ((n1 : Int) - 1) = (n1 : Int) - 1 := wr_pred h1 hln1
   rw [List.drop_eq_getElem_cons h1, m_attempt_rising_loop1] at hx1
   refine .skip ?_
   refine .seq ?_
   refine .block ?_
   refine .seq ?_
   have e1 := nth_map (D.int .i64) a0 n1 h1
   refine .plx Try.S (And.intro e1 hwn1) [0, 1, 7, 8, 9] ?_
   refine .seq ?_
   obtain ⟨v1, hv1, hx1⟩ := bind_some hx1
   have e2 := nth_mapD (D.int .i64) a0 (n1 - 1) (by omega)
   refine .rg Try.S [0, 1, 5, 6, 7, 8, 9] ?_
   refine .rnx 6 (And.intro e2 (And.intro hpn1 hwn1)) ?_
   refine .rnx 8 (And.intro e2 (And.intro hpn1 hwn1)) ?_
   refine .gcall (r := .bool v1) rfl rfl rfl rfl rfl (fun hg => ⟨[], [.imm 1 (a1.map (D.int .i64)) 4, .int .i64 (a0[n1])], _, rfl, gd hg, rfl, (callP_quorum_Has a1 (a0[n1]) v1 (ite_lc hv1 hg))⟩) ?_
   refine .rnx 2 (And.intro e2 (And.intro hpn1 hwn1)) ?_
   refine .nil ⟨nofun, ?_⟩
   refine .cond rfl rfl (fun hc2 => ?_) (fun hc2 => ?_)
   ·skip
    replace hx1 := ite_lc hx1 hc2
    refine .seq ?_
    refine .plx Try.S hwn1 [] ?_
    have hq := Option.some.inj hx1
    subst x1
    try dsimp only at h
    have hq := Option.some.inj h
    subst r
    exact .ret ⟨.inr rfl, rsi⟩
   ·skip
    replace hx1 := ite_rc hx1 hc2
    refine .skip ?_
    refine .plx Try.S hwn1 [0, 1, 7, 8, 9] ?_
    refine ⟨n1 + 1, ?_, ⟨by omega, hx1⟩, by dsimp only; omega⟩
    exact .m [0, 1, 7, 8, 9] [] []
  ·skip
   have h2 : n1 = a0.length := by have h2b := of_decide_eq_false hc1; omega
   rw [List.drop_of_length_le (by omega), m_attempt_rising_loop1] at hx1
   refine .exit ?_
   refine ⟨_, ?_, (Option.some.inj hx1).symm⟩
   exact .m [] [] []
 ·skip
  rintro ⟨⟩ hj1
  subst x1
  try dsimp only at h
  simp only [Try.St_attempt_rising_1]
  refine .seq ?_
  refine .pl Try.S [] ?_
  have hq := Option.some.inj h
  subst r
  exact .ret ⟨.inr rfl, rsi⟩
theorem callP_attempt_may (a0 : TPromise) (a1 : Int) (r : Bool) (h : m_attempt_may a0 a1 = some r) : CallP Try.prog 34 [.agg [.int .i64 a0.Node, .int .i64 a0.Ballot, .str a0.Value], .int .i64 a1] (.bool r) := by
 refine callP_intro Try.tmOk 3 Try.func34 rfl (by decide) rfl rfl (Nat.le_of_ble_eq_true rfl) ?_
 intro hwf
 unfold m_attempt_may at h
 refine .seq ?_
 refine .pl Try.S [0, 1] ?_
 refine .seq ?_
 refine .seq ?_
 refine .pl Try.S [1, 2] ?_
 refine .cond rfl rfl (fun hc1 => ?_) (fun hc1 => ?_)
 ·skip
  replace h := ite_lc h hc1
  refine .seq ?_
  refine .pl Try.S [2] ?_
  have hq := Option.some.inj h
  subst r
  exact .ret ⟨.inr rfl, rsi⟩
 ·skip
  replace h := ite_rc h hc1
  refine .skip ?_
  refine .seq ?_
  obtain ⟨v1, hv1, h⟩ := bind_some h
  refine .rg Try.S [1, 2] ?_
  refine .rn 2 ?_
  refine .call (r := .int .i64 v1) rfl rfl rfl rfl rfl rfl (callP_ballot_Check a0.Ballot v1 hv1) ?_
  refine .rn 6 ?_
  refine .rn 8 ?_
  refine .nil ⟨nofun, ?_⟩
  have hq := Option.some.inj h
  subst r
  exact .ret ⟨.inr rfl, rsi⟩
end Go.Proofs
end
section
namespace Go.Proofs
open Go.Tm
set_option linter.unusedVariables false
def m_slices_Equal_int_int_loop1 (a1 : List Int) : List Int → Nat → Option (Bool ⊕ Unit)
 | [], n1 =>
  some (.inr ())
 | y1 :: rest1, n1 =>
  if n1 < a1.length then
  if ¬ (y1 = (a1.getD n1 default)) then
  some (.inl false)
  else
  m_slices_Equal_int_int_loop1 a1 rest1 (n1 + 1) 
  else none
def m_slices_Equal_int_int (a0 : List Int) (a1 : List Int) : Option Bool :=
 if ¬ ((a0.length : Int) = (a1.length : Int)) then
 some false
 else
 Option.bind (α := Bool ⊕ Unit) (m_slices_Equal_int_int_loop1 a1 a0 0 ) fun z => match z with
 | (.inl r) => some r
 | (.inr _) =>
 some true
def m_slices_Equal_Promise_Promise_loop1 (a1 : List TPromise) : List TPromise → Nat → Option (Bool ⊕ Unit)
 | [], n1 =>
  some (.inr ())
 | y1 :: rest1, n1 =>
  if n1 < a1.length then
  if ¬ ((y1.Node = (a1.getD n1 default).Node) ∧ (y1.Ballot = (a1.getD n1 default).Ballot) ∧ (y1.Value = (a1.getD n1 default).Value)) then
  some (.inl false)
  else
  m_slices_Equal_Promise_Promise_loop1 a1 rest1 (n1 + 1) 
  else none
def m_slices_Equal_Promise_Promise (a0 : List TPromise) (a1 : List TPromise) : Option Bool :=
 if ¬ ((a0.length : Int) = (a1.length : Int)) then
 some false
 else
 Option.bind (α := Bool ⊕ Unit) (m_slices_Equal_Promise_Promise_loop1 a1 a0 0 ) fun z => match z with
 | (.inl r) => some r
 | (.inr _) =>
 some true
def m_slices_IndexFunc_Promise_Promise_loop1 (f : TPromise → Option Bool) : List TPromise → Nat → Option (Int ⊕ Unit)
 | [], n1 =>
  some (.inr ())
 | y1 :: rest1, n1 =>
  Option.bind (f (y1)) fun v1 =>
  if v1 = true then
  some (.inl (n1 : Int))
  else
  m_slices_IndexFunc_Promise_Promise_loop1 f rest1 (n1 + 1) 
def m_slices_IndexFunc_Promise_Promise (s : List TPromise) (f : TPromise → Option Bool) : Option Int :=
 Option.bind (α := Int ⊕ Unit) (m_slices_IndexFunc_Promise_Promise_loop1 f s 0 ) fun z => match z with
 | (.inl r) => some r
 | (.inr _) =>
 some (-1)
def m_slices_ContainsFunc_Promise_Promise (s : List TPromise) (f : TPromise → Option Bool) : Option Bool :=
 Option.bind (m_slices_IndexFunc_Promise_Promise s f) fun v1 =>
 some (decide (v1 ≥ 0))
def m_sort_Search_loop1 (f : Int → Option Bool) : Nat → Int → Int → Option (Int)
 | 0, _, _ => none
 | fu1 + 1, n2, n3 =>
  if n2 < n3 then
  Option.bind (f (wr .i64 (shw false .u64 (wr .u64 (wr .i64 (n2 + n3))) 1))) fun v1 =>
  if ¬ (v1 = true) then
  m_sort_Search_loop1 f fu1 (wr .i64 ((wr .i64 (shw false .u64 (wr .u64 (wr .i64 (n2 + n3))) 1)) + 1)) n3
  else
  m_sort_Search_loop1 f fu1 n2 (wr .i64 (shw false .u64 (wr .u64 (wr .i64 (n2 + n3))) 1))
  else
  some n2
def m_sort_Search (n : Int) (f : Int → Option Bool) : Option Int :=
 Option.bind (α := Int) (m_sort_Search_loop1 f (n.toNat + 1) 0 n) fun n1 =>
 some n1
def m_sort_SearchInts_1 (a0 : Int) (c0 : List Int) (c1 : Int) : Option Bool :=
 if (0 ≤ a0 ∧ a0 < (c0.length : Int)) then
 some (decide ((c0.getD a0.toNat default) ≥ c1))
 else none
def m_sort_SearchInts (a0 : List Int) (a1 : Int) : Option Int :=
 Option.bind (m_sort_Search (a0.length : Int) (fun x0 => m_sort_SearchInts_1 x0 a0 a1)) fun v1 =>
 some v1
end Go.Proofs
end
section
namespace Go.Proofs
open Go.Tm Go.RowKit Go.WideShapes
set_option maxRecDepth 100000
set_option maxHeartbeats 4000000
set_option linter.unusedSimpArgs false
set_option linter.unusedVariables false
attribute [local go_sem] argVars runE runK isCallV stepE aop opd opdsL opds opdO ev ofVal keep List.any natbeq Bool.false_or Bool.true_or aggEq cond_true cond_false Bool.cond_false_right Bool.cond_true_left beq_true beq_false imp_self implies_true getR getL put St.app effL del nwB blt_dec Nat.lt_irrefl Nat.lt_add_one ble_dec Nat.le_refl Nat.beq_refl roomNZ appendIn capS capK mkZ_zero mkZL_zero zeroEl D.ids D.idsL bin arith sarith binT dpick Tm.part splice fillD oneD loadD storeD srcD sliceD idxOk decide_true gval dstAt D.cells List.map_cons List.map_nil List.take List.drop List.length_map List.append Int.toNat_natCast and_true true_and decide_false List.length_cons List.length_nil List.append_nil List.nil_append Bool.and_true Bool.true_and Bool.not_false Bool.not_true ne_eq not_false_eq_true BEq.rfl List.getElem?_cons_zero List.getElem?_cons_succ List.getElem?_nil Nat.zero_add List.all_cons List.all_nil List.isEmpty_cons List.isEmpty_nil Option.getD_some Option.getD_none List.any_cons List.any_nil List.drop_succ_cons List.drop_zero unfL unf okM okML low3 List.cons_append true_or or_true Nat.zero_mul Nat.zero_le findD_int findD_str  getD_int getD_str getD_bool Option.isSome_map keyD List.length_replicate List.map_replicate setEl List.length_set bytesD_map map_ub mx_len mkZ_one mkZL_one mkM mkML mk1_int mk1_str mk1_bool drop_map take_map take_map_len List.take_length Int.toNat_zero toNat_pred fpOf metIds opIds mvV mvH mvF pickL D.ren D.renL Blk.ren List.map_append List.length_append Bool.not_not Bool.or_not_self Bool.not_or_self Bool.or_true
attribute [local go_sem] Try.tm_1 Try.tm_2 Try.tm_3 Try.tm_4 Try.tm_5 Try.tm_6 Try.tm_7 Try.tm_8 Try.tm_9 Try.tm_10 Try.tm_11 Try.tm_12 Try.tm_13 Try.tm_14 Try.tm_15 Try.tm_16 Try.tm_17 Try.tm_18 Try.tm_19 Try.tm_20 Try.tm_21 Try.tm_22 Try.tm_23 Try.tm_24 Try.tm_25 Try.tm_26 Try.tm_27 Try.tm_28 Try.tm_29 Try.tm_30 Try.tm_31 Try.tm_32 Try.tm_34 Try.tm_35 Try.tm_36 Try.tm_37 Try.tm_38 Try.tm_39 Try.tm_40 Try.tm_41 Try.tm_42 Try.tm_43 Try.tm_44 Try.tm_45 Try.tm_46 Try.tm_47 Try.tm_48 Try.tm_49 Try.tm_50 Try.tm_51 Try.tm_52 Try.tm_53 Try.tm_54 Try.tm_55 Try.tm_56 Try.tm_57 Try.tm_59 Try.tm_60 Try.tm_61 Try.tm_62 Try.tm_63 Try.tm_64 Try.tm_65 Try.tm_66 Try.tm_67 Try.tm_68 Try.tm_69 Try.tm_70 Try.tm_71 Try.tm_72 Try.tm_73 Try.tm_74 Try.tm_75 Try.tm_76 Try.tm_77 Try.tm_78 Try.tm_79 Try.tm_80 Try.tm_81 Try.tm_82 Try.tm_83 Try.tm_84 Try.tm_85 Try.tm_87 Try.tm_89 Try.tm_91 Try.tm_92 Try.tm_93 Try.tm_94 Try.tm_95 Try.tm_96 Try.tm_97 Try.tm_99 Try.tm_100 Try.tm_101 Try.tm_102 Try.tm_103 Try.tm_104 Try.tm_105 Try.tm_106 Try.tm_107 Try.tm_108 Try.tm_109 Try.tm_110 Try.tm_111 Try.tm_112 Try.tm_113 Try.tm_114 Try.tm_115 Try.tm_116 Try.tm_117 Try.tm_118 Try.tm_119 Try.tm_120 Try.tm_121 Try.tm_122 Try.tm_123 Try.tm_126 Try.tm_127 Try.tm_128 Try.tm_129 Try.tm_130 Try.tm_131 Try.tm_132 Try.tm_133 Try.tm_134 TPromise.d TAttempt.d TAttempt.n mk1_TPromise mk1_TAttempt Try.f19 Try.f50 Try.f52 Try.f32 Try.f62 Try.f72 Try.f65
def Try.St_slices_Equal_int_int_1 : St := ⟨[], [], 0⟩
attribute [local go_sem] Try.St_slices_Equal_int_int_1
def Try.St_slices_Equal_int_int_3 (a0 : List Int) (a1 : List Int) (n1 : Nat) : St := ⟨[(0, .imm 1 (a0.map (D.int .i64)) 4), (1, .imm 1 (a1.map (D.int .i64)) 4), (12, .int .i64 (a0.length : Int)), (13, .int .i64 (n1 : Int))], [], 0⟩
attribute [local go_sem] Try.St_slices_Equal_int_int_3
theorem callP_slices_Equal_int_int (a0 : List Int) (a1 : List Int) (r : Bool) (h : m_slices_Equal_int_int a0 a1 = some r) : CallP Try.prog 19 [.imm 1 (a0.map (D.int .i64)) 4, .imm 1 (a1.map (D.int .i64)) 4] (.bool r) := by
 refine callP_intro Try.tmOk 2 Try.func19 rfl (by decide) rfl rfl (Nat.le_of_ble_eq_true rfl) ?_
 intro hwf
 unfold m_slices_Equal_int_int at h
 refine .seq ?_
 refine .pl Try.S [0, 1] ?_
 refine .seq ?_
 refine .seq ?_
 refine .pl Try.S [0, 1] ?_
 refine .cond rfl rfl (fun hc1 => ?_) (fun hc1 => ?_)
 ·skip
  replace h := ite_lc h hc1
  refine .seq ?_
  refine .pl Try.S [] ?_
  have hq := Option.some.inj h
  subst r
  exact .ret ⟨.inr rfl, rsi⟩
 ·skip
  replace h := ite_rc h hc1
  refine .skip ?_
  obtain ⟨x1, hx1, h⟩ := bind_some h
  refine .seqM 0 (fun (j : Unit) => Try.St_slices_Equal_int_int_1) (fun j => x1 = (.inr j)) (Nat.le_of_ble_eq_true rfl) ?_ ?_
  ·skip
   refine .seq ?_
   refine .pl Try.S [0, 1] ?_
   refine .block ?_
   refine .loopG 0 (fun (j : Nat) => Try.St_slices_Equal_int_int_3 a0 a1 j) (fun j => j ≤ a0.length ∧ m_slices_Equal_int_int_loop1 a1 (a0.drop j) j  = some x1) (fun j => a0.length - j) (0) (Nat.le_of_ble_eq_true rfl) ?_ ⟨Nat.zero_le _, hx1⟩ ?_
   ·skip
    exact .m [0, 1, 12, 13] [] []
   rintro n1 ⟨hi1, hx1⟩
   simp only [Try.St_slices_Equal_int_int_3]
   refine .wf 12 (.int .i64 (a0.length : Int)) rfl ?_
   intro hln1
   replace hln1 : (a0.length : Int) ≤ 9223372036854775807 := by simp only [wf, wfL, IntKind.max, IntKind.min, IntKind.signed, IntKind.bits, List.length_map] at hln1; first | exact hln1.2 | exact hln1.1 | (simp at hln1; omega)
   refine .seq ?_
   refine .pl Try.S [0, 1, 12, 13] ?_
   refine .seq ?_
   refine .cond rfl rfl (fun hc2 => ?_) (fun hc2 => ?_)
   ·skip
    have h1 : n1 < a0.length := by simpa using hc2
    have hwn1 : wr .i64 ((n1 : Int) + 1) = ((n1 + 1 : Nat) : Int) := wr_succ h1 hln1
    have hpn1 : wr .i64 ((n1 : Int) - 1) = (n1 : Int) - 1 := wr_pred h1 hln1
    rw [List.drop_eq_getElem_cons h1, m_slices_Equal_int_int_loop1] at hx1
    refine .skip ?_
    refine .seq ?_
    refine .block ?_
    refine .seq ?_
    refine .plx Try.S hwn1 [0, 1, 12, 13] ?_
    refine .seq ?_
    obtain ⟨k1, hx1⟩ := ite_ck hx1
    have e1 := nth_map (D.int .i64) a0 n1 h1
    have e2 := nth_mapD (D.int .i64) a1 n1
    replace e2 := e2 k1
    refine .rg Try.S [0, 1, 5, 12, 13] ?_
    refine .rdx 6 (And.intro e1 (And.intro e2 hwn1)) ?_
    refine .rdx 3 (And.intro e1 (And.intro e2 hwn1)) ?_
    refine .nil ⟨fun _ => schedB_of (by kernel_rfl), ?_⟩
    refine .cond rfl rfl (fun hc3 => ?_) (fun hc3 => ?_)
    ·skip
     replace hx1 := ite_lc hx1 hc3
     refine .seq ?_
     refine .plx Try.S hwn1 [] ?_
     have hq := Option.some.inj hx1
     subst x1
     try dsimp only at h
     have hq := Option.some.inj h
     subst r
     exact .ret ⟨.inr rfl, rsi⟩
    ·skip
     replace hx1 := ite_rc hx1 hc3
     refine .skip ?_
     refine .plx Try.S hwn1 [0, 1, 12, 13] ?_
     refine ⟨n1 + 1, ?_, ⟨by omega, hx1⟩, by dsimp only; omega⟩
     exact .m [0, 1, 12, 13] [] []
   ·skip
    have h2 : n1 = a0.length := by have h2b := of_decide_eq_false hc2; omega
    rw [List.drop_of_length_le (by omega), m_slices_Equal_int_int_loop1] at hx1
    refine .exit ?_
    refine ⟨_, ?_, (Option.some.inj hx1).symm⟩
    exact .m [] [] []
  ·skip
   rintro ⟨⟩ hj1
   subst x1
   try dsimp only at h
   simp only [Try.St_slices_Equal_int_int_1]
   refine .seq ?_
   refine .pl Try.S [] ?_
   have hq := Option.some.inj h
   subst r
   exact .ret ⟨.inr rfl, rsi⟩
def Try.St_slices_Equal_Promise_Promise_1 : St := ⟨[], [], 0⟩
attribute [local go_sem] Try.St_slices_Equal_Promise_Promise_1
def Try.St_slices_Equal_Promise_Promise_3 (a0 : List TPromise) (a1 : List TPromise) (n1 : Nat) : St := ⟨[(0, .imm 3 (a0.map TPromise.d) 4), (1, .imm 3 (a1.map TPromise.d) 4), (12, .int .i64 (a0.length : Int)), (13, .int .i64 (n1 : Int))], [], 0⟩
attribute [local go_sem] Try.St_slices_Equal_Promise_Promise_3
theorem callP_slices_Equal_Promise_Promise (a0 : List TPromise) (a1 : List TPromise) (r : Bool) (h : m_slices_Equal_Promise_Promise a0 a1 = some r) : CallP Try.prog 50 [.imm 3 (a0.map TPromise.d) 4, .imm 3 (a1.map TPromise.d) 4] (.bool r) := by
 refine callP_intro Try.tmOk 2 Try.func50 rfl (by decide) rfl rfl (Nat.le_of_ble_eq_true rfl) ?_
 intro hwf
 unfold m_slices_Equal_Promise_Promise at h
 refine .seq ?_
 refine .pl Try.S [0, 1] ?_
 refine .seq ?_
 refine .seq ?_
 refine .pl Try.S [0, 1] ?_
 refine .cond rfl rfl (fun hc1 => ?_) (fun hc1 => ?_)
 ·skip
  replace h := ite_lc h hc1
  refine .seq ?_
  refine .pl Try.S [] ?_
  have hq := Option.some.inj h
  subst r
  exact .ret ⟨.inr rfl, rsi⟩
 ·skip
  replace h := ite_rc h hc1
  refine .skip ?_
  obtain ⟨x1, hx1, h⟩ := bind_some h
  refine .seqM 0 (fun (j : Unit) => Try.St_slices_Equal_Promise_Promise_1) (fun j => x1 = (.inr j)) (Nat.le_of_ble_eq_true rfl) ?_ ?_
  ·skip
   refine .seq ?_
   refine .pl Try.S [0, 1] ?_
   refine .block ?_
   refine .loopG 0 (fun (j : Nat) => Try.St_slices_Equal_Promise_Promise_3 a0 a1 j) (fun j => j ≤ a0.length ∧ m_slices_Equal_Promise_Promise_loop1 a1 (a0.drop j) j  = some x1) (fun j => a0.length - j) (0) (Nat.le_of_ble_eq_true rfl) ?_ ⟨Nat.zero_le _, hx1⟩ ?_
   ·skip
    exact .m [0, 1, 12, 13] [] []
   rintro n1 ⟨hi1, hx1⟩
   simp only [Try.St_slices_Equal_Promise_Promise_3]
   refine .wf 12 (.int .i64 (a0.length : Int)) rfl ?_
   intro hln1
   replace hln1 : (a0.length : Int) ≤ 9223372036854775807 := by simp only [wf, wfL, IntKind.max, IntKind.min, IntKind.signed, IntKind.bits, List.length_map] at hln1; first | exact hln1.2 | exact hln1.1 | (simp at hln1; omega)
   refine .seq ?_
   refine .pl Try.S [0, 1, 12, 13] ?_
   refine .seq ?_
   refine .cond rfl rfl (fun hc2 => ?_) (fun hc2 => ?_)
   ·skip
    have h1 : n1 < a0.length := by simpa using hc2
    have hwn1 : wr .i64 ((n1 : Int) + 1) = ((n1 + 1 : Nat) : Int) := wr_succ h1 hln1
    have hpn1 : wr .i64 ((n1 : Int) - 1) = (n1 : Int) - 1 := wr_pred h1 hln1
    rw [List.drop_eq_getElem_cons h1, m_slices_Equal_Promise_Promise_loop1] at hx1
    refine .skip ?_
    refine .seq ?_
    refine .block ?_
    refine .seq ?_
    refine .plx Try.S hwn1 [0, 1, 12, 13] ?_
    refine .seq ?_
    obtain ⟨k1, hx1⟩ := ite_ck hx1
    have e1 := nth_map TPromise.d a0 n1 h1
    have e2 := nth_mapD TPromise.d a1 n1
    replace e2 := e2 k1
    refine .rg Try.S [0, 1, 5, 12, 13] ?_
    refine .rdx 6 (And.intro e1 (And.intro e2 hwn1)) ?_
    refine .rdx 3 (And.intro e1 (And.intro e2 hwn1)) ?_
    refine .nil ⟨fun _ => schedB_of (by kernel_rfl), ?_⟩
    refine .cond rfl rfl (fun hc3 => ?_) (fun hc3 => ?_)
    ·skip
     replace hx1 := ite_lc hx1 hc3
     refine .seq ?_
     refine .plx Try.S hwn1 [] ?_
     have hq := Option.some.inj hx1
     subst x1
     try dsimp only at h
     have hq := Option.some.inj h
     subst r
     exact .ret ⟨.inr rfl, rsi⟩
    ·skip
     replace hx1 := ite_rc hx1 hc3
     refine .skip ?_
     refine .plx Try.S hwn1 [0, 1, 12, 13] ?_
     refine ⟨n1 + 1, ?_, ⟨by omega, hx1⟩, by dsimp only; omega⟩
     exact .m [0, 1, 12, 13] [] []
   ·skip
    have h2 : n1 = a0.length := by have h2b := of_decide_eq_false hc2; omega
    rw [List.drop_of_length_le (by omega), m_slices_Equal_Promise_Promise_loop1] at hx1
    refine .exit ?_
    refine ⟨_, ?_, (Option.some.inj hx1).symm⟩
    exact .m [] [] []
  ·skip
   rintro ⟨⟩ hj1
   subst x1
   try dsimp only at h
   simp only [Try.St_slices_Equal_Promise_Promise_1]
   refine .seq ?_
   refine .pl Try.S [] ?_
   have hq := Option.some.inj h
   subst r
   exact .ret ⟨.inr rfl, rsi⟩
def Try.St_slices_IndexFunc_Promise_Promise_1 : St := ⟨[], [], 0⟩
attribute [local go_sem] Try.St_slices_IndexFunc_Promise_Promise_1
def Try.St_slices_IndexFunc_Promise_Promise_3 (s : List TPromise) (Kf : Nat) (cf : List D) (n1 : Nat) : St := ⟨[(0, .imm 3 (s.map TPromise.d) 4), (1, .fn (.func Kf) cf), (7, .int .i64 (s.length : Int)), (8, .int .i64 (n1 : Int))], [], 0⟩
attribute [local go_sem] Try.St_slices_IndexFunc_Promise_Promise_3
theorem callP_slices_IndexFunc_Promise_Promise (s : List TPromise) (Kf : Nat) (cf : List D) (hcf : ∀ hp, lends hp cf = (cf, true)) (h2f : ∀ hp, lend2s hp cf = (cf, true)) (h3f : ∀ hp, ids2s hp cf = []) (f : TPromise → Option Bool) (hf : ∀ x0 y, f x0 = some y → CallP Try.prog Kf (.agg [.int .i64 x0.Node, .int .i64 x0.Ballot, .str x0.Value] :: cf) (.bool y)) (r : Int) (h : m_slices_IndexFunc_Promise_Promise s f = some r) : CallP Try.prog 52 [.imm 3 (s.map TPromise.d) 4, .fn (.func Kf) cf] (.int .i64 r) := by
 refine callP_intro Try.tmOk 2 Try.func52 rfl (by decide) rfl rfl (Nat.le_of_ble_eq_true rfl) ?_
 intro hwf
 unfold m_slices_IndexFunc_Promise_Promise at h
 refine .seq ?_
 refine .pl Try.S [0, 1] ?_
 obtain ⟨x1, hx1, h⟩ := bind_some h
 refine .seqM 0 (fun (j : Unit) => Try.St_slices_IndexFunc_Promise_Promise_1) (fun j => x1 = (.inr j)) (Nat.le_of_ble_eq_true rfl) ?_ ?_
 ·skip
  refine .seq ?_
  refine .pl Try.S [0, 1] ?_
  refine .block ?_
  refine .loopG 0 (fun (j : Nat) => Try.St_slices_IndexFunc_Promise_Promise_3 s Kf cf j) (fun j => j ≤ s.length ∧ m_slices_IndexFunc_Promise_Promise_loop1 f (s.drop j) j  = some x1) (fun j => s.length - j) (0) (Nat.le_of_ble_eq_true rfl) ?_ ⟨Nat.zero_le _, hx1⟩ ?_
  ·skip
   refine Goes.mv [0, 1, 7, 8] [] [] ?_ (Nat.le_of_ble_eq_true rfl) (Nat.le_of_ble_eq_true rfl) (by first | rfl | (simp only [idsV, idsH, pickL, getL, D.ids, Blk.ids, natbeq, Nat.reduceBEq, cond_true, cond_false, List.append_nil, List.nil_append, List.cons_append, idsL_lent hcf] <;> rfl))
   first | rfl | (simp only [go_sem, Nat.reduceBEq, Nat.reduceAdd, renL_lent hcf]; done) | (simp only [go_sem, Nat.reduceBEq, Nat.reduceAdd, renL_lent hcf]; rfl)
  rintro n1 ⟨hi1, hx1⟩
  simp only [Try.St_slices_IndexFunc_Promise_Promise_3]
  refine .wf 7 (.int .i64 (s.length : Int)) rfl ?_
  intro hln1
  replace hln1 : (s.length : Int) ≤ 9223372036854775807 := by simp only [wf, wfL, IntKind.max, IntKind.min, IntKind.signed, IntKind.bits, List.length_map] at hln1; first | exact hln1.2 | exact hln1.1 | (simp at hln1; omega)
  refine .seq ?_
  refine .pl Try.S [0, 1, 7, 8] ?_
  refine .seq ?_
  refine .cond rfl rfl (fun hc1 => ?_) (fun hc1 => ?_)
  ·skip
   have h1 : n1 < s.length := by simpa using hc1
   have hwn1 : wr .i64 ((n1 : Int) + 1) = ((n1 + 1 : Nat) : Int) := wr_succ h1 hln1
   have hpn1 : wr .i64 ((n1 : Int) - 1) = (n1 : Int) - 1 := wr_pred h1 hln1
   rw [List.drop_eq_getElem_cons h1, m_slices_IndexFunc_Promise_Promise_loop1] at hx1
   refine .skip ?_
   refine .seq ?_
   refine .block ?_
   refine .seq ?_
   refine .plx Try.S hwn1 [0, 1, 7, 8] ?_
   refine .seq ?_
   obtain ⟨v1, hv1, hx1⟩ := bind_some hx1
   have e1 := nth_map TPromise.d s n1 h1
   refine .rg Try.S [0, 1, 5, 7, 8] ?_
   refine .rnx 5 (And.intro e1 hwn1) ?_
   refine .call (r := .bool v1) rfl rfl rfl rfl rfl (lends_cons rfl (hcf _)) (hf _ v1 hv1) ?_
   refine .nil ⟨nofun, ?_⟩
   refine .cond rfl rfl (fun hc2 => ?_) (fun hc2 => ?_)
   ·skip
    replace hx1 := ite_lc hx1 hc2
    refine .seq ?_
    refine .plx Try.S hwn1 [5] ?_
    have hq := Option.some.inj hx1
    subst x1
    try dsimp only at h
    have hq := Option.some.inj h
    subst r
    exact .ret ⟨.inr rfl, rsi⟩
   ·skip
    replace hx1 := ite_rc hx1 hc2
    refine .skip ?_
    refine .plx Try.S hwn1 [0, 1, 7, 8] ?_
    refine ⟨n1 + 1, ?_, ⟨by omega, hx1⟩, by dsimp only; omega⟩
    refine Goes.mv [0, 1, 7, 8] [] [] ?_ (Nat.le_of_ble_eq_true rfl) (Nat.le_of_ble_eq_true rfl) (by first | rfl | (simp only [idsV, idsH, pickL, getL, D.ids, Blk.ids, natbeq, Nat.reduceBEq, cond_true, cond_false, List.append_nil, List.nil_append, List.cons_append, idsL_lent hcf] <;> rfl))
    first | rfl | (simp only [go_sem, Nat.reduceBEq, Nat.reduceAdd, renL_lent hcf]; done) | (simp only [go_sem, Nat.reduceBEq, Nat.reduceAdd, renL_lent hcf]; rfl)
  ·skip
   have h2 : n1 = s.length := by have h2b := of_decide_eq_false hc1; omega
   rw [List.drop_of_length_le (by omega), m_slices_IndexFunc_Promise_Promise_loop1] at hx1
   refine .exit ?_
   refine ⟨_, ?_, (Option.some.inj hx1).symm⟩
   refine Goes.mv [] [] [] ?_ (Nat.le_of_ble_eq_true rfl) (Nat.le_of_ble_eq_true rfl) (by first | rfl | (simp only [idsV, idsH, pickL, getL, D.ids, Blk.ids, natbeq, Nat.reduceBEq, cond_true, cond_false, List.append_nil, List.nil_append, List.cons_append, idsL_lent hcf] <;> rfl))
   first | rfl | (simp only [go_sem, Nat.reduceBEq, Nat.reduceAdd, renL_lent hcf]; done) | (simp only [go_sem, Nat.reduceBEq, Nat.reduceAdd, renL_lent hcf]; rfl)
 ·skip
  rintro ⟨⟩ hj1
  subst x1
  try dsimp only at h
  simp only [Try.St_slices_IndexFunc_Promise_Promise_1]
  refine .seq ?_
  refine .pl Try.S [] ?_
  have hq := Option.some.inj h
  subst r
  exact .ret ⟨.inr rfl, rsi⟩
theorem callP_slices_ContainsFunc_Promise_Promise (s : List TPromise) (Kf : Nat) (cf : List D) (hcf : ∀ hp, lends hp cf = (cf, true)) (h2f : ∀ hp, lend2s hp cf = (cf, true)) (h3f : ∀ hp, ids2s hp cf = []) (f : TPromise → Option Bool) (hf : ∀ x0 y, f x0 = some y → CallP Try.prog Kf (.agg [.int .i64 x0.Node, .int .i64 x0.Ballot, .str x0.Value] :: cf) (.bool y)) (r : Bool) (h : m_slices_ContainsFunc_Promise_Promise s f = some r) : CallP Try.prog 32 [.imm 3 (s.map TPromise.d) 4, .fn (.func Kf) cf] (.bool r) := by
 refine callP_intro Try.tmOk 2 Try.func32 rfl (by decide) rfl rfl (Nat.le_of_ble_eq_true rfl) ?_
 intro hwf
 unfold m_slices_ContainsFunc_Promise_Promise at h
 refine .seq ?_
 refine .pl Try.S [0, 1] ?_
 refine .seq ?_
 obtain ⟨v1, hv1, h⟩ := bind_some h
 refine .rg Try.S [0, 1] ?_
 refine .rn 2 ?_
 refine .lcall (r := .int .i64 v1) [] rfl rfl rfl rfl rfl (lend2s_cons rfl (lend2s_cons (lend2_fn (h2f _)) lend2s_nil)) (by show ids2s _ [.imm 3 (s.map TPromise.d) 4, .fn (.func Kf) cf] = _; simp only [ids2s, ids2, List.append_nil, List.nil_append, List.cons_append, h3f]) (callP_slices_IndexFunc_Promise_Promise s Kf cf hcf h2f h3f f hf v1 hv1) ?_
 refine .rn 2 ?_
 refine .nil ⟨nofun, ?_⟩
 have hq := Option.some.inj h
 subst r
 exact .ret ⟨.inr rfl, rsi⟩
def Try.St_sort_Search_1 (n1 : Int) : St := ⟨[(5, .int .i64 n1)], [], 0⟩
attribute [local go_sem] Try.St_sort_Search_1
def Try.St_sort_Search_3 (Kf : Nat) (cf : List D) (n2 : Int) (n3 : Int) : St := ⟨[(1, .fn (.func Kf) cf), (5, .int .i64 n2), (6, .int .i64 n3)], [], 0⟩
attribute [local go_sem] Try.St_sort_Search_3
theorem callP_sort_Search (n : Int) (Kf : Nat) (cf : List D) (hcf : ∀ hp, lends hp cf = (cf, true)) (h2f : ∀ hp, lend2s hp cf = (cf, true)) (h3f : ∀ hp, ids2s hp cf = []) (f : Int → Option Bool) (hf : ∀ x0 y, f x0 = some y → CallP Try.prog Kf (.int .i64 x0 :: cf) (.bool y)) (r : Int) (h : m_sort_Search n f = some r) : CallP Try.prog 62 [.int .i64 n, .fn (.func Kf) cf] (.int .i64 r) := by
 refine callP_intro Try.tmOk 2 Try.func62 rfl (by decide) rfl rfl (Nat.le_of_ble_eq_true rfl) ?_
 intro hwf
 unfold m_sort_Search at h
 refine .seq ?_
 refine .pl Try.S [0, 1] ?_
 refine .seq ?_
 refine .pl Try.S [0, 1] ?_
 obtain ⟨x1, hx1, h⟩ := bind_some h
 refine .seqM 0 (fun (j : Int) => Try.St_sort_Search_1 j) (fun j => x1 = j) (Nat.le_of_ble_eq_true rfl) ?_ ?_
 ·skip
  refine .block ?_
  refine .loopG 0 (fun (j : Nat × Int × Int) => Try.St_sort_Search_3 Kf cf j.2.1 j.2.2) (fun j => m_sort_Search_loop1 f j.1 j.2.1 j.2.2 = some x1) (fun j => j.1) (n.toNat + 1, 0, n) (Nat.le_of_ble_eq_true rfl) ?_ hx1 ?_
  ·skip
   refine Goes.mv [1, 5, 6] [] [] ?_ (Nat.le_of_ble_eq_true rfl) (Nat.le_of_ble_eq_true rfl) (by first | rfl | (simp only [idsV, idsH, pickL, getL, D.ids, Blk.ids, natbeq, Nat.reduceBEq, cond_true, cond_false, List.append_nil, List.nil_append, List.cons_append, idsL_lent hcf] <;> rfl))
   first | rfl | (simp only [go_sem, Nat.reduceBEq, Nat.reduceAdd, renL_lent hcf]; done) | (simp only [go_sem, Nat.reduceBEq, Nat.reduceAdd, renL_lent hcf]; rfl)
  rintro ⟨fu1, n2, n3⟩ hx1
  simp only [Try.St_sort_Search_3]
  try simp only at hx1
  obtain ⟨fu1, rfl⟩ : ∃ k, fu1 = k + 1 := by cases fu1 with | zero => (rw [m_sort_Search_loop1] at hx1; cases hx1) | succ k => exact ⟨k, rfl⟩
  rw [m_sort_Search_loop1] at hx1
  refine .seq ?_
  refine .seq ?_
  refine .pl Try.S [1, 5, 6] ?_
  refine .cond rfl rfl (fun hc1 => ?_) (fun hc1 => ?_)
  ·skip
   replace hx1 := ite_lc hx1 hc1
   refine .skip ?_
   refine .block ?_
   refine .seq ?_
   refine .pl Try.S [1, 5, 6] ?_
   refine .seq ?_
   obtain ⟨v1, hv1, hx1⟩ := bind_some hx1
   refine .rg Try.S [1, 5, 6, 7] ?_
   refine .rn 2 ?_
   refine .call (r := .bool v1) rfl rfl rfl rfl rfl (lends_cons rfl (hcf _)) (hf _ v1 hv1) ?_
   refine .rn 1 ?_
   refine .nil ⟨nofun, ?_⟩
   refine .cond rfl rfl (fun hc2 => ?_) (fun hc2 => ?_)
   ·skip
    replace hx1 := ite_lc hx1 hc2
    refine .pl Try.S [1, 6, 7] ?_
    refine ⟨(fu1, _, _), ?_, hx1, by dsimp only; omega⟩
    refine Goes.mv [1, 5, 6] [] [] ?_ (Nat.le_of_ble_eq_true rfl) (Nat.le_of_ble_eq_true rfl) (by first | rfl | (simp only [idsV, idsH, pickL, getL, D.ids, Blk.ids, natbeq, Nat.reduceBEq, cond_true, cond_false, List.append_nil, List.nil_append, List.cons_append, idsL_lent hcf] <;> rfl))
    first | rfl | (simp only [go_sem, Nat.reduceBEq, Nat.reduceAdd, renL_lent hcf]; done) | (simp only [go_sem, Nat.reduceBEq, Nat.reduceAdd, renL_lent hcf]; rfl)
   ·skip
    replace hx1 := ite_rc hx1 hc2
    refine .pl Try.S [1, 5, 7] ?_
    refine ⟨(fu1, _, _), ?_, hx1, by dsimp only; omega⟩
    refine Goes.mv [1, 5, 6] [] [] ?_ (Nat.le_of_ble_eq_true rfl) (Nat.le_of_ble_eq_true rfl) (by first | rfl | (simp only [idsV, idsH, pickL, getL, D.ids, Blk.ids, natbeq, Nat.reduceBEq, cond_true, cond_false, List.append_nil, List.nil_append, List.cons_append, idsL_lent hcf] <;> rfl))
    first | rfl | (simp only [go_sem, Nat.reduceBEq, Nat.reduceAdd, renL_lent hcf]; done) | (simp only [go_sem, Nat.reduceBEq, Nat.reduceAdd, renL_lent hcf]; rfl)
  ·skip
   replace hx1 := ite_rc hx1 hc1
   refine .exit ?_
   refine ⟨_, ?_, (Option.some.inj hx1).symm⟩
   refine Goes.mv [5] [] [] ?_ (Nat.le_of_ble_eq_true rfl) (Nat.le_of_ble_eq_true rfl) (by first | rfl | (simp only [idsV, idsH, pickL, getL, D.ids, Blk.ids, natbeq, Nat.reduceBEq, cond_true, cond_false, List.append_nil, List.nil_append, List.cons_append, idsL_lent hcf] <;> rfl))
   first | rfl | (simp only [go_sem, Nat.reduceBEq, Nat.reduceAdd, renL_lent hcf]; done) | (simp only [go_sem, Nat.reduceBEq, Nat.reduceAdd, renL_lent hcf]; rfl)
 ·skip
  rintro n1 hj1
  subst x1
  try dsimp only at h
  simp only [Try.St_sort_Search_1]
  refine .seq ?_
  refine .pl Try.S [5] ?_
  have hq := Option.some.inj h
  subst r
  exact .ret ⟨.inr rfl, rsi⟩
theorem callP_sort_SearchInts_1 (a0 : Int) (c0 : List Int) (c1 : Int) (r : Bool) (h : m_sort_SearchInts_1 a0 c0 c1 = some r) : CallP Try.prog 72 [.int .i64 a0, .iptr 0 [.imm 1 (c0.map (D.int .i64)) 4], .iptr 0 [.int .i64 c1]] (.bool r) := by
 refine callP_intro Try.tmOk 2 Try.func72 rfl (by decide) rfl rfl (Nat.le_of_ble_eq_true rfl) ?_
 intro hwf
 unfold m_sort_SearchInts_1 at h
 refine .seq ?_
 refine .pl Try.S [0, 1, 2] ?_
 refine .seq ?_
 obtain ⟨k1, h⟩ := ite_ck h
 have e1 := nth_mapI (D.int .i64) c0 a0
 replace e1 := e1 k1
 refine .drx Try.S e1 [0, 1, 2] ?_
 have hq := Option.some.inj h
 subst r
 exact .ret ⟨.inr rfl, rsi⟩
theorem callP_sort_SearchInts (a0 : List Int) (a1 : Int) (r : Int) (h : m_sort_SearchInts a0 a1 = some r) : CallP Try.prog 65 [.imm 1 (a0.map (D.int .i64)) 4, .int .i64 a1] (.int .i64 r) := by
 refine callP_intro Try.tmOk 4 Try.func65 rfl (by decide) rfl rfl (Nat.le_of_ble_eq_true rfl) ?_
 intro hwf
 unfold m_sort_SearchInts at h
 refine .seq ?_
 refine .pl Try.S [0, 1] ?_
 refine .seq ?_
 obtain ⟨v1, hv1, h⟩ := bind_some h
 refine .rg Try.S [2, 3] ?_
 refine .rn 3 ?_
 refine .lcall (r := .int .i64 v1) [] rfl rfl rfl rfl rfl (lend2s_cons rfl (lend2s_cons (lend2_fn (lend2s_cons (lend2_ptr rfl (lends_cons rfl lends_nil)) (lend2s_cons (lend2_ptr rfl (lends_cons rfl lends_nil)) lend2s_nil))) lend2s_nil)) rfl (callP_sort_Search (a0.length : Int) 72 [.iptr 0 [.imm 1 (a0.map (D.int .i64)) 4], .iptr 0 [.int .i64 a1]] (fun _ => rfl) (fun _ => rfl) (fun _ => rfl) (fun x0 => m_sort_SearchInts_1 x0 a0 a1) (fun x0 y hy => callP_sort_SearchInts_1 x0 a0 a1 y hy) v1 hv1) ?_
 refine .rn 1 ?_
 refine .nil ⟨nofun, ?_⟩
 have hq := Option.some.inj h
 subst r
 exact .ret ⟨.inr rfl, rsi⟩
end Go.Proofs
end
section
namespace Go.Proofs
open Go.Tm
set_option linter.unusedVariables false
def m_math_bits_OnesCount64 (a0 : Int) : Option Int :=
 some (bitw .and .i64 (wr .i64 (wr .u64 ((wr .u64 ((wr .u64 ((bitw .and .u64 (wr .u64 ((shw false .u64 (wr .u64 ((bitw .and .u64 (shw false .u64 (wr .u64 ((bitw .and .u64 (shw false .u64 a0 1) 6148914691236517205) + (bitw .and .u64 a0 6148914691236517205))) 2) 3689348814741910323) + (bitw .and .u64 (wr .u64 ((bitw .and .u64 (shw false .u64 a0 1) 6148914691236517205) + (bitw .and .u64 a0 6148914691236517205))) 3689348814741910323))) 4) + (wr .u64 ((bitw .and .u64 (shw false .u64 (wr .u64 ((bitw .and .u64 (shw false .u64 a0 1) 6148914691236517205) + (bitw .and .u64 a0 6148914691236517205))) 2) 3689348814741910323) + (bitw .and .u64 (wr .u64 ((bitw .and .u64 (shw false .u64 a0 1) 6148914691236517205) + (bitw .and .u64 a0 6148914691236517205))) 3689348814741910323))))) 1085102592571150095) + (shw false .u64 (bitw .and .u64 (wr .u64 ((shw false .u64 (wr .u64 ((bitw .and .u64 (shw false .u64 (wr .u64 ((bitw .and .u64 (shw false .u64 a0 1) 6148914691236517205) + (bitw .and .u64 a0 6148914691236517205))) 2) 3689348814741910323) + (bitw .and .u64 (wr .u64 ((bitw .and .u64 (shw false .u64 a0 1) 6148914691236517205) + (bitw .and .u64 a0 6148914691236517205))) 3689348814741910323))) 4) + (wr .u64 ((bitw .and .u64 (shw false .u64 (wr .u64 ((bitw .and .u64 (shw false .u64 a0 1) 6148914691236517205) + (bitw .and .u64 a0 6148914691236517205))) 2) 3689348814741910323) + (bitw .and .u64 (wr .u64 ((bitw .and .u64 (shw false .u64 a0 1) 6148914691236517205) + (bitw .and .u64 a0 6148914691236517205))) 3689348814741910323))))) 1085102592571150095) 8))) + (shw false .u64 (wr .u64 ((bitw .and .u64 (wr .u64 ((shw false .u64 (wr .u64 ((bitw .and .u64 (shw false .u64 (wr .u64 ((bitw .and .u64 (shw false .u64 a0 1) 6148914691236517205) + (bitw .and .u64 a0 6148914691236517205))) 2) 3689348814741910323) + (bitw .and .u64 (wr .u64 ((bitw .and .u64 (shw false .u64 a0 1) 6148914691236517205) + (bitw .and .u64 a0 6148914691236517205))) 3689348814741910323))) 4) + (wr .u64 ((bitw .and .u64 (shw false .u64 (wr .u64 ((bitw .and .u64 (shw false .u64 a0 1) 6148914691236517205) + (bitw .and .u64 a0 6148914691236517205))) 2) 3689348814741910323) + (bitw .and .u64 (wr .u64 ((bitw .and .u64 (shw false .u64 a0 1) 6148914691236517205) + (bitw .and .u64 a0 6148914691236517205))) 3689348814741910323))))) 1085102592571150095) + (shw false .u64 (bitw .and .u64 (wr .u64 ((shw false .u64 (wr .u64 ((bitw .and .u64 (shw false .u64 (wr .u64 ((bitw .and .u64 (shw false .u64 a0 1) 6148914691236517205) + (bitw .and .u64 a0 6148914691236517205))) 2) 3689348814741910323) + (bitw .and .u64 (wr .u64 ((bitw .and .u64 (shw false .u64 a0 1) 6148914691236517205) + (bitw .and .u64 a0 6148914691236517205))) 3689348814741910323))) 4) + (wr .u64 ((bitw .and .u64 (shw false .u64 (wr .u64 ((bitw .and .u64 (shw false .u64 a0 1) 6148914691236517205) + (bitw .and .u64 a0 6148914691236517205))) 2) 3689348814741910323) + (bitw .and .u64 (wr .u64 ((bitw .and .u64 (shw false .u64 a0 1) 6148914691236517205) + (bitw .and .u64 a0 6148914691236517205))) 3689348814741910323))))) 1085102592571150095) 8))) 16))) + (shw false .u64 (wr .u64 ((wr .u64 ((bitw .and .u64 (wr .u64 ((shw false .u64 (wr .u64 ((bitw .and .u64 (shw false .u64 (wr .u64 ((bitw .and .u64 (shw false .u64 a0 1) 6148914691236517205) + (bitw .and .u64 a0 6148914691236517205))) 2) 3689348814741910323) + (bitw .and .u64 (wr .u64 ((bitw .and .u64 (shw false .u64 a0 1) 6148914691236517205) + (bitw .and .u64 a0 6148914691236517205))) 3689348814741910323))) 4) + (wr .u64 ((bitw .and .u64 (shw false .u64 (wr .u64 ((bitw .and .u64 (shw false .u64 a0 1) 6148914691236517205) + (bitw .and .u64 a0 6148914691236517205))) 2) 3689348814741910323) + (bitw .and .u64 (wr .u64 ((bitw .and .u64 (shw false .u64 a0 1) 6148914691236517205) + (bitw .and .u64 a0 6148914691236517205))) 3689348814741910323))))) 1085102592571150095) + (shw false .u64 (bitw .and .u64 (wr .u64 ((shw false .u64 (wr .u64 ((bitw .and .u64 (shw false .u64 (wr .u64 ((bitw .and .u64 (shw false .u64 a0 1) 6148914691236517205) + (bitw .and .u64 a0 6148914691236517205))) 2) 3689348814741910323) + (bitw .and .u64 (wr .u64 ((bitw .and .u64 (shw false .u64 a0 1) 6148914691236517205) + (bitw .and .u64 a0 6148914691236517205))) 3689348814741910323))) 4) + (wr .u64 ((bitw .and .u64 (shw false .u64 (wr .u64 ((bitw .and .u64 (shw false .u64 a0 1) 6148914691236517205) + (bitw .and .u64 a0 6148914691236517205))) 2) 3689348814741910323) + (bitw .and .u64 (wr .u64 ((bitw .and .u64 (shw false .u64 a0 1) 6148914691236517205) + (bitw .and .u64 a0 6148914691236517205))) 3689348814741910323))))) 1085102592571150095) 8))) + (shw false .u64 (wr .u64 ((bitw .and .u64 (wr .u64 ((shw false .u64 (wr .u64 ((bitw .and .u64 (shw false .u64 (wr .u64 ((bitw .and .u64 (shw false .u64 a0 1) 6148914691236517205) + (bitw .and .u64 a0 6148914691236517205))) 2) 3689348814741910323) + (bitw .and .u64 (wr .u64 ((bitw .and .u64 (shw false .u64 a0 1) 6148914691236517205) + (bitw .and .u64 a0 6148914691236517205))) 3689348814741910323))) 4) + (wr .u64 ((bitw .and .u64 (shw false .u64 (wr .u64 ((bitw .and .u64 (shw false .u64 a0 1) 6148914691236517205) + (bitw .and .u64 a0 6148914691236517205))) 2) 3689348814741910323) + (bitw .and .u64 (wr .u64 ((bitw .and .u64 (shw false .u64 a0 1) 6148914691236517205) + (bitw .and .u64 a0 6148914691236517205))) 3689348814741910323))))) 1085102592571150095) + (shw false .u64 (bitw .and .u64 (wr .u64 ((shw false .u64 (wr .u64 ((bitw .and .u64 (shw false .u64 (wr .u64 ((bitw .and .u64 (shw false .u64 a0 1) 6148914691236517205) + (bitw .and .u64 a0 6148914691236517205))) 2) 3689348814741910323) + (bitw .and .u64 (wr .u64 ((bitw .and .u64 (shw false .u64 a0 1) 6148914691236517205) + (bitw .and .u64 a0 6148914691236517205))) 3689348814741910323))) 4) + (wr .u64 ((bitw .and .u64 (shw false .u64 (wr .u64 ((bitw .and .u64 (shw false .u64 a0 1) 6148914691236517205) + (bitw .and .u64 a0 6148914691236517205))) 2) 3689348814741910323) + (bitw .and .u64 (wr .u64 ((bitw .and .u64 (shw false .u64 a0 1) 6148914691236517205) + (bitw .and .u64 a0 6148914691236517205))) 3689348814741910323))))) 1085102592571150095) 8))) 16))) 32)))) 127)
def m_math_bits_OnesCount (a0 : Int) : Option Int :=
 Option.bind (m_math_bits_OnesCount64 a0) fun v1 =>
 some v1
end Go.Proofs
end
section
namespace Go.Proofs
open Go.Tm Go.RowKit Go.WideShapes
set_option maxRecDepth 100000
set_option maxHeartbeats 4000000
set_option linter.unusedSimpArgs false
set_option linter.unusedVariables false
attribute [local go_sem] argVars runE runK isCallV stepE aop opd opdsL opds opdO ev ofVal keep List.any natbeq Bool.false_or Bool.true_or aggEq cond_true cond_false Bool.cond_false_right Bool.cond_true_left beq_true beq_false imp_self implies_true getR getL put St.app effL del nwB blt_dec Nat.lt_irrefl Nat.lt_add_one ble_dec Nat.le_refl Nat.beq_refl roomNZ appendIn capS capK mkZ_zero mkZL_zero zeroEl D.ids D.idsL bin arith sarith binT dpick Tm.part splice fillD oneD loadD storeD srcD sliceD idxOk decide_true gval dstAt D.cells List.map_cons List.map_nil List.take List.drop List.length_map List.append Int.toNat_natCast and_true true_and decide_false List.length_cons List.length_nil List.append_nil List.nil_append Bool.and_true Bool.true_and Bool.not_false Bool.not_true ne_eq not_false_eq_true BEq.rfl List.getElem?_cons_zero List.getElem?_cons_succ List.getElem?_nil Nat.zero_add List.all_cons List.all_nil List.isEmpty_cons List.isEmpty_nil Option.getD_some Option.getD_none List.any_cons List.any_nil List.drop_succ_cons List.drop_zero unfL unf okM okML low3 List.cons_append true_or or_true Nat.zero_mul Nat.zero_le findD_int findD_str  getD_int getD_str getD_bool Option.isSome_map keyD List.length_replicate List.map_replicate setEl List.length_set bytesD_map map_ub mx_len mkZ_one mkZL_one mkM mkML mk1_int mk1_str mk1_bool drop_map take_map take_map_len List.take_length Int.toNat_zero toNat_pred fpOf metIds opIds mvV mvH mvF pickL D.ren D.renL Blk.ren List.map_append List.length_append Bool.not_not Bool.or_not_self Bool.not_or_self Bool.or_true
attribute [local go_sem] Try.tm_1 Try.tm_2 Try.tm_3 Try.tm_4 Try.tm_5 Try.tm_6 Try.tm_7 Try.tm_8 Try.tm_9 Try.tm_10 Try.tm_11 Try.tm_12 Try.tm_13 Try.tm_14 Try.tm_15 Try.tm_16 Try.tm_17 Try.tm_18 Try.tm_19 Try.tm_20 Try.tm_21 Try.tm_22 Try.tm_23 Try.tm_24 Try.tm_25 Try.tm_26 Try.tm_27 Try.tm_28 Try.tm_29 Try.tm_30 Try.tm_31 Try.tm_32 Try.tm_34 Try.tm_35 Try.tm_36 Try.tm_37 Try.tm_38 Try.tm_39 Try.tm_40 Try.tm_41 Try.tm_42 Try.tm_43 Try.tm_44 Try.tm_45 Try.tm_46 Try.tm_47 Try.tm_48 Try.tm_49 Try.tm_50 Try.tm_51 Try.tm_52 Try.tm_53 Try.tm_54 Try.tm_55 Try.tm_56 Try.tm_57 Try.tm_59 Try.tm_60 Try.tm_61 Try.tm_62 Try.tm_63 Try.tm_64 Try.tm_65 Try.tm_66 Try.tm_67 Try.tm_68 Try.tm_69 Try.tm_70 Try.tm_71 Try.tm_72 Try.tm_73 Try.tm_74 Try.tm_75 Try.tm_76 Try.tm_77 Try.tm_78 Try.tm_79 Try.tm_80 Try.tm_81 Try.tm_82 Try.tm_83 Try.tm_84 Try.tm_85 Try.tm_87 Try.tm_89 Try.tm_91 Try.tm_92 Try.tm_93 Try.tm_94 Try.tm_95 Try.tm_96 Try.tm_97 Try.tm_99 Try.tm_100 Try.tm_101 Try.tm_102 Try.tm_103 Try.tm_104 Try.tm_105 Try.tm_106 Try.tm_107 Try.tm_108 Try.tm_109 Try.tm_110 Try.tm_111 Try.tm_112 Try.tm_113 Try.tm_114 Try.tm_115 Try.tm_116 Try.tm_117 Try.tm_118 Try.tm_119 Try.tm_120 Try.tm_121 Try.tm_122 Try.tm_123 Try.tm_126 Try.tm_127 Try.tm_128 Try.tm_129 Try.tm_130 Try.tm_131 Try.tm_132 Try.tm_133 Try.tm_134 TPromise.d TAttempt.d TAttempt.n mk1_TPromise mk1_TAttempt Try.f69 Try.f60
theorem callP_math_bits_OnesCount64 (a0 : Int) (r : Int) (h : m_math_bits_OnesCount64 a0 = some r) : CallP Try.prog 69 [.int .u64 a0] (.int .i64 r) := by
 refine callP_intro Try.tmOk 2 Try.func69 rfl (by decide) rfl rfl (Nat.le_of_ble_eq_true rfl) ?_
 intro hwf
 unfold m_math_bits_OnesCount64 at h
 refine .seq ?_
 refine .pl Try.S [0] ?_
 refine .seq ?_
 refine .pl Try.S [0] ?_
 refine .seq ?_
 refine .pl Try.S [0] ?_
 refine .seq ?_
 refine .pl Try.S [0] ?_
 refine .seq ?_
 refine .pl Try.S [0] ?_
 refine .seq ?_
 refine .pl Try.S [0] ?_
 refine .seq ?_
 refine .pl Try.S [0] ?_
 refine .seq ?_
 refine .pl Try.S [0] ?_
 have hq := Option.some.inj h
 subst r
 exact .ret ⟨.inr rfl, rsi⟩
theorem callP_math_bits_OnesCount (a0 : Int) (r : Int) (h : m_math_bits_OnesCount a0 = some r) : CallP Try.prog 60 [.int .u64 a0] (.int .i64 r) := by
 refine callP_intro Try.tmOk 2 Try.func60 rfl (by decide) rfl rfl (Nat.le_of_ble_eq_true rfl) ?_
 intro hwf
 unfold m_math_bits_OnesCount at h
 refine .seq ?_
 refine .pl Try.S [0] ?_
 refine .seq ?_
 refine .cond rfl rfl (fun hc => by cases hc) (fun hc => ?_)
 refine .skip ?_
 refine .seq ?_
 obtain ⟨v1, hv1, h⟩ := bind_some h
 refine .rg Try.S [0] ?_
 refine .rn 1 ?_
 refine .call (r := .int .i64 v1) rfl rfl rfl rfl rfl rfl (callP_math_bits_OnesCount64 a0 v1 hv1) ?_
 refine .rn 1 ?_
 refine .nil ⟨nofun, ?_⟩
 have hq := Option.some.inj h
 subst r
 exact .ret ⟨.inr rfl, rsi⟩
end Go.Proofs
end
section
namespace Go.Proofs
open Go.Tm
set_option linter.unusedVariables false
def m_quorum_set_loop1 : List Int → Int → Option (Int)
 | [], n2 =>
  some n2
 | y1 :: rest1, n2 =>
  Option.bind (α := Int) (if (y1 ≥ 0) ∧ (y1 < 6) then
  if 0 ≤ y1 then
  some (bitw .or .u64 n2 (shw true .u64 1 (y1)))
  else none
  else
  some n2) fun n4 =>
  m_quorum_set_loop1 rest1 n4
def m_quorum_set (a0 : List Int) : Option Int :=
 Option.bind (α := Int) (m_quorum_set_loop1 a0 0) fun n1 =>
 some n1
def m_quorum_Most (a0 : List Int) (a1 : List Int) : Option (Bool × Int) :=
 Option.bind (m_quorum_Need a0) fun v1 =>
 if ¬ (v1.2 = 0) then
 some (false, v1.2)
 else
 if (a1.length : Int) > 1000 then
 some (false, 4)
 else
 Option.bind (m_quorum_set a0) fun v2 =>
 Option.bind (m_quorum_set a1) fun v3 =>
 Option.bind (m_math_bits_OnesCount (bitw .and .u64 v2 v3)) fun v4 =>
 some ((decide (v4 ≥ v1.1)), 0)
def m_attempt_most (a0 : List Int) (a1 : List Int) : Option Bool :=
 Option.bind (m_quorum_Most a0 a1) fun v1 =>
 some v1.1
def m_attempt_Same (a0 : TAttempt) (a1 : TAttempt) : Option Bool :=
 Option.bind (if (a0.Phase = a1.Phase) ∧ (a0.Ballot = a1.Ballot) then m_slices_Equal_int_int a0.Members a1.Members else some default) fun v1 =>
 Option.bind (if ((((a0.Phase = a1.Phase) ∧ (a0.Ballot = a1.Ballot)) ∧ (v1 = true)) ∧ (a0.Wish = a1.Wish)) ∧ (a0.Value = a1.Value) then m_slices_Equal_Promise_Promise a0.Promises a1.Promises else some default) fun v2 =>
 Option.bind (if (((((a0.Phase = a1.Phase) ∧ (a0.Ballot = a1.Ballot)) ∧ (v1 = true)) ∧ (a0.Wish = a1.Wish)) ∧ (a0.Value = a1.Value)) ∧ (v2 = true) then m_slices_Equal_int_int a0.Accepted a1.Accepted else some default) fun v3 =>
 some (((((((a0.Phase == a1.Phase) && (a0.Ballot == a1.Ballot)) && v1) && (a0.Wish == a1.Wish)) && (a0.Value == a1.Value)) && v2) && v3)
end Go.Proofs
end
section
namespace Go.Proofs
open Go.Tm Go.RowKit Go.WideShapes
set_option maxRecDepth 100000
set_option maxHeartbeats 4000000
set_option linter.unusedSimpArgs false
set_option linter.unusedVariables false
attribute [local go_sem] argVars runE runK isCallV stepE aop opd opdsL opds opdO ev ofVal keep List.any natbeq Bool.false_or Bool.true_or aggEq cond_true cond_false Bool.cond_false_right Bool.cond_true_left beq_true beq_false imp_self implies_true getR getL put St.app effL del nwB blt_dec Nat.lt_irrefl Nat.lt_add_one ble_dec Nat.le_refl Nat.beq_refl roomNZ appendIn capS capK mkZ_zero mkZL_zero zeroEl D.ids D.idsL bin arith sarith binT dpick Tm.part splice fillD oneD loadD storeD srcD sliceD idxOk decide_true gval dstAt D.cells List.map_cons List.map_nil List.take List.drop List.length_map List.append Int.toNat_natCast and_true true_and decide_false List.length_cons List.length_nil List.append_nil List.nil_append Bool.and_true Bool.true_and Bool.not_false Bool.not_true ne_eq not_false_eq_true BEq.rfl List.getElem?_cons_zero List.getElem?_cons_succ List.getElem?_nil Nat.zero_add List.all_cons List.all_nil List.isEmpty_cons List.isEmpty_nil Option.getD_some Option.getD_none List.any_cons List.any_nil List.drop_succ_cons List.drop_zero unfL unf okM okML low3 List.cons_append true_or or_true Nat.zero_mul Nat.zero_le findD_int findD_str  getD_int getD_str getD_bool Option.isSome_map keyD List.length_replicate List.map_replicate setEl List.length_set bytesD_map map_ub mx_len mkZ_one mkZL_one mkM mkML mk1_int mk1_str mk1_bool drop_map take_map take_map_len List.take_length Int.toNat_zero toNat_pred fpOf metIds opIds mvV mvH mvF pickL D.ren D.renL Blk.ren List.map_append List.length_append Bool.not_not Bool.or_not_self Bool.not_or_self Bool.or_true
attribute [local go_sem] Try.tm_1 Try.tm_2 Try.tm_3 Try.tm_4 Try.tm_5 Try.tm_6 Try.tm_7 Try.tm_8 Try.tm_9 Try.tm_10 Try.tm_11 Try.tm_12 Try.tm_13 Try.tm_14 Try.tm_15 Try.tm_16 Try.tm_17 Try.tm_18 Try.tm_19 Try.tm_20 Try.tm_21 Try.tm_22 Try.tm_23 Try.tm_24 Try.tm_25 Try.tm_26 Try.tm_27 Try.tm_28 Try.tm_29 Try.tm_30 Try.tm_31 Try.tm_32 Try.tm_34 Try.tm_35 Try.tm_36 Try.tm_37 Try.tm_38 Try.tm_39 Try.tm_40 Try.tm_41 Try.tm_42 Try.tm_43 Try.tm_44 Try.tm_45 Try.tm_46 Try.tm_47 Try.tm_48 Try.tm_49 Try.tm_50 Try.tm_51 Try.tm_52 Try.tm_53 Try.tm_54 Try.tm_55 Try.tm_56 Try.tm_57 Try.tm_59 Try.tm_60 Try.tm_61 Try.tm_62 Try.tm_63 Try.tm_64 Try.tm_65 Try.tm_66 Try.tm_67 Try.tm_68 Try.tm_69 Try.tm_70 Try.tm_71 Try.tm_72 Try.tm_73 Try.tm_74 Try.tm_75 Try.tm_76 Try.tm_77 Try.tm_78 Try.tm_79 Try.tm_80 Try.tm_81 Try.tm_82 Try.tm_83 Try.tm_84 Try.tm_85 Try.tm_87 Try.tm_89 Try.tm_91 Try.tm_92 Try.tm_93 Try.tm_94 Try.tm_95 Try.tm_96 Try.tm_97 Try.tm_99 Try.tm_100 Try.tm_101 Try.tm_102 Try.tm_103 Try.tm_104 Try.tm_105 Try.tm_106 Try.tm_107 Try.tm_108 Try.tm_109 Try.tm_110 Try.tm_111 Try.tm_112 Try.tm_113 Try.tm_114 Try.tm_115 Try.tm_116 Try.tm_117 Try.tm_118 Try.tm_119 Try.tm_120 Try.tm_121 Try.tm_122 Try.tm_123 Try.tm_126 Try.tm_127 Try.tm_128 Try.tm_129 Try.tm_130 Try.tm_131 Try.tm_132 Try.tm_133 Try.tm_134 TPromise.d TAttempt.d TAttempt.n mk1_TPromise mk1_TAttempt Try.f61 Try.f53 Try.f35 Try.f29
def Try.St_quorum_set_1 (n1 : Int) : St := ⟨[(2, .int .u64 n1)], [], 0⟩
attribute [local go_sem] Try.St_quorum_set_1
def Try.St_quorum_set_3 (a0 : List Int) (n3 : Nat) (n2 : Int) : St := ⟨[(2, .int .u64 n2), (5, .imm 1 (a0.map (D.int .i64)) 4), (6, .int .i64 (a0.length : Int)), (7, .int .i64 (n3 : Int))], [], 0⟩
attribute [local go_sem] Try.St_quorum_set_3
def Try.St_quorum_set_5 (a0 : List Int) (n3 : Nat) (n4 : Int) : St := ⟨[(2, .int .u64 n4), (5, .imm 1 (a0.map (D.int .i64)) 4), (6, .int .i64 (a0.length : Int)), (7, .int .i64 (n3 : Int))], [], 0⟩
attribute [local go_sem] Try.St_quorum_set_5
theorem callP_quorum_set (a0 : List Int) (r : Int) (h : m_quorum_set a0 = some r) : CallP Try.prog 61 [.imm 1 (a0.map (D.int .i64)) 4] (.int .u64 r) := by
 refine callP_intro Try.tmOk 2 Try.func61 rfl (by decide) rfl rfl (Nat.le_of_ble_eq_true rfl) ?_
 intro hwf
 unfold m_quorum_set at h
 refine .seq ?_
 refine .pl Try.S [0] ?_
 obtain ⟨x1, hx1, h⟩ := bind_some h
 refine .seqM 0 (fun (j : Int) => Try.St_quorum_set_1 j) (fun j => x1 = j) (Nat.le_of_ble_eq_true rfl) ?_ ?_
 ·skip
  refine .seq ?_
  refine .pl Try.S [0, 2] ?_
  refine .block ?_
  refine .loopG 0 (fun (j : Nat × Int) => Try.St_quorum_set_3 a0 j.1 j.2) (fun j => j.1 ≤ a0.length ∧ m_quorum_set_loop1 (a0.drop j.1) j.2 = some x1) (fun j => a0.length - j.1) (0, 0) (Nat.le_of_ble_eq_true rfl) ?_ ⟨Nat.zero_le _, hx1⟩ ?_
  ·skip
   exact .m [2, 5, 6, 7] [] []
  rintro ⟨n3, n2⟩ ⟨hi1, hx1⟩
  simp only [Try.St_quorum_set_3]
  simp only at hi1 hx1
  refine .wf 6 (.int .i64 (a0.length : Int)) rfl ?_
  intro hln3
  replace hln3 : (a0.length : Int) ≤ 9223372036854775807 := by simp only [wf, wfL, IntKind.max, IntKind.min, IntKind.signed, IntKind.bits, List.length_map] at hln3; first | exact hln3.2 | exact hln3.1 | (simp at hln3; omega)
  refine .seq ?_
  refine .pl Try.S [2, 5, 6, 7] ?_
  refine .seq ?_
  refine .cond rfl rfl (fun hc1 => ?_) (fun hc1 => ?_)
  ·skip
   have h1 : n3 < a0.length := by simpa using hc1
   have hwn3 : wr .i64 ((n3 : Int) + 1) = ((n3 + 1 : Nat) : Int) := wr_succ h1 hln3
   have hpn3 : wr .i64 ((n3 : Int) - 1) = (n3 : Int) - 1 := wr_pred h1 hln3
   rw [List.drop_eq_getElem_cons h1, m_quorum_set_loop1] at hx1
   refine .skip ?_
   obtain ⟨x2, hx2, hx1⟩ := bind_some hx1
   refine .seqM 0 (fun (j : Int) => Try.St_quorum_set_5 a0 n3 j) (fun j => x2 = j) (Nat.le_of_ble_eq_true rfl) ?_ ?_
   ·skip
    refine .block ?_
    refine .seq ?_
    have e1 := nth_map (D.int .i64) a0 n3 h1
    refine .plx Try.S (And.intro e1 hwn3) [2, 5, 6, 7] ?_
    refine .seq ?_
    refine .plx Try.S hwn3 [2, 4, 5, 6, 7] ?_
    refine .cond rfl rfl (fun hc2 => ?_) (fun hc2 => ?_)
    ·skip
     replace hx2 := ite_lc hx2 hc2
     obtain ⟨k1, hx2⟩ := ite_ck hx2
     refine .plx Try.S hwn3 [2, 4, 5, 6, 7] ?_
     refine ⟨_, ?_, (Option.some.inj hx2).symm⟩
     exact .m [2, 5, 6, 7] [] []
    ·skip
     replace hx2 := ite_rc hx2 hc2
     refine .skip ?_
     refine ⟨_, ?_, (Option.some.inj hx2).symm⟩
     exact .m [2, 5, 6, 7] [] []
   ·skip
    rintro n4 hj1
    subst x2
    try dsimp only at hx1
    simp only [Try.St_quorum_set_5]
    refine .plx Try.S hwn3 [2, 5, 6, 7] ?_
    refine ⟨(n3 + 1, _), ?_, ⟨by omega, hx1⟩, by dsimp only; omega⟩
    exact .m [2, 5, 6, 7] [] []
  ·skip
   have h2 : n3 = a0.length := by have h2b := of_decide_eq_false hc1; omega
   rw [List.drop_of_length_le (by omega), m_quorum_set_loop1] at hx1
   refine .exit ?_
   refine ⟨_, ?_, (Option.some.inj hx1).symm⟩
   exact .m [2] [] []
 ·skip
  rintro n1 hj2
  subst x1
  try dsimp only at h
  simp only [Try.St_quorum_set_1]
  refine .seq ?_
  refine .pl Try.S [2] ?_
  have hq := Option.some.inj h
  subst r
  exact .ret ⟨.inr rfl, rsi⟩
theorem callP_quorum_Most (a0 : List Int) (a1 : List Int) (r : Bool × Int) (h : m_quorum_Most a0 a1 = some r) : CallP Try.prog 53 [.imm 1 (a0.map (D.int .i64)) 4, .imm 1 (a1.map (D.int .i64)) 4] (.tuple [.bool r.1, .int .i64 r.2]) := by
 refine callP_intro Try.tmOk 2 Try.func53 rfl (by decide) rfl rfl (Nat.le_of_ble_eq_true rfl) ?_
 intro hwf
 unfold m_quorum_Most at h
 refine .seq ?_
 refine .pl Try.S [0, 1] ?_
 refine .seq ?_
 obtain ⟨v1, hv1, h⟩ := bind_some h
 refine .rg Try.S [0, 1] ?_
 refine .rn 1 ?_
 refine .call (r := .tuple [.int .i64 v1.1, .int .i64 v1.2]) rfl rfl rfl rfl rfl rfl (callP_quorum_Need a0 v1 hv1) ?_
 refine .rn 5 ?_
 refine .nil ⟨nofun, ?_⟩
 refine .seq ?_
 refine .seq ?_
 refine .pl Try.S [0, 1, 6, 7] ?_
 refine .cond rfl rfl (fun hc1 => ?_) (fun hc1 => ?_)
 ·skip
  replace h := ite_lc h hc1
  refine .seq ?_
  refine .pl Try.S [7] ?_
  have hq := Option.some.inj h
  subst r
  exact .ret ⟨.inr rfl, rsi⟩
 ·skip
  replace h := ite_rc h hc1
  refine .skip ?_
  refine .seq ?_
  refine .seq ?_
  refine .pl Try.S [0, 1, 6] ?_
  refine .cond rfl rfl (fun hc2 => ?_) (fun hc2 => ?_)
  ·skip
   replace h := ite_lc h hc2
   refine .seq ?_
   refine .pl Try.S [] ?_
   have hq := Option.some.inj h
   subst r
   exact .ret ⟨.inr rfl, rsi⟩
  ·skip
   replace h := ite_rc h hc2
   refine .skip ?_
   refine .seq ?_
   obtain ⟨v2, hv2, h⟩ := bind_some h
   obtain ⟨v3, hv3, h⟩ := bind_some h
   obtain ⟨v4, hv4, h⟩ := bind_some h
   refine .rg Try.S [0, 1, 6] ?_
   refine .rn 1 ?_
   refine .call (r := .int .u64 v2) rfl rfl rfl rfl rfl rfl (callP_quorum_set a0 v2 hv2) ?_
   refine .rn 1 ?_
   refine .call (r := .int .u64 v3) rfl rfl rfl rfl rfl rfl (callP_quorum_set a1 v3 hv3) ?_
   refine .rn 1 ?_
   refine .call (r := .int .i64 v4) rfl rfl rfl rfl rfl rfl (callP_math_bits_OnesCount (bitw .and .u64 v2 v3) v4 hv4) ?_
   refine .rn 4 ?_
   refine .nil ⟨nofun, ?_⟩
   have hq := Option.some.inj h
   subst r
   exact .ret ⟨.inr rfl, rsi⟩
theorem callP_attempt_most (a0 : List Int) (a1 : List Int) (r : Bool) (h : m_attempt_most a0 a1 = some r) : CallP Try.prog 35 [.imm 1 (a0.map (D.int .i64)) 4, .imm 1 (a1.map (D.int .i64)) 4] (.bool r) := by
 refine callP_intro Try.tmOk 2 Try.func35 rfl (by decide) rfl rfl (Nat.le_of_ble_eq_true rfl) ?_
 intro hwf
 unfold m_attempt_most at h
 refine .seq ?_
 refine .pl Try.S [0, 1] ?_
 refine .seq ?_
 obtain ⟨v1, hv1, h⟩ := bind_some h
 refine .rg Try.S [0, 1] ?_
 refine .rn 2 ?_
 refine .call (r := .tuple [.bool v1.1, .int .i64 v1.2]) rfl rfl rfl rfl rfl rfl (callP_quorum_Most a0 a1 v1 hv1) ?_
 refine .rn 5 ?_
 refine .nil ⟨nofun, ?_⟩
 refine .seq ?_
 refine .pl Try.S [5] ?_
 have hq := Option.some.inj h
 subst r
 exact .ret ⟨.inr rfl, rsi⟩
theorem callP_attempt_Same (a0 : TAttempt) (a1 : TAttempt) (r : Bool) (h : m_attempt_Same a0 a1 = some r) : CallP Try.prog 29 [.agg [.int .u8 a0.Phase, .int .i64 a0.Ballot, .imm 1 (a0.Members.map (D.int .i64)) 4, .str a0.Wish, .str a0.Value, .imm 3 (a0.Promises.map TPromise.d) 4, .imm 1 (a0.Accepted.map (D.int .i64)) 4], .agg [.int .u8 a1.Phase, .int .i64 a1.Ballot, .imm 1 (a1.Members.map (D.int .i64)) 4, .str a1.Wish, .str a1.Value, .imm 3 (a1.Promises.map TPromise.d) 4, .imm 1 (a1.Accepted.map (D.int .i64)) 4]] (.bool r) := by
 refine callP_intro Try.tmOk 4 Try.func29 rfl (by decide) rfl rfl (Nat.le_of_ble_eq_true rfl) ?_
 intro hwf
 unfold m_attempt_Same at h
 refine .seq ?_
 refine .pl Try.S [0, 1] ?_
 refine .seq ?_
 obtain ⟨v1, hv1, h⟩ := bind_some h
 obtain ⟨v2, hv2, h⟩ := bind_some h
 obtain ⟨v3, hv3, h⟩ := bind_some h
 refine .rg Try.S [2, 3] ?_
 refine .rn 6 ?_
 refine .rn 6 ?_
 refine .rn 5 ?_
 refine .gcall (r := .bool v1) rfl rfl rfl rfl rfl (fun hg => ⟨[], [.imm 1 (a0.Members.map (D.int .i64)) 4, .imm 1 (a1.Members.map (D.int .i64)) 4], _, rfl, gd hg, rfl, (callP_slices_Equal_int_int a0.Members a1.Members v1 (ite_lc hv1 hg))⟩) ?_
 refine .rn 6 ?_
 refine .rn 6 ?_
 refine .rn 8 ?_
 refine .gcall (r := .bool v2) rfl rfl rfl rfl rfl (fun hg => ⟨[], [.imm 3 (a0.Promises.map TPromise.d) 4, .imm 3 (a1.Promises.map TPromise.d) 4], _, rfl, gd hg, rfl, (callP_slices_Equal_Promise_Promise a0.Promises a1.Promises v2 (ite_lc hv2 hg))⟩) ?_
 refine .rn 6 ?_
 refine .gcall (r := .bool v3) rfl rfl rfl rfl rfl (fun hg => ⟨[], [.imm 1 (a0.Accepted.map (D.int .i64)) 4, .imm 1 (a1.Accepted.map (D.int .i64)) 4], _, rfl, gd hg, rfl, (callP_slices_Equal_int_int a0.Accepted a1.Accepted v3 (ite_lc hv3 hg))⟩) ?_
 refine .rn 2 ?_
 refine .nil ⟨nofun, ?_⟩
 have hq := Option.some.inj h
 subst r
 exact .ret ⟨.inr rfl, rsi⟩
end Go.Proofs
end
section
namespace Go.Proofs
open Go.Tm
set_option linter.unusedVariables false
def m_attempt_Check_1 (a0 : TPromise) (c0 : TAttempt) : Option Bool :=
 Option.bind (m_attempt_may a0 c0.Ballot) fun v1 =>
 some (!v1)
def m_attempt_Check (a0 : TAttempt) : Option Int :=
 Option.bind (α := Bool) (Option.bind (α := Bool ⊕ (Bool ⊕ Bool)) (if a0.Phase = 0 then
 Option.bind (m_attempt_Same a0 (⟨0, 0, [], [], [], [], []⟩ : TAttempt)) fun v1 =>
 some (.inl v1)
 else
 if a0.Phase = 1 then
 some (.inr (.inr ((a0.Value == []) && ((a0.Accepted.length : Int) == 0))))
 else
 Option.bind (α := Bool) (if a0.Phase = 2 then
 some (a0.Phase == 2)
 else
 some (a0.Phase == 3)) fun b5 =>
 if b5 = true then
 some (.inr (.inr true))
 else
 some (.inr (.inl b5))) fun z => match z with
 | (.inl b3) => some b3
 | (.inr (.inl b4)) => some false
 | (.inr (.inr b2)) =>
 Option.bind (if b2 = true then m_ballot_Check a0.Ballot else some default) fun v2 =>
 Option.bind (if (b2 = true) ∧ (v2 = 0) then m_quorum_Check a0.Members else some default) fun v3 =>
 Option.bind (if (((b2 = true) ∧ (v2 = 0)) ∧ (v3 = 0)) ∧ ((a0.Wish.length : Int) ≤ 1024) then m_attempt_nodes a0.Promises else some default) fun v4 =>
 Option.bind (if (((b2 = true) ∧ (v2 = 0)) ∧ (v3 = 0)) ∧ ((a0.Wish.length : Int) ≤ 1024) then m_attempt_rising v4 a0.Members else some default) fun v5 =>
 Option.bind (if ((((b2 = true) ∧ (v2 = 0)) ∧ (v3 = 0)) ∧ ((a0.Wish.length : Int) ≤ 1024)) ∧ (v5 = true) then m_attempt_rising a0.Accepted a0.Members else some default) fun v6 =>
 Option.bind (if (((((b2 = true) ∧ (v2 = 0)) ∧ (v3 = 0)) ∧ ((a0.Wish.length : Int) ≤ 1024)) ∧ (v5 = true)) ∧ (v6 = true) then m_slices_ContainsFunc_Promise_Promise a0.Promises (fun x0 => m_attempt_Check_1 x0 a0) else some default) fun v7 =>
 Option.bind (if ((((((b2 = true) ∧ (v2 = 0)) ∧ (v3 = 0)) ∧ ((a0.Wish.length : Int) ≤ 1024)) ∧ (v5 = true)) ∧ (v6 = true)) ∧ (¬ (v7 = true)) then m_attempt_nodes a0.Promises else some default) fun v8 =>
 Option.bind (if ((((((b2 = true) ∧ (v2 = 0)) ∧ (v3 = 0)) ∧ ((a0.Wish.length : Int) ≤ 1024)) ∧ (v5 = true)) ∧ (v6 = true)) ∧ (¬ (v7 = true)) then m_attempt_most a0.Members v8 else some default) fun v9 =>
 Option.bind (if (((((((b2 = true) ∧ (v2 = 0)) ∧ (v3 = 0)) ∧ ((a0.Wish.length : Int) ≤ 1024)) ∧ (v5 = true)) ∧ (v6 = true)) ∧ (¬ (v7 = true))) ∧ ((v9 == (decide (a0.Phase > 1))) = true) then m_attempt_most a0.Members a0.Accepted else some default) fun v10 =>
 Option.bind (if (((((((((b2 = true) ∧ (v2 = 0)) ∧ (v3 = 0)) ∧ ((a0.Wish.length : Int) ≤ 1024)) ∧ (v5 = true)) ∧ (v6 = true)) ∧ (¬ (v7 = true))) ∧ ((v9 == (decide (a0.Phase > 1))) = true)) ∧ ((v10 == (a0.Phase == 3)) = true)) ∧ (¬ (a0.Phase = 1)) then m_attempt_Best a0.Promises a0.Wish else some default) fun v11 =>
 some (((((((((b2 && (v2 == 0)) && (v3 == 0)) && (decide ((a0.Wish.length : Int) ≤ 1024))) && v5) && v6) && (!v7)) && (v9 == (decide (a0.Phase > 1)))) && (v10 == (a0.Phase == 3))) && ((a0.Phase == 1) || (a0.Value == v11)))) fun b1 =>
 if ¬ (b1 = true) then
 some 8
 else
 some 0
end Go.Proofs
end
