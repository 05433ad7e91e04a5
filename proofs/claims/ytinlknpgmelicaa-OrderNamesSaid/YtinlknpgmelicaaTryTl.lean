/- The types one by one; by program (gentabm.py). -/
import Derived.Test.YtinlknpgmelicaaTryTab
namespace Go.Proofs
open Go.Tm

theorem Try.tm_1 : Try.tm 1 = { kind := 1, size := 1, offs := [], zero := [.nilfn], el := 0, esz := 0, eby := 0, eagg := false, ik := none, eqs := false, ezero := [] } := rfl
theorem Try.tm_2 : Try.tm 2 = { kind := 6, size := 1, offs := [], zero := [.int .i64 0], el := 0, esz := 0, eby := 0, eagg := false, ik := some .i64, eqs := false, ezero := [] } := rfl
theorem Try.tm_3 : Try.tm 3 = { kind := 6, size := 1, offs := [], zero := [.int .i64 0], el := 0, esz := 0, eby := 0, eagg := false, ik := some .i64, eqs := false, ezero := [] } := rfl
theorem Try.tm_4 : Try.tm 4 = { kind := 8, size := 1, offs := [], zero := [.bool false], el := 0, esz := 0, eby := 0, eagg := false, ik := none, eqs := false, ezero := [] } := rfl
theorem Try.tm_5 : Try.tm 5 = { kind := 6, size := 1, offs := [], zero := [.int .u8 0], el := 0, esz := 0, eby := 0, eagg := false, ik := some .u8, eqs := false, ezero := [] } := rfl
theorem Try.tm_6 : Try.tm 6 = { kind := 6, size := 1, offs := [], zero := [.int .u8 0], el := 0, esz := 0, eby := 0, eagg := false, ik := some .u8, eqs := false, ezero := [] } := rfl
theorem Try.tm_7 : Try.tm 7 = { kind := 2, size := 4, offs := [(0, 1, false), (1, 1, false), (2, 1, false), (3, 1, false)], zero := [.int .i64 0, .int .i64 0, .bool false, .int .u8 0], el := 0, esz := 0, eby := 0, eagg := false, ik := none, eqs := false, ezero := [] } := rfl
theorem Try.tm_8 : Try.tm 8 = { kind := 2, size := 4, offs := [(0, 1, false), (1, 1, false), (2, 1, false), (3, 1, false)], zero := [.int .i64 0, .int .i64 0, .bool false, .int .u8 0], el := 0, esz := 0, eby := 0, eagg := false, ik := none, eqs := false, ezero := [] } := rfl
theorem Try.tm_9 : Try.tm 9 = { kind := 5, size := 1, offs := [], zero := [.str []], el := 0, esz := 0, eby := 0, eagg := false, ik := none, eqs := false, ezero := [] } := rfl
theorem Try.tm_10 : Try.tm 10 = { kind := 5, size := 1, offs := [], zero := [.str []], el := 0, esz := 0, eby := 0, eagg := false, ik := none, eqs := false, ezero := [] } := rfl
theorem Try.tm_11 : Try.tm 11 = { kind := 5, size := 1, offs := [], zero := [.str []], el := 0, esz := 0, eby := 0, eagg := false, ik := none, eqs := false, ezero := [] } := rfl
theorem Try.tm_12 : Try.tm 12 = { kind := 6, size := 1, offs := [], zero := [.int .u64 0], el := 0, esz := 0, eby := 0, eagg := false, ik := some .u64, eqs := false, ezero := [] } := rfl
theorem Try.tm_13 : Try.tm 13 = { kind := 2, size := 2, offs := [(0, 1, false), (1, 1, false)], zero := [.str [], .int .u64 0], el := 0, esz := 0, eby := 0, eagg := false, ik := none, eqs := false, ezero := [] } := rfl
theorem Try.tm_14 : Try.tm 14 = { kind := 2, size := 2, offs := [(0, 1, false), (1, 1, false)], zero := [.str [], .int .u64 0], el := 0, esz := 0, eby := 0, eagg := false, ik := none, eqs := false, ezero := [] } := rfl
theorem Try.tm_15 : Try.tm 15 = { kind := 1, size := 1, offs := [], zero := [.nilptr], el := 0, esz := 0, eby := 0, eagg := false, ik := none, eqs := false, ezero := [] } := rfl
theorem Try.tm_16 : Try.tm 16 = { kind := 1, size := 1, offs := [], zero := [.nilptr], el := 0, esz := 0, eby := 0, eagg := false, ik := none, eqs := false, ezero := [] } := rfl
theorem Try.tm_17 : Try.tm 17 = { kind := 1, size := 1, offs := [], zero := [.nilptr], el := 0, esz := 0, eby := 0, eagg := false, ik := none, eqs := false, ezero := [] } := rfl
theorem Try.tm_18 : Try.tm 18 = { kind := 2, size := 1, offs := [(0, 1, false)], zero := [.nilptr], el := 0, esz := 0, eby := 0, eagg := false, ik := none, eqs := false, ezero := [] } := rfl
theorem Try.tm_19 : Try.tm 19 = { kind := 2, size := 1, offs := [(0, 1, false)], zero := [.nilptr], el := 0, esz := 0, eby := 0, eagg := false, ik := none, eqs := false, ezero := [] } := rfl
theorem Try.tm_20 : Try.tm 20 = { kind := 7, size := 1, offs := [], zero := [.nilIface], el := 0, esz := 0, eby := 0, eagg := false, ik := none, eqs := false, ezero := [] } := rfl
theorem Try.tm_21 : Try.tm 21 = { kind := 6, size := 1, offs := [], zero := [.int .i32 0], el := 0, esz := 0, eby := 0, eagg := false, ik := some .i32, eqs := false, ezero := [] } := rfl
theorem Try.tm_22 : Try.tm 22 = { kind := 3, size := 1, offs := [], zero := [.imm 0 [] 0], el := 83, esz := 7, eby := 88, eagg := true, ik := none, eqs := false, ezero := [.int .i64 0, .imm 0 [] 0, .int .i64 0, .str [], .str [], .int .i64 0, .bool false] } := rfl
theorem Try.tm_23 : Try.tm 23 = { kind := 3, size := 1, offs := [], zero := [.imm 0 [] 0], el := 72, esz := 2, eby := 16, eagg := true, ik := none, eqs := false, ezero := [.int .i64 0, .int .i64 0] } := rfl
theorem Try.tm_24 : Try.tm 24 = { kind := 2, size := 3, offs := [(0, 1, false), (1, 1, false), (2, 1, false)], zero := [.int .i64 0, .imm 0 [] 0, .imm 0 [] 0], el := 0, esz := 0, eby := 0, eagg := false, ik := none, eqs := false, ezero := [] } := rfl
theorem Try.tm_25 : Try.tm 25 = { kind := 2, size := 3, offs := [(0, 1, false), (1, 1, false), (2, 1, false)], zero := [.int .i64 0, .imm 0 [] 0, .imm 0 [] 0], el := 0, esz := 0, eby := 0, eagg := false, ik := none, eqs := false, ezero := [] } := rfl
theorem Try.tm_26 : Try.tm 26 = { kind := 3, size := 1, offs := [], zero := [.imm 0 [] 0], el := 31, esz := 5, eby := 72, eagg := true, ik := none, eqs := false, ezero := [.int .i64 0, .imm 0 [] 0, .int .i64 0, .str [], .str []] } := rfl
theorem Try.tm_28 : Try.tm 28 = { kind := 1, size := 1, offs := [], zero := [.nilfn], el := 0, esz := 0, eby := 0, eagg := false, ik := none, eqs := false, ezero := [] } := rfl
theorem Try.tm_29 : Try.tm 29 = { kind := 3, size := 1, offs := [], zero := [.imm 0 [] 0], el := 3, esz := 1, eby := 8, eagg := false, ik := none, eqs := false, ezero := [.int .i64 0] } := rfl
theorem Try.tm_30 : Try.tm 30 = { kind := 2, size := 5, offs := [(0, 1, false), (1, 1, false), (2, 1, false), (3, 1, false), (4, 1, false)], zero := [.int .i64 0, .imm 0 [] 0, .int .i64 0, .str [], .str []], el := 0, esz := 0, eby := 0, eagg := false, ik := none, eqs := false, ezero := [] } := rfl
theorem Try.tm_31 : Try.tm 31 = { kind := 2, size := 5, offs := [(0, 1, false), (1, 1, false), (2, 1, false), (3, 1, false), (4, 1, false)], zero := [.int .i64 0, .imm 0 [] 0, .int .i64 0, .str [], .str []], el := 0, esz := 0, eby := 0, eagg := false, ik := none, eqs := false, ezero := [] } := rfl
theorem Try.tm_32 : Try.tm 32 = { kind := 2, size := 12, offs := [(0, 1, false), (1, 5, true), (6, 1, false), (7, 1, false), (8, 1, false), (9, 1, false), (10, 1, false), (11, 1, false)], zero := [.int .u8 0, .int .i64 0, .imm 0 [] 0, .int .i64 0, .str [], .str [], .int .i64 0, .int .i64 0, .imm 0 [] 0, .int .i64 0, .int .i64 0, .int .i64 0], el := 0, esz := 0, eby := 0, eagg := false, ik := none, eqs := false, ezero := [] } := rfl
theorem Try.tm_33 : Try.tm 33 = { kind := 2, size := 12, offs := [(0, 1, false), (1, 5, true), (6, 1, false), (7, 1, false), (8, 1, false), (9, 1, false), (10, 1, false), (11, 1, false)], zero := [.int .u8 0, .int .i64 0, .imm 0 [] 0, .int .i64 0, .str [], .str [], .int .i64 0, .int .i64 0, .imm 0 [] 0, .int .i64 0, .int .i64 0, .int .i64 0], el := 0, esz := 0, eby := 0, eagg := false, ik := none, eqs := false, ezero := [] } := rfl
theorem Try.tm_34 : Try.tm 34 = { kind := 1, size := 1, offs := [], zero := [.nilfn], el := 0, esz := 0, eby := 0, eagg := false, ik := none, eqs := false, ezero := [] } := rfl
theorem Try.tm_35 : Try.tm 35 = { kind := 1, size := 1, offs := [], zero := [.nilfn], el := 0, esz := 0, eby := 0, eagg := false, ik := none, eqs := false, ezero := [] } := rfl
theorem Try.tm_36 : Try.tm 36 = { kind := 6, size := 1, offs := [], zero := [.int .i64 0], el := 0, esz := 0, eby := 0, eagg := false, ik := some .i64, eqs := false, ezero := [] } := rfl
theorem Try.tm_38 : Try.tm 38 = { kind := 1, size := 1, offs := [], zero := [.nilfn], el := 0, esz := 0, eby := 0, eagg := false, ik := none, eqs := false, ezero := [] } := rfl
theorem Try.tm_40 : Try.tm 40 = { kind := 1, size := 1, offs := [], zero := [.nilfn], el := 0, esz := 0, eby := 0, eagg := false, ik := none, eqs := false, ezero := [] } := rfl
theorem Try.tm_41 : Try.tm 41 = { kind := 1, size := 1, offs := [], zero := [.nilfn], el := 0, esz := 0, eby := 0, eagg := false, ik := none, eqs := false, ezero := [] } := rfl
theorem Try.tm_42 : Try.tm 42 = { kind := 1, size := 1, offs := [], zero := [.nilfn], el := 0, esz := 0, eby := 0, eagg := false, ik := none, eqs := false, ezero := [] } := rfl
theorem Try.tm_43 : Try.tm 43 = { kind := 3, size := 1, offs := [], zero := [.imm 0 [] 0], el := 53, esz := 1, eby := 24, eagg := false, ik := none, eqs := false, ezero := [.imm 0 [] 0] } := rfl
theorem Try.tm_44 : Try.tm 44 = { kind := 3, size := 1, offs := [], zero := [.imm 0 [] 0], el := 104, esz := 5, eby := 48, eagg := true, ik := none, eqs := false, ezero := [.int .i64 0, .int .i64 0, .int .i64 0, .int .i64 0, .str []] } := rfl
theorem Try.tm_45 : Try.tm 45 = { kind := 2, size := 2, offs := [(0, 1, false), (1, 1, false)], zero := [.imm 0 [] 0, .imm 0 [] 0], el := 0, esz := 0, eby := 0, eagg := false, ik := none, eqs := false, ezero := [] } := rfl
theorem Try.tm_46 : Try.tm 46 = { kind := 2, size := 2, offs := [(0, 1, false), (1, 1, false)], zero := [.imm 0 [] 0, .imm 0 [] 0], el := 0, esz := 0, eby := 0, eagg := false, ik := none, eqs := false, ezero := [] } := rfl
theorem Try.tm_48 : Try.tm 48 = { kind := 1, size := 1, offs := [], zero := [.nilfn], el := 0, esz := 0, eby := 0, eagg := false, ik := none, eqs := false, ezero := [] } := rfl
theorem Try.tm_49 : Try.tm 49 = { kind := 2, size := 5, offs := [(0, 1, false), (1, 1, false), (2, 1, false), (3, 1, false), (4, 1, false)], zero := [.int .u8 0, .int .i64 0, .int .i64 0, .int .i64 0, .str []], el := 0, esz := 0, eby := 0, eagg := false, ik := none, eqs := false, ezero := [] } := rfl
theorem Try.tm_50 : Try.tm 50 = { kind := 2, size := 5, offs := [(0, 1, false), (1, 1, false), (2, 1, false), (3, 1, false), (4, 1, false)], zero := [.int .u8 0, .int .i64 0, .int .i64 0, .int .i64 0, .str []], el := 0, esz := 0, eby := 0, eagg := false, ik := none, eqs := true, ezero := [] } := rfl
theorem Try.tm_51 : Try.tm 51 = { kind := 1, size := 1, offs := [], zero := [.nilfn], el := 0, esz := 0, eby := 0, eagg := false, ik := none, eqs := false, ezero := [] } := rfl
theorem Try.tm_52 : Try.tm 52 = { kind := 1, size := 1, offs := [], zero := [.nilfn], el := 0, esz := 0, eby := 0, eagg := false, ik := none, eqs := false, ezero := [] } := rfl
theorem Try.tm_53 : Try.tm 53 = { kind := 3, size := 1, offs := [], zero := [.imm 0 [] 0], el := 9, esz := 1, eby := 16, eagg := false, ik := none, eqs := false, ezero := [.str []] } := rfl
theorem Try.tm_55 : Try.tm 55 = { kind := 1, size := 1, offs := [], zero := [.nilfn], el := 0, esz := 0, eby := 0, eagg := false, ik := none, eqs := false, ezero := [] } := rfl
theorem Try.tm_56 : Try.tm 56 = { kind := 1, size := 1, offs := [], zero := [.nilfn], el := 0, esz := 0, eby := 0, eagg := false, ik := none, eqs := false, ezero := [] } := rfl
theorem Try.tm_58 : Try.tm 58 = { kind := 1, size := 1, offs := [], zero := [.nilfn], el := 0, esz := 0, eby := 0, eagg := false, ik := none, eqs := false, ezero := [] } := rfl
theorem Try.tm_59 : Try.tm 59 = { kind := 1, size := 1, offs := [], zero := [.nilfn], el := 0, esz := 0, eby := 0, eagg := false, ik := none, eqs := false, ezero := [] } := rfl
theorem Try.tm_60 : Try.tm 60 = { kind := 1, size := 1, offs := [], zero := [.nilfn], el := 0, esz := 0, eby := 0, eagg := false, ik := none, eqs := false, ezero := [] } := rfl
theorem Try.tm_61 : Try.tm 61 = { kind := 1, size := 1, offs := [], zero := [.nilfn], el := 0, esz := 0, eby := 0, eagg := false, ik := none, eqs := false, ezero := [] } := rfl
theorem Try.tm_63 : Try.tm 63 = { kind := 1, size := 1, offs := [], zero := [.nilfn], el := 0, esz := 0, eby := 0, eagg := false, ik := none, eqs := false, ezero := [] } := rfl
theorem Try.tm_64 : Try.tm 64 = { kind := 1, size := 1, offs := [], zero := [.nilfn], el := 0, esz := 0, eby := 0, eagg := false, ik := none, eqs := false, ezero := [] } := rfl
theorem Try.tm_65 : Try.tm 65 = { kind := 1, size := 1, offs := [], zero := [.nilfn], el := 0, esz := 0, eby := 0, eagg := false, ik := none, eqs := false, ezero := [] } := rfl
theorem Try.tm_66 : Try.tm 66 = { kind := 1, size := 1, offs := [], zero := [.nilfn], el := 0, esz := 0, eby := 0, eagg := false, ik := none, eqs := false, ezero := [] } := rfl
theorem Try.tm_68 : Try.tm 68 = { kind := 1, size := 1, offs := [], zero := [.nilfn], el := 0, esz := 0, eby := 0, eagg := false, ik := none, eqs := false, ezero := [] } := rfl
theorem Try.tm_69 : Try.tm 69 = { kind := 1, size := 1, offs := [], zero := [.nilfn], el := 0, esz := 0, eby := 0, eagg := false, ik := none, eqs := false, ezero := [] } := rfl
theorem Try.tm_70 : Try.tm 70 = { kind := 1, size := 1, offs := [], zero := [.nilfn], el := 0, esz := 0, eby := 0, eagg := false, ik := none, eqs := false, ezero := [] } := rfl
theorem Try.tm_71 : Try.tm 71 = { kind := 2, size := 2, offs := [(0, 1, false), (1, 1, false)], zero := [.int .i64 0, .int .i64 0], el := 0, esz := 0, eby := 0, eagg := false, ik := none, eqs := false, ezero := [] } := rfl
theorem Try.tm_72 : Try.tm 72 = { kind := 2, size := 2, offs := [(0, 1, false), (1, 1, false)], zero := [.int .i64 0, .int .i64 0], el := 0, esz := 0, eby := 0, eagg := false, ik := none, eqs := true, ezero := [] } := rfl
theorem Try.tm_73 : Try.tm 73 = { kind := 1, size := 1, offs := [], zero := [.nilfn], el := 0, esz := 0, eby := 0, eagg := false, ik := none, eqs := false, ezero := [] } := rfl
theorem Try.tm_74 : Try.tm 74 = { kind := 3, size := 1, offs := [], zero := [.imm 0 [] 0], el := 33, esz := 12, eby := 144, eagg := true, ik := none, eqs := false, ezero := [.int .u8 0, .int .i64 0, .imm 0 [] 0, .int .i64 0, .str [], .str [], .int .i64 0, .int .i64 0, .imm 0 [] 0, .int .i64 0, .int .i64 0, .int .i64 0] } := rfl
theorem Try.tm_75 : Try.tm 75 = { kind := 1, size := 1, offs := [], zero := [.nilfn], el := 0, esz := 0, eby := 0, eagg := false, ik := none, eqs := false, ezero := [] } := rfl
theorem Try.tm_76 : Try.tm 76 = { kind := 1, size := 1, offs := [], zero := [.nilfn], el := 0, esz := 0, eby := 0, eagg := false, ik := none, eqs := false, ezero := [] } := rfl
theorem Try.tm_78 : Try.tm 78 = { kind := 1, size := 1, offs := [], zero := [.nilptr], el := 0, esz := 0, eby := 0, eagg := false, ik := none, eqs := false, ezero := [] } := rfl
theorem Try.tm_79 : Try.tm 79 = { kind := 2, size := 3, offs := [(0, 3, true)], zero := [.int .i64 0, .imm 0 [] 0, .imm 0 [] 0], el := 0, esz := 0, eby := 0, eagg := false, ik := none, eqs := false, ezero := [] } := rfl
theorem Try.tm_80 : Try.tm 80 = { kind := 2, size := 3, offs := [(0, 3, true)], zero := [.int .i64 0, .imm 0 [] 0, .imm 0 [] 0], el := 0, esz := 0, eby := 0, eagg := false, ik := none, eqs := false, ezero := [] } := rfl
theorem Try.tm_81 : Try.tm 81 = { kind := 1, size := 1, offs := [], zero := [.nilfn], el := 0, esz := 0, eby := 0, eagg := false, ik := none, eqs := false, ezero := [] } := rfl
theorem Try.tm_82 : Try.tm 82 = { kind := 2, size := 7, offs := [(0, 5, true), (5, 1, false), (6, 1, false)], zero := [.int .i64 0, .imm 0 [] 0, .int .i64 0, .str [], .str [], .int .i64 0, .bool false], el := 0, esz := 0, eby := 0, eagg := false, ik := none, eqs := false, ezero := [] } := rfl
theorem Try.tm_83 : Try.tm 83 = { kind := 2, size := 7, offs := [(0, 5, true), (5, 1, false), (6, 1, false)], zero := [.int .i64 0, .imm 0 [] 0, .int .i64 0, .str [], .str [], .int .i64 0, .bool false], el := 0, esz := 0, eby := 0, eagg := false, ik := none, eqs := false, ezero := [] } := rfl
theorem Try.tm_84 : Try.tm 84 = { kind := 1, size := 1, offs := [], zero := [.nilfn], el := 0, esz := 0, eby := 0, eagg := false, ik := none, eqs := false, ezero := [] } := rfl
theorem Try.tm_85 : Try.tm 85 = { kind := 1, size := 1, offs := [], zero := [.nilfn], el := 0, esz := 0, eby := 0, eagg := false, ik := none, eqs := false, ezero := [] } := rfl
theorem Try.tm_86 : Try.tm 86 = { kind := 1, size := 1, offs := [], zero := [.nilfn], el := 0, esz := 0, eby := 0, eagg := false, ik := none, eqs := false, ezero := [] } := rfl
theorem Try.tm_87 : Try.tm 87 = { kind := 1, size := 1, offs := [], zero := [.nilfn], el := 0, esz := 0, eby := 0, eagg := false, ik := none, eqs := false, ezero := [] } := rfl
theorem Try.tm_88 : Try.tm 88 = { kind := 1, size := 1, offs := [], zero := [.nilfn], el := 0, esz := 0, eby := 0, eagg := false, ik := none, eqs := false, ezero := [] } := rfl
theorem Try.tm_89 : Try.tm 89 = { kind := 9, size := 1, offs := [], zero := [.nilmap], el := 3, esz := 1, eby := 0, eagg := false, ik := none, eqs := false, ezero := [.int .i64 0] } := rfl
theorem Try.tm_90 : Try.tm 90 = { kind := 1, size := 1, offs := [], zero := [.nilfn], el := 0, esz := 0, eby := 0, eagg := false, ik := none, eqs := false, ezero := [] } := rfl
theorem Try.tm_91 : Try.tm 91 = { kind := 1, size := 1, offs := [], zero := [.nilfn], el := 0, esz := 0, eby := 0, eagg := false, ik := none, eqs := false, ezero := [] } := rfl
theorem Try.tm_92 : Try.tm 92 = { kind := 1, size := 1, offs := [], zero := [.nilfn], el := 0, esz := 0, eby := 0, eagg := false, ik := none, eqs := false, ezero := [] } := rfl
theorem Try.tm_93 : Try.tm 93 = { kind := 1, size := 1, offs := [], zero := [.nilfn], el := 0, esz := 0, eby := 0, eagg := false, ik := none, eqs := false, ezero := [] } := rfl
theorem Try.tm_94 : Try.tm 94 = { kind := 1, size := 1, offs := [], zero := [.nilfn], el := 0, esz := 0, eby := 0, eagg := false, ik := none, eqs := false, ezero := [] } := rfl
theorem Try.tm_95 : Try.tm 95 = { kind := 1, size := 1, offs := [], zero := [.nilfn], el := 0, esz := 0, eby := 0, eagg := false, ik := none, eqs := false, ezero := [] } := rfl
theorem Try.tm_96 : Try.tm 96 = { kind := 3, size := 1, offs := [], zero := [.imm 0 [] 0], el := 50, esz := 5, eby := 48, eagg := true, ik := none, eqs := false, ezero := [.int .u8 0, .int .i64 0, .int .i64 0, .int .i64 0, .str []] } := rfl
theorem Try.tm_97 : Try.tm 97 = { kind := 1, size := 1, offs := [], zero := [.nilfn], el := 0, esz := 0, eby := 0, eagg := false, ik := none, eqs := false, ezero := [] } := rfl
theorem Try.tm_99 : Try.tm 99 = { kind := 1, size := 1, offs := [], zero := [.nilfn], el := 0, esz := 0, eby := 0, eagg := false, ik := none, eqs := false, ezero := [] } := rfl
theorem Try.tm_100 : Try.tm 100 = { kind := 1, size := 1, offs := [], zero := [.nilfn], el := 0, esz := 0, eby := 0, eagg := false, ik := none, eqs := false, ezero := [] } := rfl
theorem Try.tm_101 : Try.tm 101 = { kind := 2, size := 3, offs := [(0, 1, false), (1, 1, false), (2, 1, false)], zero := [.int .i64 0, .int .i64 0, .str []], el := 0, esz := 0, eby := 0, eagg := false, ik := none, eqs := false, ezero := [] } := rfl
theorem Try.tm_102 : Try.tm 102 = { kind := 2, size := 3, offs := [(0, 1, false), (1, 1, false), (2, 1, false)], zero := [.int .i64 0, .int .i64 0, .str []], el := 0, esz := 0, eby := 0, eagg := false, ik := none, eqs := true, ezero := [] } := rfl
theorem Try.tm_103 : Try.tm 103 = { kind := 2, size := 5, offs := [(0, 1, false), (1, 1, false), (2, 3, true)], zero := [.int .i64 0, .int .i64 0, .int .i64 0, .int .i64 0, .str []], el := 0, esz := 0, eby := 0, eagg := false, ik := none, eqs := false, ezero := [] } := rfl
theorem Try.tm_104 : Try.tm 104 = { kind := 2, size := 5, offs := [(0, 1, false), (1, 1, false), (2, 3, true)], zero := [.int .i64 0, .int .i64 0, .int .i64 0, .int .i64 0, .str []], el := 0, esz := 0, eby := 0, eagg := false, ik := none, eqs := false, ezero := [] } := rfl
theorem Try.tm_105 : Try.tm 105 = { kind := 1, size := 1, offs := [], zero := [.nilfn], el := 0, esz := 0, eby := 0, eagg := false, ik := none, eqs := false, ezero := [] } := rfl
theorem Try.tm_106 : Try.tm 106 = { kind := 1, size := 1, offs := [], zero := [.nilfn], el := 0, esz := 0, eby := 0, eagg := false, ik := none, eqs := false, ezero := [] } := rfl
theorem Try.tm_107 : Try.tm 107 = { kind := 1, size := 1, offs := [], zero := [.nilfn], el := 0, esz := 0, eby := 0, eagg := false, ik := none, eqs := false, ezero := [] } := rfl
theorem Try.tm_108 : Try.tm 108 = { kind := 1, size := 1, offs := [], zero := [.nilptr], el := 0, esz := 0, eby := 0, eagg := false, ik := none, eqs := false, ezero := [] } := rfl
theorem Try.tm_110 : Try.tm 110 = { kind := 1, size := 1, offs := [], zero := [.nilfn], el := 0, esz := 0, eby := 0, eagg := false, ik := none, eqs := false, ezero := [] } := rfl
theorem Try.tm_112 : Try.tm 112 = { kind := 1, size := 1, offs := [], zero := [.nilfn], el := 0, esz := 0, eby := 0, eagg := false, ik := none, eqs := false, ezero := [] } := rfl
theorem Try.tm_113 : Try.tm 113 = { kind := 3, size := 1, offs := [], zero := [.imm 0 [] 0], el := 117, esz := 6, eby := 80, eagg := true, ik := none, eqs := false, ezero := [.int .i64 0, .int .i64 0, .imm 0 [] 0, .int .i64 0, .str [], .str []] } := rfl
theorem Try.tm_115 : Try.tm 115 = { kind := 1, size := 1, offs := [], zero := [.nilfn], el := 0, esz := 0, eby := 0, eagg := false, ik := none, eqs := false, ezero := [] } := rfl
theorem Try.tm_116 : Try.tm 116 = { kind := 2, size := 6, offs := [(0, 1, false), (1, 5, true)], zero := [.int .i64 0, .int .i64 0, .imm 0 [] 0, .int .i64 0, .str [], .str []], el := 0, esz := 0, eby := 0, eagg := false, ik := none, eqs := false, ezero := [] } := rfl
theorem Try.tm_117 : Try.tm 117 = { kind := 2, size := 6, offs := [(0, 1, false), (1, 5, true)], zero := [.int .i64 0, .int .i64 0, .imm 0 [] 0, .int .i64 0, .str [], .str []], el := 0, esz := 0, eby := 0, eagg := false, ik := none, eqs := false, ezero := [] } := rfl
theorem Try.tm_118 : Try.tm 118 = { kind := 1, size := 1, offs := [], zero := [.nilfn], el := 0, esz := 0, eby := 0, eagg := false, ik := none, eqs := false, ezero := [] } := rfl
theorem Try.tm_119 : Try.tm 119 = { kind := 3, size := 1, offs := [], zero := [.imm 0 [] 0], el := 113, esz := 1, eby := 24, eagg := false, ik := none, eqs := false, ezero := [.imm 0 [] 0] } := rfl
theorem Try.tm_120 : Try.tm 120 = { kind := 3, size := 1, offs := [], zero := [.imm 0 [] 0], el := 113, esz := 1, eby := 24, eagg := false, ik := none, eqs := false, ezero := [.imm 0 [] 0] } := rfl
theorem Try.tm_122 : Try.tm 122 = { kind := 1, size := 1, offs := [], zero := [.nilfn], el := 0, esz := 0, eby := 0, eagg := false, ik := none, eqs := false, ezero := [] } := rfl
theorem Try.tm_123 : Try.tm 123 = { kind := 1, size := 1, offs := [], zero := [.nilfn], el := 0, esz := 0, eby := 0, eagg := false, ik := none, eqs := false, ezero := [] } := rfl
theorem Try.tm_125 : Try.tm 125 = { kind := 1, size := 1, offs := [], zero := [.nilfn], el := 0, esz := 0, eby := 0, eagg := false, ik := none, eqs := false, ezero := [] } := rfl
theorem Try.tm_126 : Try.tm 126 = { kind := 2, size := 19, offs := [(0, 12, true), (12, 3, true), (15, 3, true), (18, 1, false)], zero := [.int .u8 0, .int .i64 0, .imm 0 [] 0, .int .i64 0, .str [], .str [], .int .i64 0, .int .i64 0, .imm 0 [] 0, .int .i64 0, .int .i64 0, .int .i64 0, .int .i64 0, .imm 0 [] 0, .imm 0 [] 0, .int .i64 0, .imm 0 [] 0, .imm 0 [] 0, .imm 0 [] 0], el := 0, esz := 0, eby := 0, eagg := false, ik := none, eqs := false, ezero := [] } := rfl
theorem Try.tm_127 : Try.tm 127 = { kind := 2, size := 19, offs := [(0, 12, true), (12, 3, true), (15, 3, true), (18, 1, false)], zero := [.int .u8 0, .int .i64 0, .imm 0 [] 0, .int .i64 0, .str [], .str [], .int .i64 0, .int .i64 0, .imm 0 [] 0, .int .i64 0, .int .i64 0, .int .i64 0, .int .i64 0, .imm 0 [] 0, .imm 0 [] 0, .int .i64 0, .imm 0 [] 0, .imm 0 [] 0, .imm 0 [] 0], el := 0, esz := 0, eby := 0, eagg := false, ik := none, eqs := false, ezero := [] } := rfl
theorem Try.tm_128 : Try.tm 128 = { kind := 1, size := 1, offs := [], zero := [.nilfn], el := 0, esz := 0, eby := 0, eagg := false, ik := none, eqs := false, ezero := [] } := rfl
theorem Try.tm_129 : Try.tm 129 = { kind := 1, size := 1, offs := [], zero := [.nilfn], el := 0, esz := 0, eby := 0, eagg := false, ik := none, eqs := false, ezero := [] } := rfl
theorem Try.tm_130 : Try.tm 130 = { kind := 1, size := 1, offs := [], zero := [.nilfn], el := 0, esz := 0, eby := 0, eagg := false, ik := none, eqs := false, ezero := [] } := rfl
theorem Try.tm_131 : Try.tm 131 = { kind := 1, size := 1, offs := [], zero := [.nilfn], el := 0, esz := 0, eby := 0, eagg := false, ik := none, eqs := false, ezero := [] } := rfl
theorem Try.tm_132 : Try.tm 132 = { kind := 1, size := 1, offs := [], zero := [.nilfn], el := 0, esz := 0, eby := 0, eagg := false, ik := none, eqs := false, ezero := [] } := rfl
theorem Try.tm_133 : Try.tm 133 = { kind := 1, size := 1, offs := [], zero := [.nilfn], el := 0, esz := 0, eby := 0, eagg := false, ik := none, eqs := false, ezero := [] } := rfl
theorem Try.tm_134 : Try.tm 134 = { kind := 1, size := 1, offs := [], zero := [.nilfn], el := 0, esz := 0, eby := 0, eagg := false, ik := none, eqs := false, ezero := [] } := rfl
theorem Try.tm_135 : Try.tm 135 = { kind := 1, size := 1, offs := [], zero := [.nilfn], el := 0, esz := 0, eby := 0, eagg := false, ik := none, eqs := false, ezero := [] } := rfl
theorem Try.tm_137 : Try.tm 137 = { kind := 1, size := 1, offs := [], zero := [.nilfn], el := 0, esz := 0, eby := 0, eagg := false, ik := none, eqs := false, ezero := [] } := rfl
theorem Try.tm_138 : Try.tm 138 = { kind := 1, size := 1, offs := [], zero := [.nilfn], el := 0, esz := 0, eby := 0, eagg := false, ik := none, eqs := false, ezero := [] } := rfl
theorem Try.tm_139 : Try.tm 139 = { kind := 1, size := 1, offs := [], zero := [.nilfn], el := 0, esz := 0, eby := 0, eagg := false, ik := none, eqs := false, ezero := [] } := rfl
theorem Try.tm_140 : Try.tm 140 = { kind := 1, size := 1, offs := [], zero := [.nilfn], el := 0, esz := 0, eby := 0, eagg := false, ik := none, eqs := false, ezero := [] } := rfl
theorem Try.tm_141 : Try.tm 141 = { kind := 1, size := 1, offs := [], zero := [.nilfn], el := 0, esz := 0, eby := 0, eagg := false, ik := none, eqs := false, ezero := [] } := rfl
theorem Try.tm_142 : Try.tm 142 = { kind := 1, size := 1, offs := [], zero := [.nilfn], el := 0, esz := 0, eby := 0, eagg := false, ik := none, eqs := false, ezero := [] } := rfl
theorem Try.tm_143 : Try.tm 143 = { kind := 1, size := 1, offs := [], zero := [.nilfn], el := 0, esz := 0, eby := 0, eagg := false, ik := none, eqs := false, ezero := [] } := rfl
theorem Try.tm_144 : Try.tm 144 = { kind := 1, size := 1, offs := [], zero := [.nilfn], el := 0, esz := 0, eby := 0, eagg := false, ik := none, eqs := false, ezero := [] } := rfl
theorem Try.tm_145 : Try.tm 145 = { kind := 1, size := 1, offs := [], zero := [.nilfn], el := 0, esz := 0, eby := 0, eagg := false, ik := none, eqs := false, ezero := [] } := rfl
theorem Try.tm_146 : Try.tm 146 = { kind := 1, size := 1, offs := [], zero := [.nilfn], el := 0, esz := 0, eby := 0, eagg := false, ik := none, eqs := false, ezero := [] } := rfl
theorem Try.tm_147 : Try.tm 147 = { kind := 1, size := 1, offs := [], zero := [.nilfn], el := 0, esz := 0, eby := 0, eagg := false, ik := none, eqs := false, ezero := [] } := rfl
theorem Try.tm_148 : Try.tm 148 = { kind := 1, size := 1, offs := [], zero := [.nilfn], el := 0, esz := 0, eby := 0, eagg := false, ik := none, eqs := false, ezero := [] } := rfl
theorem Try.tm_149 : Try.tm 149 = { kind := 1, size := 1, offs := [], zero := [.nilfn], el := 0, esz := 0, eby := 0, eagg := false, ik := none, eqs := false, ezero := [] } := rfl
theorem Try.tm_150 : Try.tm 150 = { kind := 1, size := 1, offs := [], zero := [.nilfn], el := 0, esz := 0, eby := 0, eagg := false, ik := none, eqs := false, ezero := [] } := rfl
theorem Try.tm_151 : Try.tm 151 = { kind := 1, size := 1, offs := [], zero := [.nilfn], el := 0, esz := 0, eby := 0, eagg := false, ik := none, eqs := false, ezero := [] } := rfl
theorem Try.tm_152 : Try.tm 152 = { kind := 1, size := 1, offs := [], zero := [.nilfn], el := 0, esz := 0, eby := 0, eagg := false, ik := none, eqs := false, ezero := [] } := rfl
theorem Try.tm_153 : Try.tm 153 = { kind := 3, size := 1, offs := [], zero := [.imm 0 [] 0], el := 5, esz := 1, eby := 1, eagg := false, ik := none, eqs := false, ezero := [.int .u8 0] } := rfl
theorem Try.tm_154 : Try.tm 154 = { kind := 1, size := 1, offs := [], zero := [.nilfn], el := 0, esz := 0, eby := 0, eagg := false, ik := none, eqs := false, ezero := [] } := rfl
theorem Try.tm_156 : Try.tm 156 = { kind := 1, size := 1, offs := [], zero := [.nilfn], el := 0, esz := 0, eby := 0, eagg := false, ik := none, eqs := false, ezero := [] } := rfl
theorem Try.tm_158 : Try.tm 158 = { kind := 1, size := 1, offs := [], zero := [.nilfn], el := 0, esz := 0, eby := 0, eagg := false, ik := none, eqs := false, ezero := [] } := rfl
theorem Try.tm_159 : Try.tm 159 = { kind := 1, size := 1, offs := [], zero := [.nilfn], el := 0, esz := 0, eby := 0, eagg := false, ik := none, eqs := false, ezero := [] } := rfl
theorem Try.tm_160 : Try.tm 160 = { kind := 1, size := 1, offs := [], zero := [.nilfn], el := 0, esz := 0, eby := 0, eagg := false, ik := none, eqs := false, ezero := [] } := rfl
theorem Try.tm_161 : Try.tm 161 = { kind := 1, size := 1, offs := [], zero := [.nilfn], el := 0, esz := 0, eby := 0, eagg := false, ik := none, eqs := false, ezero := [] } := rfl
theorem Try.tm_162 : Try.tm 162 = { kind := 1, size := 1, offs := [], zero := [.nilfn], el := 0, esz := 0, eby := 0, eagg := false, ik := none, eqs := false, ezero := [] } := rfl
theorem Try.tm_163 : Try.tm 163 = { kind := 1, size := 1, offs := [], zero := [.nilptr], el := 0, esz := 0, eby := 0, eagg := false, ik := none, eqs := false, ezero := [] } := rfl
theorem Try.tm_164 : Try.tm 164 = { kind := 1, size := 1, offs := [], zero := [.nilfn], el := 0, esz := 0, eby := 0, eagg := false, ik := none, eqs := false, ezero := [] } := rfl
theorem Try.tm_165 : Try.tm 165 = { kind := 1, size := 1, offs := [], zero := [.nilfn], el := 0, esz := 0, eby := 0, eagg := false, ik := none, eqs := false, ezero := [] } := rfl
theorem Try.tm_166 : Try.tm 166 = { kind := 1, size := 1, offs := [], zero := [.nilfn], el := 0, esz := 0, eby := 0, eagg := false, ik := none, eqs := false, ezero := [] } := rfl
theorem Try.tm_167 : Try.tm 167 = { kind := 1, size := 1, offs := [], zero := [.nilfn], el := 0, esz := 0, eby := 0, eagg := false, ik := none, eqs := false, ezero := [] } := rfl
theorem Try.tm_168 : Try.tm 168 = { kind := 1, size := 1, offs := [], zero := [.nilfn], el := 0, esz := 0, eby := 0, eagg := false, ik := none, eqs := false, ezero := [] } := rfl
theorem Try.tm_170 : Try.tm 170 = { kind := 1, size := 1, offs := [], zero := [.nilfn], el := 0, esz := 0, eby := 0, eagg := false, ik := none, eqs := false, ezero := [] } := rfl
theorem Try.tm_171 : Try.tm 171 = { kind := 1, size := 1, offs := [], zero := [.nilfn], el := 0, esz := 0, eby := 0, eagg := false, ik := none, eqs := false, ezero := [] } := rfl
theorem Try.tm_173 : Try.tm 173 = { kind := 1, size := 1, offs := [], zero := [.nilfn], el := 0, esz := 0, eby := 0, eagg := false, ik := none, eqs := false, ezero := [] } := rfl
theorem Try.tm_174 : Try.tm 174 = { kind := 1, size := 1, offs := [], zero := [.nilfn], el := 0, esz := 0, eby := 0, eagg := false, ik := none, eqs := false, ezero := [] } := rfl
theorem Try.tm_175 : Try.tm 175 = { kind := 1, size := 1, offs := [], zero := [.nilfn], el := 0, esz := 0, eby := 0, eagg := false, ik := none, eqs := false, ezero := [] } := rfl
theorem Try.tm_176 : Try.tm 176 = { kind := 1, size := 1, offs := [], zero := [.nilfn], el := 0, esz := 0, eby := 0, eagg := false, ik := none, eqs := false, ezero := [] } := rfl
theorem Try.tm_177 : Try.tm 177 = { kind := 9, size := 1, offs := [], zero := [.nilmap], el := 3, esz := 5, eby := 0, eagg := true, ik := none, eqs := false, ezero := [.int .i64 0, .imm 0 [] 0, .int .i64 0, .str [], .str []] } := rfl
theorem Try.tm_178 : Try.tm 178 = { kind := 1, size := 1, offs := [], zero := [.nilfn], el := 0, esz := 0, eby := 0, eagg := false, ik := none, eqs := false, ezero := [] } := rfl
theorem Try.tm_181 : Try.tm 181 = { kind := 1, size := 1, offs := [], zero := [.nilfn], el := 0, esz := 0, eby := 0, eagg := false, ik := none, eqs := false, ezero := [] } := rfl
theorem Try.tm_182 : Try.tm 182 = { kind := 1, size := 1, offs := [], zero := [.nilfn], el := 0, esz := 0, eby := 0, eagg := false, ik := none, eqs := false, ezero := [] } := rfl
theorem Try.tm_183 : Try.tm 183 = { kind := 1, size := 1, offs := [], zero := [.nilfn], el := 0, esz := 0, eby := 0, eagg := false, ik := none, eqs := false, ezero := [] } := rfl
theorem Try.tm_184 : Try.tm 184 = { kind := 1, size := 1, offs := [], zero := [.nilfn], el := 0, esz := 0, eby := 0, eagg := false, ik := none, eqs := false, ezero := [] } := rfl
theorem Try.tm_185 : Try.tm 185 = { kind := 6, size := 1, offs := [], zero := [.int .u64 0], el := 0, esz := 0, eby := 0, eagg := false, ik := some .u64, eqs := false, ezero := [] } := rfl
theorem Try.tm_186 : Try.tm 186 = { kind := 1, size := 1, offs := [], zero := [.nilfn], el := 0, esz := 0, eby := 0, eagg := false, ik := none, eqs := false, ezero := [] } := rfl
theorem Try.tm_187 : Try.tm 187 = { kind := 1, size := 1, offs := [], zero := [.nilfn], el := 0, esz := 0, eby := 0, eagg := false, ik := none, eqs := false, ezero := [] } := rfl
theorem Try.tm_188 : Try.tm 188 = { kind := 1, size := 1, offs := [], zero := [.nilfn], el := 0, esz := 0, eby := 0, eagg := false, ik := none, eqs := false, ezero := [] } := rfl
theorem Try.tm_189 : Try.tm 189 = { kind := 1, size := 1, offs := [], zero := [.nilfn], el := 0, esz := 0, eby := 0, eagg := false, ik := none, eqs := false, ezero := [] } := rfl
theorem Try.tm_190 : Try.tm 190 = { kind := 1, size := 1, offs := [], zero := [.nilfn], el := 0, esz := 0, eby := 0, eagg := false, ik := none, eqs := false, ezero := [] } := rfl
theorem Try.tm_191 : Try.tm 191 = { kind := 1, size := 1, offs := [], zero := [.nilfn], el := 0, esz := 0, eby := 0, eagg := false, ik := none, eqs := false, ezero := [] } := rfl
theorem Try.tm_192 : Try.tm 192 = { kind := 1, size := 1, offs := [], zero := [.nilfn], el := 0, esz := 0, eby := 0, eagg := false, ik := none, eqs := false, ezero := [] } := rfl
theorem Try.tm_193 : Try.tm 193 = { kind := 1, size := 1, offs := [], zero := [.nilfn], el := 0, esz := 0, eby := 0, eagg := false, ik := none, eqs := false, ezero := [] } := rfl
theorem Try.tm_194 : Try.tm 194 = { kind := 1, size := 1, offs := [], zero := [.nilfn], el := 0, esz := 0, eby := 0, eagg := false, ik := none, eqs := false, ezero := [] } := rfl
theorem Try.tm_195 : Try.tm 195 = { kind := 1, size := 1, offs := [], zero := [.nilfn], el := 0, esz := 0, eby := 0, eagg := false, ik := none, eqs := false, ezero := [] } := rfl
theorem Try.tm_196 : Try.tm 196 = { kind := 1, size := 1, offs := [], zero := [.nilfn], el := 0, esz := 0, eby := 0, eagg := false, ik := none, eqs := false, ezero := [] } := rfl
theorem Try.tm_197 : Try.tm 197 = { kind := 1, size := 1, offs := [], zero := [.nilfn], el := 0, esz := 0, eby := 0, eagg := false, ik := none, eqs := false, ezero := [] } := rfl
theorem Try.tm_198 : Try.tm 198 = { kind := 1, size := 1, offs := [], zero := [.nilfn], el := 0, esz := 0, eby := 0, eagg := false, ik := none, eqs := false, ezero := [] } := rfl
theorem Try.tm_199 : Try.tm 199 = { kind := 1, size := 1, offs := [], zero := [.nilfn], el := 0, esz := 0, eby := 0, eagg := false, ik := none, eqs := false, ezero := [] } := rfl
theorem Try.tm_201 : Try.tm 201 = { kind := 1, size := 1, offs := [], zero := [.nilfn], el := 0, esz := 0, eby := 0, eagg := false, ik := none, eqs := false, ezero := [] } := rfl
theorem Try.tm_202 : Try.tm 202 = { kind := 1, size := 1, offs := [], zero := [.nilfn], el := 0, esz := 0, eby := 0, eagg := false, ik := none, eqs := false, ezero := [] } := rfl
theorem Try.tm_203 : Try.tm 203 = { kind := 1, size := 1, offs := [], zero := [.nilfn], el := 0, esz := 0, eby := 0, eagg := false, ik := none, eqs := false, ezero := [] } := rfl
theorem Try.tm_204 : Try.tm 204 = { kind := 1, size := 1, offs := [], zero := [.nilfn], el := 0, esz := 0, eby := 0, eagg := false, ik := none, eqs := false, ezero := [] } := rfl
theorem Try.tm_205 : Try.tm 205 = { kind := 1, size := 1, offs := [], zero := [.nilfn], el := 0, esz := 0, eby := 0, eagg := false, ik := none, eqs := false, ezero := [] } := rfl
theorem Try.tm_206 : Try.tm 206 = { kind := 1, size := 1, offs := [], zero := [.nilfn], el := 0, esz := 0, eby := 0, eagg := false, ik := none, eqs := false, ezero := [] } := rfl
theorem Try.tm_207 : Try.tm 207 = { kind := 1, size := 1, offs := [], zero := [.nilptr], el := 0, esz := 0, eby := 0, eagg := false, ik := none, eqs := false, ezero := [] } := rfl
theorem Try.tm_208 : Try.tm 208 = { kind := 2, size := 2, offs := [(0, 1, false), (1, 1, false)], zero := [.imm 0 [] 0, .bool false], el := 0, esz := 0, eby := 0, eagg := false, ik := none, eqs := false, ezero := [] } := rfl
theorem Try.tm_209 : Try.tm 209 = { kind := 2, size := 2, offs := [(0, 1, false), (1, 1, false)], zero := [.imm 0 [] 0, .bool false], el := 0, esz := 0, eby := 0, eagg := false, ik := none, eqs := false, ezero := [] } := rfl
theorem Try.tm_210 : Try.tm 210 = { kind := 1, size := 1, offs := [], zero := [.nilfn], el := 0, esz := 0, eby := 0, eagg := false, ik := none, eqs := false, ezero := [] } := rfl
theorem Try.tm_211 : Try.tm 211 = { kind := 1, size := 1, offs := [], zero := [.nilfn], el := 0, esz := 0, eby := 0, eagg := false, ik := none, eqs := false, ezero := [] } := rfl
theorem Try.tm_212 : Try.tm 212 = { kind := 1, size := 1, offs := [], zero := [.nilfn], el := 0, esz := 0, eby := 0, eagg := false, ik := none, eqs := false, ezero := [] } := rfl
theorem Try.tm_213 : Try.tm 213 = { kind := 1, size := 1, offs := [], zero := [.nilfn], el := 0, esz := 0, eby := 0, eagg := false, ik := none, eqs := false, ezero := [] } := rfl
theorem Try.tm_214 : Try.tm 214 = { kind := 1, size := 1, offs := [], zero := [.nilfn], el := 0, esz := 0, eby := 0, eagg := false, ik := none, eqs := false, ezero := [] } := rfl
theorem Try.tm_215 : Try.tm 215 = { kind := 1, size := 1, offs := [], zero := [.nilfn], el := 0, esz := 0, eby := 0, eagg := false, ik := none, eqs := false, ezero := [] } := rfl
theorem Try.tm_217 : Try.tm 217 = { kind := 1, size := 1, offs := [], zero := [.nilfn], el := 0, esz := 0, eby := 0, eagg := false, ik := none, eqs := false, ezero := [] } := rfl
theorem Try.tm_218 : Try.tm 218 = { kind := 2, size := 4, offs := [(0, 1, false), (1, 1, false), (2, 1, false), (3, 1, false)], zero := [.nilptr, .nilptr, .nilptr, .str []], el := 0, esz := 0, eby := 0, eagg := false, ik := none, eqs := false, ezero := [] } := rfl
theorem Try.tm_219 : Try.tm 219 = { kind := 2, size := 4, offs := [(0, 1, false), (1, 1, false), (2, 1, false), (3, 1, false)], zero := [.nilptr, .nilptr, .nilptr, .str []], el := 0, esz := 0, eby := 0, eagg := false, ik := none, eqs := false, ezero := [] } := rfl
theorem Try.tm_223 : Try.tm 223 = { kind := 6, size := 1, offs := [], zero := [.int .u32 0], el := 0, esz := 0, eby := 0, eagg := false, ik := some .u32, eqs := false, ezero := [] } := rfl
theorem Try.tm_224 : Try.tm 224 = { kind := 6, size := 1, offs := [], zero := [.int .u8 0], el := 0, esz := 0, eby := 0, eagg := false, ik := some .u8, eqs := false, ezero := [] } := rfl
theorem Try.tm_225 : Try.tm 225 = { kind := 6, size := 1, offs := [], zero := [.int .u8 0], el := 0, esz := 0, eby := 0, eagg := false, ik := some .u8, eqs := false, ezero := [] } := rfl
theorem Try.tm_226 : Try.tm 226 = { kind := 1, size := 1, offs := [], zero := [.nilfn], el := 0, esz := 0, eby := 0, eagg := false, ik := none, eqs := false, ezero := [] } := rfl
theorem Try.tm_227 : Try.tm 227 = { kind := 1, size := 1, offs := [], zero := [.nilptr], el := 0, esz := 0, eby := 0, eagg := false, ik := none, eqs := false, ezero := [] } := rfl
theorem Try.tm_228 : Try.tm 228 = { kind := 6, size := 1, offs := [], zero := [.int .i32 0], el := 0, esz := 0, eby := 0, eagg := false, ik := some .i32, eqs := false, ezero := [] } := rfl
theorem Try.tm_229 : Try.tm 229 = { kind := 6, size := 1, offs := [], zero := [.int .i32 0], el := 0, esz := 0, eby := 0, eagg := false, ik := some .i32, eqs := false, ezero := [] } := rfl
theorem Try.tm_230 : Try.tm 230 = { kind := 2, size := 11, offs := [(0, 1, false), (1, 1, false), (2, 1, false), (3, 1, false), (4, 1, false), (5, 1, false), (6, 1, false), (7, 1, false), (8, 1, false), (9, 1, false), (10, 1, false)], zero := [.int .u64 0, .int .u64 0, .int .u32 0, .int .u8 0, .int .u8 0, .int .u8 0, .int .u8 0, .nilfn, .nilptr, .int .i32 0, .int .i32 0], el := 0, esz := 0, eby := 0, eagg := false, ik := none, eqs := false, ezero := [] } := rfl
theorem Try.tm_231 : Try.tm 231 = { kind := 2, size := 11, offs := [(0, 1, false), (1, 1, false), (2, 1, false), (3, 1, false), (4, 1, false), (5, 1, false), (6, 1, false), (7, 1, false), (8, 1, false), (9, 1, false), (10, 1, false)], zero := [.int .u64 0, .int .u64 0, .int .u32 0, .int .u8 0, .int .u8 0, .int .u8 0, .int .u8 0, .nilfn, .nilptr, .int .i32 0, .int .i32 0], el := 0, esz := 0, eby := 0, eagg := false, ik := none, eqs := false, ezero := [] } := rfl
end Go.Proofs
