import Derived.Test.YtnfgpejdbmakkaaC2
import Derived.Test.YtnfgpejdbmakkaaAbSim
import Derived.KernelRfl
namespace Go.Ab.Ytnfgpejdbmakkaa
open Go Go.Ab
open Go.Proofs.Try
set_option maxRecDepth 100000
theorem GP : G.P = prog := rfl
theorem GT : G.T = tiOf prog := rfl
theorem GK : G.K = K := rfl
theorem GX : G.X = xOf prog := rfl
theorem GE : G.E = eOf prog := rfl
theorem T1 : tiOf prog 1 = some ⟨.func, 1, 8, false, [.nilf]⟩ := by kernel_rfl
theorem t1 : G.T 1 = some ⟨.func, 1, 8, false, [.nilf]⟩ := T1
theorem T2 : tiOf prog 2 = some ⟨.int .i64, 1, 8, false, [.int .i64 0]⟩ := by kernel_rfl
theorem t2 : G.T 2 = some ⟨.int .i64, 1, 8, false, [.int .i64 0]⟩ := T2
theorem T3 : tiOf prog 3 = some ⟨.int .i64, 1, 8, false, [.int .i64 0]⟩ := by kernel_rfl
theorem t3 : G.T 3 = some ⟨.int .i64, 1, 8, false, [.int .i64 0]⟩ := T3
theorem T4 : tiOf prog 4 = some ⟨.bool, 1, 1, false, [.bool false]⟩ := by kernel_rfl
theorem t4 : G.T 4 = some ⟨.bool, 1, 1, false, [.bool false]⟩ := T4
theorem T5 : tiOf prog 5 = some ⟨.int .u8, 1, 1, false, [.int .u8 0]⟩ := by kernel_rfl
theorem t5 : G.T 5 = some ⟨.int .u8, 1, 1, false, [.int .u8 0]⟩ := T5
theorem T6 : tiOf prog 6 = some ⟨.int .u8, 1, 1, false, [.int .u8 0]⟩ := by kernel_rfl
theorem t6 : G.T 6 = some ⟨.int .u8, 1, 1, false, [.int .u8 0]⟩ := T6
theorem T7 : tiOf prog 7 = some ⟨.struct [(0, 2), (1, 3), (2, 4), (3, 6)], 4, 24, true, [.int .i64 0, .int .i64 0, .bool false, .int .u8 0]⟩ := by kernel_rfl
theorem t7 : G.T 7 = some ⟨.struct [(0, 2), (1, 3), (2, 4), (3, 6)], 4, 24, true, [.int .i64 0, .int .i64 0, .bool false, .int .u8 0]⟩ := T7
theorem T8 : tiOf prog 8 = some ⟨.struct [(0, 2), (1, 3), (2, 4), (3, 6)], 4, 24, true, [.int .i64 0, .int .i64 0, .bool false, .int .u8 0]⟩ := by kernel_rfl
theorem t8 : G.T 8 = some ⟨.struct [(0, 2), (1, 3), (2, 4), (3, 6)], 4, 24, true, [.int .i64 0, .int .i64 0, .bool false, .int .u8 0]⟩ := T8
theorem T9 : tiOf prog 9 = some ⟨.str, 1, 16, false, [.str ByteArray.empty]⟩ := by kernel_rfl
theorem t9 : G.T 9 = some ⟨.str, 1, 16, false, [.str ByteArray.empty]⟩ := T9
theorem T10 : tiOf prog 10 = some ⟨.str, 1, 16, false, [.str ByteArray.empty]⟩ := by kernel_rfl
theorem t10 : G.T 10 = some ⟨.str, 1, 16, false, [.str ByteArray.empty]⟩ := T10
theorem T11 : tiOf prog 11 = some ⟨.str, 1, 16, false, [.str ByteArray.empty]⟩ := by kernel_rfl
theorem t11 : G.T 11 = some ⟨.str, 1, 16, false, [.str ByteArray.empty]⟩ := T11
theorem T12 : tiOf prog 12 = some ⟨.int .u64, 1, 8, false, [.int .u64 0]⟩ := by kernel_rfl
theorem t12 : G.T 12 = some ⟨.int .u64, 1, 8, false, [.int .u64 0]⟩ := T12
theorem T13 : tiOf prog 13 = some ⟨.struct [(0, 9), (1, 12)], 2, 24, true, [.str ByteArray.empty, .int .u64 0]⟩ := by kernel_rfl
theorem t13 : G.T 13 = some ⟨.struct [(0, 9), (1, 12)], 2, 24, true, [.str ByteArray.empty, .int .u64 0]⟩ := T13
theorem T14 : tiOf prog 14 = some ⟨.struct [(0, 9), (1, 12)], 2, 24, true, [.str ByteArray.empty, .int .u64 0]⟩ := by kernel_rfl
theorem t14 : G.T 14 = some ⟨.struct [(0, 9), (1, 12)], 2, 24, true, [.str ByteArray.empty, .int .u64 0]⟩ := T14
theorem T15 : tiOf prog 15 = some ⟨.ptr 110, 1, 8, false, [.nilp]⟩ := by kernel_rfl
theorem t15 : G.T 15 = some ⟨.ptr 110, 1, 8, false, [.nilp]⟩ := T15
theorem T16 : tiOf prog 16 = some ⟨.ptr 113, 1, 8, false, [.nilp]⟩ := by kernel_rfl
theorem t16 : G.T 16 = some ⟨.ptr 113, 1, 8, false, [.nilp]⟩ := T16
theorem T17 : tiOf prog 17 = some ⟨.ptr 121, 1, 8, false, [.nilp]⟩ := by kernel_rfl
theorem t17 : G.T 17 = some ⟨.ptr 121, 1, 8, false, [.nilp]⟩ := T17
theorem T18 : tiOf prog 18 = some ⟨.struct [(0, 17)], 1, 8, true, [.nilp]⟩ := by kernel_rfl
theorem t18 : G.T 18 = some ⟨.struct [(0, 17)], 1, 8, true, [.nilp]⟩ := T18
theorem T19 : tiOf prog 19 = some ⟨.struct [(0, 17)], 1, 8, true, [.nilp]⟩ := by kernel_rfl
theorem t19 : G.T 19 = some ⟨.struct [(0, 17)], 1, 8, true, [.nilp]⟩ := T19
theorem T20 : tiOf prog 20 = some ⟨.ifc, 1, 16, false, [.nili]⟩ := by kernel_rfl
theorem t20 : G.T 20 = some ⟨.ifc, 1, 16, false, [.nili]⟩ := T20
theorem T21 : tiOf prog 21 = some ⟨.int .i32, 1, 4, false, [.int .i32 0]⟩ := by kernel_rfl
theorem t21 : G.T 21 = some ⟨.int .i32, 1, 4, false, [.int .i32 0]⟩ := T21
theorem T22 : tiOf prog 22 = some ⟨.int .u64, 1, 8, false, [.int .u64 0]⟩ := by kernel_rfl
theorem t22 : G.T 22 = some ⟨.int .u64, 1, 8, false, [.int .u64 0]⟩ := T22
theorem T23 : tiOf prog 23 = some ⟨.struct [(0, 3), (1, 22), (2, 22), (3, 22), (4, 22), (5, 22)], 6, 48, true, [.int .i64 0, .int .u64 0, .int .u64 0, .int .u64 0, .int .u64 0, .int .u64 0]⟩ := by kernel_rfl
theorem t23 : G.T 23 = some ⟨.struct [(0, 3), (1, 22), (2, 22), (3, 22), (4, 22), (5, 22)], 6, 48, true, [.int .i64 0, .int .u64 0, .int .u64 0, .int .u64 0, .int .u64 0, .int .u64 0]⟩ := T23
theorem T24 : tiOf prog 24 = some ⟨.struct [(0, 3), (1, 22), (2, 22), (3, 22), (4, 22), (5, 22)], 6, 48, true, [.int .i64 0, .int .u64 0, .int .u64 0, .int .u64 0, .int .u64 0, .int .u64 0]⟩ := by kernel_rfl
theorem t24 : G.T 24 = some ⟨.struct [(0, 3), (1, 22), (2, 22), (3, 22), (4, 22), (5, 22)], 6, 48, true, [.int .i64 0, .int .u64 0, .int .u64 0, .int .u64 0, .int .u64 0, .int .u64 0]⟩ := T24
theorem T25 : tiOf prog 25 = some ⟨.func, 1, 8, false, [.nilf]⟩ := by kernel_rfl
theorem t25 : G.T 25 = some ⟨.func, 1, 8, false, [.nilf]⟩ := T25
theorem T26 : tiOf prog 26 = some ⟨.func, 1, 8, false, [.nilf]⟩ := by kernel_rfl
theorem t26 : G.T 26 = some ⟨.func, 1, 8, false, [.nilf]⟩ := T26
theorem T27 : tiOf prog 27 = some ⟨.func, 1, 8, false, [.nilf]⟩ := by kernel_rfl
theorem t27 : G.T 27 = some ⟨.func, 1, 8, false, [.nilf]⟩ := T27
theorem T28 : tiOf prog 28 = some ⟨.func, 1, 8, false, [.nilf]⟩ := by kernel_rfl
theorem t28 : G.T 28 = some ⟨.func, 1, 8, false, [.nilf]⟩ := T28
theorem T29 : tiOf prog 29 = some ⟨.func, 1, 8, false, [.nilf]⟩ := by kernel_rfl
theorem t29 : G.T 29 = some ⟨.func, 1, 8, false, [.nilf]⟩ := T29
theorem T30 : tiOf prog 30 = some ⟨.func, 1, 8, false, [.nilf]⟩ := by kernel_rfl
theorem t30 : G.T 30 = some ⟨.func, 1, 8, false, [.nilf]⟩ := T30
theorem T31 : tiOf prog 31 = some ⟨.slice 40, 1, 24, false, [.nils]⟩ := by kernel_rfl
theorem t31 : G.T 31 = some ⟨.slice 40, 1, 24, false, [.nils]⟩ := T31
theorem T32 : tiOf prog 32 = some ⟨.slice 22, 1, 24, false, [.nils]⟩ := by kernel_rfl
theorem t32 : G.T 32 = some ⟨.slice 22, 1, 24, false, [.nils]⟩ := T32
theorem T33 : tiOf prog 33 = some ⟨.ptr 63, 1, 8, false, [.nilp]⟩ := by kernel_rfl
theorem t33 : G.T 33 = some ⟨.ptr 63, 1, 8, false, [.nilp]⟩ := T33
theorem T34 : tiOf prog 34 = some ⟨.int .i64, 1, 8, false, [.int .i64 0]⟩ := by kernel_rfl
theorem t34 : G.T 34 = some ⟨.int .i64, 1, 8, false, [.int .i64 0]⟩ := T34
theorem T36 : tiOf prog 36 = some ⟨.func, 1, 8, false, [.nilf]⟩ := by kernel_rfl
theorem t36 : G.T 36 = some ⟨.func, 1, 8, false, [.nilf]⟩ := T36
theorem T37 : tiOf prog 37 = some ⟨.func, 1, 8, false, [.nilf]⟩ := by kernel_rfl
theorem t37 : G.T 37 = some ⟨.func, 1, 8, false, [.nilf]⟩ := T37
theorem T38 : tiOf prog 38 = some ⟨.flt .f64, 1, 8, false, [.flt .f64 0]⟩ := by kernel_rfl
theorem t38 : G.T 38 = some ⟨.flt .f64, 1, 8, false, [.flt .f64 0]⟩ := T38
theorem T39 : tiOf prog 39 = some ⟨.struct [(0, 3), (1, 2), (2, 38), (3, 9)], 4, 40, true, [.int .i64 0, .int .i64 0, .flt .f64 0, .str ByteArray.empty]⟩ := by kernel_rfl
theorem t39 : G.T 39 = some ⟨.struct [(0, 3), (1, 2), (2, 38), (3, 9)], 4, 40, true, [.int .i64 0, .int .i64 0, .flt .f64 0, .str ByteArray.empty]⟩ := T39
theorem T40 : tiOf prog 40 = some ⟨.struct [(0, 3), (1, 2), (2, 38), (3, 9)], 4, 40, true, [.int .i64 0, .int .i64 0, .flt .f64 0, .str ByteArray.empty]⟩ := by kernel_rfl
theorem t40 : G.T 40 = some ⟨.struct [(0, 3), (1, 2), (2, 38), (3, 9)], 4, 40, true, [.int .i64 0, .int .i64 0, .flt .f64 0, .str ByteArray.empty]⟩ := T40
theorem T42 : tiOf prog 42 = some ⟨.func, 1, 8, false, [.nilf]⟩ := by kernel_rfl
theorem t42 : G.T 42 = some ⟨.func, 1, 8, false, [.nilf]⟩ := T42
theorem T43 : tiOf prog 43 = some ⟨.func, 1, 8, false, [.nilf]⟩ := by kernel_rfl
theorem t43 : G.T 43 = some ⟨.func, 1, 8, false, [.nilf]⟩ := T43
theorem T44 : tiOf prog 44 = some ⟨.func, 1, 8, false, [.nilf]⟩ := by kernel_rfl
theorem t44 : G.T 44 = some ⟨.func, 1, 8, false, [.nilf]⟩ := T44
theorem T45 : tiOf prog 45 = some ⟨.func, 1, 8, false, [.nilf]⟩ := by kernel_rfl
theorem t45 : G.T 45 = some ⟨.func, 1, 8, false, [.nilf]⟩ := T45
theorem T46 : tiOf prog 46 = some ⟨.func, 1, 8, false, [.nilf]⟩ := by kernel_rfl
theorem t46 : G.T 46 = some ⟨.func, 1, 8, false, [.nilf]⟩ := T46
theorem T47 : tiOf prog 47 = some ⟨.func, 1, 8, false, [.nilf]⟩ := by kernel_rfl
theorem t47 : G.T 47 = some ⟨.func, 1, 8, false, [.nilf]⟩ := T47
theorem T48 : tiOf prog 48 = some ⟨.func, 1, 8, false, [.nilf]⟩ := by kernel_rfl
theorem t48 : G.T 48 = some ⟨.func, 1, 8, false, [.nilf]⟩ := T48
theorem T50 : tiOf prog 50 = some ⟨.func, 1, 8, false, [.nilf]⟩ := by kernel_rfl
theorem t50 : G.T 50 = some ⟨.func, 1, 8, false, [.nilf]⟩ := T50
theorem T51 : tiOf prog 51 = some ⟨.func, 1, 8, false, [.nilf]⟩ := by kernel_rfl
theorem t51 : G.T 51 = some ⟨.func, 1, 8, false, [.nilf]⟩ := T51
theorem T52 : tiOf prog 52 = some ⟨.func, 1, 8, false, [.nilf]⟩ := by kernel_rfl
theorem t52 : G.T 52 = some ⟨.func, 1, 8, false, [.nilf]⟩ := T52
theorem T53 : tiOf prog 53 = some ⟨.func, 1, 8, false, [.nilf]⟩ := by kernel_rfl
theorem t53 : G.T 53 = some ⟨.func, 1, 8, false, [.nilf]⟩ := T53
theorem T54 : tiOf prog 54 = some ⟨.func, 1, 8, false, [.nilf]⟩ := by kernel_rfl
theorem t54 : G.T 54 = some ⟨.func, 1, 8, false, [.nilf]⟩ := T54
theorem T55 : tiOf prog 55 = some ⟨.slice 31, 1, 24, false, [.nils]⟩ := by kernel_rfl
theorem t55 : G.T 55 = some ⟨.slice 31, 1, 24, false, [.nils]⟩ := T55
theorem T56 : tiOf prog 56 = some ⟨.func, 1, 8, false, [.nilf]⟩ := by kernel_rfl
theorem t56 : G.T 56 = some ⟨.func, 1, 8, false, [.nilf]⟩ := T56
theorem T57 : tiOf prog 57 = some ⟨.func, 1, 8, false, [.nilf]⟩ := by kernel_rfl
theorem t57 : G.T 57 = some ⟨.func, 1, 8, false, [.nilf]⟩ := T57
theorem T58 : tiOf prog 58 = some ⟨.func, 1, 8, false, [.nilf]⟩ := by kernel_rfl
theorem t58 : G.T 58 = some ⟨.func, 1, 8, false, [.nilf]⟩ := T58
theorem T59 : tiOf prog 59 = some ⟨.func, 1, 8, false, [.nilf]⟩ := by kernel_rfl
theorem t59 : G.T 59 = some ⟨.func, 1, 8, false, [.nilf]⟩ := T59
theorem T61 : tiOf prog 61 = some ⟨.func, 1, 8, false, [.nilf]⟩ := by kernel_rfl
theorem t61 : G.T 61 = some ⟨.func, 1, 8, false, [.nilf]⟩ := T61
theorem T62 : tiOf prog 62 = some ⟨.struct [(0, 3), (1, 3), (2, 31)], 3, 40, true, [.int .i64 0, .int .i64 0, .nils]⟩ := by kernel_rfl
theorem t62 : G.T 62 = some ⟨.struct [(0, 3), (1, 3), (2, 31)], 3, 40, true, [.int .i64 0, .int .i64 0, .nils]⟩ := T62
theorem T63 : tiOf prog 63 = some ⟨.struct [(0, 3), (1, 3), (2, 31)], 3, 40, true, [.int .i64 0, .int .i64 0, .nils]⟩ := by kernel_rfl
theorem t63 : G.T 63 = some ⟨.struct [(0, 3), (1, 3), (2, 31)], 3, 40, true, [.int .i64 0, .int .i64 0, .nils]⟩ := T63
theorem T64 : tiOf prog 64 = some ⟨.func, 1, 8, false, [.nilf]⟩ := by kernel_rfl
theorem t64 : G.T 64 = some ⟨.func, 1, 8, false, [.nilf]⟩ := T64
theorem T65 : tiOf prog 65 = some ⟨.func, 1, 8, false, [.nilf]⟩ := by kernel_rfl
theorem t65 : G.T 65 = some ⟨.func, 1, 8, false, [.nilf]⟩ := T65
theorem T66 : tiOf prog 66 = some ⟨.func, 1, 8, false, [.nilf]⟩ := by kernel_rfl
theorem t66 : G.T 66 = some ⟨.func, 1, 8, false, [.nilf]⟩ := T66
theorem T67 : tiOf prog 67 = some ⟨.int .u64, 1, 8, false, [.int .u64 0]⟩ := by kernel_rfl
theorem t67 : G.T 67 = some ⟨.int .u64, 1, 8, false, [.int .u64 0]⟩ := T67
theorem T68 : tiOf prog 68 = some ⟨.func, 1, 8, false, [.nilf]⟩ := by kernel_rfl
theorem t68 : G.T 68 = some ⟨.func, 1, 8, false, [.nilf]⟩ := T68
theorem T69 : tiOf prog 69 = some ⟨.func, 1, 8, false, [.nilf]⟩ := by kernel_rfl
theorem t69 : G.T 69 = some ⟨.func, 1, 8, false, [.nilf]⟩ := T69
theorem T70 : tiOf prog 70 = some ⟨.func, 1, 8, false, [.nilf]⟩ := by kernel_rfl
theorem t70 : G.T 70 = some ⟨.func, 1, 8, false, [.nilf]⟩ := T70
theorem T71 : tiOf prog 71 = some ⟨.func, 1, 8, false, [.nilf]⟩ := by kernel_rfl
theorem t71 : G.T 71 = some ⟨.func, 1, 8, false, [.nilf]⟩ := T71
theorem T72 : tiOf prog 72 = some ⟨.func, 1, 8, false, [.nilf]⟩ := by kernel_rfl
theorem t72 : G.T 72 = some ⟨.func, 1, 8, false, [.nilf]⟩ := T72
theorem T73 : tiOf prog 73 = some ⟨.func, 1, 8, false, [.nilf]⟩ := by kernel_rfl
theorem t73 : G.T 73 = some ⟨.func, 1, 8, false, [.nilf]⟩ := T73
theorem T74 : tiOf prog 74 = some ⟨.func, 1, 8, false, [.nilf]⟩ := by kernel_rfl
theorem t74 : G.T 74 = some ⟨.func, 1, 8, false, [.nilf]⟩ := T74
theorem T75 : tiOf prog 75 = some ⟨.func, 1, 8, false, [.nilf]⟩ := by kernel_rfl
theorem t75 : G.T 75 = some ⟨.func, 1, 8, false, [.nilf]⟩ := T75
theorem T76 : tiOf prog 76 = some ⟨.func, 1, 8, false, [.nilf]⟩ := by kernel_rfl
theorem t76 : G.T 76 = some ⟨.func, 1, 8, false, [.nilf]⟩ := T76
theorem T77 : tiOf prog 77 = some ⟨.func, 1, 8, false, [.nilf]⟩ := by kernel_rfl
theorem t77 : G.T 77 = some ⟨.func, 1, 8, false, [.nilf]⟩ := T77
theorem T78 : tiOf prog 78 = some ⟨.func, 1, 8, false, [.nilf]⟩ := by kernel_rfl
theorem t78 : G.T 78 = some ⟨.func, 1, 8, false, [.nilf]⟩ := T78
theorem T79 : tiOf prog 79 = some ⟨.func, 1, 8, false, [.nilf]⟩ := by kernel_rfl
theorem t79 : G.T 79 = some ⟨.func, 1, 8, false, [.nilf]⟩ := T79
theorem T80 : tiOf prog 80 = some ⟨.func, 1, 8, false, [.nilf]⟩ := by kernel_rfl
theorem t80 : G.T 80 = some ⟨.func, 1, 8, false, [.nilf]⟩ := T80
theorem T81 : tiOf prog 81 = some ⟨.ifc, 1, 16, false, [.nili]⟩ := by kernel_rfl
theorem t81 : G.T 81 = some ⟨.ifc, 1, 16, false, [.nili]⟩ := T81
theorem T82 : tiOf prog 82 = some ⟨.ifc, 1, 16, false, [.nili]⟩ := by kernel_rfl
theorem t82 : G.T 82 = some ⟨.ifc, 1, 16, false, [.nili]⟩ := T82
theorem T83 : tiOf prog 83 = some ⟨.func, 1, 8, false, [.nilf]⟩ := by kernel_rfl
theorem t83 : G.T 83 = some ⟨.func, 1, 8, false, [.nilf]⟩ := T83
theorem T84 : tiOf prog 84 = some ⟨.func, 1, 8, false, [.nilf]⟩ := by kernel_rfl
theorem t84 : G.T 84 = some ⟨.func, 1, 8, false, [.nilf]⟩ := T84
theorem T85 : tiOf prog 85 = some ⟨.func, 1, 8, false, [.nilf]⟩ := by kernel_rfl
theorem t85 : G.T 85 = some ⟨.func, 1, 8, false, [.nilf]⟩ := T85
theorem T86 : tiOf prog 86 = some ⟨.func, 1, 8, false, [.nilf]⟩ := by kernel_rfl
theorem t86 : G.T 86 = some ⟨.func, 1, 8, false, [.nilf]⟩ := T86
theorem T87 : tiOf prog 87 = some ⟨.func, 1, 8, false, [.nilf]⟩ := by kernel_rfl
theorem t87 : G.T 87 = some ⟨.func, 1, 8, false, [.nilf]⟩ := T87
theorem T88 : tiOf prog 88 = some ⟨.func, 1, 8, false, [.nilf]⟩ := by kernel_rfl
theorem t88 : G.T 88 = some ⟨.func, 1, 8, false, [.nilf]⟩ := T88
theorem T89 : tiOf prog 89 = some ⟨.int .i64, 1, 8, false, [.int .i64 0]⟩ := by kernel_rfl
theorem t89 : G.T 89 = some ⟨.int .i64, 1, 8, false, [.int .i64 0]⟩ := T89
theorem T91 : tiOf prog 91 = some ⟨.func, 1, 8, false, [.nilf]⟩ := by kernel_rfl
theorem t91 : G.T 91 = some ⟨.func, 1, 8, false, [.nilf]⟩ := T91
theorem T92 : tiOf prog 92 = some ⟨.func, 1, 8, false, [.nilf]⟩ := by kernel_rfl
theorem t92 : G.T 92 = some ⟨.func, 1, 8, false, [.nilf]⟩ := T92
theorem T93 : tiOf prog 93 = some ⟨.func, 1, 8, false, [.nilf]⟩ := by kernel_rfl
theorem t93 : G.T 93 = some ⟨.func, 1, 8, false, [.nilf]⟩ := T93
theorem T95 : tiOf prog 95 = some ⟨.func, 1, 8, false, [.nilf]⟩ := by kernel_rfl
theorem t95 : G.T 95 = some ⟨.func, 1, 8, false, [.nilf]⟩ := T95
theorem T96 : tiOf prog 96 = some ⟨.func, 1, 8, false, [.nilf]⟩ := by kernel_rfl
theorem t96 : G.T 96 = some ⟨.func, 1, 8, false, [.nilf]⟩ := T96
theorem T97 : tiOf prog 97 = some ⟨.int .u32, 1, 4, false, [.int .u32 0]⟩ := by kernel_rfl
theorem t97 : G.T 97 = some ⟨.int .u32, 1, 4, false, [.int .u32 0]⟩ := T97
theorem T98 : tiOf prog 98 = some ⟨.int .u64, 1, 8, false, [.int .u64 0]⟩ := by kernel_rfl
theorem t98 : G.T 98 = some ⟨.int .u64, 1, 8, false, [.int .u64 0]⟩ := T98
theorem T99 : tiOf prog 99 = some ⟨.func, 1, 8, false, [.nilf]⟩ := by kernel_rfl
theorem t99 : G.T 99 = some ⟨.func, 1, 8, false, [.nilf]⟩ := T99
theorem T100 : tiOf prog 100 = some ⟨.func, 1, 8, false, [.nilf]⟩ := by kernel_rfl
theorem t100 : G.T 100 = some ⟨.func, 1, 8, false, [.nilf]⟩ := T100
theorem T101 : tiOf prog 101 = some ⟨.func, 1, 8, false, [.nilf]⟩ := by kernel_rfl
theorem t101 : G.T 101 = some ⟨.func, 1, 8, false, [.nilf]⟩ := T101
theorem T102 : tiOf prog 102 = some ⟨.ptr 3, 1, 8, false, [.nilp]⟩ := by kernel_rfl
theorem t102 : G.T 102 = some ⟨.ptr 3, 1, 8, false, [.nilp]⟩ := T102
theorem T103 : tiOf prog 103 = some ⟨.func, 1, 8, false, [.nilf]⟩ := by kernel_rfl
theorem t103 : G.T 103 = some ⟨.func, 1, 8, false, [.nilf]⟩ := T103
theorem T104 : tiOf prog 104 = some ⟨.ptr 98, 1, 8, false, [.nilp]⟩ := by kernel_rfl
theorem t104 : G.T 104 = some ⟨.ptr 98, 1, 8, false, [.nilp]⟩ := T104
theorem T106 : tiOf prog 106 = some ⟨.func, 1, 8, false, [.nilf]⟩ := by kernel_rfl
theorem t106 : G.T 106 = some ⟨.func, 1, 8, false, [.nilf]⟩ := T106
theorem T107 : tiOf prog 107 = some ⟨.ptr 123, 1, 8, false, [.nilp]⟩ := by kernel_rfl
theorem t107 : G.T 107 = some ⟨.ptr 123, 1, 8, false, [.nilp]⟩ := T107
theorem T108 : tiOf prog 108 = some ⟨.func, 1, 8, false, [.nilf]⟩ := by kernel_rfl
theorem t108 : G.T 108 = some ⟨.func, 1, 8, false, [.nilf]⟩ := T108
theorem T109 : tiOf prog 109 = some ⟨.struct [(0, 17), (1, 17), (2, 17), (3, 9)], 4, 40, true, [.nilp, .nilp, .nilp, .str ByteArray.empty]⟩ := by kernel_rfl
theorem t109 : G.T 109 = some ⟨.struct [(0, 17), (1, 17), (2, 17), (3, 9)], 4, 40, true, [.nilp, .nilp, .nilp, .str ByteArray.empty]⟩ := T109
theorem T110 : tiOf prog 110 = some ⟨.struct [(0, 17), (1, 17), (2, 17), (3, 9)], 4, 40, true, [.nilp, .nilp, .nilp, .str ByteArray.empty]⟩ := by kernel_rfl
theorem t110 : G.T 110 = some ⟨.struct [(0, 17), (1, 17), (2, 17), (3, 9)], 4, 40, true, [.nilp, .nilp, .nilp, .str ByteArray.empty]⟩ := T110
theorem T111 : tiOf prog 111 = some ⟨.array 0 16, 0, 0, true, []⟩ := by kernel_rfl
theorem t111 : G.T 111 = some ⟨.array 0 16, 0, 0, true, []⟩ := T111
theorem T112 : tiOf prog 112 = some ⟨.struct [(0, 111)], 0, 0, true, []⟩ := by kernel_rfl
theorem t112 : G.T 112 = some ⟨.struct [(0, 111)], 0, 0, true, []⟩ := T112
theorem T113 : tiOf prog 113 = some ⟨.struct [(0, 111)], 0, 0, true, []⟩ := by kernel_rfl
theorem t113 : G.T 113 = some ⟨.struct [(0, 111)], 0, 0, true, []⟩ := T113
theorem T114 : tiOf prog 114 = some ⟨.int .u8, 1, 1, false, [.int .u8 0]⟩ := by kernel_rfl
theorem t114 : G.T 114 = some ⟨.int .u8, 1, 1, false, [.int .u8 0]⟩ := T114
theorem T115 : tiOf prog 115 = some ⟨.int .u8, 1, 1, false, [.int .u8 0]⟩ := by kernel_rfl
theorem t115 : G.T 115 = some ⟨.int .u8, 1, 1, false, [.int .u8 0]⟩ := T115
theorem T116 : tiOf prog 116 = some ⟨.func, 1, 8, false, [.nilf]⟩ := by kernel_rfl
theorem t116 : G.T 116 = some ⟨.func, 1, 8, false, [.nilf]⟩ := T116
theorem T117 : tiOf prog 117 = some ⟨.ptr 5, 1, 8, false, [.nilp]⟩ := by kernel_rfl
theorem t117 : G.T 117 = some ⟨.ptr 5, 1, 8, false, [.nilp]⟩ := T117
theorem T118 : tiOf prog 118 = some ⟨.int .i32, 1, 4, false, [.int .i32 0]⟩ := by kernel_rfl
theorem t118 : G.T 118 = some ⟨.int .i32, 1, 4, false, [.int .i32 0]⟩ := T118
theorem T119 : tiOf prog 119 = some ⟨.int .i32, 1, 4, false, [.int .i32 0]⟩ := by kernel_rfl
theorem t119 : G.T 119 = some ⟨.int .i32, 1, 4, false, [.int .i32 0]⟩ := T119
theorem T120 : tiOf prog 120 = some ⟨.struct [(0, 12), (1, 12), (2, 97), (3, 114), (4, 5), (5, 5), (6, 115), (7, 116), (8, 117), (9, 118), (10, 119)], 11, 48, true, [.int .u64 0, .int .u64 0, .int .u32 0, .int .u8 0, .int .u8 0, .int .u8 0, .int .u8 0, .nilf, .nilp, .int .i32 0, .int .i32 0]⟩ := by kernel_rfl
theorem t120 : G.T 120 = some ⟨.struct [(0, 12), (1, 12), (2, 97), (3, 114), (4, 5), (5, 5), (6, 115), (7, 116), (8, 117), (9, 118), (10, 119)], 11, 48, true, [.int .u64 0, .int .u64 0, .int .u32 0, .int .u8 0, .int .u8 0, .int .u8 0, .int .u8 0, .nilf, .nilp, .int .i32 0, .int .i32 0]⟩ := T120
theorem T121 : tiOf prog 121 = some ⟨.struct [(0, 12), (1, 12), (2, 97), (3, 114), (4, 5), (5, 5), (6, 115), (7, 116), (8, 117), (9, 118), (10, 119)], 11, 48, true, [.int .u64 0, .int .u64 0, .int .u32 0, .int .u8 0, .int .u8 0, .int .u8 0, .int .u8 0, .nilf, .nilp, .int .i32 0, .int .i32 0]⟩ := by kernel_rfl
theorem t121 : G.T 121 = some ⟨.struct [(0, 12), (1, 12), (2, 97), (3, 114), (4, 5), (5, 5), (6, 115), (7, 116), (8, 117), (9, 118), (10, 119)], 11, 48, true, [.int .u64 0, .int .u64 0, .int .u32 0, .int .u8 0, .int .u8 0, .int .u8 0, .int .u8 0, .nilf, .nilp, .int .i32 0, .int .i32 0]⟩ := T121
theorem T122 : tiOf prog 122 = some ⟨.struct [(0, 9)], 1, 16, true, [.str ByteArray.empty]⟩ := by kernel_rfl
theorem t122 : G.T 122 = some ⟨.struct [(0, 9)], 1, 16, true, [.str ByteArray.empty]⟩ := T122
theorem T123 : tiOf prog 123 = some ⟨.struct [(0, 9)], 1, 16, true, [.str ByteArray.empty]⟩ := by kernel_rfl
theorem t123 : G.T 123 = some ⟨.struct [(0, 9)], 1, 16, true, [.str ByteArray.empty]⟩ := T123
theorem T124 : tiOf prog 124 = some ⟨.scalar, 1, 8, false, [.nilp]⟩ := by kernel_rfl
theorem t124 : G.T 124 = some ⟨.scalar, 1, 8, false, [.nilp]⟩ := T124
theorem cl2 (C : CallF) (args : List AV) (look : Look) (nid : Nat) : aCall G C (.pv (.fn 2 [] [])) args look nid = callPure C 2 args look nid := (aCall_fn func2 (by kernel_rfl) (by kernel_rfl)).trans rfl
theorem cl3 (C : CallF) (args : List AV) (look : Look) (nid : Nat) : aCall G C (.pv (.fn 3 [] [])) args look nid = callPure C 3 args look nid := (aCall_fn func3 (by kernel_rfl) (by kernel_rfl)).trans rfl
theorem cl4 (C : CallF) (args : List AV) (look : Look) (nid : Nat) : aCall G C (.pv (.fn 4 [] [])) args look nid = callPure C 4 args look nid := (aCall_fn func4 (by kernel_rfl) (by kernel_rfl)).trans rfl
theorem cl5 (C : CallF) (args : List AV) (look : Look) (nid : Nat) : aCall G C (.pv (.fn 5 [] [])) args look nid = callPure C 5 args look nid := (aCall_fn func5 (by kernel_rfl) (by kernel_rfl)).trans rfl
theorem cl6 (C : CallF) (args : List AV) (look : Look) (nid : Nat) : aCall G C (.pv (.fn 6 [] [])) args look nid = callPure C 6 args look nid := (aCall_fn func6 (by kernel_rfl) (by kernel_rfl)).trans rfl
theorem cl7 (C : CallF) (args : List AV) (look : Look) (nid : Nat) : aCall G C (.pv (.fn 7 [] [])) args look nid = callPure C 7 args look nid := (aCall_fn func7 (by kernel_rfl) (by kernel_rfl)).trans rfl
theorem cl8 (C : CallF) (args : List AV) (look : Look) (nid : Nat) : aCall G C (.pv (.fn 8 [] [])) args look nid = callPure C 8 args look nid := (aCall_fn func8 (by kernel_rfl) (by kernel_rfl)).trans rfl
theorem cl9 (C : CallF) (args : List AV) (look : Look) (nid : Nat) : aCall G C (.pv (.fn 9 [] [])) args look nid = callPure C 9 args look nid := (aCall_fn func9 (by kernel_rfl) (by kernel_rfl)).trans rfl
theorem cl10 (C : CallF) (args : List AV) (look : Look) (nid : Nat) : aCall G C (.pv (.fn 10 [] [])) args look nid = callPure C 10 args look nid := (aCall_fn func10 (by kernel_rfl) (by kernel_rfl)).trans rfl
theorem cl11 (C : CallF) (args : List AV) (look : Look) (nid : Nat) : aCall G C (.pv (.fn 11 [] [])) args look nid = callPure C 11 args look nid := (aCall_fn func11 (by kernel_rfl) (by kernel_rfl)).trans rfl
theorem cl12 (C : CallF) (args : List AV) (look : Look) (nid : Nat) : aCall G C (.pv (.fn 12 [] [])) args look nid = callPure C 12 args look nid := (aCall_fn func12 (by kernel_rfl) (by kernel_rfl)).trans rfl
theorem cl13 (C : CallF) (args : List AV) (look : Look) (nid : Nat) : aCall G C (.pv (.fn 13 [] [])) args look nid = callPure C 13 args look nid := (aCall_fn func13 (by kernel_rfl) (by kernel_rfl)).trans rfl
theorem cl14 (C : CallF) (args : List AV) (look : Look) (nid : Nat) : aCall G C (.pv (.fn 14 [] [])) args look nid = callPure C 14 args look nid := (aCall_fn func14 (by kernel_rfl) (by kernel_rfl)).trans rfl
theorem cl15 (C : CallF) (args : List AV) (look : Look) (nid : Nat) : aCall G C (.pv (.fn 15 [] [])) args look nid = callPure C 15 args look nid := (aCall_fn func15 (by kernel_rfl) (by kernel_rfl)).trans rfl
theorem cl16 (C : CallF) (args : List AV) (look : Look) (nid : Nat) : aCall G C (.pv (.fn 16 [] [])) args look nid = callPure C 16 args look nid := (aCall_fn func16 (by kernel_rfl) (by kernel_rfl)).trans rfl
theorem cl17 (C : CallF) (args : List AV) (look : Look) (nid : Nat) : aCall G C (.pv (.fn 17 [] [])) args look nid = callPure C 17 args look nid := (aCall_fn func17 (by kernel_rfl) (by kernel_rfl)).trans rfl
theorem cl18 (C : CallF) (args : List AV) (look : Look) (nid : Nat) : aCall G C (.pv (.fn 18 [] [])) args look nid = callPure C 18 args look nid := (aCall_fn func18 (by kernel_rfl) (by kernel_rfl)).trans rfl
theorem cl19 (C : CallF) (args : List AV) (look : Look) (nid : Nat) : aCall G C (.pv (.fn 19 [] [])) args look nid = callRef C 19 args look nid := (aCall_fn func19 (by kernel_rfl) (by kernel_rfl)).trans rfl
theorem cl20 (C : CallF) (args : List AV) (look : Look) (nid : Nat) : aCall G C (.pv (.fn 20 [] [])) args look nid = callPure C 20 args look nid := (aCall_fn func20 (by kernel_rfl) (by kernel_rfl)).trans rfl
theorem cl21 (C : CallF) (args : List AV) (look : Look) (nid : Nat) : aCall G C (.pv (.fn 21 [] [])) args look nid = callPure C 21 args look nid := (aCall_fn func21 (by kernel_rfl) (by kernel_rfl)).trans rfl
theorem cl22 (C : CallF) (args : List AV) (look : Look) (nid : Nat) : aCall G C (.pv (.fn 22 [] [])) args look nid = callRef C 22 args look nid := (aCall_fn func22 (by kernel_rfl) (by kernel_rfl)).trans rfl
theorem cl23 (C : CallF) (args : List AV) (look : Look) (nid : Nat) : aCall G C (.pv (.fn 23 [] [])) args look nid = callPure C 23 args look nid := (aCall_fn func23 (by kernel_rfl) (by kernel_rfl)).trans rfl
theorem cl24 (C : CallF) (args : List AV) (look : Look) (nid : Nat) : aCall G C (.pv (.fn 24 [] [])) args look nid = callRef C 24 args look nid := (aCall_fn func24 (by kernel_rfl) (by kernel_rfl)).trans rfl
theorem cl25 (C : CallF) (args : List AV) (look : Look) (nid : Nat) : aCall G C (.pv (.fn 25 [] [])) args look nid = callPure C 25 args look nid := (aCall_fn func25 (by kernel_rfl) (by kernel_rfl)).trans rfl
theorem cl26 (C : CallF) (args : List AV) (look : Look) (nid : Nat) : aCall G C (.pv (.fn 26 [] [])) args look nid = callPure C 26 args look nid := (aCall_fn func26 (by kernel_rfl) (by kernel_rfl)).trans rfl
theorem cl27 (C : CallF) (args : List AV) (look : Look) (nid : Nat) : aCall G C (.pv (.fn 27 [] [])) args look nid = callPure C 27 args look nid := (aCall_fn func27 (by kernel_rfl) (by kernel_rfl)).trans rfl
theorem cl28 (C : CallF) (args : List AV) (look : Look) (nid : Nat) : aCall G C (.pv (.fn 28 [] [])) args look nid = callPure C 28 args look nid := (aCall_fn func28 (by kernel_rfl) (by kernel_rfl)).trans rfl
theorem cl29 (C : CallF) (args : List AV) (look : Look) (nid : Nat) : aCall G C (.pv (.fn 29 [] [])) args look nid = callPure C 29 args look nid := (aCall_fn func29 (by kernel_rfl) (by kernel_rfl)).trans rfl
theorem cl30 (C : CallF) (args : List AV) (look : Look) (nid : Nat) : aCall G C (.pv (.fn 30 [] [])) args look nid = callPure C 30 args look nid := (aCall_fn func30 (by kernel_rfl) (by kernel_rfl)).trans rfl
theorem cl31 (C : CallF) (args : List AV) (look : Look) (nid : Nat) : aCall G C (.pv (.fn 31 [] [])) args look nid = callPure C 31 args look nid := (aCall_fn func31 (by kernel_rfl) (by kernel_rfl)).trans rfl
theorem cl32 (C : CallF) (args : List AV) (look : Look) (nid : Nat) : aCall G C (.pv (.fn 32 [] [])) args look nid = callPure C 32 args look nid := (aCall_fn func32 (by kernel_rfl) (by kernel_rfl)).trans rfl
theorem cl33 (C : CallF) (args : List AV) (look : Look) (nid : Nat) : aCall G C (.pv (.fn 33 [] [])) args look nid = callPure C 33 args look nid := (aCall_fn func33 (by kernel_rfl) (by kernel_rfl)).trans rfl
theorem cl34 (C : CallF) (args : List AV) (look : Look) (nid : Nat) : aCall G C (.pv (.fn 34 [] [])) args look nid = callPure C 34 args look nid := (aCall_fn func34 (by kernel_rfl) (by kernel_rfl)).trans rfl
theorem cl35 (C : CallF) (args : List AV) (look : Look) (nid : Nat) : aCall G C (.pv (.fn 35 [] [])) args look nid = callPure C 35 args look nid := (aCall_fn func35 (by kernel_rfl) (by kernel_rfl)).trans rfl
theorem cl36 (C : CallF) (args : List AV) (look : Look) (nid : Nat) : aCall G C (.pv (.fn 36 [] [])) args look nid = callPure C 36 args look nid := (aCall_fn func36 (by kernel_rfl) (by kernel_rfl)).trans rfl
theorem cl37 (C : CallF) (args : List AV) (look : Look) (nid : Nat) : aCall G C (.pv (.fn 37 [] [])) args look nid = callPure C 37 args look nid := (aCall_fn func37 (by kernel_rfl) (by kernel_rfl)).trans rfl
theorem cl38 (C : CallF) (args : List AV) (look : Look) (nid : Nat) : aCall G C (.pv (.fn 38 [] [])) args look nid = callPure C 38 args look nid := (aCall_fn func38 (by kernel_rfl) (by kernel_rfl)).trans rfl
theorem cl39 (C : CallF) (args : List AV) (look : Look) (nid : Nat) : aCall G C (.pv (.fn 39 [] [])) args look nid = callPure C 39 args look nid := (aCall_fn func39 (by kernel_rfl) (by kernel_rfl)).trans rfl
theorem cl40 (C : CallF) (args : List AV) (look : Look) (nid : Nat) : aCall G C (.pv (.fn 40 [] [])) args look nid = callPure C 40 args look nid := (aCall_fn func40 (by kernel_rfl) (by kernel_rfl)).trans rfl
theorem cl41 (C : CallF) (args : List AV) (look : Look) (nid : Nat) : aCall G C (.pv (.fn 41 [] [])) args look nid = callPure C 41 args look nid := (aCall_fn func41 (by kernel_rfl) (by kernel_rfl)).trans rfl
theorem cl43 (C : CallF) (args : List AV) (look : Look) (nid : Nat) : aCall G C (.pv (.fn 43 [] [])) args look nid = callPure C 43 args look nid := (aCall_fn func43 (by kernel_rfl) (by kernel_rfl)).trans rfl
theorem cl44 (C : CallF) (args : List AV) (look : Look) (nid : Nat) : aCall G C (.pv (.fn 44 [] [])) args look nid = callPure C 44 args look nid := (aCall_fn func44 (by kernel_rfl) (by kernel_rfl)).trans rfl
theorem cl45 (C : CallF) (args : List AV) (look : Look) (nid : Nat) : aCall G C (.pv (.fn 45 [] [])) args look nid = callPure C 45 args look nid := (aCall_fn func45 (by kernel_rfl) (by kernel_rfl)).trans rfl
theorem cl46 (C : CallF) (args : List AV) (look : Look) (nid : Nat) : aCall G C (.pv (.fn 46 [] [])) args look nid = callPure C 46 args look nid := (aCall_fn func46 (by kernel_rfl) (by kernel_rfl)).trans rfl
theorem cl47 (C : CallF) (args : List AV) (look : Look) (nid : Nat) : aCall G C (.pv (.fn 47 [] [])) args look nid = callPure C 47 args look nid := (aCall_fn func47 (by kernel_rfl) (by kernel_rfl)).trans rfl
theorem cl48 (C : CallF) (args : List AV) (look : Look) (nid : Nat) : aCall G C (.pv (.fn 48 [] [])) args look nid = callPure C 48 args look nid := (aCall_fn func48 (by kernel_rfl) (by kernel_rfl)).trans rfl
theorem cl49 (C : CallF) (args : List AV) (look : Look) (nid : Nat) : aCall G C (.pv (.fn 49 [] [])) args look nid = callPure C 49 args look nid := (aCall_fn func49 (by kernel_rfl) (by kernel_rfl)).trans rfl
theorem cl50 (C : CallF) (args : List AV) (look : Look) (nid : Nat) : aCall G C (.pv (.fn 50 [] [])) args look nid = callPure C 50 args look nid := (aCall_fn func50 (by kernel_rfl) (by kernel_rfl)).trans rfl
theorem cl51 (C : CallF) (args : List AV) (look : Look) (nid : Nat) : aCall G C (.pv (.fn 51 [] [])) args look nid = callPure C 51 args look nid := (aCall_fn func51 (by kernel_rfl) (by kernel_rfl)).trans rfl
theorem cl52 (C : CallF) (args : List AV) (look : Look) (nid : Nat) : aCall G C (.pv (.fn 52 [] [])) args look nid = callPure C 52 args look nid := (aCall_fn func52 (by kernel_rfl) (by kernel_rfl)).trans rfl
theorem cl53 (C : CallF) (args : List AV) (look : Look) (nid : Nat) : aCall G C (.pv (.fn 53 [] [])) args look nid = callPure C 53 args look nid := (aCall_fn func53 (by kernel_rfl) (by kernel_rfl)).trans rfl
theorem cl54 (C : CallF) (args : List AV) (look : Look) (nid : Nat) : aCall G C (.pv (.fn 54 [] [])) args look nid = callPure C 54 args look nid := (aCall_fn func54 (by kernel_rfl) (by kernel_rfl)).trans rfl
theorem cl55 (C : CallF) (args : List AV) (look : Look) (nid : Nat) : aCall G C (.pv (.fn 55 [] [])) args look nid = callPure C 55 args look nid := (aCall_fn func55 (by kernel_rfl) (by kernel_rfl)).trans rfl
theorem cl56 (C : CallF) (args : List AV) (look : Look) (nid : Nat) : aCall G C (.pv (.fn 56 [] [])) args look nid = callPure C 56 args look nid := (aCall_fn func56 (by kernel_rfl) (by kernel_rfl)).trans rfl
theorem cl57 (C : CallF) (args : List AV) (look : Look) (nid : Nat) : aCall G C (.pv (.fn 57 [] [])) args look nid = callPure C 57 args look nid := (aCall_fn func57 (by kernel_rfl) (by kernel_rfl)).trans rfl
theorem cl58 (C : CallF) (args : List AV) (look : Look) (nid : Nat) : aCall G C (.pv (.fn 58 [] [])) args look nid = callPure C 58 args look nid := (aCall_fn func58 (by kernel_rfl) (by kernel_rfl)).trans rfl
theorem cl60 (C : CallF) (args : List AV) (look : Look) (nid : Nat) : aCall G C (.pv (.fn 60 [] [])) args look nid = callPure C 60 args look nid := (aCall_fn func60 (by kernel_rfl) (by kernel_rfl)).trans rfl
theorem cl61 (C : CallF) (args : List AV) (look : Look) (nid : Nat) : aCall G C (.pv (.fn 61 [] [])) args look nid = callPure C 61 args look nid := (aCall_fn func61 (by kernel_rfl) (by kernel_rfl)).trans rfl
theorem cl62 (C : CallF) (args : List AV) (look : Look) (nid : Nat) : aCall G C (.pv (.fn 62 [] [])) args look nid = callPure C 62 args look nid := (aCall_fn func62 (by kernel_rfl) (by kernel_rfl)).trans rfl
theorem cl63 (C : CallF) (args : List AV) (look : Look) (nid : Nat) : aCall G C (.pv (.fn 63 [] [])) args look nid = callPure C 63 args look nid := (aCall_fn func63 (by kernel_rfl) (by kernel_rfl)).trans rfl
theorem cl64 (C : CallF) (args : List AV) (look : Look) (nid : Nat) : aCall G C (.pv (.fn 64 [] [])) args look nid = callPure C 64 args look nid := (aCall_fn func64 (by kernel_rfl) (by kernel_rfl)).trans rfl
theorem cl65 (C : CallF) (args : List AV) (look : Look) (nid : Nat) : aCall G C (.pv (.fn 65 [] [])) args look nid = callPure C 65 args look nid := (aCall_fn func65 (by kernel_rfl) (by kernel_rfl)).trans rfl
theorem cl66 (C : CallF) (args : List AV) (look : Look) (nid : Nat) : aCall G C (.pv (.fn 66 [] [])) args look nid = callPure C 66 args look nid := (aCall_fn func66 (by kernel_rfl) (by kernel_rfl)).trans rfl
theorem cl67 (C : CallF) (args : List AV) (look : Look) (nid : Nat) : aCall G C (.pv (.fn 67 [] [])) args look nid = callPure C 67 args look nid := (aCall_fn func67 (by kernel_rfl) (by kernel_rfl)).trans rfl
theorem cl68 (C : CallF) (args : List AV) (look : Look) (nid : Nat) : aCall G C (.pv (.fn 68 [] [])) args look nid = callPure C 68 args look nid := (aCall_fn func68 (by kernel_rfl) (by kernel_rfl)).trans rfl
theorem cl70 (C : CallF) (args : List AV) (look : Look) (nid : Nat) : aCall G C (.pv (.fn 70 [] [])) args look nid = callPure C 70 args look nid := (aCall_fn func70 (by kernel_rfl) (by kernel_rfl)).trans rfl
theorem cl71 (C : CallF) (args : List AV) (look : Look) (nid : Nat) : aCall G C (.pv (.fn 71 [] [])) args look nid = callPure C 71 args look nid := (aCall_fn func71 (by kernel_rfl) (by kernel_rfl)).trans rfl
theorem cl72 (C : CallF) (args : List AV) (look : Look) (nid : Nat) : aCall G C (.pv (.fn 72 [] [])) args look nid = callPure C 72 args look nid := (aCall_fn func72 (by kernel_rfl) (by kernel_rfl)).trans rfl
theorem cl73 (C : CallF) (args : List AV) (look : Look) (nid : Nat) : aCall G C (.pv (.fn 73 [] [])) args look nid = callPure C 73 args look nid := (aCall_fn func73 (by kernel_rfl) (by kernel_rfl)).trans rfl
theorem cl74 (C : CallF) (args : List AV) (look : Look) (nid : Nat) : aCall G C (.pv (.fn 74 [] [])) args look nid = callPure C 74 args look nid := (aCall_fn func74 (by kernel_rfl) (by kernel_rfl)).trans rfl
theorem cl75 (C : CallF) (args : List AV) (look : Look) (nid : Nat) : aCall G C (.pv (.fn 75 [] [])) args look nid = callPure C 75 args look nid := (aCall_fn func75 (by kernel_rfl) (by kernel_rfl)).trans rfl
theorem cl76 (C : CallF) (args : List AV) (look : Look) (nid : Nat) : aCall G C (.pv (.fn 76 [] [])) args look nid = callPure C 76 args look nid := (aCall_fn func76 (by kernel_rfl) (by kernel_rfl)).trans rfl
theorem cl77 (C : CallF) (args : List AV) (look : Look) (nid : Nat) : aCall G C (.pv (.fn 77 [] [])) args look nid = callPure C 77 args look nid := (aCall_fn func77 (by kernel_rfl) (by kernel_rfl)).trans rfl
theorem cl78 (C : CallF) (args : List AV) (look : Look) (nid : Nat) : aCall G C (.pv (.fn 78 [] [])) args look nid = callPure C 78 args look nid := (aCall_fn func78 (by kernel_rfl) (by kernel_rfl)).trans rfl
theorem cl79 (C : CallF) (args : List AV) (look : Look) (nid : Nat) : aCall G C (.pv (.fn 79 [] [])) args look nid = callPure C 79 args look nid := (aCall_fn func79 (by kernel_rfl) (by kernel_rfl)).trans rfl
theorem cl80 (C : CallF) (args : List AV) (look : Look) (nid : Nat) : aCall G C (.pv (.fn 80 [] [])) args look nid = callPure C 80 args look nid := (aCall_fn func80 (by kernel_rfl) (by kernel_rfl)).trans rfl
theorem cl81 (C : CallF) (args : List AV) (look : Look) (nid : Nat) : aCall G C (.pv (.fn 81 [] [])) args look nid = callPure C 81 args look nid := (aCall_fn func81 (by kernel_rfl) (by kernel_rfl)).trans rfl
theorem cl82 (C : CallF) (args : List AV) (look : Look) (nid : Nat) : aCall G C (.pv (.fn 82 [] [])) args look nid = callPure C 82 args look nid := (aCall_fn func82 (by kernel_rfl) (by kernel_rfl)).trans rfl
theorem cl83 (C : CallF) (args : List AV) (look : Look) (nid : Nat) : aCall G C (.pv (.fn 83 [] [])) args look nid = callPure C 83 args look nid := (aCall_fn func83 (by kernel_rfl) (by kernel_rfl)).trans rfl
theorem cl84 (C : CallF) (args : List AV) (look : Look) (nid : Nat) : aCall G C (.pv (.fn 84 [] [])) args look nid = callPure C 84 args look nid := (aCall_fn func84 (by kernel_rfl) (by kernel_rfl)).trans rfl
theorem cl85 (C : CallF) (args : List AV) (look : Look) (nid : Nat) : aCall G C (.pv (.fn 85 [] [])) args look nid = callPure C 85 args look nid := (aCall_fn func85 (by kernel_rfl) (by kernel_rfl)).trans rfl
theorem cl86 (C : CallF) (args : List AV) (look : Look) (nid : Nat) : aCall G C (.pv (.fn 86 [] [])) args look nid = callPure C 86 args look nid := (aCall_fn func86 (by kernel_rfl) (by kernel_rfl)).trans rfl
theorem cl87 (C : CallF) (args : List AV) (look : Look) (nid : Nat) : aCall G C (.pv (.fn 87 [] [])) args look nid = callPure C 87 args look nid := (aCall_fn func87 (by kernel_rfl) (by kernel_rfl)).trans rfl
theorem cl88 (C : CallF) (args : List AV) (look : Look) (nid : Nat) : aCall G C (.pv (.fn 88 [] [])) args look nid = callPure C 88 args look nid := (aCall_fn func88 (by kernel_rfl) (by kernel_rfl)).trans rfl
theorem cl89 (C : CallF) (args : List AV) (look : Look) (nid : Nat) : aCall G C (.pv (.fn 89 [] [])) args look nid = callPure C 89 args look nid := (aCall_fn func89 (by kernel_rfl) (by kernel_rfl)).trans rfl
end Go.Ab.Ytnfgpejdbmakkaa
