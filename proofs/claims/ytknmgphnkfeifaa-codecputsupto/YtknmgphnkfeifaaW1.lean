import Derived.Test.YtknmgphnkfeifaaC1
import Derived.Test.YtknmgphnkfeifaaAbSim
import Derived.KernelRfl
namespace Go.Ab.Ytknmgphnkfeifaa
open Go Go.Ab
open Go.Proofs.Try
set_option maxRecDepth 100000
theorem GP : G.P = prog := rfl
theorem GT : G.T = tiOf prog := rfl
theorem GK : G.K = K := rfl
theorem GX : G.X = xOf prog := rfl
theorem GE : G.E = eOf prog := rfl
theorem T1 : tiOf prog 1 = some ⟨.func, 1, 8, false, [.nilf]⟩ := by kernel_rfl
theorem T2 : tiOf prog 2 = some ⟨.int .i64, 1, 8, false, [.int .i64 0]⟩ := by kernel_rfl
theorem T3 : tiOf prog 3 = some ⟨.int .i64, 1, 8, false, [.int .i64 0]⟩ := by kernel_rfl
theorem T4 : tiOf prog 4 = some ⟨.bool, 1, 1, false, [.bool false]⟩ := by kernel_rfl
theorem T5 : tiOf prog 5 = some ⟨.int .u8, 1, 1, false, [.int .u8 0]⟩ := by kernel_rfl
theorem T6 : tiOf prog 6 = some ⟨.int .u8, 1, 1, false, [.int .u8 0]⟩ := by kernel_rfl
theorem T7 : tiOf prog 7 = some ⟨.struct [(0, 2), (1, 3), (2, 4), (3, 6)], 4, 24, true, [.int .i64 0, .int .i64 0, .bool false, .int .u8 0]⟩ := by kernel_rfl
theorem T8 : tiOf prog 8 = some ⟨.struct [(0, 2), (1, 3), (2, 4), (3, 6)], 4, 24, true, [.int .i64 0, .int .i64 0, .bool false, .int .u8 0]⟩ := by kernel_rfl
theorem T9 : tiOf prog 9 = some ⟨.str, 1, 16, false, [.str ByteArray.empty]⟩ := by kernel_rfl
theorem T10 : tiOf prog 10 = some ⟨.str, 1, 16, false, [.str ByteArray.empty]⟩ := by kernel_rfl
theorem T11 : tiOf prog 11 = some ⟨.str, 1, 16, false, [.str ByteArray.empty]⟩ := by kernel_rfl
theorem T12 : tiOf prog 12 = some ⟨.int .u64, 1, 8, false, [.int .u64 0]⟩ := by kernel_rfl
theorem T13 : tiOf prog 13 = some ⟨.struct [(0, 9), (1, 12)], 2, 24, true, [.str ByteArray.empty, .int .u64 0]⟩ := by kernel_rfl
theorem T14 : tiOf prog 14 = some ⟨.struct [(0, 9), (1, 12)], 2, 24, true, [.str ByteArray.empty, .int .u64 0]⟩ := by kernel_rfl
theorem T15 : tiOf prog 15 = some ⟨.ptr 94, 1, 8, false, [.nilp]⟩ := by kernel_rfl
theorem T16 : tiOf prog 16 = some ⟨.ptr 97, 1, 8, false, [.nilp]⟩ := by kernel_rfl
theorem T17 : tiOf prog 17 = some ⟨.ptr 106, 1, 8, false, [.nilp]⟩ := by kernel_rfl
theorem T18 : tiOf prog 18 = some ⟨.struct [(0, 17)], 1, 8, true, [.nilp]⟩ := by kernel_rfl
theorem T19 : tiOf prog 19 = some ⟨.struct [(0, 17)], 1, 8, true, [.nilp]⟩ := by kernel_rfl
theorem T20 : tiOf prog 20 = some ⟨.ifc, 1, 16, false, [.nili]⟩ := by kernel_rfl
theorem T21 : tiOf prog 21 = some ⟨.int .i32, 1, 4, false, [.int .i32 0]⟩ := by kernel_rfl
theorem T22 : tiOf prog 22 = some ⟨.slice 72, 1, 24, false, [.nils]⟩ := by kernel_rfl
theorem T23 : tiOf prog 23 = some ⟨.struct [(0, 9), (1, 22)], 2, 40, true, [.str ByteArray.empty, .nils]⟩ := by kernel_rfl
theorem T24 : tiOf prog 24 = some ⟨.struct [(0, 9), (1, 22)], 2, 40, true, [.str ByteArray.empty, .nils]⟩ := by kernel_rfl
theorem T25 : tiOf prog 25 = some ⟨.slice 79, 1, 24, false, [.nils]⟩ := by kernel_rfl
theorem T26 : tiOf prog 26 = some ⟨.func, 1, 8, false, [.nilf]⟩ := by kernel_rfl
theorem T27 : tiOf prog 27 = some ⟨.func, 1, 8, false, [.nilf]⟩ := by kernel_rfl
theorem T28 : tiOf prog 28 = some ⟨.int .i64, 1, 8, false, [.int .i64 0]⟩ := by kernel_rfl
theorem T29 : tiOf prog 29 = some ⟨.func, 1, 8, false, [.nilf]⟩ := by kernel_rfl
theorem T30 : tiOf prog 30 = some ⟨.func, 1, 8, false, [.nilf]⟩ := by kernel_rfl
theorem T31 : tiOf prog 31 = some ⟨.func, 1, 8, false, [.nilf]⟩ := by kernel_rfl
theorem T32 : tiOf prog 32 = some ⟨.func, 1, 8, false, [.nilf]⟩ := by kernel_rfl
theorem T33 : tiOf prog 33 = some ⟨.func, 1, 8, false, [.nilf]⟩ := by kernel_rfl
theorem T34 : tiOf prog 34 = some ⟨.func, 1, 8, false, [.nilf]⟩ := by kernel_rfl
theorem T35 : tiOf prog 35 = some ⟨.slice 5, 1, 24, false, [.nils]⟩ := by kernel_rfl
theorem T36 : tiOf prog 36 = some ⟨.int .u64, 1, 8, false, [.int .u64 0]⟩ := by kernel_rfl
theorem T37 : tiOf prog 37 = some ⟨.flt .f64, 1, 8, false, [.flt .f64 0]⟩ := by kernel_rfl
theorem T38 : tiOf prog 38 = some ⟨.func, 1, 8, false, [.nilf]⟩ := by kernel_rfl
theorem T39 : tiOf prog 39 = some ⟨.func, 1, 8, false, [.nilf]⟩ := by kernel_rfl
theorem T40 : tiOf prog 40 = some ⟨.func, 1, 8, false, [.nilf]⟩ := by kernel_rfl
theorem T41 : tiOf prog 41 = some ⟨.func, 1, 8, false, [.nilf]⟩ := by kernel_rfl
theorem T42 : tiOf prog 42 = some ⟨.func, 1, 8, false, [.nilf]⟩ := by kernel_rfl
theorem T43 : tiOf prog 43 = some ⟨.func, 1, 8, false, [.nilf]⟩ := by kernel_rfl
theorem T44 : tiOf prog 44 = some ⟨.func, 1, 8, false, [.nilf]⟩ := by kernel_rfl
theorem T45 : tiOf prog 45 = some ⟨.func, 1, 8, false, [.nilf]⟩ := by kernel_rfl
theorem T46 : tiOf prog 46 = some ⟨.func, 1, 8, false, [.nilf]⟩ := by kernel_rfl
theorem T47 : tiOf prog 47 = some ⟨.func, 1, 8, false, [.nilf]⟩ := by kernel_rfl
theorem T48 : tiOf prog 48 = some ⟨.func, 1, 8, false, [.nilf]⟩ := by kernel_rfl
theorem T49 : tiOf prog 49 = some ⟨.ptr 61, 1, 8, false, [.nilp]⟩ := by kernel_rfl
theorem T50 : tiOf prog 50 = some ⟨.func, 1, 8, false, [.nilf]⟩ := by kernel_rfl
theorem T51 : tiOf prog 51 = some ⟨.func, 1, 8, false, [.nilf]⟩ := by kernel_rfl
theorem T52 : tiOf prog 52 = some ⟨.func, 1, 8, false, [.nilf]⟩ := by kernel_rfl
theorem T53 : tiOf prog 53 = some ⟨.func, 1, 8, false, [.nilf]⟩ := by kernel_rfl
theorem T54 : tiOf prog 54 = some ⟨.func, 1, 8, false, [.nilf]⟩ := by kernel_rfl
theorem T55 : tiOf prog 55 = some ⟨.func, 1, 8, false, [.nilf]⟩ := by kernel_rfl
theorem T56 : tiOf prog 56 = some ⟨.func, 1, 8, false, [.nilf]⟩ := by kernel_rfl
theorem T57 : tiOf prog 57 = some ⟨.func, 1, 8, false, [.nilf]⟩ := by kernel_rfl
theorem T58 : tiOf prog 58 = some ⟨.func, 1, 8, false, [.nilf]⟩ := by kernel_rfl
theorem T59 : tiOf prog 59 = some ⟨.func, 1, 8, false, [.nilf]⟩ := by kernel_rfl
theorem T60 : tiOf prog 60 = some ⟨.struct [(0, 4), (1, 35), (2, 28)], 3, 40, true, [.bool false, .nils, .int .i64 0]⟩ := by kernel_rfl
theorem T61 : tiOf prog 61 = some ⟨.struct [(0, 4), (1, 35), (2, 28)], 3, 40, true, [.bool false, .nils, .int .i64 0]⟩ := by kernel_rfl
theorem T62 : tiOf prog 62 = some ⟨.slice 49, 1, 24, false, [.nils]⟩ := by kernel_rfl
theorem T63 : tiOf prog 63 = some ⟨.func, 1, 8, false, [.nilf]⟩ := by kernel_rfl
theorem T64 : tiOf prog 64 = some ⟨.func, 1, 8, false, [.nilf]⟩ := by kernel_rfl
theorem T65 : tiOf prog 65 = some ⟨.func, 1, 8, false, [.nilf]⟩ := by kernel_rfl
theorem T66 : tiOf prog 66 = some ⟨.func, 1, 8, false, [.nilf]⟩ := by kernel_rfl
theorem T68 : tiOf prog 68 = some ⟨.func, 1, 8, false, [.nilf]⟩ := by kernel_rfl
theorem T69 : tiOf prog 69 = some ⟨.func, 1, 8, false, [.nilf]⟩ := by kernel_rfl
theorem T70 : tiOf prog 70 = some ⟨.func, 1, 8, false, [.nilf]⟩ := by kernel_rfl
theorem T71 : tiOf prog 71 = some ⟨.struct [(0, 9), (1, 3)], 2, 24, true, [.str ByteArray.empty, .int .i64 0]⟩ := by kernel_rfl
theorem T72 : tiOf prog 72 = some ⟨.struct [(0, 9), (1, 3)], 2, 24, true, [.str ByteArray.empty, .int .i64 0]⟩ := by kernel_rfl
theorem T73 : tiOf prog 73 = some ⟨.func, 1, 8, false, [.nilf]⟩ := by kernel_rfl
theorem T74 : tiOf prog 74 = some ⟨.map 9 4, 1, 8, false, [.nilm]⟩ := by kernel_rfl
theorem T75 : tiOf prog 75 = some ⟨.func, 1, 8, false, [.nilf]⟩ := by kernel_rfl
theorem T76 : tiOf prog 76 = some ⟨.func, 1, 8, false, [.nilf]⟩ := by kernel_rfl
theorem T77 : tiOf prog 77 = some ⟨.func, 1, 8, false, [.nilf]⟩ := by kernel_rfl
theorem T78 : tiOf prog 78 = some ⟨.struct [(0, 3), (1, 2), (2, 37), (3, 9)], 4, 40, true, [.int .i64 0, .int .i64 0, .flt .f64 0, .str ByteArray.empty]⟩ := by kernel_rfl
theorem T79 : tiOf prog 79 = some ⟨.struct [(0, 3), (1, 2), (2, 37), (3, 9)], 4, 40, true, [.int .i64 0, .int .i64 0, .flt .f64 0, .str ByteArray.empty]⟩ := by kernel_rfl
theorem T80 : tiOf prog 80 = some ⟨.func, 1, 8, false, [.nilf]⟩ := by kernel_rfl
theorem T81 : tiOf prog 81 = some ⟨.int .u64, 1, 8, false, [.int .u64 0]⟩ := by kernel_rfl
theorem T82 : tiOf prog 82 = some ⟨.func, 1, 8, false, [.nilf]⟩ := by kernel_rfl
theorem T84 : tiOf prog 84 = some ⟨.func, 1, 8, false, [.nilf]⟩ := by kernel_rfl
theorem T85 : tiOf prog 85 = some ⟨.func, 1, 8, false, [.nilf]⟩ := by kernel_rfl
theorem T87 : tiOf prog 87 = some ⟨.func, 1, 8, false, [.nilf]⟩ := by kernel_rfl
theorem T88 : tiOf prog 88 = some ⟨.func, 1, 8, false, [.nilf]⟩ := by kernel_rfl
theorem T89 : tiOf prog 89 = some ⟨.func, 1, 8, false, [.nilf]⟩ := by kernel_rfl
theorem T90 : tiOf prog 90 = some ⟨.func, 1, 8, false, [.nilf]⟩ := by kernel_rfl
theorem T91 : tiOf prog 91 = some ⟨.func, 1, 8, false, [.nilf]⟩ := by kernel_rfl
theorem T92 : tiOf prog 92 = some ⟨.func, 1, 8, false, [.nilf]⟩ := by kernel_rfl
theorem T93 : tiOf prog 93 = some ⟨.struct [(0, 17), (1, 17), (2, 17), (3, 9)], 4, 40, true, [.nilp, .nilp, .nilp, .str ByteArray.empty]⟩ := by kernel_rfl
theorem T94 : tiOf prog 94 = some ⟨.struct [(0, 17), (1, 17), (2, 17), (3, 9)], 4, 40, true, [.nilp, .nilp, .nilp, .str ByteArray.empty]⟩ := by kernel_rfl
theorem T95 : tiOf prog 95 = some ⟨.array 0 16, 0, 0, true, []⟩ := by kernel_rfl
theorem T96 : tiOf prog 96 = some ⟨.struct [(0, 95)], 0, 0, true, []⟩ := by kernel_rfl
theorem T97 : tiOf prog 97 = some ⟨.struct [(0, 95)], 0, 0, true, []⟩ := by kernel_rfl
theorem T98 : tiOf prog 98 = some ⟨.int .u32, 1, 4, false, [.int .u32 0]⟩ := by kernel_rfl
theorem T99 : tiOf prog 99 = some ⟨.int .u8, 1, 1, false, [.int .u8 0]⟩ := by kernel_rfl
theorem T100 : tiOf prog 100 = some ⟨.int .u8, 1, 1, false, [.int .u8 0]⟩ := by kernel_rfl
theorem T101 : tiOf prog 101 = some ⟨.func, 1, 8, false, [.nilf]⟩ := by kernel_rfl
theorem T102 : tiOf prog 102 = some ⟨.ptr 5, 1, 8, false, [.nilp]⟩ := by kernel_rfl
theorem T103 : tiOf prog 103 = some ⟨.int .i32, 1, 4, false, [.int .i32 0]⟩ := by kernel_rfl
theorem T104 : tiOf prog 104 = some ⟨.int .i32, 1, 4, false, [.int .i32 0]⟩ := by kernel_rfl
theorem T105 : tiOf prog 105 = some ⟨.struct [(0, 12), (1, 12), (2, 98), (3, 99), (4, 5), (5, 5), (6, 100), (7, 101), (8, 102), (9, 103), (10, 104)], 11, 48, true, [.int .u64 0, .int .u64 0, .int .u32 0, .int .u8 0, .int .u8 0, .int .u8 0, .int .u8 0, .nilf, .nilp, .int .i32 0, .int .i32 0]⟩ := by kernel_rfl
theorem T106 : tiOf prog 106 = some ⟨.struct [(0, 12), (1, 12), (2, 98), (3, 99), (4, 5), (5, 5), (6, 100), (7, 101), (8, 102), (9, 103), (10, 104)], 11, 48, true, [.int .u64 0, .int .u64 0, .int .u32 0, .int .u8 0, .int .u8 0, .int .u8 0, .int .u8 0, .nilf, .nilp, .int .i32 0, .int .i32 0]⟩ := by kernel_rfl
theorem T107 : tiOf prog 107 = some ⟨.scalar, 1, 8, false, [.nilp]⟩ := by kernel_rfl
theorem cl2 (C : CallF) (args : List AV) (look : Look) (nid : Nat) : aCall G C (.pv (.fn 2 [] [])) args look nid = callPure C 2 args look nid := (aCall_fn func2 (by kernel_rfl) (by kernel_rfl)).trans rfl
theorem cl3 (C : CallF) (args : List AV) (look : Look) (nid : Nat) : aCall G C (.pv (.fn 3 [] [])) args look nid = callPure C 3 args look nid := (aCall_fn func3 (by kernel_rfl) (by kernel_rfl)).trans rfl
theorem cl4 (C : CallF) (args : List AV) (look : Look) (nid : Nat) : aCall G C (.pv (.fn 4 [] [])) args look nid = callPure C 4 args look nid := (aCall_fn func4 (by kernel_rfl) (by kernel_rfl)).trans rfl
theorem cl5 (C : CallF) (args : List AV) (look : Look) (nid : Nat) : aCall G C (.pv (.fn 5 [] [])) args look nid = callPure C 5 args look nid := (aCall_fn func5 (by kernel_rfl) (by kernel_rfl)).trans rfl
theorem cl6 (C : CallF) (args : List AV) (look : Look) (nid : Nat) : aCall G C (.pv (.fn 6 [] [])) args look nid = callPure C 6 args look nid := (aCall_fn func6 (by kernel_rfl) (by kernel_rfl)).trans rfl
theorem cl7 (C : CallF) (args : List AV) (look : Look) (nid : Nat) : aCall G C (.pv (.fn 7 [] [])) args look nid = callPure C 7 args look nid := (aCall_fn func7 (by kernel_rfl) (by kernel_rfl)).trans rfl
theorem cl8 (C : CallF) (args : List AV) (look : Look) (nid : Nat) : aCall G C (.pv (.fn 8 [] [])) args look nid = callPure C 8 args look nid := (aCall_fn func8 (by kernel_rfl) (by kernel_rfl)).trans rfl
theorem cl9 (C : CallF) (args : List AV) (look : Look) (nid : Nat) : aCall G C (.pv (.fn 9 [] [])) args look nid = callPure C 9 args look nid := (aCall_fn func9 (by kernel_rfl) (by kernel_rfl)).trans rfl
theorem cl10 (C : CallF) (args : List AV) (look : Look) (nid : Nat) : aCall G C (.pv (.fn 10 [] [])) args look nid = callPure C 10 args look nid := (aCall_fn func10 (by kernel_rfl) (by kernel_rfl)).trans rfl
theorem cl11 (C : CallF) (args : List AV) (look : Look) (nid : Nat) : aCall G C (.pv (.fn 11 [] [])) args look nid = callPure C 11 args look nid := (aCall_fn func11 (by kernel_rfl) (by kernel_rfl)).trans rfl
theorem cl12 (C : CallF) (args : List AV) (look : Look) (nid : Nat) : aCall G C (.pv (.fn 12 [] [])) args look nid = callPure C 12 args look nid := (aCall_fn func12 (by kernel_rfl) (by kernel_rfl)).trans rfl
theorem cl13 (C : CallF) (args : List AV) (look : Look) (nid : Nat) : aCall G C (.pv (.fn 13 [] [])) args look nid = callPure C 13 args look nid := (aCall_fn func13 (by kernel_rfl) (by kernel_rfl)).trans rfl
theorem cl14 (C : CallF) (args : List AV) (look : Look) (nid : Nat) : aCall G C (.pv (.fn 14 [] [])) args look nid = callPure C 14 args look nid := (aCall_fn func14 (by kernel_rfl) (by kernel_rfl)).trans rfl
theorem cl15 (C : CallF) (args : List AV) (look : Look) (nid : Nat) : aCall G C (.pv (.fn 15 [] [])) args look nid = callPure C 15 args look nid := (aCall_fn func15 (by kernel_rfl) (by kernel_rfl)).trans rfl
theorem cl16 (C : CallF) (args : List AV) (look : Look) (nid : Nat) : aCall G C (.pv (.fn 16 [] [])) args look nid = callPure C 16 args look nid := (aCall_fn func16 (by kernel_rfl) (by kernel_rfl)).trans rfl
theorem cl17 (C : CallF) (args : List AV) (look : Look) (nid : Nat) : aCall G C (.pv (.fn 17 [] [])) args look nid = callPure C 17 args look nid := (aCall_fn func17 (by kernel_rfl) (by kernel_rfl)).trans rfl
theorem cl18 (C : CallF) (args : List AV) (look : Look) (nid : Nat) : aCall G C (.pv (.fn 18 [] [])) args look nid = callPure C 18 args look nid := (aCall_fn func18 (by kernel_rfl) (by kernel_rfl)).trans rfl
theorem cl19 (C : CallF) (args : List AV) (look : Look) (nid : Nat) : aCall G C (.pv (.fn 19 [] [])) args look nid = callPure C 19 args look nid := (aCall_fn func19 (by kernel_rfl) (by kernel_rfl)).trans rfl
theorem cl20 (C : CallF) (args : List AV) (look : Look) (nid : Nat) : aCall G C (.pv (.fn 20 [] [])) args look nid = callPure C 20 args look nid := (aCall_fn func20 (by kernel_rfl) (by kernel_rfl)).trans rfl
theorem cl21 (C : CallF) (args : List AV) (look : Look) (nid : Nat) : aCall G C (.pv (.fn 21 [] [])) args look nid = callRef C 21 args look nid := (aCall_fn func21 (by kernel_rfl) (by kernel_rfl)).trans rfl
theorem cl22 (C : CallF) (args : List AV) (look : Look) (nid : Nat) : aCall G C (.pv (.fn 22 [] [])) args look nid = callPure C 22 args look nid := (aCall_fn func22 (by kernel_rfl) (by kernel_rfl)).trans rfl
theorem cl23 (C : CallF) (args : List AV) (look : Look) (nid : Nat) : aCall G C (.pv (.fn 23 [] [])) args look nid = callRef C 23 args look nid := (aCall_fn func23 (by kernel_rfl) (by kernel_rfl)).trans rfl
theorem cl24 (C : CallF) (args : List AV) (look : Look) (nid : Nat) : aCall G C (.pv (.fn 24 [] [])) args look nid = callPure C 24 args look nid := (aCall_fn func24 (by kernel_rfl) (by kernel_rfl)).trans rfl
theorem cl25 (C : CallF) (args : List AV) (look : Look) (nid : Nat) : aCall G C (.pv (.fn 25 [] [])) args look nid = callRef C 25 args look nid := (aCall_fn func25 (by kernel_rfl) (by kernel_rfl)).trans rfl
theorem cl26 (C : CallF) (args : List AV) (look : Look) (nid : Nat) : aCall G C (.pv (.fn 26 [] [])) args look nid = callPure C 26 args look nid := (aCall_fn func26 (by kernel_rfl) (by kernel_rfl)).trans rfl
theorem cl27 (C : CallF) (args : List AV) (look : Look) (nid : Nat) : aCall G C (.pv (.fn 27 [] [])) args look nid = callRef C 27 args look nid := (aCall_fn func27 (by kernel_rfl) (by kernel_rfl)).trans rfl
theorem cl28 (C : CallF) (args : List AV) (look : Look) (nid : Nat) : aCall G C (.pv (.fn 28 [] [])) args look nid = callPure C 28 args look nid := (aCall_fn func28 (by kernel_rfl) (by kernel_rfl)).trans rfl
theorem cl29 (C : CallF) (args : List AV) (look : Look) (nid : Nat) : aCall G C (.pv (.fn 29 [] [])) args look nid = callRef C 29 args look nid := (aCall_fn func29 (by kernel_rfl) (by kernel_rfl)).trans rfl
theorem cl30 (C : CallF) (args : List AV) (look : Look) (nid : Nat) : aCall G C (.pv (.fn 30 [] [])) args look nid = callPure C 30 args look nid := (aCall_fn func30 (by kernel_rfl) (by kernel_rfl)).trans rfl
theorem cl31 (C : CallF) (args : List AV) (look : Look) (nid : Nat) : aCall G C (.pv (.fn 31 [] [])) args look nid = callPure C 31 args look nid := (aCall_fn func31 (by kernel_rfl) (by kernel_rfl)).trans rfl
theorem cl32 (C : CallF) (args : List AV) (look : Look) (nid : Nat) : aCall G C (.pv (.fn 32 [] [])) args look nid = callPure C 32 args look nid := (aCall_fn func32 (by kernel_rfl) (by kernel_rfl)).trans rfl
theorem cl33 (C : CallF) (args : List AV) (look : Look) (nid : Nat) : aCall G C (.pv (.fn 33 [] [])) args look nid = callRef C 33 args look nid := (aCall_fn func33 (by kernel_rfl) (by kernel_rfl)).trans rfl
theorem cl34 (C : CallF) (args : List AV) (look : Look) (nid : Nat) : aCall G C (.pv (.fn 34 [] [])) args look nid = callRef C 34 args look nid := (aCall_fn func34 (by kernel_rfl) (by kernel_rfl)).trans rfl
theorem cl35 (C : CallF) (args : List AV) (look : Look) (nid : Nat) : aCall G C (.pv (.fn 35 [] [])) args look nid = callRef C 35 args look nid := (aCall_fn func35 (by kernel_rfl) (by kernel_rfl)).trans rfl
theorem cl36 (C : CallF) (args : List AV) (look : Look) (nid : Nat) : aCall G C (.pv (.fn 36 [] [])) args look nid = callRef C 36 args look nid := (aCall_fn func36 (by kernel_rfl) (by kernel_rfl)).trans rfl
theorem cl37 (C : CallF) (args : List AV) (look : Look) (nid : Nat) : aCall G C (.pv (.fn 37 [] [])) args look nid = callRef C 37 args look nid := (aCall_fn func37 (by kernel_rfl) (by kernel_rfl)).trans rfl
theorem cl38 (C : CallF) (args : List AV) (look : Look) (nid : Nat) : aCall G C (.pv (.fn 38 [] [])) args look nid = callRef C 38 args look nid := (aCall_fn func38 (by kernel_rfl) (by kernel_rfl)).trans rfl
theorem cl39 (C : CallF) (args : List AV) (look : Look) (nid : Nat) : aCall G C (.pv (.fn 39 [] [])) args look nid = callRef C 39 args look nid := (aCall_fn func39 (by kernel_rfl) (by kernel_rfl)).trans rfl
theorem cl40 (C : CallF) (args : List AV) (look : Look) (nid : Nat) : aCall G C (.pv (.fn 40 [] [])) args look nid = callRef C 40 args look nid := (aCall_fn func40 (by kernel_rfl) (by kernel_rfl)).trans rfl
theorem cl41 (C : CallF) (args : List AV) (look : Look) (nid : Nat) : aCall G C (.pv (.fn 41 [] [])) args look nid = callRef C 41 args look nid := (aCall_fn func41 (by kernel_rfl) (by kernel_rfl)).trans rfl
theorem cl42 (C : CallF) (args : List AV) (look : Look) (nid : Nat) : aCall G C (.pv (.fn 42 [] [])) args look nid = callPure C 42 args look nid := (aCall_fn func42 (by kernel_rfl) (by kernel_rfl)).trans rfl
theorem cl43 (C : CallF) (args : List AV) (look : Look) (nid : Nat) : aCall G C (.pv (.fn 43 [] [])) args look nid = callRef C 43 args look nid := (aCall_fn func43 (by kernel_rfl) (by kernel_rfl)).trans rfl
theorem cl44 (C : CallF) (args : List AV) (look : Look) (nid : Nat) : aCall G C (.pv (.fn 44 [] [])) args look nid = callPure C 44 args look nid := (aCall_fn func44 (by kernel_rfl) (by kernel_rfl)).trans rfl
theorem cl45 (C : CallF) (args : List AV) (look : Look) (nid : Nat) : aCall G C (.pv (.fn 45 [] [])) args look nid = callRef C 45 args look nid := (aCall_fn func45 (by kernel_rfl) (by kernel_rfl)).trans rfl
theorem cl46 (C : CallF) (args : List AV) (look : Look) (nid : Nat) : aCall G C (.pv (.fn 46 [] [])) args look nid = callPure C 46 args look nid := (aCall_fn func46 (by kernel_rfl) (by kernel_rfl)).trans rfl
theorem cl47 (C : CallF) (args : List AV) (look : Look) (nid : Nat) : aCall G C (.pv (.fn 47 [] [])) args look nid = callPure C 47 args look nid := (aCall_fn func47 (by kernel_rfl) (by kernel_rfl)).trans rfl
theorem cl48 (C : CallF) (args : List AV) (look : Look) (nid : Nat) : aCall G C (.pv (.fn 48 [] [])) args look nid = callPure C 48 args look nid := (aCall_fn func48 (by kernel_rfl) (by kernel_rfl)).trans rfl
theorem cl49 (C : CallF) (args : List AV) (look : Look) (nid : Nat) : aCall G C (.pv (.fn 49 [] [])) args look nid = callPure C 49 args look nid := (aCall_fn func49 (by kernel_rfl) (by kernel_rfl)).trans rfl
theorem cl50 (C : CallF) (args : List AV) (look : Look) (nid : Nat) : aCall G C (.pv (.fn 50 [] [])) args look nid = callPure C 50 args look nid := (aCall_fn func50 (by kernel_rfl) (by kernel_rfl)).trans rfl
theorem cl51 (C : CallF) (args : List AV) (look : Look) (nid : Nat) : aCall G C (.pv (.fn 51 [] [])) args look nid = callPure C 51 args look nid := (aCall_fn func51 (by kernel_rfl) (by kernel_rfl)).trans rfl
theorem cl52 (C : CallF) (args : List AV) (look : Look) (nid : Nat) : aCall G C (.pv (.fn 52 [] [])) args look nid = callRef C 52 args look nid := (aCall_fn func52 (by kernel_rfl) (by kernel_rfl)).trans rfl
theorem cl53 (C : CallF) (args : List AV) (look : Look) (nid : Nat) : aCall G C (.pv (.fn 53 [] [])) args look nid = callRef C 53 args look nid := (aCall_fn func53 (by kernel_rfl) (by kernel_rfl)).trans rfl
theorem cl54 (C : CallF) (args : List AV) (look : Look) (nid : Nat) : aCall G C (.pv (.fn 54 [] [])) args look nid = callRef C 54 args look nid := (aCall_fn func54 (by kernel_rfl) (by kernel_rfl)).trans rfl
theorem cl55 (C : CallF) (args : List AV) (look : Look) (nid : Nat) : aCall G C (.pv (.fn 55 [] [])) args look nid = callRef C 55 args look nid := (aCall_fn func55 (by kernel_rfl) (by kernel_rfl)).trans rfl
theorem cl58 (C : CallF) (args : List AV) (look : Look) (nid : Nat) : aCall G C (.pv (.fn 58 [] [])) args look nid = callPure C 58 args look nid := (aCall_fn func58 (by kernel_rfl) (by kernel_rfl)).trans rfl
theorem cl59 (C : CallF) (args : List AV) (look : Look) (nid : Nat) : aCall G C (.pv (.fn 59 [] [])) args look nid = callPure C 59 args look nid := (aCall_fn func59 (by kernel_rfl) (by kernel_rfl)).trans rfl
theorem cl60 (C : CallF) (args : List AV) (look : Look) (nid : Nat) : aCall G C (.pv (.fn 60 [] [])) args look nid = callPure C 60 args look nid := (aCall_fn func60 (by kernel_rfl) (by kernel_rfl)).trans rfl
theorem cl61 (C : CallF) (args : List AV) (look : Look) (nid : Nat) : aCall G C (.pv (.fn 61 [] [])) args look nid = callPure C 61 args look nid := (aCall_fn func61 (by kernel_rfl) (by kernel_rfl)).trans rfl
theorem cl62 (C : CallF) (args : List AV) (look : Look) (nid : Nat) : aCall G C (.pv (.fn 62 [] [])) args look nid = callPure C 62 args look nid := (aCall_fn func62 (by kernel_rfl) (by kernel_rfl)).trans rfl
theorem cl63 (C : CallF) (args : List AV) (look : Look) (nid : Nat) : aCall G C (.pv (.fn 63 [] [])) args look nid = callPure C 63 args look nid := (aCall_fn func63 (by kernel_rfl) (by kernel_rfl)).trans rfl
end Go.Ab.Ytknmgphnkfeifaa
