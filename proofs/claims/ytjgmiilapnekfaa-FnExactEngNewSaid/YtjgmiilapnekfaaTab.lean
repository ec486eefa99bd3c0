/- The seat's types and functions, as the evaluator takes them. No condition. -/
import Derived.Test.YtjgmiilapnekfaaEvYb
import Derived.Test.YtjgmiilapnekfaaProg
namespace Go.Proofs.Ytjgmiilapnekfaa.Ev
open Go Go.Proofs
set_option linter.unusedVariables false
set_option maxRecDepth 100000
def tys : List TI := [⟨.other, [], 0⟩,
  ⟨.other, [], 0⟩,
  ⟨.int .i64, [.int .i64], 8⟩,
  ⟨.int .i64, [.int .i64], 8⟩,
  ⟨.bool, [.bool], 1⟩,
  ⟨.int .u8, [.int .u8], 1⟩,
  ⟨.int .u8, [.int .u8], 1⟩,
  ⟨.struct [(0, 2), (1, 3), (2, 4), (3, 6)], [.int .i64, .int .i64, .bool, .int .u8], 24⟩,
  ⟨.struct [(0, 2), (1, 3), (2, 4), (3, 6)], [.int .i64, .int .i64, .bool, .int .u8], 24⟩,
  ⟨.str, [.str], 16⟩,
  ⟨.str, [.str], 16⟩,
  ⟨.str, [.str], 16⟩,
  ⟨.int .u64, [.int .u64], 8⟩,
  ⟨.struct [(0, 9), (1, 12)], [.str, .int .u64], 24⟩,
  ⟨.struct [(0, 9), (1, 12)], [.str, .int .u64], 24⟩,
  ⟨.ptr 110, [.ptr 110], 8⟩,
  ⟨.ptr 113, [.ptr 113], 8⟩,
  ⟨.ptr 123, [.ptr 123], 8⟩,
  ⟨.struct [(0, 17)], [.ptr 123], 8⟩,
  ⟨.struct [(0, 17)], [.ptr 123], 8⟩,
  ⟨.other, [], 0⟩,
  ⟨.int .i32, [.int .i32], 4⟩,
  ⟨.struct [(0, 3), (1, 3)], [.int .i64, .int .i64], 16⟩,
  ⟨.struct [(0, 3), (1, 3)], [.int .i64, .int .i64], 16⟩,
  ⟨.struct [(0, 3), (1, 3)], [.int .i64, .int .i64], 16⟩,
  ⟨.slice 57, [.row 57], 24⟩,
  ⟨.slice 99, [.row 99], 24⟩,
  ⟨.struct [(0, 3), (1, 24), (3, 25), (4, 3), (5, 3), (6, 3), (7, 3), (8, 3), (9, 26), (10, 3), (11, 4), (12, 4)], [.int .i64, .int .i64, .int .i64, .row 57, .int .i64, .int .i64, .int .i64, .int .i64, .int .i64, .row 99, .int .i64, .bool, .bool], 128⟩,
  ⟨.struct [(0, 3), (1, 24), (3, 25), (4, 3), (5, 3), (6, 3), (7, 3), (8, 3), (9, 26), (10, 3), (11, 4), (12, 4)], [.int .i64, .int .i64, .int .i64, .row 57, .int .i64, .int .i64, .int .i64, .int .i64, .int .i64, .row 99, .int .i64, .bool, .bool], 128⟩,
  ⟨.slice 74, [.row 74], 24⟩,
  ⟨.slice 77, [.row 77], 24⟩,
  ⟨.slice 80, [.row 80], 24⟩,
  ⟨.slice 83, [.row 83], 24⟩,
  ⟨.struct [(0, 28), (13, 29), (14, 30), (15, 31), (16, 32)], [.int .i64, .int .i64, .int .i64, .row 57, .int .i64, .int .i64, .int .i64, .int .i64, .int .i64, .row 99, .int .i64, .bool, .bool, .row 74, .row 77, .row 80, .row 83], 224⟩,
  ⟨.struct [(0, 28), (13, 29), (14, 30), (15, 31), (16, 32)], [.int .i64, .int .i64, .int .i64, .row 57, .int .i64, .int .i64, .int .i64, .int .i64, .int .i64, .row 99, .int .i64, .bool, .bool, .row 74, .row 77, .row 80, .row 83], 224⟩,
  ⟨.other, [], 0⟩,
  ⟨.other, [], 0⟩,
  ⟨.other, [], 0⟩,
  ⟨.other, [], 0⟩,
  ⟨.other, [], 0⟩,
  ⟨.other, [], 0⟩,
  ⟨.other, [], 0⟩,
  ⟨.other, [], 0⟩,
  ⟨.other, [], 0⟩,
  ⟨.other, [], 0⟩,
  ⟨.other, [], 0⟩,
  ⟨.other, [], 0⟩,
  ⟨.other, [], 0⟩,
  ⟨.other, [], 0⟩,
  ⟨.other, [], 0⟩,
  ⟨.other, [], 0⟩,
  ⟨.other, [], 0⟩,
  ⟨.other, [], 0⟩,
  ⟨.slice 55, [.row 55], 24⟩,
  ⟨.slice 93, [.row 93], 24⟩,
  ⟨.slice 3, [.row 3], 24⟩,
  ⟨.struct [(0, 53), (1, 54), (2, 4), (3, 55)], [.row 55, .row 93, .bool, .row 3], 80⟩,
  ⟨.struct [(0, 53), (1, 54), (2, 4), (3, 55)], [.row 55, .row 93, .bool, .row 3], 80⟩,
  ⟨.other, [], 0⟩,
  ⟨.other, [], 0⟩,
  ⟨.other, [], 0⟩,
  ⟨.struct [(0, 3), (1, 3), (2, 3), (3, 3), (4, 3), (5, 3), (6, 3), (7, 3)], [.int .i64, .int .i64, .int .i64, .int .i64, .int .i64, .int .i64, .int .i64, .int .i64], 64⟩,
  ⟨.struct [(0, 3), (1, 3), (2, 3), (3, 3), (4, 3), (5, 3), (6, 3), (7, 3)], [.int .i64, .int .i64, .int .i64, .int .i64, .int .i64, .int .i64, .int .i64, .int .i64], 64⟩,
  ⟨.other, [], 0⟩,
  ⟨.other, [], 0⟩,
  ⟨.other, [], 0⟩,
  ⟨.other, [], 0⟩,
  ⟨.other, [], 0⟩,
  ⟨.other, [], 0⟩,
  ⟨.other, [], 0⟩,
  ⟨.other, [], 0⟩,
  ⟨.other, [], 0⟩,
  ⟨.other, [], 0⟩,
  ⟨.struct [(0, 3), (1, 3), (2, 3), (3, 3), (4, 55)], [.int .i64, .int .i64, .int .i64, .int .i64, .row 3], 56⟩,
  ⟨.struct [(0, 3), (1, 3), (2, 3), (3, 3), (4, 55)], [.int .i64, .int .i64, .int .i64, .int .i64, .row 3], 56⟩,
  ⟨.other, [], 0⟩,
  ⟨.struct [(0, 74), (5, 3), (6, 55), (7, 3)], [.int .i64, .int .i64, .int .i64, .int .i64, .row 3, .int .i64, .row 3, .int .i64], 96⟩,
  ⟨.struct [(0, 74), (5, 3), (6, 55), (7, 3)], [.int .i64, .int .i64, .int .i64, .int .i64, .row 3, .int .i64, .row 3, .int .i64], 96⟩,
  ⟨.other, [], 0⟩,
  ⟨.struct [(0, 3), (1, 3), (2, 55)], [.int .i64, .int .i64, .row 3], 40⟩,
  ⟨.struct [(0, 3), (1, 3), (2, 55)], [.int .i64, .int .i64, .row 3], 40⟩,
  ⟨.other, [], 0⟩,
  ⟨.struct [(0, 74), (5, 80)], [.int .i64, .int .i64, .int .i64, .int .i64, .row 3, .int .i64, .int .i64, .row 3], 96⟩,
  ⟨.struct [(0, 74), (5, 80)], [.int .i64, .int .i64, .int .i64, .int .i64, .row 3, .int .i64, .int .i64, .row 3], 96⟩,
  ⟨.other, [], 0⟩,
  ⟨.other, [], 0⟩,
  ⟨.other, [], 0⟩,
  ⟨.other, [], 0⟩,
  ⟨.other, [], 0⟩,
  ⟨.other, [], 0⟩,
  ⟨.other, [], 0⟩,
  ⟨.other, [], 0⟩,
  ⟨.struct [(0, 3), (1, 55)], [.int .i64, .row 3], 32⟩,
  ⟨.struct [(0, 3), (1, 55)], [.int .i64, .row 3], 32⟩,
  ⟨.other, [], 0⟩,
  ⟨.other, [], 0⟩,
  ⟨.other, [], 0⟩,
  ⟨.other, [], 0⟩,
  ⟨.struct [(0, 3), (1, 55)], [.int .i64, .row 3], 32⟩,
  ⟨.struct [(0, 3), (1, 55)], [.int .i64, .row 3], 32⟩,
  ⟨.other, [], 0⟩,
  ⟨.other, [], 0⟩,
  ⟨.other, [], 0⟩,
  ⟨.other, [], 0⟩,
  ⟨.other, [], 0⟩,
  ⟨.other, [], 0⟩,
  ⟨.other, [], 0⟩,
  ⟨.other, [], 0⟩,
  ⟨.other, [], 0⟩,
  ⟨.struct [(0, 17), (1, 17), (2, 17), (3, 9)], [.ptr 123, .ptr 123, .ptr 123, .str], 40⟩,
  ⟨.struct [(0, 17), (1, 17), (2, 17), (3, 9)], [.ptr 123, .ptr 123, .ptr 123, .str], 40⟩,
  ⟨.other, [], 0⟩,
  ⟨.other, [], 0⟩,
  ⟨.other, [], 0⟩,
  ⟨.other, [], 0⟩,
  ⟨.int .u32, [.int .u32], 4⟩,
  ⟨.int .u8, [.int .u8], 1⟩,
  ⟨.int .u8, [.int .u8], 1⟩,
  ⟨.other, [], 0⟩,
  ⟨.ptr 5, [.ptr 5], 8⟩,
  ⟨.int .i32, [.int .i32], 4⟩,
  ⟨.int .i32, [.int .i32], 4⟩,
  ⟨.other, [], 0⟩,
  ⟨.other, [], 0⟩,
  ⟨.other, [], 0⟩]
namespace N
abbrev laws_FnExactEngNew : Nat := 3
abbrev spec_EngNew : Nat := 4
abbrev laws_toGeo : Nat := 5
abbrev impl_EngNew : Nat := 6
abbrev laws_eqEng : Nat := 7
abbrev laws_markEng : Nat := 8
abbrev laws_heldEng : Nat := 9
abbrev spec_ArrNew : Nat := 10
abbrev impl_ArrNew : Nat := 11
abbrev laws_eqArr : Nat := 12
abbrev laws_eqCmdS : Nat := 13
abbrev laws_eqJobS : Nat := 14
abbrev laws_eqAnsS : Nat := 15
abbrev laws_eqTurnS : Nat := 16
abbrev laws_markArr : Nat := 17
abbrev laws_markCmdS : Nat := 18
abbrev laws_markJobS : Nat := 19
abbrev laws_markAnsS : Nat := 20
abbrev laws_markTurnS : Nat := 21
abbrev laws_heldArr : Nat := 22
abbrev laws_heldCmdS : Nat := 23
abbrev laws_heldJobS : Nat := 24
abbrev laws_heldAnsS : Nat := 25
abbrev laws_heldTurnS : Nat := 26
abbrev spec_GeoOk : Nat := 27
abbrev spec_l1In : Nat := 28
abbrev spec_MemNew : Nat := 29
abbrev spec_l6Secs : Nat := 30
abbrev spec_PutSuper : Nat := 31
abbrev spec_DataAt : Nat := 32
abbrev impl_GeoOk : Nat := 33
abbrev impl_within : Nat := 34
abbrev impl_WriteSuper : Nat := 35
abbrev impl_MemNew : Nat := 36
abbrev impl_sectors : Nat := 37
abbrev impl_superOf : Nat := 38
abbrev impl_WriteSec : Nat := 39
abbrev impl_DataAt : Nat := 40
abbrev impl_FlushMem : Nat := 41
abbrev laws_eqGeo : Nat := 42
abbrev laws_eqMemS : Nat := 43
abbrev laws_eqEntS : Nat := 44
abbrev laws_eqCmd : Nat := 45
abbrev laws_eqJob : Nat := 46
abbrev laws_eqAns : Nat := 47
abbrev laws_eqTurn : Nat := 48
abbrev laws_markMemS : Nat := 49
abbrev laws_markEntS : Nat := 50
abbrev laws_markIntS : Nat := 51
abbrev laws_heldMemS : Nat := 52
abbrev laws_heldEntS : Nat := 53
abbrev laws_heldIntS : Nat := 54
abbrev spec_SuperOk : Nat := 55
abbrev impl_SuperOk : Nat := 56
abbrev impl_copyMem : Nat := 57
abbrev impl_PutSuper : Nat := 58
abbrev impl_MemOk : Nat := 59
abbrev impl_hasSec : Nat := 60
abbrev impl_SecOk : Nat := 61
abbrev impl_copyInts : Nat := 62
abbrev slices_DeleteFunc_int_int : Nat := 63
abbrev impl_WriteSec_1 : Nat := 64
abbrev laws_eqMem : Nat := 65
abbrev laws_eqEnt : Nat := 66
abbrev laws_eqIntS : Nat := 67
abbrev laws_markIntSS : Nat := 68
abbrev laws_markWrS : Nat := 69
abbrev laws_heldIntSS : Nat := 70
abbrev laws_heldWrS : Nat := 71
abbrev impl_lostOk : Nat := 72
abbrev impl_wordsOk : Nat := 73
abbrev slices_IndexFunc_int_int : Nat := 74
abbrev laws_eqIntSS : Nat := 75
abbrev laws_eqWrS : Nat := 76
abbrev impl_isWord : Nat := 77
abbrev laws_eqWr : Nat := 78
end N
namespace TN
abbrev Int64 : Nat := 2
abbrev Int : Nat := 3
abbrev Bool : Nat := 4
abbrev Uint8 : Nat := 5
abbrev String : Nat := 9
abbrev Uintptr : Nat := 12
abbrev Int32 : Nat := 21
abbrev laws_Geo : Nat := 23
abbrev impl_Geo : Nat := 24
abbrev impl_MemS : Nat := 25
abbrev impl_EntS : Nat := 26
abbrev impl_Arr : Nat := 28
abbrev impl_CmdS : Nat := 29
abbrev impl_JobS : Nat := 30
abbrev impl_AnsS : Nat := 31
abbrev impl_TurnS : Nat := 32
abbrev impl_Eng : Nat := 34
abbrev IntSS : Nat := 53
abbrev impl_WrS : Nat := 54
abbrev IntS : Nat := 55
abbrev impl_Mem : Nat := 57
abbrev impl_Super : Nat := 62
abbrev impl_Cmd : Nat := 74
abbrev impl_Job : Nat := 77
abbrev impl_Ans : Nat := 80
abbrev impl_Turn : Nat := 83
abbrev impl_Wr : Nat := 93
abbrev impl_Ent : Nat := 99
abbrev Uint32 : Nat := 115
end TN
noncomputable def fnTab : Tr Func := (.node (.node (.node (.node (.node (.node (.node .nil 3 Try.f3 .nil) 4 Try.f4 .nil) 5 Try.f5 (.node .nil 6 Try.f6 .nil)) 7 Try.f7 (.node (.node (.node .nil 8 Try.f8 .nil) 9 Try.f9 .nil) 10 Try.f10 (.node .nil 11 Try.f11 .nil))) 12 Try.f12 (.node (.node (.node (.node .nil 13 Try.f13 .nil) 14 Try.f14 .nil) 15 Try.f15 (.node .nil 16 Try.f16 .nil)) 17 Try.f17 (.node (.node (.node .nil 18 Try.f18 .nil) 19 Try.f19 .nil) 20 Try.f20 (.node .nil 21 Try.f21 .nil)))) 22 Try.f22 (.node (.node (.node (.node (.node .nil 23 Try.f23 .nil) 24 Try.f24 .nil) 25 Try.f25 (.node .nil 26 Try.f26 .nil)) 27 Try.f27 (.node (.node (.node .nil 28 Try.f28 .nil) 29 Try.f29 .nil) 30 Try.f30 (.node .nil 31 Try.f31 .nil))) 32 Try.f32 (.node (.node (.node (.node .nil 33 Try.f33 .nil) 34 Try.f34 .nil) 35 Try.f35 (.node .nil 36 Try.f36 .nil)) 37 Try.f37 (.node (.node .nil 38 Try.f38 .nil) 39 Try.f39 (.node .nil 40 Try.f40 .nil))))) 41 Try.f41 (.node (.node (.node (.node (.node (.node .nil 42 Try.f42 .nil) 43 Try.f43 .nil) 44 Try.f44 (.node .nil 45 Try.f45 .nil)) 46 Try.f46 (.node (.node (.node .nil 47 Try.f47 .nil) 48 Try.f48 .nil) 49 Try.f49 (.node .nil 50 Try.f50 .nil))) 51 Try.f51 (.node (.node (.node (.node .nil 52 Try.f52 .nil) 53 Try.f53 .nil) 54 Try.f54 (.node .nil 55 Try.f55 .nil)) 56 Try.f56 (.node (.node .nil 57 Try.f57 .nil) 58 Try.f58 (.node .nil 59 Try.f59 .nil)))) 60 Try.f60 (.node (.node (.node (.node (.node .nil 61 Try.f61 .nil) 62 Try.f62 .nil) 63 Try.f63 (.node .nil 64 Try.f64 .nil)) 65 Try.f65 (.node (.node (.node .nil 66 Try.f66 .nil) 67 Try.f67 .nil) 68 Try.f68 (.node .nil 69 Try.f69 .nil))) 70 Try.f70 (.node (.node (.node (.node .nil 71 Try.f71 .nil) 72 Try.f72 .nil) 73 Try.f73 (.node .nil 74 Try.f74 .nil)) 75 Try.f75 (.node (.node .nil 76 Try.f76 .nil) 77 Try.f77 (.node .nil 78 Try.f78 .nil))))))
def sigTab : Tr Sig := (.node (.node (.node (.node (.node .nil 4 ⟨[], [false, false, false, true, false, false, false, false, false, true, false, false, false, true, true, true, true], [], false⟩ .nil) 6 ⟨[], [false, false, false, true, false, false, false, false, false, true, false, false, false, true, true, true, true, false, false, false, true, false, false, false, false, false, true, false, false, false, true, true, true, true], [], true⟩ (.node .nil 8 ⟨[[false, false, false, true, false, false, false, false, false, true, false, false, false, true, true, true, true, false, false, false, true, false, false, false, false, false, true, false, false, false, true, true, true, true, true], [false]], [], [], true⟩ .nil)) 10 ⟨[], [false, false, false, true, false, false, false, false, false, true, false, false, false], [], false⟩ (.node (.node .nil 11 ⟨[], [false, false, false, true, false, false, false, false, false, true, false, false, false, false, false, false, true, false, false, false, false, false, true, false, false, false], [], true⟩ .nil) 17 ⟨[[false, false, false, true, false, false, false, false, false, true, false, false, false, false, false, false, true, false, false, false, false, false, true, false, false, false, true], [false]], [], [], true⟩ .nil)) 18 ⟨[[true, true], [false]], [], [], true⟩ (.node (.node (.node .nil 19 ⟨[[true, true], [false]], [], [], true⟩ .nil) 20 ⟨[[true, true], [false]], [], [], true⟩ (.node .nil 21 ⟨[[true, true], [false]], [], [], true⟩ .nil)) 29 ⟨[], [true, true, false, true], [], false⟩ (.node (.node .nil 31 ⟨[], [true], [], false⟩ .nil) 35 ⟨[], [true, true, false, true], [], false⟩ .nil))) 36 ⟨[], [true, true, false, true], [], false⟩ (.node (.node (.node (.node .nil 39 ⟨[], [true, true, false, true, false], [], false⟩ .nil) 41 ⟨[], [true, true, false, true, true, true, false, false], [], true⟩ (.node .nil 49 ⟨[[true, true], [false]], [], [], true⟩ .nil)) 50 ⟨[[true, true], [false]], [], [], true⟩ (.node (.node .nil 51 ⟨[[false, true], [false]], [], [], false⟩ .nil) 57 ⟨[], [true, true, false, true, true, true, false, false], [], true⟩ .nil)) 58 ⟨[], [true], [], false⟩ (.node (.node (.node .nil 62 ⟨[], [true], [], false⟩ .nil) 63 ⟨[[true], []], [true], [], false⟩ .nil) 64 ⟨[], [], [3], false⟩ (.node (.node .nil 68 ⟨[[true, true], [false]], [], [], true⟩ .nil) 69 ⟨[[true, true], [false]], [], [], true⟩ .nil))))
noncomputable def E : Env := { tys := tys, fn := fnTab.get, sig := sigOf sigTab, gl := [], del := [] }
def P0 : FuncId → Option (List Arg → Option Outs) := fun _ => none
theorem tabOk_ : tabOk Try.prog E = true := by kernel_rfl
theorem orders_ : Try.prog.follows .mixedOrders = true := by kernel_rfl
theorem allF_ : AllF Try.prog fnTab := ⟨⟨Try.func41, by kernel_rfl, by kernel_rfl⟩, ⟨⟨Try.func22, by kernel_rfl, by kernel_rfl⟩, ⟨⟨Try.func12, by kernel_rfl, by kernel_rfl⟩, ⟨⟨Try.func7, by kernel_rfl, by kernel_rfl⟩, ⟨⟨Try.func5, by kernel_rfl, by kernel_rfl⟩, ⟨⟨Try.func4, by kernel_rfl, by kernel_rfl⟩, ⟨⟨Try.func3, by kernel_rfl, by kernel_rfl⟩, trivial, trivial⟩, trivial⟩, ⟨⟨Try.func6, by kernel_rfl, by kernel_rfl⟩, trivial, trivial⟩⟩, ⟨⟨Try.func10, by kernel_rfl, by kernel_rfl⟩, ⟨⟨Try.func9, by kernel_rfl, by kernel_rfl⟩, ⟨⟨Try.func8, by kernel_rfl, by kernel_rfl⟩, trivial, trivial⟩, trivial⟩, ⟨⟨Try.func11, by kernel_rfl, by kernel_rfl⟩, trivial, trivial⟩⟩⟩, ⟨⟨Try.func17, by kernel_rfl, by kernel_rfl⟩, ⟨⟨Try.func15, by kernel_rfl, by kernel_rfl⟩, ⟨⟨Try.func14, by kernel_rfl, by kernel_rfl⟩, ⟨⟨Try.func13, by kernel_rfl, by kernel_rfl⟩, trivial, trivial⟩, trivial⟩, ⟨⟨Try.func16, by kernel_rfl, by kernel_rfl⟩, trivial, trivial⟩⟩, ⟨⟨Try.func20, by kernel_rfl, by kernel_rfl⟩, ⟨⟨Try.func19, by kernel_rfl, by kernel_rfl⟩, ⟨⟨Try.func18, by kernel_rfl, by kernel_rfl⟩, trivial, trivial⟩, trivial⟩, ⟨⟨Try.func21, by kernel_rfl, by kernel_rfl⟩, trivial, trivial⟩⟩⟩⟩, ⟨⟨Try.func32, by kernel_rfl, by kernel_rfl⟩, ⟨⟨Try.func27, by kernel_rfl, by kernel_rfl⟩, ⟨⟨Try.func25, by kernel_rfl, by kernel_rfl⟩, ⟨⟨Try.func24, by kernel_rfl, by kernel_rfl⟩, ⟨⟨Try.func23, by kernel_rfl, by kernel_rfl⟩, trivial, trivial⟩, trivial⟩, ⟨⟨Try.func26, by kernel_rfl, by kernel_rfl⟩, trivial, trivial⟩⟩, ⟨⟨Try.func30, by kernel_rfl, by kernel_rfl⟩, ⟨⟨Try.func29, by kernel_rfl, by kernel_rfl⟩, ⟨⟨Try.func28, by kernel_rfl, by kernel_rfl⟩, trivial, trivial⟩, trivial⟩, ⟨⟨Try.func31, by kernel_rfl, by kernel_rfl⟩, trivial, trivial⟩⟩⟩, ⟨⟨Try.func37, by kernel_rfl, by kernel_rfl⟩, ⟨⟨Try.func35, by kernel_rfl, by kernel_rfl⟩, ⟨⟨Try.func34, by kernel_rfl, by kernel_rfl⟩, ⟨⟨Try.func33, by kernel_rfl, by kernel_rfl⟩, trivial, trivial⟩, trivial⟩, ⟨⟨Try.func36, by kernel_rfl, by kernel_rfl⟩, trivial, trivial⟩⟩, ⟨⟨Try.func39, by kernel_rfl, by kernel_rfl⟩, ⟨⟨Try.func38, by kernel_rfl, by kernel_rfl⟩, trivial, trivial⟩, ⟨⟨Try.func40, by kernel_rfl, by kernel_rfl⟩, trivial, trivial⟩⟩⟩⟩⟩, ⟨⟨Try.func60, by kernel_rfl, by kernel_rfl⟩, ⟨⟨Try.func51, by kernel_rfl, by kernel_rfl⟩, ⟨⟨Try.func46, by kernel_rfl, by kernel_rfl⟩, ⟨⟨Try.func44, by kernel_rfl, by kernel_rfl⟩, ⟨⟨Try.func43, by kernel_rfl, by kernel_rfl⟩, ⟨⟨Try.func42, by kernel_rfl, by kernel_rfl⟩, trivial, trivial⟩, trivial⟩, ⟨⟨Try.func45, by kernel_rfl, by kernel_rfl⟩, trivial, trivial⟩⟩, ⟨⟨Try.func49, by kernel_rfl, by kernel_rfl⟩, ⟨⟨Try.func48, by kernel_rfl, by kernel_rfl⟩, ⟨⟨Try.func47, by kernel_rfl, by kernel_rfl⟩, trivial, trivial⟩, trivial⟩, ⟨⟨Try.func50, by kernel_rfl, by kernel_rfl⟩, trivial, trivial⟩⟩⟩, ⟨⟨Try.func56, by kernel_rfl, by kernel_rfl⟩, ⟨⟨Try.func54, by kernel_rfl, by kernel_rfl⟩, ⟨⟨Try.func53, by kernel_rfl, by kernel_rfl⟩, ⟨⟨Try.func52, by kernel_rfl, by kernel_rfl⟩, trivial, trivial⟩, trivial⟩, ⟨⟨Try.func55, by kernel_rfl, by kernel_rfl⟩, trivial, trivial⟩⟩, ⟨⟨Try.func58, by kernel_rfl, by kernel_rfl⟩, ⟨⟨Try.func57, by kernel_rfl, by kernel_rfl⟩, trivial, trivial⟩, ⟨⟨Try.func59, by kernel_rfl, by kernel_rfl⟩, trivial, trivial⟩⟩⟩⟩, ⟨⟨Try.func70, by kernel_rfl, by kernel_rfl⟩, ⟨⟨Try.func65, by kernel_rfl, by kernel_rfl⟩, ⟨⟨Try.func63, by kernel_rfl, by kernel_rfl⟩, ⟨⟨Try.func62, by kernel_rfl, by kernel_rfl⟩, ⟨⟨Try.func61, by kernel_rfl, by kernel_rfl⟩, trivial, trivial⟩, trivial⟩, ⟨⟨Try.func64, by kernel_rfl, by kernel_rfl⟩, trivial, trivial⟩⟩, ⟨⟨Try.func68, by kernel_rfl, by kernel_rfl⟩, ⟨⟨Try.func67, by kernel_rfl, by kernel_rfl⟩, ⟨⟨Try.func66, by kernel_rfl, by kernel_rfl⟩, trivial, trivial⟩, trivial⟩, ⟨⟨Try.func69, by kernel_rfl, by kernel_rfl⟩, trivial, trivial⟩⟩⟩, ⟨⟨Try.func75, by kernel_rfl, by kernel_rfl⟩, ⟨⟨Try.func73, by kernel_rfl, by kernel_rfl⟩, ⟨⟨Try.func72, by kernel_rfl, by kernel_rfl⟩, ⟨⟨Try.func71, by kernel_rfl, by kernel_rfl⟩, trivial, trivial⟩, trivial⟩, ⟨⟨Try.func74, by kernel_rfl, by kernel_rfl⟩, trivial, trivial⟩⟩, ⟨⟨Try.func77, by kernel_rfl, by kernel_rfl⟩, ⟨⟨Try.func76, by kernel_rfl, by kernel_rfl⟩, trivial, trivial⟩, ⟨⟨Try.func78, by kernel_rfl, by kernel_rfl⟩, trivial, trivial⟩⟩⟩⟩⟩⟩
theorem tabF0_ : TabF0 Try.prog E := fun f fn h => tabF_of allF_ f fn h
theorem tabF_ : TabF Try.prog E := TabF.none tabF0_ rfl
theorem sound_ (k : Nat) : FnOk Try.prog E (evalF E P0 k) := eval_sound tabOk_ tabF_ orders_ noPrim k
end Go.Proofs.Ytjgmiilapnekfaa.Ev
