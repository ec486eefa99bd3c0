/- The seat's types and functions, as the evaluator takes them. No condition. -/
import Derived.Test.YtffloigfgjoimaaEvYb
import Derived.Test.YtffloigfgjoimaaProg
namespace Go.Proofs.Ytffloigfgjoimaa.Ev
open Go Go.Proofs
set_option linter.unusedVariables false
set_option maxRecDepth 100000
def tys : List TI := [⟨.other, [], 0⟩,
  ⟨.other, [], 0⟩,
  ⟨.int .i64, [.int .i64], 8⟩,
  ⟨.int .i64, [.int .i64], 8⟩,
  ⟨.bool, [.bool], 1⟩,
  ⟨.int .u8, [.int .u8], 1⟩,
  ⟨.int .u8, [.int .u8], 1⟩,
  ⟨.struct [(0, 2), (1, 3), (2, 4), (3, 6)], [.int .i64, .int .i64, .bool, .int .u8], 24⟩,
  ⟨.struct [(0, 2), (1, 3), (2, 4), (3, 6)], [.int .i64, .int .i64, .bool, .int .u8], 24⟩,
  ⟨.str, [.str], 16⟩,
  ⟨.str, [.str], 16⟩,
  ⟨.str, [.str], 16⟩,
  ⟨.int .u64, [.int .u64], 8⟩,
  ⟨.struct [(0, 9), (1, 12)], [.str, .int .u64], 24⟩,
  ⟨.struct [(0, 9), (1, 12)], [.str, .int .u64], 24⟩,
  ⟨.ptr 135, [.ptr 135], 8⟩,
  ⟨.ptr 138, [.ptr 138], 8⟩,
  ⟨.ptr 148, [.ptr 148], 8⟩,
  ⟨.struct [(0, 17)], [.ptr 148], 8⟩,
  ⟨.struct [(0, 17)], [.ptr 148], 8⟩,
  ⟨.other, [], 0⟩,
  ⟨.int .i32, [.int .i32], 4⟩,
  ⟨.struct [(0, 3), (1, 3)], [.int .i64, .int .i64], 16⟩,
  ⟨.struct [(0, 3), (1, 3)], [.int .i64, .int .i64], 16⟩,
  ⟨.slice 95, [.row 95], 24⟩,
  ⟨.slice 98, [.row 98], 24⟩,
  ⟨.struct [(0, 3), (1, 23), (3, 24), (4, 3), (5, 3), (6, 3), (7, 3), (8, 3), (9, 25), (10, 3), (11, 4), (12, 4)], [.int .i64, .int .i64, .int .i64, .row 95, .int .i64, .int .i64, .int .i64, .int .i64, .int .i64, .row 98, .int .i64, .bool, .bool], 128⟩,
  ⟨.struct [(0, 3), (1, 23), (3, 24), (4, 3), (5, 3), (6, 3), (7, 3), (8, 3), (9, 25), (10, 3), (11, 4), (12, 4)], [.int .i64, .int .i64, .int .i64, .row 95, .int .i64, .int .i64, .int .i64, .int .i64, .int .i64, .row 98, .int .i64, .bool, .bool], 128⟩,
  ⟨.other, [], 0⟩,
  ⟨.other, [], 0⟩,
  ⟨.struct [(0, 3), (1, 3)], [.int .i64, .int .i64], 16⟩,
  ⟨.slice 65, [.row 65], 24⟩,
  ⟨.slice 101, [.row 101], 24⟩,
  ⟨.struct [(0, 3), (1, 30), (3, 31), (4, 3), (5, 3), (6, 3), (7, 3), (8, 3), (9, 32), (10, 3), (11, 4), (12, 4)], [.int .i64, .int .i64, .int .i64, .row 65, .int .i64, .int .i64, .int .i64, .int .i64, .int .i64, .row 101, .int .i64, .bool, .bool], 128⟩,
  ⟨.struct [(0, 3), (1, 30), (3, 31), (4, 3), (5, 3), (6, 3), (7, 3), (8, 3), (9, 32), (10, 3), (11, 4), (12, 4)], [.int .i64, .int .i64, .int .i64, .row 65, .int .i64, .int .i64, .int .i64, .int .i64, .int .i64, .row 101, .int .i64, .bool, .bool], 128⟩,
  ⟨.other, [], 0⟩,
  ⟨.other, [], 0⟩,
  ⟨.other, [], 0⟩,
  ⟨.slice 79, [.row 79], 24⟩,
  ⟨.other, [], 0⟩,
  ⟨.slice 80, [.row 80], 24⟩,
  ⟨.other, [], 0⟩,
  ⟨.slice 84, [.row 84], 24⟩,
  ⟨.other, [], 0⟩,
  ⟨.other, [], 0⟩,
  ⟨.other, [], 0⟩,
  ⟨.other, [], 0⟩,
  ⟨.other, [], 0⟩,
  ⟨.other, [], 0⟩,
  ⟨.slice 82, [.row 82], 24⟩,
  ⟨.other, [], 0⟩,
  ⟨.other, [], 0⟩,
  ⟨.other, [], 0⟩,
  ⟨.slice 3, [.row 3], 24⟩,
  ⟨.other, [], 0⟩,
  ⟨.other, [], 0⟩,
  ⟨.other, [], 0⟩,
  ⟨.other, [], 0⟩,
  ⟨.other, [], 0⟩,
  ⟨.other, [], 0⟩,
  ⟨.other, [], 0⟩,
  ⟨.other, [], 0⟩,
  ⟨.slice 53, [.row 53], 24⟩,
  ⟨.slice 125, [.row 125], 24⟩,
  ⟨.struct [(0, 62), (1, 63), (2, 4), (3, 53)], [.row 53, .row 125, .bool, .row 3], 80⟩,
  ⟨.struct [(0, 62), (1, 63), (2, 4), (3, 53)], [.row 53, .row 125, .bool, .row 3], 80⟩,
  ⟨.other, [], 0⟩,
  ⟨.other, [], 0⟩,
  ⟨.other, [], 0⟩,
  ⟨.other, [], 0⟩,
  ⟨.other, [], 0⟩,
  ⟨.other, [], 0⟩,
  ⟨.other, [], 0⟩,
  ⟨.other, [], 0⟩,
  ⟨.struct [(0, 3), (1, 3), (2, 3), (3, 3), (4, 53)], [.int .i64, .int .i64, .int .i64, .int .i64, .row 3], 56⟩,
  ⟨.struct [(0, 3), (1, 3), (2, 3), (3, 3), (4, 53)], [.int .i64, .int .i64, .int .i64, .int .i64, .row 3], 56⟩,
  ⟨.struct [(0, 3), (1, 3), (2, 53)], [.int .i64, .int .i64, .row 3], 40⟩,
  ⟨.struct [(0, 3), (1, 3), (2, 53)], [.int .i64, .int .i64, .row 3], 40⟩,
  ⟨.struct [(0, 75), (5, 77)], [.int .i64, .int .i64, .int .i64, .int .i64, .row 3, .int .i64, .int .i64, .row 3], 96⟩,
  ⟨.struct [(0, 75), (5, 77)], [.int .i64, .int .i64, .int .i64, .int .i64, .row 3, .int .i64, .int .i64, .row 3], 96⟩,
  ⟨.struct [(0, 3), (1, 3), (2, 53)], [.int .i64, .int .i64, .row 3], 40⟩,
  ⟨.other, [], 0⟩,
  ⟨.struct [(0, 3), (1, 3), (2, 3), (3, 3), (4, 53)], [.int .i64, .int .i64, .int .i64, .int .i64, .row 3], 56⟩,
  ⟨.struct [(0, 82), (5, 80)], [.int .i64, .int .i64, .int .i64, .int .i64, .row 3, .int .i64, .int .i64, .row 3], 96⟩,
  ⟨.struct [(0, 82), (5, 80)], [.int .i64, .int .i64, .int .i64, .int .i64, .row 3, .int .i64, .int .i64, .row 3], 96⟩,
  ⟨.other, [], 0⟩,
  ⟨.other, [], 0⟩,
  ⟨.other, [], 0⟩,
  ⟨.other, [], 0⟩,
  ⟨.other, [], 0⟩,
  ⟨.other, [], 0⟩,
  ⟨.other, [], 0⟩,
  ⟨.other, [], 0⟩,
  ⟨.slice 124, [.row 124], 24⟩,
  ⟨.struct [(0, 62), (1, 93), (2, 4), (3, 53)], [.row 53, .row 124, .bool, .row 3], 80⟩,
  ⟨.struct [(0, 62), (1, 93), (2, 4), (3, 53)], [.row 53, .row 124, .bool, .row 3], 80⟩,
  ⟨.other, [], 0⟩,
  ⟨.struct [(0, 3), (1, 53)], [.int .i64, .row 3], 32⟩,
  ⟨.struct [(0, 3), (1, 53)], [.int .i64, .row 3], 32⟩,
  ⟨.other, [], 0⟩,
  ⟨.other, [], 0⟩,
  ⟨.struct [(0, 3), (1, 53)], [.int .i64, .row 3], 32⟩,
  ⟨.other, [], 0⟩,
  ⟨.other, [], 0⟩,
  ⟨.other, [], 0⟩,
  ⟨.other, [], 0⟩,
  ⟨.other, [], 0⟩,
  ⟨.other, [], 0⟩,
  ⟨.other, [], 0⟩,
  ⟨.other, [], 0⟩,
  ⟨.other, [], 0⟩,
  ⟨.other, [], 0⟩,
  ⟨.other, [], 0⟩,
  ⟨.other, [], 0⟩,
  ⟨.other, [], 0⟩,
  ⟨.other, [], 0⟩,
  ⟨.other, [], 0⟩,
  ⟨.other, [], 0⟩,
  ⟨.other, [], 0⟩,
  ⟨.other, [], 0⟩,
  ⟨.other, [], 0⟩,
  ⟨.other, [], 0⟩,
  ⟨.other, [], 0⟩,
  ⟨.struct [(0, 3), (1, 53)], [.int .i64, .row 3], 32⟩,
  ⟨.struct [(0, 3), (1, 53)], [.int .i64, .row 3], 32⟩,
  ⟨.struct [(0, 3), (1, 53)], [.int .i64, .row 3], 32⟩,
  ⟨.other, [], 0⟩,
  ⟨.other, [], 0⟩,
  ⟨.other, [], 0⟩,
  ⟨.other, [], 0⟩,
  ⟨.other, [], 0⟩,
  ⟨.other, [], 0⟩,
  ⟨.other, [], 0⟩,
  ⟨.other, [], 0⟩,
  ⟨.struct [(0, 17), (1, 17), (2, 17), (3, 9)], [.ptr 148, .ptr 148, .ptr 148, .str], 40⟩,
  ⟨.struct [(0, 17), (1, 17), (2, 17), (3, 9)], [.ptr 148, .ptr 148, .ptr 148, .str], 40⟩,
  ⟨.other, [], 0⟩,
  ⟨.other, [], 0⟩,
  ⟨.other, [], 0⟩,
  ⟨.other, [], 0⟩,
  ⟨.int .u32, [.int .u32], 4⟩,
  ⟨.int .u8, [.int .u8], 1⟩,
  ⟨.int .u8, [.int .u8], 1⟩,
  ⟨.other, [], 0⟩,
  ⟨.ptr 5, [.ptr 5], 8⟩,
  ⟨.int .i32, [.int .i32], 4⟩,
  ⟨.int .i32, [.int .i32], 4⟩,
  ⟨.other, [], 0⟩,
  ⟨.other, [], 0⟩,
  ⟨.other, [], 0⟩]
namespace N
abbrev laws_FnExactDisksText : Nat := 3
abbrev laws_szArr : Nat := 7
abbrev spec_DisksText : Nat := 8
abbrev laws_toArr : Nat := 9
abbrev impl_DisksText : Nat := 10
abbrev laws_eqArr : Nat := 11
abbrev laws_szTurnS : Nat := 12
abbrev spec_AnsOf : Nat := 13
abbrev laws_toTurnS : Nat := 14
abbrev impl_AnsOf : Nat := 15
abbrev laws_eqAnsS : Nat := 16
abbrev laws_eqTurnS : Nat := 17
abbrev laws_heldAnsS : Nat := 20
abbrev spec_CmdsOf : Nat := 21
abbrev impl_CmdsOf : Nat := 22
abbrev laws_eqCmdS : Nat := 23
abbrev laws_heldCmdS : Nat := 25
abbrev spec_After : Nat := 26
abbrev laws_toGeo : Nat := 27
abbrev laws_toIntS : Nat := 28
abbrev impl_After : Nat := 29
abbrev laws_eqIntS : Nat := 30
abbrev laws_markIntS : Nat := 31
abbrev laws_heldIntS : Nat := 32
abbrev laws_szMemS : Nat := 33
abbrev laws_szEntS : Nat := 34
abbrev spec_DataAt : Nat := 35
abbrev laws_toMemS : Nat := 36
abbrev laws_toEntS : Nat := 37
abbrev impl_isSpoilt : Nat := 38
abbrev laws_eqGeo : Nat := 39
abbrev laws_eqMemS : Nat := 40
abbrev laws_eqEntS : Nat := 41
abbrev laws_szTurn : Nat := 42
abbrev spec_l15Ans : Nat := 43
abbrev laws_toTurn : Nat := 44
abbrev impl_copyAns : Nat := 45
abbrev laws_eqAns : Nat := 46
abbrev laws_eqTurn : Nat := 47
abbrev spec_l13Copy : Nat := 48
abbrev impl_copyCmd : Nat := 49
abbrev laws_eqCmd : Nat := 50
abbrev spec_DoCmds : Nat := 51
abbrev impl_DoCmds : Nat := 52
abbrev laws_szMem : Nat := 53
abbrev laws_szEnt : Nat := 54
abbrev spec_l1In : Nat := 55
abbrev laws_toMem : Nat := 56
abbrev laws_toEnt : Nat := 57
abbrev impl_DataAt : Nat := 58
abbrev laws_eqMem : Nat := 59
abbrev laws_eqEnt : Nat := 60
abbrev laws_szCmd : Nat := 61
abbrev laws_szAns : Nat := 62
abbrev laws_toCmd : Nat := 63
abbrev laws_toAns : Nat := 64
abbrev impl_copyInts : Nat := 65
abbrev spec_DoCmd : Nat := 66
abbrev impl_DoCmd : Nat := 67
abbrev laws_szIntSS : Nat := 68
abbrev laws_szWrS : Nat := 69
abbrev laws_szIntS : Nat := 70
abbrev laws_toIntSS : Nat := 71
abbrev laws_toWrS : Nat := 72
abbrev impl_within : Nat := 73
abbrev laws_eqIntSS : Nat := 74
abbrev laws_eqWrS : Nat := 75
abbrev spec_CmdCode : Nat := 76
abbrev spec_Blocks : Nat := 77
abbrev spec_l14Do : Nat := 78
abbrev impl_CmdCode : Nat := 79
abbrev impl_Blocks : Nat := 80
abbrev impl_SpanOf : Nat := 81
abbrev laws_szWr : Nat := 82
abbrev laws_toWr : Nat := 83
abbrev laws_eqWr : Nat := 84
abbrev spec_GeoOk : Nat := 85
abbrev spec_l13Size : Nat := 86
abbrev spec_l13Len : Nat := 87
abbrev impl_GeoOk : Nat := 88
abbrev impl_sizeOk : Nat := 89
abbrev impl_runOf : Nat := 90
abbrev spec_l1Words : Nat := 91
abbrev impl_wordsOk : Nat := 92
abbrev spec_l1Word : Nat := 93
abbrev impl_isWord : Nat := 94
end N
namespace TN
abbrev Int64 : Nat := 2
abbrev Int : Nat := 3
abbrev Bool : Nat := 4
abbrev Uint8 : Nat := 5
abbrev String : Nat := 9
abbrev Uintptr : Nat := 12
abbrev Int32 : Nat := 21
abbrev laws_Geo : Nat := 23
abbrev laws_MemS : Nat := 24
abbrev laws_EntS : Nat := 25
abbrev laws_Arr : Nat := 27
abbrev impl_Geo : Nat := 30
abbrev impl_MemS : Nat := 31
abbrev impl_EntS : Nat := 32
abbrev impl_Arr : Nat := 34
abbrev laws_TurnS : Nat := 38
abbrev impl_AnsS : Nat := 40
abbrev impl_TurnS : Nat := 42
abbrev impl_CmdS : Nat := 49
abbrev IntS : Nat := 53
abbrev IntSS : Nat := 62
abbrev impl_WrS : Nat := 63
abbrev impl_Mem : Nat := 65
abbrev laws_Cmd : Nat := 75
abbrev laws_Ans : Nat := 77
abbrev laws_Turn : Nat := 79
abbrev impl_Ans : Nat := 80
abbrev impl_Cmd : Nat := 82
abbrev impl_Turn : Nat := 84
abbrev laws_WrS : Nat := 93
abbrev laws_Mem : Nat := 95
abbrev laws_Ent : Nat := 98
abbrev impl_Ent : Nat := 101
abbrev laws_Wr : Nat := 124
abbrev impl_Wr : Nat := 125
abbrev Uint32 : Nat := 140
end TN
noncomputable def fnTab : Tr Func := (.node (.node (.node (.node (.node (.node (.node .nil 3 Try.f3 .nil) 7 Try.f7 .nil) 8 Try.f8 (.node (.node .nil 9 Try.f9 .nil) 10 Try.f10 .nil)) 11 Try.f11 (.node (.node (.node .nil 12 Try.f12 .nil) 13 Try.f13 .nil) 14 Try.f14 (.node .nil 15 Try.f15 .nil))) 16 Try.f16 (.node (.node (.node (.node .nil 17 Try.f17 .nil) 20 Try.f20 .nil) 21 Try.f21 (.node (.node .nil 22 Try.f22 .nil) 23 Try.f23 .nil)) 25 Try.f25 (.node (.node (.node .nil 26 Try.f26 .nil) 27 Try.f27 .nil) 28 Try.f28 (.node .nil 29 Try.f29 .nil)))) 30 Try.f30 (.node (.node (.node (.node (.node .nil 31 Try.f31 .nil) 32 Try.f32 .nil) 33 Try.f33 (.node (.node .nil 34 Try.f34 .nil) 35 Try.f35 .nil)) 36 Try.f36 (.node (.node (.node .nil 37 Try.f37 .nil) 38 Try.f38 .nil) 39 Try.f39 (.node .nil 40 Try.f40 .nil))) 41 Try.f41 (.node (.node (.node (.node .nil 42 Try.f42 .nil) 43 Try.f43 .nil) 44 Try.f44 (.node (.node .nil 45 Try.f45 .nil) 46 Try.f46 .nil)) 47 Try.f47 (.node (.node (.node .nil 48 Try.f48 .nil) 49 Try.f49 .nil) 50 Try.f50 (.node .nil 51 Try.f51 .nil))))) 52 Try.f52 (.node (.node (.node (.node (.node (.node .nil 53 Try.f53 .nil) 54 Try.f54 .nil) 55 Try.f55 (.node (.node .nil 56 Try.f56 .nil) 57 Try.f57 .nil)) 58 Try.f58 (.node (.node (.node .nil 59 Try.f59 .nil) 60 Try.f60 .nil) 61 Try.f61 (.node .nil 62 Try.f62 .nil))) 63 Try.f63 (.node (.node (.node (.node .nil 64 Try.f64 .nil) 65 Try.f65 .nil) 66 Try.f66 (.node (.node .nil 67 Try.f67 .nil) 68 Try.f68 .nil)) 69 Try.f69 (.node (.node (.node .nil 70 Try.f70 .nil) 71 Try.f71 .nil) 72 Try.f72 (.node .nil 73 Try.f73 .nil)))) 74 Try.f74 (.node (.node (.node (.node (.node .nil 75 Try.f75 .nil) 76 Try.f76 .nil) 77 Try.f77 (.node (.node .nil 78 Try.f78 .nil) 79 Try.f79 .nil)) 80 Try.f80 (.node (.node (.node .nil 81 Try.f81 .nil) 82 Try.f82 .nil) 83 Try.f83 (.node .nil 84 Try.f84 .nil))) 85 Try.f85 (.node (.node (.node (.node .nil 86 Try.f86 .nil) 87 Try.f87 .nil) 88 Try.f88 (.node .nil 89 Try.f89 .nil)) 90 Try.f90 (.node (.node (.node .nil 91 Try.f91 .nil) 92 Try.f92 .nil) 93 Try.f93 (.node .nil 94 Try.f94 .nil))))))
def sigTab : Tr Sig := (.node (.node (.node (.node (.node .nil 9 ⟨[], [false, false, false, true, false, false, false, false, false, true, false, false, false], []⟩ .nil) 13 ⟨[], [true], []⟩ (.node .nil 14 ⟨[], [true], []⟩ .nil)) 15 ⟨[], [true], []⟩ (.node (.node .nil 21 ⟨[], [true], []⟩ .nil) 22 ⟨[], [true], []⟩ (.node .nil 26 ⟨[], [true], []⟩ .nil))) 28 ⟨[], [true], []⟩ (.node (.node (.node .nil 29 ⟨[], [true], []⟩ .nil) 31 ⟨[[false, true], [false]], [], []⟩ (.node .nil 36 ⟨[], [true], []⟩ .nil)) 37 ⟨[], [true], []⟩ (.node (.node .nil 43 ⟨[], [false, false, true], []⟩ .nil) 44 ⟨[], [false, false, false, false, true, false, false, true], []⟩ (.node .nil 45 ⟨[], [false, false, true], []⟩ .nil)))) 48 ⟨[], [false, false, false, false, true], []⟩ (.node (.node (.node (.node .nil 49 ⟨[], [false, false, false, false, true], []⟩ .nil) 51 ⟨[], [true, true], []⟩ (.node .nil 52 ⟨[], [true, true], []⟩ .nil)) 56 ⟨[], [true, true, false, true], []⟩ (.node (.node .nil 57 ⟨[], [false, true], []⟩ .nil) 63 ⟨[], [false, false, false, false, true], []⟩ (.node .nil 64 ⟨[], [false, false, true], []⟩ .nil))) 65 ⟨[], [true], []⟩ (.node (.node (.node .nil 66 ⟨[], [true, false, false, true], []⟩ .nil) 67 ⟨[], [true, false, false, true], []⟩ (.node .nil 71 ⟨[], [true], []⟩ .nil)) 72 ⟨[], [true], []⟩ (.node (.node .nil 78 ⟨[[false, true], [false, false, false, false, false]], [false, false, true], []⟩ .nil) 83 ⟨[], [false, true], []⟩ .nil))))
noncomputable def E : Env := ⟨tys, fnTab.get, sigOf sigTab⟩
def P0 : FuncId → Option (List Arg → Option Outs) := fun _ => none
theorem tabOk_ : tabOk Try.prog E = true := by kernel_rfl
theorem orders_ : Try.prog.follows .mixedOrders = true := by kernel_rfl
theorem allF_ : AllF Try.prog fnTab := ⟨⟨Try.func52, by kernel_rfl, by kernel_rfl⟩, ⟨⟨Try.func30, by kernel_rfl, by kernel_rfl⟩, ⟨⟨Try.func16, by kernel_rfl, by kernel_rfl⟩, ⟨⟨Try.func11, by kernel_rfl, by kernel_rfl⟩, ⟨⟨Try.func8, by kernel_rfl, by kernel_rfl⟩, ⟨⟨Try.func7, by kernel_rfl, by kernel_rfl⟩, ⟨⟨Try.func3, by kernel_rfl, by kernel_rfl⟩, trivial, trivial⟩, trivial⟩, ⟨⟨Try.func10, by kernel_rfl, by kernel_rfl⟩, ⟨⟨Try.func9, by kernel_rfl, by kernel_rfl⟩, trivial, trivial⟩, trivial⟩⟩, ⟨⟨Try.func14, by kernel_rfl, by kernel_rfl⟩, ⟨⟨Try.func13, by kernel_rfl, by kernel_rfl⟩, ⟨⟨Try.func12, by kernel_rfl, by kernel_rfl⟩, trivial, trivial⟩, trivial⟩, ⟨⟨Try.func15, by kernel_rfl, by kernel_rfl⟩, trivial, trivial⟩⟩⟩, ⟨⟨Try.func25, by kernel_rfl, by kernel_rfl⟩, ⟨⟨Try.func21, by kernel_rfl, by kernel_rfl⟩, ⟨⟨Try.func20, by kernel_rfl, by kernel_rfl⟩, ⟨⟨Try.func17, by kernel_rfl, by kernel_rfl⟩, trivial, trivial⟩, trivial⟩, ⟨⟨Try.func23, by kernel_rfl, by kernel_rfl⟩, ⟨⟨Try.func22, by kernel_rfl, by kernel_rfl⟩, trivial, trivial⟩, trivial⟩⟩, ⟨⟨Try.func28, by kernel_rfl, by kernel_rfl⟩, ⟨⟨Try.func27, by kernel_rfl, by kernel_rfl⟩, ⟨⟨Try.func26, by kernel_rfl, by kernel_rfl⟩, trivial, trivial⟩, trivial⟩, ⟨⟨Try.func29, by kernel_rfl, by kernel_rfl⟩, trivial, trivial⟩⟩⟩⟩, ⟨⟨Try.func41, by kernel_rfl, by kernel_rfl⟩, ⟨⟨Try.func36, by kernel_rfl, by kernel_rfl⟩, ⟨⟨Try.func33, by kernel_rfl, by kernel_rfl⟩, ⟨⟨Try.func32, by kernel_rfl, by kernel_rfl⟩, ⟨⟨Try.func31, by kernel_rfl, by kernel_rfl⟩, trivial, trivial⟩, trivial⟩, ⟨⟨Try.func35, by kernel_rfl, by kernel_rfl⟩, ⟨⟨Try.func34, by kernel_rfl, by kernel_rfl⟩, trivial, trivial⟩, trivial⟩⟩, ⟨⟨Try.func39, by kernel_rfl, by kernel_rfl⟩, ⟨⟨Try.func38, by kernel_rfl, by kernel_rfl⟩, ⟨⟨Try.func37, by kernel_rfl, by kernel_rfl⟩, trivial, trivial⟩, trivial⟩, ⟨⟨Try.func40, by kernel_rfl, by kernel_rfl⟩, trivial, trivial⟩⟩⟩, ⟨⟨Try.func47, by kernel_rfl, by kernel_rfl⟩, ⟨⟨Try.func44, by kernel_rfl, by kernel_rfl⟩, ⟨⟨Try.func43, by kernel_rfl, by kernel_rfl⟩, ⟨⟨Try.func42, by kernel_rfl, by kernel_rfl⟩, trivial, trivial⟩, trivial⟩, ⟨⟨Try.func46, by kernel_rfl, by kernel_rfl⟩, ⟨⟨Try.func45, by kernel_rfl, by kernel_rfl⟩, trivial, trivial⟩, trivial⟩⟩, ⟨⟨Try.func50, by kernel_rfl, by kernel_rfl⟩, ⟨⟨Try.func49, by kernel_rfl, by kernel_rfl⟩, ⟨⟨Try.func48, by kernel_rfl, by kernel_rfl⟩, trivial, trivial⟩, trivial⟩, ⟨⟨Try.func51, by kernel_rfl, by kernel_rfl⟩, trivial, trivial⟩⟩⟩⟩⟩, ⟨⟨Try.func74, by kernel_rfl, by kernel_rfl⟩, ⟨⟨Try.func63, by kernel_rfl, by kernel_rfl⟩, ⟨⟨Try.func58, by kernel_rfl, by kernel_rfl⟩, ⟨⟨Try.func55, by kernel_rfl, by kernel_rfl⟩, ⟨⟨Try.func54, by kernel_rfl, by kernel_rfl⟩, ⟨⟨Try.func53, by kernel_rfl, by kernel_rfl⟩, trivial, trivial⟩, trivial⟩, ⟨⟨Try.func57, by kernel_rfl, by kernel_rfl⟩, ⟨⟨Try.func56, by kernel_rfl, by kernel_rfl⟩, trivial, trivial⟩, trivial⟩⟩, ⟨⟨Try.func61, by kernel_rfl, by kernel_rfl⟩, ⟨⟨Try.func60, by kernel_rfl, by kernel_rfl⟩, ⟨⟨Try.func59, by kernel_rfl, by kernel_rfl⟩, trivial, trivial⟩, trivial⟩, ⟨⟨Try.func62, by kernel_rfl, by kernel_rfl⟩, trivial, trivial⟩⟩⟩, ⟨⟨Try.func69, by kernel_rfl, by kernel_rfl⟩, ⟨⟨Try.func66, by kernel_rfl, by kernel_rfl⟩, ⟨⟨Try.func65, by kernel_rfl, by kernel_rfl⟩, ⟨⟨Try.func64, by kernel_rfl, by kernel_rfl⟩, trivial, trivial⟩, trivial⟩, ⟨⟨Try.func68, by kernel_rfl, by kernel_rfl⟩, ⟨⟨Try.func67, by kernel_rfl, by kernel_rfl⟩, trivial, trivial⟩, trivial⟩⟩, ⟨⟨Try.func72, by kernel_rfl, by kernel_rfl⟩, ⟨⟨Try.func71, by kernel_rfl, by kernel_rfl⟩, ⟨⟨Try.func70, by kernel_rfl, by kernel_rfl⟩, trivial, trivial⟩, trivial⟩, ⟨⟨Try.func73, by kernel_rfl, by kernel_rfl⟩, trivial, trivial⟩⟩⟩⟩, ⟨⟨Try.func85, by kernel_rfl, by kernel_rfl⟩, ⟨⟨Try.func80, by kernel_rfl, by kernel_rfl⟩, ⟨⟨Try.func77, by kernel_rfl, by kernel_rfl⟩, ⟨⟨Try.func76, by kernel_rfl, by kernel_rfl⟩, ⟨⟨Try.func75, by kernel_rfl, by kernel_rfl⟩, trivial, trivial⟩, trivial⟩, ⟨⟨Try.func79, by kernel_rfl, by kernel_rfl⟩, ⟨⟨Try.func78, by kernel_rfl, by kernel_rfl⟩, trivial, trivial⟩, trivial⟩⟩, ⟨⟨Try.func83, by kernel_rfl, by kernel_rfl⟩, ⟨⟨Try.func82, by kernel_rfl, by kernel_rfl⟩, ⟨⟨Try.func81, by kernel_rfl, by kernel_rfl⟩, trivial, trivial⟩, trivial⟩, ⟨⟨Try.func84, by kernel_rfl, by kernel_rfl⟩, trivial, trivial⟩⟩⟩, ⟨⟨Try.func90, by kernel_rfl, by kernel_rfl⟩, ⟨⟨Try.func88, by kernel_rfl, by kernel_rfl⟩, ⟨⟨Try.func87, by kernel_rfl, by kernel_rfl⟩, ⟨⟨Try.func86, by kernel_rfl, by kernel_rfl⟩, trivial, trivial⟩, trivial⟩, ⟨⟨Try.func89, by kernel_rfl, by kernel_rfl⟩, trivial, trivial⟩⟩, ⟨⟨Try.func93, by kernel_rfl, by kernel_rfl⟩, ⟨⟨Try.func92, by kernel_rfl, by kernel_rfl⟩, ⟨⟨Try.func91, by kernel_rfl, by kernel_rfl⟩, trivial, trivial⟩, trivial⟩, ⟨⟨Try.func94, by kernel_rfl, by kernel_rfl⟩, trivial, trivial⟩⟩⟩⟩⟩⟩
theorem tabF_ : TabF Try.prog E := fun f fn h => tabF_of allF_ f fn h
theorem sound_ (k : Nat) : FnOk Try.prog E (evalF E P0 k) := eval_sound tabOk_ tabF_ orders_ noPrim k
end Go.Proofs.Ytffloigfgjoimaa.Ev
