/- The seat's types and functions, as the evaluator takes them. No condition. -/
import Derived.Test.YtbmkpnabhodggaaDoorEvYc
import Derived.Test.YtbmkpnabhodggaaDoorProg
namespace Go.Proofs.YtbmkpnabhodggaaDoor.Ev
open Go Go.Proofs
set_option linter.unusedVariables false
set_option maxRecDepth 100000
def tys : List TI := [⟨.other, [], 0⟩,
  ⟨.other, [], 0⟩,
  ⟨.int .i64, [.int .i64], 8⟩,
  ⟨.int .i64, [.int .i64], 8⟩,
  ⟨.bool, [.bool], 1⟩,
  ⟨.int .u8, [.int .u8], 1⟩,
  ⟨.int .u8, [.int .u8], 1⟩,
  ⟨.struct [(0, 2), (1, 3), (2, 4), (3, 6)], [.int .i64, .int .i64, .bool, .int .u8], 24⟩,
  ⟨.struct [(0, 2), (1, 3), (2, 4), (3, 6)], [.int .i64, .int .i64, .bool, .int .u8], 24⟩,
  ⟨.str, [.str], 16⟩,
  ⟨.str, [.str], 16⟩,
  ⟨.str, [.str], 16⟩,
  ⟨.int .u64, [.int .u64], 8⟩,
  ⟨.struct [(0, 9), (1, 12)], [.str, .int .u64], 24⟩,
  ⟨.struct [(0, 9), (1, 12)], [.str, .int .u64], 24⟩,
  ⟨.ptr 120, [.ptr 120], 8⟩,
  ⟨.ptr 123, [.ptr 123], 8⟩,
  ⟨.ptr 131, [.ptr 131], 8⟩,
  ⟨.struct [(0, 17)], [.ptr 131], 8⟩,
  ⟨.struct [(0, 17)], [.ptr 131], 8⟩,
  ⟨.other, [], 0⟩,
  ⟨.int .i32, [.int .i32], 4⟩,
  ⟨.slice 3, [.row 3], 24⟩,
  ⟨.other, [], 0⟩,
  ⟨.other, [], 0⟩,
  ⟨.other, [], 0⟩,
  ⟨.other, [], 0⟩,
  ⟨.struct [(0, 3), (1, 3), (2, 22)], [.int .i64, .int .i64, .row 3], 40⟩,
  ⟨.struct [(0, 3), (1, 3), (2, 22)], [.int .i64, .int .i64, .row 3], 40⟩,
  ⟨.other, [], 0⟩,
  ⟨.other, [], 0⟩,
  ⟨.struct [(0, 3), (1, 3), (2, 22)], [.int .i64, .int .i64, .row 3], 40⟩,
  ⟨.other, [], 0⟩,
  ⟨.other, [], 0⟩,
  ⟨.other, [], 0⟩,
  ⟨.struct [(0, 3), (1, 3), (2, 3), (3, 3), (4, 22)], [.int .i64, .int .i64, .int .i64, .int .i64, .row 3], 56⟩,
  ⟨.struct [(0, 3), (1, 3), (2, 3), (3, 3), (4, 22)], [.int .i64, .int .i64, .int .i64, .int .i64, .row 3], 56⟩,
  ⟨.other, [], 0⟩,
  ⟨.other, [], 0⟩,
  ⟨.struct [(0, 3), (1, 3), (2, 3), (3, 3), (4, 22)], [.int .i64, .int .i64, .int .i64, .int .i64, .row 3], 56⟩,
  ⟨.other, [], 0⟩,
  ⟨.other, [], 0⟩,
  ⟨.other, [], 0⟩,
  ⟨.other, [], 0⟩,
  ⟨.other, [], 0⟩,
  ⟨.other, [], 0⟩,
  ⟨.other, [], 0⟩,
  ⟨.other, [], 0⟩,
  ⟨.slice 9, [.row 9], 24⟩,
  ⟨.other, [], 0⟩,
  ⟨.other, [], 0⟩,
  ⟨.other, [], 0⟩,
  ⟨.other, [], 0⟩,
  ⟨.other, [], 0⟩,
  ⟨.other, [], 0⟩,
  ⟨.other, [], 0⟩,
  ⟨.other, [], 0⟩,
  ⟨.other, [], 0⟩,
  ⟨.slice 5, [.row 5], 24⟩,
  ⟨.ptr 61, [.ptr 61], 8⟩,
  ⟨.struct [(0, 59), (1, 58)], [.ptr 61, .row 5], 32⟩,
  ⟨.struct [(0, 59), (1, 58)], [.ptr 61, .row 5], 32⟩,
  ⟨.other, [], 0⟩,
  ⟨.other, [], 0⟩,
  ⟨.other, [], 0⟩,
  ⟨.other, [], 0⟩,
  ⟨.other, [], 0⟩,
  ⟨.other, [], 0⟩,
  ⟨.other, [], 0⟩,
  ⟨.other, [], 0⟩,
  ⟨.ptr 5, [.ptr 5], 8⟩,
  ⟨.other, [], 0⟩,
  ⟨.other, [], 0⟩,
  ⟨.other, [], 0⟩,
  ⟨.other, [], 0⟩,
  ⟨.other, [], 0⟩,
  ⟨.other, [], 0⟩,
  ⟨.other, [], 0⟩,
  ⟨.other, [], 0⟩,
  ⟨.other, [], 0⟩,
  ⟨.other, [], 0⟩,
  ⟨.int .i64, [.int .i64], 8⟩,
  ⟨.other, [], 0⟩,
  ⟨.other, [], 0⟩,
  ⟨.ptr 99, [.ptr 99], 8⟩,
  ⟨.other, [], 0⟩,
  ⟨.other, [], 0⟩,
  ⟨.other, [], 0⟩,
  ⟨.int .u64, [.int .u64], 8⟩,
  ⟨.other, [], 0⟩,
  ⟨.other, [], 0⟩,
  ⟨.other, [], 0⟩,
  ⟨.other, [], 0⟩,
  ⟨.other, [], 0⟩,
  ⟨.int .u64, [.int .u64], 8⟩,
  ⟨.other, [], 0⟩,
  ⟨.other, [], 0⟩,
  ⟨.other, [], 0⟩,
  ⟨.other, [], 0⟩,
  ⟨.other, [], 0⟩,
  ⟨.other, [], 0⟩,
  ⟨.other, [], 0⟩,
  ⟨.other, [], 0⟩,
  ⟨.int .u32, [.int .u32], 4⟩,
  ⟨.other, [], 0⟩,
  ⟨.other, [], 0⟩,
  ⟨.other, [], 0⟩,
  ⟨.struct [(0, 5), (1, 5)], [.int .u8, .int .u8], 2⟩,
  ⟨.struct [(0, 5), (1, 5)], [.int .u8, .int .u8], 2⟩,
  ⟨.other, [], 0⟩,
  ⟨.other, [], 0⟩,
  ⟨.other, [], 0⟩,
  ⟨.other, [], 0⟩,
  ⟨.ptr 115, [.ptr 115], 8⟩,
  ⟨.struct [(0, 9)], [.str], 16⟩,
  ⟨.struct [(0, 9)], [.str], 16⟩,
  ⟨.other, [], 0⟩,
  ⟨.other, [], 0⟩,
  ⟨.other, [], 0⟩,
  ⟨.struct [(0, 17), (1, 17), (2, 17), (3, 9)], [.ptr 131, .ptr 131, .ptr 131, .str], 40⟩,
  ⟨.struct [(0, 17), (1, 17), (2, 17), (3, 9)], [.ptr 131, .ptr 131, .ptr 131, .str], 40⟩,
  ⟨.other, [], 0⟩,
  ⟨.other, [], 0⟩,
  ⟨.other, [], 0⟩,
  ⟨.other, [], 0⟩,
  ⟨.int .u8, [.int .u8], 1⟩,
  ⟨.int .u8, [.int .u8], 1⟩,
  ⟨.other, [], 0⟩,
  ⟨.int .i32, [.int .i32], 4⟩,
  ⟨.int .i32, [.int .i32], 4⟩,
  ⟨.other, [], 0⟩,
  ⟨.other, [], 0⟩]
namespace N
abbrev laws_FnExactWordsText : Nat := 3
abbrev laws_FnExactAnsText : Nat := 4
abbrev laws_FnExactCmdText : Nat := 5
abbrev laws_FnExactParseWords : Nat := 6
abbrev spec_WordsText : Nat := 7
abbrev laws_toIntS : Nat := 8
abbrev impl_WordsText : Nat := 9
abbrev laws_eqIntS : Nat := 10
abbrev laws_szAns : Nat := 11
abbrev spec_AnsText : Nat := 12
abbrev laws_toAns : Nat := 13
abbrev impl_AnsText : Nat := 14
abbrev laws_eqAns : Nat := 15
abbrev laws_szCmd : Nat := 16
abbrev spec_CmdText : Nat := 17
abbrev laws_toCmd : Nat := 18
abbrev impl_CmdText : Nat := 19
abbrev laws_eqCmd : Nat := 20
abbrev spec_ParseWords : Nat := 21
abbrev impl_ParseWords : Nat := 22
abbrev laws_markIntS : Nat := 23
abbrev laws_heldIntS : Nat := 24
abbrev spec_l1Words : Nat := 25
abbrev spec_l22Num : Nat := 26
abbrev impl_wordsOk : Nat := 27
abbrev impl_digits : Nat := 28
abbrev strings_Join : Nat := 29
abbrev laws_szIntS : Nat := 30
abbrev spec_l1In : Nat := 31
abbrev impl_within : Nat := 32
abbrev spec_PutCmd : Nat := 33
abbrev spec_l22Op : Nat := 34
abbrev impl_PutCmd : Nat := 35
abbrev spec_l22Words : Nat := 36
abbrev spec_l22Split : Nat := 37
abbrev strings_Split : Nat := 38
abbrev impl_parseWord : Nat := 39
abbrev spec_l1Word : Nat := 40
abbrev impl_isWord : Nat := 41
abbrev strconv_Itoa : Nat := 42
abbrev spec_l22Parse : Nat := 46
end N
namespace TN
abbrev Int64 : Nat := 2
abbrev Int : Nat := 3
abbrev Bool : Nat := 4
abbrev Uint8 : Nat := 5
abbrev String : Nat := 9
abbrev Uintptr : Nat := 12
abbrev Int32 : Nat := 21
abbrev IntS : Nat := 22
abbrev laws_Ans : Nat := 28
abbrev impl_Ans : Nat := 31
abbrev laws_Cmd : Nat := 36
abbrev impl_Cmd : Nat := 39
abbrev StringS : Nat := 48
abbrev Uint8S : Nat := 58
abbrev Error : Nat := 64
abbrev Uint64 : Nat := 88
abbrev Uint : Nat := 94
abbrev Uint32 : Nat := 103
end TN
noncomputable def fnTab : Tr Func := (.node (.node (.node (.node (.node (.node .nil 3 Tryd.f3 .nil) 4 Tryd.f4 .nil) 5 Tryd.f5 (.node (.node .nil 6 Tryd.f6 .nil) 7 Tryd.f7 .nil)) 8 Tryd.f8 (.node (.node (.node .nil 9 Tryd.f9 .nil) 10 Tryd.f10 .nil) 11 Tryd.f11 (.node .nil 12 Tryd.f12 .nil))) 13 Tryd.f13 (.node (.node (.node (.node .nil 14 Tryd.f14 .nil) 15 Tryd.f15 .nil) 16 Tryd.f16 (.node .nil 17 Tryd.f17 .nil)) 18 Tryd.f18 (.node (.node (.node .nil 19 Tryd.f19 .nil) 20 Tryd.f20 .nil) 21 Tryd.f21 (.node .nil 22 Tryd.f22 .nil)))) 23 Tryd.f23 (.node (.node (.node (.node (.node .nil 24 Tryd.f24 .nil) 25 Tryd.f25 .nil) 26 Tryd.f26 (.node (.node .nil 27 Tryd.f27 .nil) 28 Tryd.f28 .nil)) 29 Tryd.f29 (.node (.node (.node .nil 30 Tryd.f30 .nil) 31 Tryd.f31 .nil) 32 Tryd.f32 (.node .nil 33 Tryd.f33 .nil))) 34 Tryd.f34 (.node (.node (.node (.node .nil 35 Tryd.f35 .nil) 36 Tryd.f36 .nil) 37 Tryd.f37 (.node .nil 38 Tryd.f38 .nil)) 39 Tryd.f39 (.node (.node (.node .nil 40 Tryd.f40 .nil) 41 Tryd.f41 .nil) 42 Tryd.f42 (.node .nil 46 Tryd.f46 .nil)))))
def sigTab : Tr Sig := (.node (.node (.node (.node .nil 8 ⟨[], [true], [], false⟩ .nil) 13 ⟨[], [false, false, true], [], false⟩ .nil) 18 ⟨[], [false, false, false, false, true], [], false⟩ (.node (.node .nil 21 ⟨[], [true, false], [], false⟩ .nil) 22 ⟨[], [true, false], [], false⟩ .nil)) 23 ⟨[[false, true], [false]], [], [], false⟩ (.node (.node (.node .nil 33 ⟨[], [true], [], false⟩ .nil) 35 ⟨[], [true], [], false⟩ .nil) 36 ⟨[], [true, false], [], false⟩ (.node (.node .nil 37 ⟨[], [true], [], false⟩ .nil) 38 ⟨[], [true], [], false⟩ .nil)))
noncomputable def E : Env := { tys := tys, fn := fnTab.get, sig := sigOf sigTab, gl := [(3, tabObj .u64 Lib.pow10Tab), (0, intObj), (1, ifObj), (2, ifObj)] }
noncomputable def P0 : FuncId → Option (List Arg → Option Outs) := fun f => bif Nat.beq f 29 then some prJoin else bif Nat.beq f 38 then some prSplit else bif Nat.beq f 39 then some prPw else bif Nat.beq f 42 then some prItoa else none
theorem tabOk_ : tabOk Tryd.prog E = true := by kernel_rfl
theorem orders_ : Tryd.prog.follows .mixedOrders = true := by kernel_rfl
theorem allF_ : AllF Tryd.prog fnTab := ⟨⟨Tryd.func23, by kernel_rfl, by kernel_rfl⟩, ⟨⟨Tryd.func13, by kernel_rfl, by kernel_rfl⟩, ⟨⟨Tryd.func8, by kernel_rfl, by kernel_rfl⟩, ⟨⟨Tryd.func5, by kernel_rfl, by kernel_rfl⟩, ⟨⟨Tryd.func4, by kernel_rfl, by kernel_rfl⟩, ⟨⟨Tryd.func3, by kernel_rfl, by kernel_rfl⟩, trivial, trivial⟩, trivial⟩, ⟨⟨Tryd.func7, by kernel_rfl, by kernel_rfl⟩, ⟨⟨Tryd.func6, by kernel_rfl, by kernel_rfl⟩, trivial, trivial⟩, trivial⟩⟩, ⟨⟨Tryd.func11, by kernel_rfl, by kernel_rfl⟩, ⟨⟨Tryd.func10, by kernel_rfl, by kernel_rfl⟩, ⟨⟨Tryd.func9, by kernel_rfl, by kernel_rfl⟩, trivial, trivial⟩, trivial⟩, ⟨⟨Tryd.func12, by kernel_rfl, by kernel_rfl⟩, trivial, trivial⟩⟩⟩, ⟨⟨Tryd.func18, by kernel_rfl, by kernel_rfl⟩, ⟨⟨Tryd.func16, by kernel_rfl, by kernel_rfl⟩, ⟨⟨Tryd.func15, by kernel_rfl, by kernel_rfl⟩, ⟨⟨Tryd.func14, by kernel_rfl, by kernel_rfl⟩, trivial, trivial⟩, trivial⟩, ⟨⟨Tryd.func17, by kernel_rfl, by kernel_rfl⟩, trivial, trivial⟩⟩, ⟨⟨Tryd.func21, by kernel_rfl, by kernel_rfl⟩, ⟨⟨Tryd.func20, by kernel_rfl, by kernel_rfl⟩, ⟨⟨Tryd.func19, by kernel_rfl, by kernel_rfl⟩, trivial, trivial⟩, trivial⟩, ⟨⟨Tryd.func22, by kernel_rfl, by kernel_rfl⟩, trivial, trivial⟩⟩⟩⟩, ⟨⟨Tryd.func34, by kernel_rfl, by kernel_rfl⟩, ⟨⟨Tryd.func29, by kernel_rfl, by kernel_rfl⟩, ⟨⟨Tryd.func26, by kernel_rfl, by kernel_rfl⟩, ⟨⟨Tryd.func25, by kernel_rfl, by kernel_rfl⟩, ⟨⟨Tryd.func24, by kernel_rfl, by kernel_rfl⟩, trivial, trivial⟩, trivial⟩, ⟨⟨Tryd.func28, by kernel_rfl, by kernel_rfl⟩, ⟨⟨Tryd.func27, by kernel_rfl, by kernel_rfl⟩, trivial, trivial⟩, trivial⟩⟩, ⟨⟨Tryd.func32, by kernel_rfl, by kernel_rfl⟩, ⟨⟨Tryd.func31, by kernel_rfl, by kernel_rfl⟩, ⟨⟨Tryd.func30, by kernel_rfl, by kernel_rfl⟩, trivial, trivial⟩, trivial⟩, ⟨⟨Tryd.func33, by kernel_rfl, by kernel_rfl⟩, trivial, trivial⟩⟩⟩, ⟨⟨Tryd.func39, by kernel_rfl, by kernel_rfl⟩, ⟨⟨Tryd.func37, by kernel_rfl, by kernel_rfl⟩, ⟨⟨Tryd.func36, by kernel_rfl, by kernel_rfl⟩, ⟨⟨Tryd.func35, by kernel_rfl, by kernel_rfl⟩, trivial, trivial⟩, trivial⟩, ⟨⟨Tryd.func38, by kernel_rfl, by kernel_rfl⟩, trivial, trivial⟩⟩, ⟨⟨Tryd.func42, by kernel_rfl, by kernel_rfl⟩, ⟨⟨Tryd.func41, by kernel_rfl, by kernel_rfl⟩, ⟨⟨Tryd.func40, by kernel_rfl, by kernel_rfl⟩, trivial, trivial⟩, trivial⟩, ⟨⟨Tryd.func46, by kernel_rfl, by kernel_rfl⟩, trivial, trivial⟩⟩⟩⟩⟩
theorem tabF_ : TabF Tryd.prog E := fun f fn h => tabF_of allF_ f fn h
abbrev tabG : Nat := 3
abbrev tInt : Nat := 3
abbrev tStr : Nat := 9
abbrev tBool : Nat := 4
abbrev tStrs : Nat := 48
noncomputable abbrev fJoin : Func := Tryd.f29
noncomputable abbrev fSplit : Func := Tryd.f38
noncomputable abbrev fparseWord : Func := Tryd.f39
noncomputable abbrev fItoa : Func := Tryd.f42
end Go.Proofs.YtbmkpnabhodggaaDoor.Ev
