/- The seat's types and functions, as the evaluator takes them. No condition. -/
import Derived.Test.YtjgmiilapnekfaaGreatEvYb
import Derived.Test.YtjgmiilapnekfaaGreatProg
namespace Go.Proofs.YtjgmiilapnekfaaGreat.Ev
open Go Go.Proofs
set_option linter.unusedVariables false
set_option maxRecDepth 100000
def tys : List TI := [⟨.other, [], 0⟩,
  ⟨.other, [], 0⟩,
  ⟨.int .i64, [.int .i64], 8⟩,
  ⟨.int .i64, [.int .i64], 8⟩,
  ⟨.bool, [.bool], 1⟩,
  ⟨.int .u8, [.int .u8], 1⟩,
  ⟨.int .u8, [.int .u8], 1⟩,
  ⟨.struct [(0, 2), (1, 3), (2, 4), (3, 6)], [.int .i64, .int .i64, .bool, .int .u8], 24⟩,
  ⟨.struct [(0, 2), (1, 3), (2, 4), (3, 6)], [.int .i64, .int .i64, .bool, .int .u8], 24⟩,
  ⟨.str, [.str], 16⟩,
  ⟨.str, [.str], 16⟩,
  ⟨.str, [.str], 16⟩,
  ⟨.int .u64, [.int .u64], 8⟩,
  ⟨.struct [(0, 9), (1, 12)], [.str, .int .u64], 24⟩,
  ⟨.struct [(0, 9), (1, 12)], [.str, .int .u64], 24⟩,
  ⟨.ptr 237, [.ptr 237], 8⟩,
  ⟨.ptr 240, [.ptr 240], 8⟩,
  ⟨.ptr 250, [.ptr 250], 8⟩,
  ⟨.struct [(0, 17)], [.ptr 250], 8⟩,
  ⟨.struct [(0, 17)], [.ptr 250], 8⟩,
  ⟨.other, [], 0⟩,
  ⟨.int .i32, [.int .i32], 4⟩,
  ⟨.struct [(0, 3), (1, 3)], [.int .i64, .int .i64], 16⟩,
  ⟨.struct [(0, 3), (1, 3)], [.int .i64, .int .i64], 16⟩,
  ⟨.slice 154, [.row 154], 24⟩,
  ⟨.slice 157, [.row 157], 24⟩,
  ⟨.struct [(0, 3), (1, 23), (3, 24), (4, 3), (5, 3), (6, 3), (7, 3), (8, 3), (9, 25), (10, 3), (11, 4), (12, 4)], [.int .i64, .int .i64, .int .i64, .row 154, .int .i64, .int .i64, .int .i64, .int .i64, .int .i64, .row 157, .int .i64, .bool, .bool], 128⟩,
  ⟨.struct [(0, 3), (1, 23), (3, 24), (4, 3), (5, 3), (6, 3), (7, 3), (8, 3), (9, 25), (10, 3), (11, 4), (12, 4)], [.int .i64, .int .i64, .int .i64, .row 154, .int .i64, .int .i64, .int .i64, .int .i64, .int .i64, .row 157, .int .i64, .bool, .bool], 128⟩,
  ⟨.slice 36, [.row 36], 24⟩,
  ⟨.slice 112, [.row 112], 24⟩,
  ⟨.slice 114, [.row 114], 24⟩,
  ⟨.slice 117, [.row 117], 24⟩,
  ⟨.struct [(0, 27), (13, 28), (14, 29), (15, 30), (16, 31)], [.int .i64, .int .i64, .int .i64, .row 154, .int .i64, .int .i64, .int .i64, .int .i64, .int .i64, .row 157, .int .i64, .bool, .bool, .row 36, .row 112, .row 114, .row 117], 224⟩,
  ⟨.struct [(0, 27), (13, 28), (14, 29), (15, 30), (16, 31)], [.int .i64, .int .i64, .int .i64, .row 154, .int .i64, .int .i64, .int .i64, .int .i64, .int .i64, .row 157, .int .i64, .bool, .bool, .row 36, .row 112, .row 114, .row 117], 224⟩,
  ⟨.slice 3, [.row 3], 24⟩,
  ⟨.struct [(0, 3), (1, 3), (2, 3), (3, 3), (4, 34)], [.int .i64, .int .i64, .int .i64, .int .i64, .row 3], 56⟩,
  ⟨.struct [(0, 3), (1, 3), (2, 3), (3, 3), (4, 34)], [.int .i64, .int .i64, .int .i64, .int .i64, .row 3], 56⟩,
  ⟨.other, [], 0⟩,
  ⟨.other, [], 0⟩,
  ⟨.struct [(0, 3), (1, 3)], [.int .i64, .int .i64], 16⟩,
  ⟨.slice 160, [.row 160], 24⟩,
  ⟨.slice 162, [.row 162], 24⟩,
  ⟨.struct [(0, 3), (1, 39), (3, 40), (4, 3), (5, 3), (6, 3), (7, 3), (8, 3), (9, 41), (10, 3), (11, 4), (12, 4)], [.int .i64, .int .i64, .int .i64, .row 160, .int .i64, .int .i64, .int .i64, .int .i64, .int .i64, .row 162, .int .i64, .bool, .bool], 128⟩,
  ⟨.struct [(0, 3), (1, 39), (3, 40), (4, 3), (5, 3), (6, 3), (7, 3), (8, 3), (9, 41), (10, 3), (11, 4), (12, 4)], [.int .i64, .int .i64, .int .i64, .row 160, .int .i64, .int .i64, .int .i64, .int .i64, .int .i64, .row 162, .int .i64, .bool, .bool], 128⟩,
  ⟨.slice 53, [.row 53], 24⟩,
  ⟨.slice 103, [.row 103], 24⟩,
  ⟨.slice 61, [.row 61], 24⟩,
  ⟨.slice 120, [.row 120], 24⟩,
  ⟨.struct [(0, 43), (13, 44), (14, 45), (15, 46), (16, 47)], [.int .i64, .int .i64, .int .i64, .row 160, .int .i64, .int .i64, .int .i64, .int .i64, .int .i64, .row 162, .int .i64, .bool, .bool, .row 53, .row 103, .row 61, .row 120], 224⟩,
  ⟨.struct [(0, 43), (13, 44), (14, 45), (15, 46), (16, 47)], [.int .i64, .int .i64, .int .i64, .row 160, .int .i64, .int .i64, .int .i64, .int .i64, .int .i64, .row 162, .int .i64, .bool, .bool, .row 53, .row 103, .row 61, .row 120], 224⟩,
  ⟨.other, [], 0⟩,
  ⟨.other, [], 0⟩,
  ⟨.other, [], 0⟩,
  ⟨.struct [(0, 3), (1, 3), (2, 3), (3, 3), (4, 34)], [.int .i64, .int .i64, .int .i64, .int .i64, .row 3], 56⟩,
  ⟨.other, [], 0⟩,
  ⟨.other, [], 0⟩,
  ⟨.other, [], 0⟩,
  ⟨.other, [], 0⟩,
  ⟨.other, [], 0⟩,
  ⟨.other, [], 0⟩,
  ⟨.struct [(0, 3), (1, 3), (2, 34)], [.int .i64, .int .i64, .row 3], 40⟩,
  ⟨.struct [(0, 3), (1, 3), (2, 34)], [.int .i64, .int .i64, .row 3], 40⟩,
  ⟨.other, [], 0⟩,
  ⟨.other, [], 0⟩,
  ⟨.other, [], 0⟩,
  ⟨.other, [], 0⟩,
  ⟨.other, [], 0⟩,
  ⟨.other, [], 0⟩,
  ⟨.other, [], 0⟩,
  ⟨.other, [], 0⟩,
  ⟨.other, [], 0⟩,
  ⟨.other, [], 0⟩,
  ⟨.other, [], 0⟩,
  ⟨.other, [], 0⟩,
  ⟨.other, [], 0⟩,
  ⟨.other, [], 0⟩,
  ⟨.other, [], 0⟩,
  ⟨.other, [], 0⟩,
  ⟨.other, [], 0⟩,
  ⟨.other, [], 0⟩,
  ⟨.other, [], 0⟩,
  ⟨.other, [], 0⟩,
  ⟨.other, [], 0⟩,
  ⟨.other, [], 0⟩,
  ⟨.other, [], 0⟩,
  ⟨.other, [], 0⟩,
  ⟨.other, [], 0⟩,
  ⟨.other, [], 0⟩,
  ⟨.other, [], 0⟩,
  ⟨.other, [], 0⟩,
  ⟨.other, [], 0⟩,
  ⟨.other, [], 0⟩,
  ⟨.other, [], 0⟩,
  ⟨.other, [], 0⟩,
  ⟨.other, [], 0⟩,
  ⟨.other, [], 0⟩,
  ⟨.other, [], 0⟩,
  ⟨.other, [], 0⟩,
  ⟨.other, [], 0⟩,
  ⟨.ptr 49, [.ptr 49], 8⟩,
  ⟨.other, [], 0⟩,
  ⟨.other, [], 0⟩,
  ⟨.struct [(0, 53), (5, 3), (6, 34), (7, 3)], [.int .i64, .int .i64, .int .i64, .int .i64, .row 3, .int .i64, .row 3, .int .i64], 96⟩,
  ⟨.struct [(0, 53), (5, 3), (6, 34), (7, 3)], [.int .i64, .int .i64, .int .i64, .int .i64, .row 3, .int .i64, .row 3, .int .i64], 96⟩,
  ⟨.other, [], 0⟩,
  ⟨.ptr 103, [.ptr 103], 8⟩,
  ⟨.other, [], 0⟩,
  ⟨.other, [], 0⟩,
  ⟨.other, [], 0⟩,
  ⟨.other, [], 0⟩,
  ⟨.other, [], 0⟩,
  ⟨.struct [(0, 36), (5, 3), (6, 34), (7, 3)], [.int .i64, .int .i64, .int .i64, .int .i64, .row 3, .int .i64, .row 3, .int .i64], 96⟩,
  ⟨.struct [(0, 36), (5, 3), (6, 34), (7, 3)], [.int .i64, .int .i64, .int .i64, .int .i64, .row 3, .int .i64, .row 3, .int .i64], 96⟩,
  ⟨.other, [], 0⟩,
  ⟨.struct [(0, 3), (1, 3), (2, 34)], [.int .i64, .int .i64, .row 3], 40⟩,
  ⟨.other, [], 0⟩,
  ⟨.struct [(0, 36), (5, 114)], [.int .i64, .int .i64, .int .i64, .int .i64, .row 3, .int .i64, .int .i64, .row 3], 96⟩,
  ⟨.struct [(0, 36), (5, 114)], [.int .i64, .int .i64, .int .i64, .int .i64, .row 3, .int .i64, .int .i64, .row 3], 96⟩,
  ⟨.other, [], 0⟩,
  ⟨.struct [(0, 53), (5, 61)], [.int .i64, .int .i64, .int .i64, .int .i64, .row 3, .int .i64, .int .i64, .row 3], 96⟩,
  ⟨.struct [(0, 53), (5, 61)], [.int .i64, .int .i64, .int .i64, .int .i64, .row 3, .int .i64, .int .i64, .row 3], 96⟩,
  ⟨.other, [], 0⟩,
  ⟨.other, [], 0⟩,
  ⟨.other, [], 0⟩,
  ⟨.other, [], 0⟩,
  ⟨.other, [], 0⟩,
  ⟨.other, [], 0⟩,
  ⟨.other, [], 0⟩,
  ⟨.other, [], 0⟩,
  ⟨.other, [], 0⟩,
  ⟨.other, [], 0⟩,
  ⟨.other, [], 0⟩,
  ⟨.other, [], 0⟩,
  ⟨.other, [], 0⟩,
  ⟨.other, [], 0⟩,
  ⟨.other, [], 0⟩,
  ⟨.other, [], 0⟩,
  ⟨.other, [], 0⟩,
  ⟨.other, [], 0⟩,
  ⟨.other, [], 0⟩,
  ⟨.other, [], 0⟩,
  ⟨.other, [], 0⟩,
  ⟨.other, [], 0⟩,
  ⟨.ptr 43, [.ptr 43], 8⟩,
  ⟨.other, [], 0⟩,
  ⟨.other, [], 0⟩,
  ⟨.other, [], 0⟩,
  ⟨.other, [], 0⟩,
  ⟨.other, [], 0⟩,
  ⟨.other, [], 0⟩,
  ⟨.other, [], 0⟩,
  ⟨.slice 34, [.row 34], 24⟩,
  ⟨.slice 199, [.row 199], 24⟩,
  ⟨.struct [(0, 151), (1, 152), (2, 4), (3, 34)], [.row 34, .row 199, .bool, .row 3], 80⟩,
  ⟨.struct [(0, 151), (1, 152), (2, 4), (3, 34)], [.row 34, .row 199, .bool, .row 3], 80⟩,
  ⟨.other, [], 0⟩,
  ⟨.struct [(0, 3), (1, 34)], [.int .i64, .row 3], 32⟩,
  ⟨.struct [(0, 3), (1, 34)], [.int .i64, .row 3], 32⟩,
  ⟨.slice 184, [.row 184], 24⟩,
  ⟨.struct [(0, 151), (1, 158), (2, 4), (3, 34)], [.row 34, .row 184, .bool, .row 3], 80⟩,
  ⟨.struct [(0, 151), (1, 158), (2, 4), (3, 34)], [.row 34, .row 184, .bool, .row 3], 80⟩,
  ⟨.other, [], 0⟩,
  ⟨.struct [(0, 3), (1, 34)], [.int .i64, .row 3], 32⟩,
  ⟨.other, [], 0⟩,
  ⟨.other, [], 0⟩,
  ⟨.other, [], 0⟩,
  ⟨.other, [], 0⟩,
  ⟨.other, [], 0⟩,
  ⟨.other, [], 0⟩,
  ⟨.other, [], 0⟩,
  ⟨.other, [], 0⟩,
  ⟨.other, [], 0⟩,
  ⟨.other, [], 0⟩,
  ⟨.other, [], 0⟩,
  ⟨.other, [], 0⟩,
  ⟨.other, [], 0⟩,
  ⟨.other, [], 0⟩,
  ⟨.other, [], 0⟩,
  ⟨.other, [], 0⟩,
  ⟨.other, [], 0⟩,
  ⟨.other, [], 0⟩,
  ⟨.other, [], 0⟩,
  ⟨.other, [], 0⟩,
  ⟨.struct [(0, 3), (1, 34)], [.int .i64, .row 3], 32⟩,
  ⟨.struct [(0, 3), (1, 34)], [.int .i64, .row 3], 32⟩,
  ⟨.other, [], 0⟩,
  ⟨.other, [], 0⟩,
  ⟨.other, [], 0⟩,
  ⟨.other, [], 0⟩,
  ⟨.other, [], 0⟩,
  ⟨.other, [], 0⟩,
  ⟨.other, [], 0⟩,
  ⟨.other, [], 0⟩,
  ⟨.other, [], 0⟩,
  ⟨.other, [], 0⟩,
  ⟨.other, [], 0⟩,
  ⟨.other, [], 0⟩,
  ⟨.other, [], 0⟩,
  ⟨.other, [], 0⟩,
  ⟨.struct [(0, 3), (1, 34)], [.int .i64, .row 3], 32⟩,
  ⟨.other, [], 0⟩,
  ⟨.other, [], 0⟩,
  ⟨.other, [], 0⟩,
  ⟨.other, [], 0⟩,
  ⟨.other, [], 0⟩,
  ⟨.other, [], 0⟩,
  ⟨.other, [], 0⟩,
  ⟨.struct [(0, 3), (1, 3), (2, 34)], [.int .i64, .int .i64, .row 3], 40⟩,
  ⟨.struct [(0, 3), (1, 3), (2, 34)], [.int .i64, .int .i64, .row 3], 40⟩,
  ⟨.other, [], 0⟩,
  ⟨.other, [], 0⟩,
  ⟨.other, [], 0⟩,
  ⟨.other, [], 0⟩,
  ⟨.other, [], 0⟩,
  ⟨.other, [], 0⟩,
  ⟨.other, [], 0⟩,
  ⟨.other, [], 0⟩,
  ⟨.other, [], 0⟩,
  ⟨.other, [], 0⟩,
  ⟨.other, [], 0⟩,
  ⟨.other, [], 0⟩,
  ⟨.other, [], 0⟩,
  ⟨.other, [], 0⟩,
  ⟨.other, [], 0⟩,
  ⟨.struct [(0, 3), (1, 3), (2, 3), (3, 3), (4, 3), (5, 3), (6, 3), (7, 3)], [.int .i64, .int .i64, .int .i64, .int .i64, .int .i64, .int .i64, .int .i64, .int .i64], 64⟩,
  ⟨.struct [(0, 3), (1, 3), (2, 3), (3, 3), (4, 3), (5, 3), (6, 3), (7, 3)], [.int .i64, .int .i64, .int .i64, .int .i64, .int .i64, .int .i64, .int .i64, .int .i64], 64⟩,
  ⟨.other, [], 0⟩,
  ⟨.other, [], 0⟩,
  ⟨.other, [], 0⟩,
  ⟨.other, [], 0⟩,
  ⟨.other, [], 0⟩,
  ⟨.other, [], 0⟩,
  ⟨.other, [], 0⟩,
  ⟨.other, [], 0⟩,
  ⟨.other, [], 0⟩,
  ⟨.other, [], 0⟩,
  ⟨.struct [(0, 17), (1, 17), (2, 17), (3, 9)], [.ptr 250, .ptr 250, .ptr 250, .str], 40⟩,
  ⟨.struct [(0, 17), (1, 17), (2, 17), (3, 9)], [.ptr 250, .ptr 250, .ptr 250, .str], 40⟩,
  ⟨.other, [], 0⟩,
  ⟨.other, [], 0⟩,
  ⟨.other, [], 0⟩,
  ⟨.other, [], 0⟩,
  ⟨.int .u32, [.int .u32], 4⟩,
  ⟨.int .u8, [.int .u8], 1⟩,
  ⟨.int .u8, [.int .u8], 1⟩,
  ⟨.other, [], 0⟩,
  ⟨.ptr 5, [.ptr 5], 8⟩,
  ⟨.int .i32, [.int .i32], 4⟩,
  ⟨.int .i32, [.int .i32], 4⟩,
  ⟨.other, [], 0⟩,
  ⟨.other, [], 0⟩,
  ⟨.other, [], 0⟩]
namespace N
abbrev laws_FnExactSubmit : Nat := 3
abbrev laws_FnExactFetch : Nat := 4
abbrev laws_FnExactBegin : Nat := 5
abbrev laws_szEng : Nat := 7
abbrev laws_szCmd : Nat := 8
abbrev spec_Submit : Nat := 9
abbrev laws_toEng : Nat := 10
abbrev laws_toCmd : Nat := 11
abbrev impl_Submit : Nat := 12
abbrev laws_eqEng : Nat := 13
abbrev laws_eqCmd : Nat := 14
abbrev laws_markEng : Nat := 15
abbrev laws_markCmd : Nat := 16
abbrev laws_heldEng : Nat := 17
abbrev spec_Fetch : Nat := 18
abbrev impl_Fetch : Nat := 19
abbrev laws_eqAns : Nat := 20
abbrev laws_markAns : Nat := 21
abbrev laws_heldAns : Nat := 22
abbrev spec_Begin : Nat := 23
abbrev impl_Begin : Nat := 24
abbrev laws_szArr : Nat := 27
abbrev laws_szCmdS : Nat := 28
abbrev laws_szJobS : Nat := 29
abbrev laws_szAnsS : Nat := 30
abbrev laws_szTurnS : Nat := 31
abbrev laws_szIntS : Nat := 32
abbrev spec_l15Copy : Nat := 33
abbrev spec_EngOk : Nat := 34
abbrev spec_l13Copy : Nat := 35
abbrev laws_toArr : Nat := 36
abbrev laws_toCmdS : Nat := 37
abbrev laws_toJobS : Nat := 38
abbrev laws_toAnsS : Nat := 39
abbrev laws_toTurnS : Nat := 40
abbrev laws_toIntS : Nat := 41
abbrev impl_copyEng : Nat := 42
abbrev impl_EngOk : Nat := 43
abbrev impl_copyCmd : Nat := 44
abbrev laws_eqArr : Nat := 45
abbrev laws_eqCmdS : Nat := 46
abbrev laws_eqJobS : Nat := 47
abbrev laws_eqAnsS : Nat := 48
abbrev laws_eqTurnS : Nat := 49
abbrev laws_eqIntS : Nat := 50
abbrev laws_markArr : Nat := 51
abbrev laws_markCmdS : Nat := 52
abbrev laws_markJobS : Nat := 53
abbrev laws_markAnsS : Nat := 54
abbrev laws_markTurnS : Nat := 55
abbrev laws_markIntS : Nat := 56
abbrev laws_heldArr : Nat := 57
abbrev laws_heldCmdS : Nat := 58
abbrev laws_heldJobS : Nat := 59
abbrev laws_heldAnsS : Nat := 60
abbrev laws_heldTurnS : Nat := 61
abbrev spec_l1In : Nat := 62
abbrev spec_l15Ans : Nat := 63
abbrev impl_within : Nat := 64
abbrev slices_Delete_impl_Ans_impl_Ans : Nat := 65
abbrev impl_copyAns : Nat := 66
abbrev laws_heldIntS : Nat := 67
abbrev spec_CanBegin : Nat := 68
abbrev spec_l15Begin : Nat := 69
abbrev impl_CanBegin : Nat := 70
abbrev slices_Delete_impl_Cmd_impl_Cmd : Nat := 71
abbrev impl_CmdCode : Nat := 72
abbrev impl_Eng_answer : Nat := 73
abbrev impl_StepsOf : Nat := 75
abbrev impl_copyInts : Nat := 77
abbrev slices_Delete_impl_Job_impl_Job : Nat := 78
abbrev laws_szMemS : Nat := 79
abbrev laws_szEntS : Nat := 80
abbrev laws_szJob : Nat := 81
abbrev laws_szAns : Nat := 82
abbrev laws_szTurn : Nat := 83
abbrev spec_l6Copy : Nat := 84
abbrev spec_l15Job : Nat := 85
abbrev spec_ArrOk : Nat := 86
abbrev laws_toGeo : Nat := 87
abbrev laws_toMemS : Nat := 88
abbrev laws_toEntS : Nat := 89
abbrev laws_toJob : Nat := 90
abbrev laws_toAns : Nat := 91
abbrev laws_toTurn : Nat := 92
abbrev impl_copyArr : Nat := 93
abbrev impl_jobOk : Nat := 94
abbrev impl_ArrOk : Nat := 95
abbrev impl_Apart : Nat := 96
abbrev laws_eqGeo : Nat := 97
abbrev laws_eqMemS : Nat := 98
abbrev laws_eqEntS : Nat := 99
abbrev laws_eqJob : Nat := 100
abbrev laws_eqTurn : Nat := 101
abbrev laws_markMemS : Nat := 102
abbrev laws_markEntS : Nat := 103
abbrev laws_heldMemS : Nat := 104
abbrev laws_heldEntS : Nat := 105
abbrev spec_l15Can : Nat := 106
abbrev spec_CmdCode : Nat := 107
abbrev spec_l15Answer : Nat := 108
abbrev impl_Clash : Nat := 109
abbrev impl_GeoOk : Nat := 110
abbrev impl_sizeOk : Nat := 111
abbrev impl_Blocks : Nat := 112
abbrev impl_runOf : Nat := 113
abbrev spec_StepsOf : Nat := 114
abbrev impl_stripesOf : Nat := 116
abbrev impl_GetBlock : Nat := 117
abbrev laws_szMem : Nat := 120
abbrev laws_szEnt : Nat := 121
abbrev spec_l2Copy : Nat := 122
abbrev spec_l1Words : Nat := 123
abbrev spec_Clash : Nat := 124
abbrev spec_GeoOk : Nat := 125
abbrev spec_l6Mems : Nat := 126
abbrev spec_l6Dirty : Nat := 127
abbrev laws_toMem : Nat := 128
abbrev laws_toEnt : Nat := 129
abbrev impl_copyMems : Nat := 130
abbrev impl_wordsOk : Nat := 131
abbrev impl_lostOk : Nat := 132
abbrev impl_dirtyOk : Nat := 133
abbrev impl_MemOk : Nat := 134
abbrev impl_sectors : Nat := 135
abbrev laws_eqMem : Nat := 136
abbrev laws_eqEnt : Nat := 137
abbrev laws_markIntSS : Nat := 138
abbrev laws_markWrS : Nat := 139
abbrev laws_heldIntSS : Nat := 140
abbrev laws_heldWrS : Nat := 141
abbrev spec_l13Size : Nat := 142
abbrev spec_Blocks : Nat := 143
abbrev spec_l13Len : Nat := 144
abbrev impl_SpanOf : Nat := 145
abbrev spec_StripeOf : Nat := 146
abbrev spec_GetBlock : Nat := 147
abbrev spec_l16Set : Nat := 149
abbrev impl_StripeOf : Nat := 150
abbrev impl_blockCode : Nat := 151
abbrev impl_dataNow : Nat := 152
abbrev impl_IndexOf : Nat := 153
abbrev impl_isWord : Nat := 154
abbrev impl_hasStripe : Nat := 156
abbrev impl_entOf : Nat := 157
abbrev slices_Delete_impl_Ent_impl_Ent : Nat := 159
abbrev laws_szIntSS : Nat := 160
abbrev laws_szWrS : Nat := 161
abbrev spec_l1Word : Nat := 162
abbrev spec_SpanOf : Nat := 163
abbrev spec_MemOk : Nat := 164
abbrev spec_l6Secs : Nat := 165
abbrev laws_toIntSS : Nat := 166
abbrev laws_toWrS : Nat := 167
abbrev impl_copyMem : Nat := 168
abbrev impl_dataOk : Nat := 169
abbrev impl_SecOk : Nat := 170
abbrev impl_hasSec : Nat := 171
abbrev laws_eqIntSS : Nat := 172
abbrev laws_eqWrS : Nat := 173
abbrev spec_l8Code : Nat := 174
abbrev spec_l8Stripe : Nat := 175
abbrev spec_IndexOf : Nat := 176
abbrev spec_l8May : Nat := 177
abbrev spec_SetBlock : Nat := 179
abbrev impl_hasBlock : Nat := 180
abbrev impl_DataOf : Nat := 181
abbrev slices_IndexFunc_impl_Ent_impl_Ent : Nat := 184
abbrev impl_entOf_1 : Nat := 185
abbrev impl_goodOr : Nat := 187
abbrev laws_szWr : Nat := 188
abbrev spec_SecOk : Nat := 189
abbrev laws_toWr : Nat := 190
abbrev laws_eqWr : Nat := 191
abbrev spec_l8At : Nat := 192
abbrev spec_l6Data : Nat := 193
abbrev spec_l7Code : Nat := 194
abbrev spec_l8Set : Nat := 196
abbrev impl_Words : Nat := 197
abbrev impl_DiskOf : Nat := 198
abbrev spec_l6Words : Nat := 203
abbrev spec_DiskOf : Nat := 204
abbrev spec_l8Put : Nat := 208
abbrev impl_wordAt : Nat := 209
abbrev impl_MissingWord : Nat := 210
abbrev impl_ParityOf : Nat := 211
abbrev impl_Arr_sync : Nat := 213
abbrev impl_SlotOf : Nat := 216
abbrev impl_PutRec : Nat := 217
abbrev impl_ParityWord : Nat := 218
abbrev impl_LiveAt : Nat := 219
abbrev impl_DataAt : Nat := 220
abbrev spec_l6Word : Nat := 221
abbrev spec_MissingWord : Nat := 222
abbrev spec_l3Stripe : Nat := 223
abbrev spec_ParityOf : Nat := 224
abbrev spec_SlotOf : Nat := 228
abbrev spec_PutRec : Nat := 229
abbrev spec_ParityWord : Nat := 230
abbrev spec_LiveAt : Nat := 231
abbrev spec_DataAt : Nat := 232
abbrev impl_ReadSec : Nat := 233
abbrev impl_XorOf : Nat := 234
abbrev impl_Arr_op : Nat := 235
abbrev impl_FlushMem : Nat := 236
abbrev impl_PutSuper : Nat := 237
abbrev impl_superOf : Nat := 238
abbrev impl_RecOk : Nat := 240
abbrev spec_ReadSec : Nat := 241
abbrev spec_l7Op : Nat := 242
abbrev spec_FlushMem : Nat := 243
abbrev spec_PutSuper : Nat := 244
abbrev spec_WriteSec : Nat := 245
abbrev spec_RecOk : Nat := 246
abbrev spec_XorOf : Nat := 247
abbrev slices_Contains_int_int : Nat := 248
abbrev impl_SuperOk : Nat := 249
abbrev impl_WriteSec_1 : Nat := 251
abbrev spec_l2Has : Nat := 252
abbrev spec_SuperOk : Nat := 253
abbrev spec_l2Without : Nat := 254
abbrev slices_Index_int_int : Nat := 255
abbrev slices_IndexFunc_int_int : Nat := 256
end N
namespace TN
abbrev Int64 : Nat := 2
abbrev Int : Nat := 3
abbrev Bool : Nat := 4
abbrev Uint8 : Nat := 5
abbrev String : Nat := 9
abbrev Uintptr : Nat := 12
abbrev Int32 : Nat := 21
abbrev laws_Geo : Nat := 23
abbrev laws_MemS : Nat := 24
abbrev laws_EntS : Nat := 25
abbrev laws_Arr : Nat := 27
abbrev laws_CmdS : Nat := 28
abbrev laws_JobS : Nat := 29
abbrev laws_AnsS : Nat := 30
abbrev laws_TurnS : Nat := 31
abbrev laws_Eng : Nat := 33
abbrev IntS : Nat := 34
abbrev laws_Cmd : Nat := 36
abbrev impl_Geo : Nat := 39
abbrev impl_MemS : Nat := 40
abbrev impl_EntS : Nat := 41
abbrev impl_Arr : Nat := 43
abbrev impl_CmdS : Nat := 44
abbrev impl_JobS : Nat := 45
abbrev impl_AnsS : Nat := 46
abbrev impl_TurnS : Nat := 47
abbrev impl_Eng : Nat := 49
abbrev impl_Cmd : Nat := 53
abbrev impl_Ans : Nat := 61
abbrev impl_Job : Nat := 103
abbrev laws_Job : Nat := 112
abbrev laws_Ans : Nat := 114
abbrev laws_Turn : Nat := 117
abbrev impl_Turn : Nat := 120
abbrev IntSS : Nat := 151
abbrev laws_WrS : Nat := 152
abbrev laws_Mem : Nat := 154
abbrev laws_Ent : Nat := 157
abbrev impl_WrS : Nat := 158
abbrev impl_Mem : Nat := 160
abbrev impl_Ent : Nat := 162
abbrev impl_Wr : Nat := 184
abbrev laws_Wr : Nat := 199
abbrev impl_Rec : Nat := 208
abbrev impl_Super : Nat := 225
abbrev Uint32 : Nat := 242
end TN
noncomputable def fnTab : Tr Func := (.node (.node (.node (.node (.node (.node (.node (.node .nil 3 Tryz.f3 .nil) 4 Tryz.f4 (.node .nil 5 Tryz.f5 .nil)) 7 Tryz.f7 (.node (.node .nil 8 Tryz.f8 .nil) 9 Tryz.f9 .nil)) 10 Tryz.f10 (.node (.node (.node .nil 11 Tryz.f11 .nil) 12 Tryz.f12 (.node .nil 13 Tryz.f13 .nil)) 14 Tryz.f14 (.node (.node .nil 15 Tryz.f15 .nil) 16 Tryz.f16 .nil))) 17 Tryz.f17 (.node (.node (.node (.node .nil 18 Tryz.f18 .nil) 19 Tryz.f19 (.node .nil 20 Tryz.f20 .nil)) 21 Tryz.f21 (.node (.node .nil 22 Tryz.f22 .nil) 23 Tryz.f23 .nil)) 24 Tryz.f24 (.node (.node (.node .nil 27 Tryz.f27 .nil) 28 Tryz.f28 (.node .nil 29 Tryz.f29 .nil)) 30 Tryz.f30 (.node (.node .nil 31 Tryz.f31 .nil) 32 Tryz.f32 .nil)))) 33 Tryz.f33 (.node (.node (.node (.node (.node .nil 34 Tryz.f34 .nil) 35 Tryz.f35 (.node .nil 36 Tryz.f36 .nil)) 37 Tryz.f37 (.node (.node .nil 38 Tryz.f38 .nil) 39 Tryz.f39 .nil)) 40 Tryz.f40 (.node (.node (.node .nil 41 Tryz.f41 .nil) 42 Tryz.f42 (.node .nil 43 Tryz.f43 .nil)) 44 Tryz.f44 (.node (.node .nil 45 Tryz.f45 .nil) 46 Tryz.f46 .nil))) 47 Tryz.f47 (.node (.node (.node (.node .nil 48 Tryz.f48 .nil) 49 Tryz.f49 (.node .nil 50 Tryz.f50 .nil)) 51 Tryz.f51 (.node (.node .nil 52 Tryz.f52 .nil) 53 Tryz.f53 .nil)) 54 Tryz.f54 (.node (.node (.node .nil 55 Tryz.f55 .nil) 56 Tryz.f56 (.node .nil 57 Tryz.f57 .nil)) 58 Tryz.f58 (.node (.node .nil 59 Tryz.f59 .nil) 60 Tryz.f60 .nil))))) 61 Tryz.f61 (.node (.node (.node (.node (.node (.node .nil 62 Tryz.f62 .nil) 63 Tryz.f63 (.node .nil 64 Tryz.f64 .nil)) 65 Tryz.f65 (.node (.node .nil 66 Tryz.f66 .nil) 67 Tryz.f67 .nil)) 68 Tryz.f68 (.node (.node (.node .nil 69 Tryz.f69 .nil) 70 Tryz.f70 (.node .nil 71 Tryz.f71 .nil)) 72 Tryz.f72 (.node (.node .nil 73 Tryz.f73 .nil) 75 Tryz.f75 .nil))) 77 Tryz.f77 (.node (.node (.node (.node .nil 78 Tryz.f78 .nil) 79 Tryz.f79 (.node .nil 80 Tryz.f80 .nil)) 81 Tryz.f81 (.node (.node .nil 82 Tryz.f82 .nil) 83 Tryz.f83 .nil)) 84 Tryz.f84 (.node (.node (.node .nil 85 Tryz.f85 .nil) 86 Tryz.f86 (.node .nil 87 Tryz.f87 .nil)) 88 Tryz.f88 (.node (.node .nil 89 Tryz.f89 .nil) 90 Tryz.f90 .nil)))) 91 Tryz.f91 (.node (.node (.node (.node (.node .nil 92 Tryz.f92 .nil) 93 Tryz.f93 (.node .nil 94 Tryz.f94 .nil)) 95 Tryz.f95 (.node (.node .nil 96 Tryz.f96 .nil) 97 Tryz.f97 .nil)) 98 Tryz.f98 (.node (.node (.node .nil 99 Tryz.f99 .nil) 100 Tryz.f100 (.node .nil 101 Tryz.f101 .nil)) 102 Tryz.f102 (.node (.node .nil 103 Tryz.f103 .nil) 104 Tryz.f104 .nil))) 105 Tryz.f105 (.node (.node (.node (.node .nil 106 Tryz.f106 .nil) 107 Tryz.f107 (.node .nil 108 Tryz.f108 .nil)) 109 Tryz.f109 (.node (.node .nil 110 Tryz.f110 .nil) 111 Tryz.f111 .nil)) 112 Tryz.f112 (.node (.node (.node .nil 113 Tryz.f113 .nil) 114 Tryz.f114 (.node .nil 116 Tryz.f116 .nil)) 117 Tryz.f117 (.node (.node .nil 120 Tryz.f120 .nil) 121 Tryz.f121 .nil)))))) 122 Tryz.f122 (.node (.node (.node (.node (.node (.node (.node .nil 123 Tryz.f123 .nil) 124 Tryz.f124 (.node .nil 125 Tryz.f125 .nil)) 126 Tryz.f126 (.node (.node .nil 127 Tryz.f127 .nil) 128 Tryz.f128 .nil)) 129 Tryz.f129 (.node (.node (.node .nil 130 Tryz.f130 .nil) 131 Tryz.f131 (.node .nil 132 Tryz.f132 .nil)) 133 Tryz.f133 (.node (.node .nil 134 Tryz.f134 .nil) 135 Tryz.f135 .nil))) 136 Tryz.f136 (.node (.node (.node (.node .nil 137 Tryz.f137 .nil) 138 Tryz.f138 (.node .nil 139 Tryz.f139 .nil)) 140 Tryz.f140 (.node (.node .nil 141 Tryz.f141 .nil) 142 Tryz.f142 .nil)) 143 Tryz.f143 (.node (.node (.node .nil 144 Tryz.f144 .nil) 145 Tryz.f145 (.node .nil 146 Tryz.f146 .nil)) 147 Tryz.f147 (.node (.node .nil 149 Tryz.f149 .nil) 150 Tryz.f150 .nil)))) 151 Tryz.f151 (.node (.node (.node (.node (.node .nil 152 Tryz.f152 .nil) 153 Tryz.f153 (.node .nil 154 Tryz.f154 .nil)) 156 Tryz.f156 (.node (.node .nil 157 Tryz.f157 .nil) 159 Tryz.f159 .nil)) 160 Tryz.f160 (.node (.node (.node .nil 161 Tryz.f161 .nil) 162 Tryz.f162 (.node .nil 163 Tryz.f163 .nil)) 164 Tryz.f164 (.node (.node .nil 165 Tryz.f165 .nil) 166 Tryz.f166 .nil))) 167 Tryz.f167 (.node (.node (.node (.node .nil 168 Tryz.f168 .nil) 169 Tryz.f169 (.node .nil 170 Tryz.f170 .nil)) 171 Tryz.f171 (.node (.node .nil 172 Tryz.f172 .nil) 173 Tryz.f173 .nil)) 174 Tryz.f174 (.node (.node (.node .nil 175 Tryz.f175 .nil) 176 Tryz.f176 (.node .nil 177 Tryz.f177 .nil)) 179 Tryz.f179 (.node (.node .nil 180 Tryz.f180 .nil) 181 Tryz.f181 .nil))))) 184 Tryz.f184 (.node (.node (.node (.node (.node (.node .nil 185 Tryz.f185 .nil) 187 Tryz.f187 (.node .nil 188 Tryz.f188 .nil)) 189 Tryz.f189 (.node (.node .nil 190 Tryz.f190 .nil) 191 Tryz.f191 .nil)) 192 Tryz.f192 (.node (.node (.node .nil 193 Tryz.f193 .nil) 194 Tryz.f194 (.node .nil 196 Tryz.f196 .nil)) 197 Tryz.f197 (.node (.node .nil 198 Tryz.f198 .nil) 203 Tryz.f203 .nil))) 204 Tryz.f204 (.node (.node (.node (.node .nil 208 Tryz.f208 .nil) 209 Tryz.f209 (.node .nil 210 Tryz.f210 .nil)) 211 Tryz.f211 (.node (.node .nil 213 Tryz.f213 .nil) 216 Tryz.f216 .nil)) 217 Tryz.f217 (.node (.node (.node .nil 218 Tryz.f218 .nil) 219 Tryz.f219 (.node .nil 220 Tryz.f220 .nil)) 221 Tryz.f221 (.node (.node .nil 222 Tryz.f222 .nil) 223 Tryz.f223 .nil)))) 224 Tryz.f224 (.node (.node (.node (.node (.node .nil 228 Tryz.f228 .nil) 229 Tryz.f229 (.node .nil 230 Tryz.f230 .nil)) 231 Tryz.f231 (.node (.node .nil 232 Tryz.f232 .nil) 233 Tryz.f233 .nil)) 234 Tryz.f234 (.node (.node (.node .nil 235 Tryz.f235 .nil) 236 Tryz.f236 (.node .nil 237 Tryz.f237 .nil)) 238 Tryz.f238 (.node (.node .nil 240 Tryz.f240 .nil) 241 Tryz.f241 .nil))) 242 Tryz.f242 (.node (.node (.node (.node .nil 243 Tryz.f243 .nil) 244 Tryz.f244 (.node .nil 245 Tryz.f245 .nil)) 246 Tryz.f246 (.node (.node .nil 247 Tryz.f247 .nil) 248 Tryz.f248 .nil)) 249 Tryz.f249 (.node (.node (.node .nil 251 Tryz.f251 .nil) 252 Tryz.f252 (.node .nil 253 Tryz.f253 .nil)) 254 Tryz.f254 (.node (.node .nil 255 Tryz.f255 .nil) 256 Tryz.f256 .nil)))))))
def sigTab : Tr Sig := (.node (.node (.node (.node (.node (.node (.node .nil 9 ⟨[], [false, false, false, true, false, false, false, false, false, true, false, false, false, true, true, true, true, false], [], false⟩ .nil) 10 ⟨[], [false, false, false, true, false, false, false, false, false, true, false, false, false, true, true, true, true, false, false, false, true, false, false, false, false, false, true, false, false, false, true, true, true, true], [], true⟩ .nil) 11 ⟨[], [false, false, false, false, true], [], false⟩ (.node .nil 12 ⟨[], [false, false, false, true, false, false, false, false, false, true, false, false, false, true, true, true, true, false, false, false, false, true, false, false, false, false, false, true, false, false, false, true, true, true, true, false], [], true⟩ .nil)) 15 ⟨[[false, false, false, true, false, false, false, false, false, true, false, false, false, true, true, true, true, false, false, false, true, false, false, false, false, false, true, false, false, false, true, true, true, true, true], [false]], [], [], true⟩ (.node (.node (.node .nil 16 ⟨[[false, false, false, false, true, false, false, false, false, false, true], [false]], [], [], false⟩ .nil) 18 ⟨[], [false, false, false, true, false, false, false, false, false, true, false, false, false, true, true, true, true, false, false, true, false], [], false⟩ .nil) 19 ⟨[], [false, false, false, true, false, false, false, false, false, true, false, false, false, true, true, true, true, false, false, true, false, false, false, false, true, false, false, false, false, false, true, false, false, false, true, true, true, true, false, false, false, false], [], true⟩ (.node .nil 21 ⟨[[false, false, true, false, false, false, true], [false]], [], [], false⟩ .nil))) 23 ⟨[], [false, false, false, true, false, false, false, false, false, true, false, false, false, true, true, true, true, false], [], false⟩ (.node (.node (.node (.node .nil 24 ⟨[], [false, false, false, true, false, false, false, false, false, true, false, false, false, true, true, true, true, false, false, false, false, true, false, false, false, false, false, true, false, false, false, true, true, true, true, false], [], true⟩ .nil) 33 ⟨[], [false, false, false, true, false, false, false, false, false, true, false, false, false, true, true, true, true], [], false⟩ .nil) 35 ⟨[], [false, false, false, false, true], [], false⟩ (.node .nil 36 ⟨[], [false, false, false, true, false, false, false, false, false, true, false, false, false, false, false, false, true, false, false, false, false, false, true, false, false, false], [], true⟩ .nil)) 37 ⟨[], [true, true, true], [], true⟩ (.node (.node .nil 38 ⟨[], [true, true, true], [], true⟩ .nil) 39 ⟨[], [true, true, true], [], true⟩ (.node .nil 40 ⟨[], [true, true, true], [], true⟩ .nil)))) 41 ⟨[], [true], [], false⟩ (.node (.node (.node (.node (.node .nil 42 ⟨[], [false, false, false, true, false, false, false, false, false, true, false, false, false, true, true, true, true, false, false, false, true, false, false, false, false, false, true, false, false, false, true, true, true, true], [], true⟩ .nil) 44 ⟨[], [false, false, false, false, true], [], false⟩ .nil) 51 ⟨[[false, false, false, true, false, false, false, false, false, true, false, false, false, false, false, false, true, false, false, false, false, false, true, false, false, false, true], [false]], [], [], true⟩ (.node .nil 52 ⟨[[true, true], [false]], [], [], true⟩ .nil)) 53 ⟨[[true, true], [false]], [], [], true⟩ (.node (.node .nil 54 ⟨[[true, true], [false]], [], [], true⟩ .nil) 55 ⟨[[true, true], [false]], [], [], true⟩ (.node .nil 56 ⟨[[false, true], [false]], [], [], false⟩ .nil))) 63 ⟨[], [false, false, true], [], false⟩ (.node (.node (.node (.node .nil 66 ⟨[], [false, false, true], [], false⟩ .nil) 69 ⟨[[false, false, false, true, false, false, false, false, false, true, false, false, false, true, true, true, true], [false]], [], [], false⟩ .nil) 73 ⟨[[false, false, false, true, false, false, false, false, false, true, false, false, false, true, true, true, true, false, false, false, true, false, false, false, false, false, true, false, false, false, true, true, true, true], [false, false, false, false, true], [false, false, true]], [], [], true⟩ (.node .nil 77 ⟨[], [true], [], false⟩ .nil)) 84 ⟨[], [false, false, false, true, false, false, false, false, false, true, false, false, false], [], false⟩ (.node (.node .nil 88 ⟨[], [true, true, true], [], true⟩ .nil) 89 ⟨[], [true, true, true], [], true⟩ (.node .nil 90 ⟨[], [false, false, false, false, true, false, true, false], [], false⟩ .nil))))) 91 ⟨[], [false, false, true], [], false⟩ (.node (.node (.node (.node (.node (.node .nil 92 ⟨[], [false, false, false, false, true, false, false, true], [], false⟩ .nil) 93 ⟨[], [false, false, false, true, false, false, false, false, false, true, false, false, false, false, false, false, true, false, false, false, false, false, true, false, false, false], [], true⟩ .nil) 102 ⟨[[true, true], [false]], [], [], true⟩ (.node .nil 103 ⟨[[true, true], [false]], [], [], true⟩ .nil)) 108 ⟨[[false, false, false, true, false, false, false, false, false, true, false, false, false, true, true, true, true], [false, false, false, false, false], [false, false, false]], [], [], false⟩ (.node (.node .nil 122 ⟨[], [true, true, false, true], [], false⟩ .nil) 128 ⟨[], [true, true, false, true, true, true, false, false], [], true⟩ (.node .nil 129 ⟨[], [false, true], [], false⟩ .nil))) 130 ⟨[], [true, true, true], [], true⟩ (.node (.node (.node (.node .nil 138 ⟨[[true, true], [false]], [], [], true⟩ .nil) 139 ⟨[[true, true], [false]], [], [], true⟩ .nil) 152 ⟨[], [true, false], [], false⟩ (.node .nil 166 ⟨[], [true, true, true], [], true⟩ .nil)) 167 ⟨[], [true, true, true], [], true⟩ (.node (.node .nil 168 ⟨[], [true, true, false, true, true, true, false, false], [], true⟩ .nil) 175 ⟨[], [true, false], [], false⟩ (.node .nil 181 ⟨[], [true, false], [], false⟩ .nil)))) 185 ⟨[], [], [3], false⟩ (.node (.node (.node (.node (.node .nil 190 ⟨[], [false, true], [], false⟩ .nil) 193 ⟨[], [true, false], [], false⟩ .nil) 197 ⟨[], [true, false], [], false⟩ (.node .nil 203 ⟨[], [true, false], [], false⟩ .nil)) 213 ⟨[[false, false, false, true, false, false, false, false, false, true, false, false, false]], [], [], false⟩ (.node (.node .nil 217 ⟨[], [true], [], false⟩ .nil) 229 ⟨[], [true], [], false⟩ (.node .nil 233 ⟨[], [true, false], [], false⟩ .nil))) 235 ⟨[[false, false, false, true, false, false, false, false, false, true, false, false, false]], [], [], false⟩ (.node (.node (.node (.node .nil 236 ⟨[], [true, true, false, true], [], false⟩ .nil) 237 ⟨[], [true], [], false⟩ .nil) 241 ⟨[], [true, false], [], false⟩ (.node .nil 243 ⟨[], [true, true, false, true], [], false⟩ .nil)) 244 ⟨[], [true], [], false⟩ (.node (.node .nil 245 ⟨[], [true, true, false, true, false], [], false⟩ .nil) 251 ⟨[], [], [3], false⟩ (.node .nil 254 ⟨[], [true], [], false⟩ .nil))))))
noncomputable def E : Env := { tys := tys, fn := fnTab.get, sig := sigOf sigTab, gl := [], del := [(65, 61), (71, 53), (78, 103), (159, 162)] }
def P0 : FuncId → Option (List Arg → Option Outs) := fun _ => none
theorem tabOk_ : tabOk Tryz.prog E = true := by kernel_rfl
theorem orders_ : Tryz.prog.follows .mixedOrders = true := by kernel_rfl
theorem allF_ : AllF Tryz.prog fnTab := ⟨⟨Tryz.func122, by kernel_rfl, by kernel_rfl⟩, ⟨⟨Tryz.func61, by kernel_rfl, by kernel_rfl⟩, ⟨⟨Tryz.func33, by kernel_rfl, by kernel_rfl⟩, ⟨⟨Tryz.func17, by kernel_rfl, by kernel_rfl⟩, ⟨⟨Tryz.func10, by kernel_rfl, by kernel_rfl⟩, ⟨⟨Tryz.func7, by kernel_rfl, by kernel_rfl⟩, ⟨⟨Tryz.func4, by kernel_rfl, by kernel_rfl⟩, ⟨⟨Tryz.func3, by kernel_rfl, by kernel_rfl⟩, trivial, trivial⟩, ⟨⟨Tryz.func5, by kernel_rfl, by kernel_rfl⟩, trivial, trivial⟩⟩, ⟨⟨Tryz.func9, by kernel_rfl, by kernel_rfl⟩, ⟨⟨Tryz.func8, by kernel_rfl, by kernel_rfl⟩, trivial, trivial⟩, trivial⟩⟩, ⟨⟨Tryz.func14, by kernel_rfl, by kernel_rfl⟩, ⟨⟨Tryz.func12, by kernel_rfl, by kernel_rfl⟩, ⟨⟨Tryz.func11, by kernel_rfl, by kernel_rfl⟩, trivial, trivial⟩, ⟨⟨Tryz.func13, by kernel_rfl, by kernel_rfl⟩, trivial, trivial⟩⟩, ⟨⟨Tryz.func16, by kernel_rfl, by kernel_rfl⟩, ⟨⟨Tryz.func15, by kernel_rfl, by kernel_rfl⟩, trivial, trivial⟩, trivial⟩⟩⟩, ⟨⟨Tryz.func24, by kernel_rfl, by kernel_rfl⟩, ⟨⟨Tryz.func21, by kernel_rfl, by kernel_rfl⟩, ⟨⟨Tryz.func19, by kernel_rfl, by kernel_rfl⟩, ⟨⟨Tryz.func18, by kernel_rfl, by kernel_rfl⟩, trivial, trivial⟩, ⟨⟨Tryz.func20, by kernel_rfl, by kernel_rfl⟩, trivial, trivial⟩⟩, ⟨⟨Tryz.func23, by kernel_rfl, by kernel_rfl⟩, ⟨⟨Tryz.func22, by kernel_rfl, by kernel_rfl⟩, trivial, trivial⟩, trivial⟩⟩, ⟨⟨Tryz.func30, by kernel_rfl, by kernel_rfl⟩, ⟨⟨Tryz.func28, by kernel_rfl, by kernel_rfl⟩, ⟨⟨Tryz.func27, by kernel_rfl, by kernel_rfl⟩, trivial, trivial⟩, ⟨⟨Tryz.func29, by kernel_rfl, by kernel_rfl⟩, trivial, trivial⟩⟩, ⟨⟨Tryz.func32, by kernel_rfl, by kernel_rfl⟩, ⟨⟨Tryz.func31, by kernel_rfl, by kernel_rfl⟩, trivial, trivial⟩, trivial⟩⟩⟩⟩, ⟨⟨Tryz.func47, by kernel_rfl, by kernel_rfl⟩, ⟨⟨Tryz.func40, by kernel_rfl, by kernel_rfl⟩, ⟨⟨Tryz.func37, by kernel_rfl, by kernel_rfl⟩, ⟨⟨Tryz.func35, by kernel_rfl, by kernel_rfl⟩, ⟨⟨Tryz.func34, by kernel_rfl, by kernel_rfl⟩, trivial, trivial⟩, ⟨⟨Tryz.func36, by kernel_rfl, by kernel_rfl⟩, trivial, trivial⟩⟩, ⟨⟨Tryz.func39, by kernel_rfl, by kernel_rfl⟩, ⟨⟨Tryz.func38, by kernel_rfl, by kernel_rfl⟩, trivial, trivial⟩, trivial⟩⟩, ⟨⟨Tryz.func44, by kernel_rfl, by kernel_rfl⟩, ⟨⟨Tryz.func42, by kernel_rfl, by kernel_rfl⟩, ⟨⟨Tryz.func41, by kernel_rfl, by kernel_rfl⟩, trivial, trivial⟩, ⟨⟨Tryz.func43, by kernel_rfl, by kernel_rfl⟩, trivial, trivial⟩⟩, ⟨⟨Tryz.func46, by kernel_rfl, by kernel_rfl⟩, ⟨⟨Tryz.func45, by kernel_rfl, by kernel_rfl⟩, trivial, trivial⟩, trivial⟩⟩⟩, ⟨⟨Tryz.func54, by kernel_rfl, by kernel_rfl⟩, ⟨⟨Tryz.func51, by kernel_rfl, by kernel_rfl⟩, ⟨⟨Tryz.func49, by kernel_rfl, by kernel_rfl⟩, ⟨⟨Tryz.func48, by kernel_rfl, by kernel_rfl⟩, trivial, trivial⟩, ⟨⟨Tryz.func50, by kernel_rfl, by kernel_rfl⟩, trivial, trivial⟩⟩, ⟨⟨Tryz.func53, by kernel_rfl, by kernel_rfl⟩, ⟨⟨Tryz.func52, by kernel_rfl, by kernel_rfl⟩, trivial, trivial⟩, trivial⟩⟩, ⟨⟨Tryz.func58, by kernel_rfl, by kernel_rfl⟩, ⟨⟨Tryz.func56, by kernel_rfl, by kernel_rfl⟩, ⟨⟨Tryz.func55, by kernel_rfl, by kernel_rfl⟩, trivial, trivial⟩, ⟨⟨Tryz.func57, by kernel_rfl, by kernel_rfl⟩, trivial, trivial⟩⟩, ⟨⟨Tryz.func60, by kernel_rfl, by kernel_rfl⟩, ⟨⟨Tryz.func59, by kernel_rfl, by kernel_rfl⟩, trivial, trivial⟩, trivial⟩⟩⟩⟩⟩, ⟨⟨Tryz.func91, by kernel_rfl, by kernel_rfl⟩, ⟨⟨Tryz.func77, by kernel_rfl, by kernel_rfl⟩, ⟨⟨Tryz.func68, by kernel_rfl, by kernel_rfl⟩, ⟨⟨Tryz.func65, by kernel_rfl, by kernel_rfl⟩, ⟨⟨Tryz.func63, by kernel_rfl, by kernel_rfl⟩, ⟨⟨Tryz.func62, by kernel_rfl, by kernel_rfl⟩, trivial, trivial⟩, ⟨⟨Tryz.func64, by kernel_rfl, by kernel_rfl⟩, trivial, trivial⟩⟩, ⟨⟨Tryz.func67, by kernel_rfl, by kernel_rfl⟩, ⟨⟨Tryz.func66, by kernel_rfl, by kernel_rfl⟩, trivial, trivial⟩, trivial⟩⟩, ⟨⟨Tryz.func72, by kernel_rfl, by kernel_rfl⟩, ⟨⟨Tryz.func70, by kernel_rfl, by kernel_rfl⟩, ⟨⟨Tryz.func69, by kernel_rfl, by kernel_rfl⟩, trivial, trivial⟩, ⟨⟨Tryz.func71, by kernel_rfl, by kernel_rfl⟩, trivial, trivial⟩⟩, ⟨⟨Tryz.func75, by kernel_rfl, by kernel_rfl⟩, ⟨⟨Tryz.func73, by kernel_rfl, by kernel_rfl⟩, trivial, trivial⟩, trivial⟩⟩⟩, ⟨⟨Tryz.func84, by kernel_rfl, by kernel_rfl⟩, ⟨⟨Tryz.func81, by kernel_rfl, by kernel_rfl⟩, ⟨⟨Tryz.func79, by kernel_rfl, by kernel_rfl⟩, ⟨⟨Tryz.func78, by kernel_rfl, by kernel_rfl⟩, trivial, trivial⟩, ⟨⟨Tryz.func80, by kernel_rfl, by kernel_rfl⟩, trivial, trivial⟩⟩, ⟨⟨Tryz.func83, by kernel_rfl, by kernel_rfl⟩, ⟨⟨Tryz.func82, by kernel_rfl, by kernel_rfl⟩, trivial, trivial⟩, trivial⟩⟩, ⟨⟨Tryz.func88, by kernel_rfl, by kernel_rfl⟩, ⟨⟨Tryz.func86, by kernel_rfl, by kernel_rfl⟩, ⟨⟨Tryz.func85, by kernel_rfl, by kernel_rfl⟩, trivial, trivial⟩, ⟨⟨Tryz.func87, by kernel_rfl, by kernel_rfl⟩, trivial, trivial⟩⟩, ⟨⟨Tryz.func90, by kernel_rfl, by kernel_rfl⟩, ⟨⟨Tryz.func89, by kernel_rfl, by kernel_rfl⟩, trivial, trivial⟩, trivial⟩⟩⟩⟩, ⟨⟨Tryz.func105, by kernel_rfl, by kernel_rfl⟩, ⟨⟨Tryz.func98, by kernel_rfl, by kernel_rfl⟩, ⟨⟨Tryz.func95, by kernel_rfl, by kernel_rfl⟩, ⟨⟨Tryz.func93, by kernel_rfl, by kernel_rfl⟩, ⟨⟨Tryz.func92, by kernel_rfl, by kernel_rfl⟩, trivial, trivial⟩, ⟨⟨Tryz.func94, by kernel_rfl, by kernel_rfl⟩, trivial, trivial⟩⟩, ⟨⟨Tryz.func97, by kernel_rfl, by kernel_rfl⟩, ⟨⟨Tryz.func96, by kernel_rfl, by kernel_rfl⟩, trivial, trivial⟩, trivial⟩⟩, ⟨⟨Tryz.func102, by kernel_rfl, by kernel_rfl⟩, ⟨⟨Tryz.func100, by kernel_rfl, by kernel_rfl⟩, ⟨⟨Tryz.func99, by kernel_rfl, by kernel_rfl⟩, trivial, trivial⟩, ⟨⟨Tryz.func101, by kernel_rfl, by kernel_rfl⟩, trivial, trivial⟩⟩, ⟨⟨Tryz.func104, by kernel_rfl, by kernel_rfl⟩, ⟨⟨Tryz.func103, by kernel_rfl, by kernel_rfl⟩, trivial, trivial⟩, trivial⟩⟩⟩, ⟨⟨Tryz.func112, by kernel_rfl, by kernel_rfl⟩, ⟨⟨Tryz.func109, by kernel_rfl, by kernel_rfl⟩, ⟨⟨Tryz.func107, by kernel_rfl, by kernel_rfl⟩, ⟨⟨Tryz.func106, by kernel_rfl, by kernel_rfl⟩, trivial, trivial⟩, ⟨⟨Tryz.func108, by kernel_rfl, by kernel_rfl⟩, trivial, trivial⟩⟩, ⟨⟨Tryz.func111, by kernel_rfl, by kernel_rfl⟩, ⟨⟨Tryz.func110, by kernel_rfl, by kernel_rfl⟩, trivial, trivial⟩, trivial⟩⟩, ⟨⟨Tryz.func117, by kernel_rfl, by kernel_rfl⟩, ⟨⟨Tryz.func114, by kernel_rfl, by kernel_rfl⟩, ⟨⟨Tryz.func113, by kernel_rfl, by kernel_rfl⟩, trivial, trivial⟩, ⟨⟨Tryz.func116, by kernel_rfl, by kernel_rfl⟩, trivial, trivial⟩⟩, ⟨⟨Tryz.func121, by kernel_rfl, by kernel_rfl⟩, ⟨⟨Tryz.func120, by kernel_rfl, by kernel_rfl⟩, trivial, trivial⟩, trivial⟩⟩⟩⟩⟩⟩, ⟨⟨Tryz.func184, by kernel_rfl, by kernel_rfl⟩, ⟨⟨Tryz.func151, by kernel_rfl, by kernel_rfl⟩, ⟨⟨Tryz.func136, by kernel_rfl, by kernel_rfl⟩, ⟨⟨Tryz.func129, by kernel_rfl, by kernel_rfl⟩, ⟨⟨Tryz.func126, by kernel_rfl, by kernel_rfl⟩, ⟨⟨Tryz.func124, by kernel_rfl, by kernel_rfl⟩, ⟨⟨Tryz.func123, by kernel_rfl, by kernel_rfl⟩, trivial, trivial⟩, ⟨⟨Tryz.func125, by kernel_rfl, by kernel_rfl⟩, trivial, trivial⟩⟩, ⟨⟨Tryz.func128, by kernel_rfl, by kernel_rfl⟩, ⟨⟨Tryz.func127, by kernel_rfl, by kernel_rfl⟩, trivial, trivial⟩, trivial⟩⟩, ⟨⟨Tryz.func133, by kernel_rfl, by kernel_rfl⟩, ⟨⟨Tryz.func131, by kernel_rfl, by kernel_rfl⟩, ⟨⟨Tryz.func130, by kernel_rfl, by kernel_rfl⟩, trivial, trivial⟩, ⟨⟨Tryz.func132, by kernel_rfl, by kernel_rfl⟩, trivial, trivial⟩⟩, ⟨⟨Tryz.func135, by kernel_rfl, by kernel_rfl⟩, ⟨⟨Tryz.func134, by kernel_rfl, by kernel_rfl⟩, trivial, trivial⟩, trivial⟩⟩⟩, ⟨⟨Tryz.func143, by kernel_rfl, by kernel_rfl⟩, ⟨⟨Tryz.func140, by kernel_rfl, by kernel_rfl⟩, ⟨⟨Tryz.func138, by kernel_rfl, by kernel_rfl⟩, ⟨⟨Tryz.func137, by kernel_rfl, by kernel_rfl⟩, trivial, trivial⟩, ⟨⟨Tryz.func139, by kernel_rfl, by kernel_rfl⟩, trivial, trivial⟩⟩, ⟨⟨Tryz.func142, by kernel_rfl, by kernel_rfl⟩, ⟨⟨Tryz.func141, by kernel_rfl, by kernel_rfl⟩, trivial, trivial⟩, trivial⟩⟩, ⟨⟨Tryz.func147, by kernel_rfl, by kernel_rfl⟩, ⟨⟨Tryz.func145, by kernel_rfl, by kernel_rfl⟩, ⟨⟨Tryz.func144, by kernel_rfl, by kernel_rfl⟩, trivial, trivial⟩, ⟨⟨Tryz.func146, by kernel_rfl, by kernel_rfl⟩, trivial, trivial⟩⟩, ⟨⟨Tryz.func150, by kernel_rfl, by kernel_rfl⟩, ⟨⟨Tryz.func149, by kernel_rfl, by kernel_rfl⟩, trivial, trivial⟩, trivial⟩⟩⟩⟩, ⟨⟨Tryz.func167, by kernel_rfl, by kernel_rfl⟩, ⟨⟨Tryz.func160, by kernel_rfl, by kernel_rfl⟩, ⟨⟨Tryz.func156, by kernel_rfl, by kernel_rfl⟩, ⟨⟨Tryz.func153, by kernel_rfl, by kernel_rfl⟩, ⟨⟨Tryz.func152, by kernel_rfl, by kernel_rfl⟩, trivial, trivial⟩, ⟨⟨Tryz.func154, by kernel_rfl, by kernel_rfl⟩, trivial, trivial⟩⟩, ⟨⟨Tryz.func159, by kernel_rfl, by kernel_rfl⟩, ⟨⟨Tryz.func157, by kernel_rfl, by kernel_rfl⟩, trivial, trivial⟩, trivial⟩⟩, ⟨⟨Tryz.func164, by kernel_rfl, by kernel_rfl⟩, ⟨⟨Tryz.func162, by kernel_rfl, by kernel_rfl⟩, ⟨⟨Tryz.func161, by kernel_rfl, by kernel_rfl⟩, trivial, trivial⟩, ⟨⟨Tryz.func163, by kernel_rfl, by kernel_rfl⟩, trivial, trivial⟩⟩, ⟨⟨Tryz.func166, by kernel_rfl, by kernel_rfl⟩, ⟨⟨Tryz.func165, by kernel_rfl, by kernel_rfl⟩, trivial, trivial⟩, trivial⟩⟩⟩, ⟨⟨Tryz.func174, by kernel_rfl, by kernel_rfl⟩, ⟨⟨Tryz.func171, by kernel_rfl, by kernel_rfl⟩, ⟨⟨Tryz.func169, by kernel_rfl, by kernel_rfl⟩, ⟨⟨Tryz.func168, by kernel_rfl, by kernel_rfl⟩, trivial, trivial⟩, ⟨⟨Tryz.func170, by kernel_rfl, by kernel_rfl⟩, trivial, trivial⟩⟩, ⟨⟨Tryz.func173, by kernel_rfl, by kernel_rfl⟩, ⟨⟨Tryz.func172, by kernel_rfl, by kernel_rfl⟩, trivial, trivial⟩, trivial⟩⟩, ⟨⟨Tryz.func179, by kernel_rfl, by kernel_rfl⟩, ⟨⟨Tryz.func176, by kernel_rfl, by kernel_rfl⟩, ⟨⟨Tryz.func175, by kernel_rfl, by kernel_rfl⟩, trivial, trivial⟩, ⟨⟨Tryz.func177, by kernel_rfl, by kernel_rfl⟩, trivial, trivial⟩⟩, ⟨⟨Tryz.func181, by kernel_rfl, by kernel_rfl⟩, ⟨⟨Tryz.func180, by kernel_rfl, by kernel_rfl⟩, trivial, trivial⟩, trivial⟩⟩⟩⟩⟩, ⟨⟨Tryz.func224, by kernel_rfl, by kernel_rfl⟩, ⟨⟨Tryz.func204, by kernel_rfl, by kernel_rfl⟩, ⟨⟨Tryz.func192, by kernel_rfl, by kernel_rfl⟩, ⟨⟨Tryz.func189, by kernel_rfl, by kernel_rfl⟩, ⟨⟨Tryz.func187, by kernel_rfl, by kernel_rfl⟩, ⟨⟨Tryz.func185, by kernel_rfl, by kernel_rfl⟩, trivial, trivial⟩, ⟨⟨Tryz.func188, by kernel_rfl, by kernel_rfl⟩, trivial, trivial⟩⟩, ⟨⟨Tryz.func191, by kernel_rfl, by kernel_rfl⟩, ⟨⟨Tryz.func190, by kernel_rfl, by kernel_rfl⟩, trivial, trivial⟩, trivial⟩⟩, ⟨⟨Tryz.func197, by kernel_rfl, by kernel_rfl⟩, ⟨⟨Tryz.func194, by kernel_rfl, by kernel_rfl⟩, ⟨⟨Tryz.func193, by kernel_rfl, by kernel_rfl⟩, trivial, trivial⟩, ⟨⟨Tryz.func196, by kernel_rfl, by kernel_rfl⟩, trivial, trivial⟩⟩, ⟨⟨Tryz.func203, by kernel_rfl, by kernel_rfl⟩, ⟨⟨Tryz.func198, by kernel_rfl, by kernel_rfl⟩, trivial, trivial⟩, trivial⟩⟩⟩, ⟨⟨Tryz.func217, by kernel_rfl, by kernel_rfl⟩, ⟨⟨Tryz.func211, by kernel_rfl, by kernel_rfl⟩, ⟨⟨Tryz.func209, by kernel_rfl, by kernel_rfl⟩, ⟨⟨Tryz.func208, by kernel_rfl, by kernel_rfl⟩, trivial, trivial⟩, ⟨⟨Tryz.func210, by kernel_rfl, by kernel_rfl⟩, trivial, trivial⟩⟩, ⟨⟨Tryz.func216, by kernel_rfl, by kernel_rfl⟩, ⟨⟨Tryz.func213, by kernel_rfl, by kernel_rfl⟩, trivial, trivial⟩, trivial⟩⟩, ⟨⟨Tryz.func221, by kernel_rfl, by kernel_rfl⟩, ⟨⟨Tryz.func219, by kernel_rfl, by kernel_rfl⟩, ⟨⟨Tryz.func218, by kernel_rfl, by kernel_rfl⟩, trivial, trivial⟩, ⟨⟨Tryz.func220, by kernel_rfl, by kernel_rfl⟩, trivial, trivial⟩⟩, ⟨⟨Tryz.func223, by kernel_rfl, by kernel_rfl⟩, ⟨⟨Tryz.func222, by kernel_rfl, by kernel_rfl⟩, trivial, trivial⟩, trivial⟩⟩⟩⟩, ⟨⟨Tryz.func242, by kernel_rfl, by kernel_rfl⟩, ⟨⟨Tryz.func234, by kernel_rfl, by kernel_rfl⟩, ⟨⟨Tryz.func231, by kernel_rfl, by kernel_rfl⟩, ⟨⟨Tryz.func229, by kernel_rfl, by kernel_rfl⟩, ⟨⟨Tryz.func228, by kernel_rfl, by kernel_rfl⟩, trivial, trivial⟩, ⟨⟨Tryz.func230, by kernel_rfl, by kernel_rfl⟩, trivial, trivial⟩⟩, ⟨⟨Tryz.func233, by kernel_rfl, by kernel_rfl⟩, ⟨⟨Tryz.func232, by kernel_rfl, by kernel_rfl⟩, trivial, trivial⟩, trivial⟩⟩, ⟨⟨Tryz.func238, by kernel_rfl, by kernel_rfl⟩, ⟨⟨Tryz.func236, by kernel_rfl, by kernel_rfl⟩, ⟨⟨Tryz.func235, by kernel_rfl, by kernel_rfl⟩, trivial, trivial⟩, ⟨⟨Tryz.func237, by kernel_rfl, by kernel_rfl⟩, trivial, trivial⟩⟩, ⟨⟨Tryz.func241, by kernel_rfl, by kernel_rfl⟩, ⟨⟨Tryz.func240, by kernel_rfl, by kernel_rfl⟩, trivial, trivial⟩, trivial⟩⟩⟩, ⟨⟨Tryz.func249, by kernel_rfl, by kernel_rfl⟩, ⟨⟨Tryz.func246, by kernel_rfl, by kernel_rfl⟩, ⟨⟨Tryz.func244, by kernel_rfl, by kernel_rfl⟩, ⟨⟨Tryz.func243, by kernel_rfl, by kernel_rfl⟩, trivial, trivial⟩, ⟨⟨Tryz.func245, by kernel_rfl, by kernel_rfl⟩, trivial, trivial⟩⟩, ⟨⟨Tryz.func248, by kernel_rfl, by kernel_rfl⟩, ⟨⟨Tryz.func247, by kernel_rfl, by kernel_rfl⟩, trivial, trivial⟩, trivial⟩⟩, ⟨⟨Tryz.func254, by kernel_rfl, by kernel_rfl⟩, ⟨⟨Tryz.func252, by kernel_rfl, by kernel_rfl⟩, ⟨⟨Tryz.func251, by kernel_rfl, by kernel_rfl⟩, trivial, trivial⟩, ⟨⟨Tryz.func253, by kernel_rfl, by kernel_rfl⟩, trivial, trivial⟩⟩, ⟨⟨Tryz.func256, by kernel_rfl, by kernel_rfl⟩, ⟨⟨Tryz.func255, by kernel_rfl, by kernel_rfl⟩, trivial, trivial⟩, trivial⟩⟩⟩⟩⟩⟩⟩
theorem tabF0_ : TabF0 Tryz.prog E := fun f fn h => tabF_of allF_ f fn h
end Go.Proofs.YtjgmiilapnekfaaGreat.Ev
