/- The seat's types and functions, as the evaluator takes them. No condition. -/
import Derived.Test.YtahlghlpdcfbgaaGreatEvYb
import Derived.Test.YtahlghlpdcfbgaaGreatProg
namespace Go.Proofs.YtahlghlpdcfbgaaGreat.Ev
open Go Go.Proofs
set_option linter.unusedVariables false
set_option maxRecDepth 100000
def tys : List TI := [⟨.other, [], 0⟩,
  ⟨.other, [], 0⟩,
  ⟨.int .i64, [.int .i64], 8⟩,
  ⟨.int .i64, [.int .i64], 8⟩,
  ⟨.bool, [.bool], 1⟩,
  ⟨.int .u8, [.int .u8], 1⟩,
  ⟨.int .u8, [.int .u8], 1⟩,
  ⟨.struct [(0, 2), (1, 3), (2, 4), (3, 6)], [.int .i64, .int .i64, .bool, .int .u8], 24⟩,
  ⟨.struct [(0, 2), (1, 3), (2, 4), (3, 6)], [.int .i64, .int .i64, .bool, .int .u8], 24⟩,
  ⟨.str, [.str], 16⟩,
  ⟨.str, [.str], 16⟩,
  ⟨.str, [.str], 16⟩,
  ⟨.int .u64, [.int .u64], 8⟩,
  ⟨.struct [(0, 9), (1, 12)], [.str, .int .u64], 24⟩,
  ⟨.struct [(0, 9), (1, 12)], [.str, .int .u64], 24⟩,
  ⟨.ptr 259, [.ptr 259], 8⟩,
  ⟨.ptr 262, [.ptr 262], 8⟩,
  ⟨.ptr 272, [.ptr 272], 8⟩,
  ⟨.struct [(0, 17)], [.ptr 272], 8⟩,
  ⟨.struct [(0, 17)], [.ptr 272], 8⟩,
  ⟨.other, [], 0⟩,
  ⟨.int .i32, [.int .i32], 4⟩,
  ⟨.struct [(0, 3), (1, 3)], [.int .i64, .int .i64], 16⟩,
  ⟨.struct [(0, 3), (1, 3)], [.int .i64, .int .i64], 16⟩,
  ⟨.slice 187, [.row 187], 24⟩,
  ⟨.slice 189, [.row 189], 24⟩,
  ⟨.struct [(0, 3), (1, 23), (3, 24), (4, 3), (5, 3), (6, 3), (7, 3), (8, 3), (9, 25), (10, 3), (11, 4), (12, 4)], [.int .i64, .int .i64, .int .i64, .row 187, .int .i64, .int .i64, .int .i64, .int .i64, .int .i64, .row 189, .int .i64, .bool, .bool], 128⟩,
  ⟨.struct [(0, 3), (1, 23), (3, 24), (4, 3), (5, 3), (6, 3), (7, 3), (8, 3), (9, 25), (10, 3), (11, 4), (12, 4)], [.int .i64, .int .i64, .int .i64, .row 187, .int .i64, .int .i64, .int .i64, .int .i64, .int .i64, .row 189, .int .i64, .bool, .bool], 128⟩,
  ⟨.slice 36, [.row 36], 24⟩,
  ⟨.slice 132, [.row 132], 24⟩,
  ⟨.slice 134, [.row 134], 24⟩,
  ⟨.slice 137, [.row 137], 24⟩,
  ⟨.struct [(0, 27), (13, 28), (14, 29), (15, 30), (16, 31)], [.int .i64, .int .i64, .int .i64, .row 187, .int .i64, .int .i64, .int .i64, .int .i64, .int .i64, .row 189, .int .i64, .bool, .bool, .row 36, .row 132, .row 134, .row 137], 224⟩,
  ⟨.struct [(0, 27), (13, 28), (14, 29), (15, 30), (16, 31)], [.int .i64, .int .i64, .int .i64, .row 187, .int .i64, .int .i64, .int .i64, .int .i64, .int .i64, .row 189, .int .i64, .bool, .bool, .row 36, .row 132, .row 134, .row 137], 224⟩,
  ⟨.slice 3, [.row 3], 24⟩,
  ⟨.struct [(0, 3), (1, 3), (2, 3), (3, 3), (4, 34)], [.int .i64, .int .i64, .int .i64, .int .i64, .row 3], 56⟩,
  ⟨.struct [(0, 3), (1, 3), (2, 3), (3, 3), (4, 34)], [.int .i64, .int .i64, .int .i64, .int .i64, .row 3], 56⟩,
  ⟨.other, [], 0⟩,
  ⟨.other, [], 0⟩,
  ⟨.struct [(0, 3), (1, 3)], [.int .i64, .int .i64], 16⟩,
  ⟨.slice 165, [.row 165], 24⟩,
  ⟨.slice 183, [.row 183], 24⟩,
  ⟨.struct [(0, 3), (1, 39), (3, 40), (4, 3), (5, 3), (6, 3), (7, 3), (8, 3), (9, 41), (10, 3), (11, 4), (12, 4)], [.int .i64, .int .i64, .int .i64, .row 165, .int .i64, .int .i64, .int .i64, .int .i64, .int .i64, .row 183, .int .i64, .bool, .bool], 128⟩,
  ⟨.struct [(0, 3), (1, 39), (3, 40), (4, 3), (5, 3), (6, 3), (7, 3), (8, 3), (9, 41), (10, 3), (11, 4), (12, 4)], [.int .i64, .int .i64, .int .i64, .row 165, .int .i64, .int .i64, .int .i64, .int .i64, .int .i64, .row 183, .int .i64, .bool, .bool], 128⟩,
  ⟨.slice 53, [.row 53], 24⟩,
  ⟨.slice 74, [.row 74], 24⟩,
  ⟨.slice 61, [.row 61], 24⟩,
  ⟨.slice 121, [.row 121], 24⟩,
  ⟨.struct [(0, 43), (13, 44), (14, 45), (15, 46), (16, 47)], [.int .i64, .int .i64, .int .i64, .row 165, .int .i64, .int .i64, .int .i64, .int .i64, .int .i64, .row 183, .int .i64, .bool, .bool, .row 53, .row 74, .row 61, .row 121], 224⟩,
  ⟨.struct [(0, 43), (13, 44), (14, 45), (15, 46), (16, 47)], [.int .i64, .int .i64, .int .i64, .row 165, .int .i64, .int .i64, .int .i64, .int .i64, .int .i64, .row 183, .int .i64, .bool, .bool, .row 53, .row 74, .row 61, .row 121], 224⟩,
  ⟨.other, [], 0⟩,
  ⟨.other, [], 0⟩,
  ⟨.other, [], 0⟩,
  ⟨.struct [(0, 3), (1, 3), (2, 3), (3, 3), (4, 34)], [.int .i64, .int .i64, .int .i64, .int .i64, .row 3], 56⟩,
  ⟨.other, [], 0⟩,
  ⟨.other, [], 0⟩,
  ⟨.other, [], 0⟩,
  ⟨.other, [], 0⟩,
  ⟨.other, [], 0⟩,
  ⟨.other, [], 0⟩,
  ⟨.struct [(0, 3), (1, 3), (2, 34)], [.int .i64, .int .i64, .row 3], 40⟩,
  ⟨.struct [(0, 3), (1, 3), (2, 34)], [.int .i64, .int .i64, .row 3], 40⟩,
  ⟨.other, [], 0⟩,
  ⟨.other, [], 0⟩,
  ⟨.other, [], 0⟩,
  ⟨.other, [], 0⟩,
  ⟨.other, [], 0⟩,
  ⟨.other, [], 0⟩,
  ⟨.slice 5, [.row 5], 24⟩,
  ⟨.other, [], 0⟩,
  ⟨.other, [], 0⟩,
  ⟨.other, [], 0⟩,
  ⟨.other, [], 0⟩,
  ⟨.struct [(0, 53), (5, 3), (6, 34), (7, 3)], [.int .i64, .int .i64, .int .i64, .int .i64, .row 3, .int .i64, .row 3, .int .i64], 96⟩,
  ⟨.struct [(0, 53), (5, 3), (6, 34), (7, 3)], [.int .i64, .int .i64, .int .i64, .int .i64, .row 3, .int .i64, .row 3, .int .i64], 96⟩,
  ⟨.other, [], 0⟩,
  ⟨.other, [], 0⟩,
  ⟨.other, [], 0⟩,
  ⟨.other, [], 0⟩,
  ⟨.other, [], 0⟩,
  ⟨.other, [], 0⟩,
  ⟨.other, [], 0⟩,
  ⟨.other, [], 0⟩,
  ⟨.other, [], 0⟩,
  ⟨.other, [], 0⟩,
  ⟨.other, [], 0⟩,
  ⟨.other, [], 0⟩,
  ⟨.other, [], 0⟩,
  ⟨.other, [], 0⟩,
  ⟨.other, [], 0⟩,
  ⟨.other, [], 0⟩,
  ⟨.other, [], 0⟩,
  ⟨.other, [], 0⟩,
  ⟨.other, [], 0⟩,
  ⟨.other, [], 0⟩,
  ⟨.other, [], 0⟩,
  ⟨.other, [], 0⟩,
  ⟨.other, [], 0⟩,
  ⟨.other, [], 0⟩,
  ⟨.other, [], 0⟩,
  ⟨.other, [], 0⟩,
  ⟨.other, [], 0⟩,
  ⟨.other, [], 0⟩,
  ⟨.other, [], 0⟩,
  ⟨.other, [], 0⟩,
  ⟨.other, [], 0⟩,
  ⟨.other, [], 0⟩,
  ⟨.other, [], 0⟩,
  ⟨.other, [], 0⟩,
  ⟨.other, [], 0⟩,
  ⟨.ptr 49, [.ptr 49], 8⟩,
  ⟨.other, [], 0⟩,
  ⟨.other, [], 0⟩,
  ⟨.other, [], 0⟩,
  ⟨.ptr 156, [.ptr 156], 8⟩,
  ⟨.other, [], 0⟩,
  ⟨.other, [], 0⟩,
  ⟨.other, [], 0⟩,
  ⟨.other, [], 0⟩,
  ⟨.other, [], 0⟩,
  ⟨.struct [(0, 53), (5, 61)], [.int .i64, .int .i64, .int .i64, .int .i64, .row 3, .int .i64, .int .i64, .row 3], 96⟩,
  ⟨.struct [(0, 53), (5, 61)], [.int .i64, .int .i64, .int .i64, .int .i64, .row 3, .int .i64, .int .i64, .row 3], 96⟩,
  ⟨.other, [], 0⟩,
  ⟨.other, [], 0⟩,
  ⟨.other, [], 0⟩,
  ⟨.other, [], 0⟩,
  ⟨.other, [], 0⟩,
  ⟨.other, [], 0⟩,
  ⟨.other, [], 0⟩,
  ⟨.other, [], 0⟩,
  ⟨.other, [], 0⟩,
  ⟨.struct [(0, 36), (5, 3), (6, 34), (7, 3)], [.int .i64, .int .i64, .int .i64, .int .i64, .row 3, .int .i64, .row 3, .int .i64], 96⟩,
  ⟨.struct [(0, 36), (5, 3), (6, 34), (7, 3)], [.int .i64, .int .i64, .int .i64, .int .i64, .row 3, .int .i64, .row 3, .int .i64], 96⟩,
  ⟨.other, [], 0⟩,
  ⟨.struct [(0, 3), (1, 3), (2, 34)], [.int .i64, .int .i64, .row 3], 40⟩,
  ⟨.other, [], 0⟩,
  ⟨.struct [(0, 36), (5, 134)], [.int .i64, .int .i64, .int .i64, .int .i64, .row 3, .int .i64, .int .i64, .row 3], 96⟩,
  ⟨.struct [(0, 36), (5, 134)], [.int .i64, .int .i64, .int .i64, .int .i64, .row 3, .int .i64, .int .i64, .row 3], 96⟩,
  ⟨.other, [], 0⟩,
  ⟨.other, [], 0⟩,
  ⟨.other, [], 0⟩,
  ⟨.other, [], 0⟩,
  ⟨.other, [], 0⟩,
  ⟨.other, [], 0⟩,
  ⟨.other, [], 0⟩,
  ⟨.other, [], 0⟩,
  ⟨.other, [], 0⟩,
  ⟨.other, [], 0⟩,
  ⟨.other, [], 0⟩,
  ⟨.other, [], 0⟩,
  ⟨.other, [], 0⟩,
  ⟨.other, [], 0⟩,
  ⟨.other, [], 0⟩,
  ⟨.other, [], 0⟩,
  ⟨.other, [], 0⟩,
  ⟨.struct [(0, 68), (1, 3), (2, 3)], [.row 5, .int .i64, .int .i64], 40⟩,
  ⟨.struct [(0, 68), (1, 3), (2, 3)], [.row 5, .int .i64, .int .i64], 40⟩,
  ⟨.other, [], 0⟩,
  ⟨.other, [], 0⟩,
  ⟨.other, [], 0⟩,
  ⟨.other, [], 0⟩,
  ⟨.other, [], 0⟩,
  ⟨.slice 34, [.row 34], 24⟩,
  ⟨.slice 203, [.row 203], 24⟩,
  ⟨.struct [(0, 162), (1, 163), (2, 4), (3, 34)], [.row 34, .row 203, .bool, .row 3], 80⟩,
  ⟨.struct [(0, 162), (1, 163), (2, 4), (3, 34)], [.row 34, .row 203, .bool, .row 3], 80⟩,
  ⟨.other, [], 0⟩,
  ⟨.other, [], 0⟩,
  ⟨.other, [], 0⟩,
  ⟨.other, [], 0⟩,
  ⟨.other, [], 0⟩,
  ⟨.other, [], 0⟩,
  ⟨.other, [], 0⟩,
  ⟨.struct [(0, 3), (1, 3), (2, 3), (3, 3), (4, 3), (5, 3), (6, 3), (7, 3)], [.int .i64, .int .i64, .int .i64, .int .i64, .int .i64, .int .i64, .int .i64, .int .i64], 64⟩,
  ⟨.struct [(0, 3), (1, 3), (2, 3), (3, 3), (4, 3), (5, 3), (6, 3), (7, 3)], [.int .i64, .int .i64, .int .i64, .int .i64, .int .i64, .int .i64, .int .i64, .int .i64], 64⟩,
  ⟨.other, [], 0⟩,
  ⟨.other, [], 0⟩,
  ⟨.other, [], 0⟩,
  ⟨.other, [], 0⟩,
  ⟨.other, [], 0⟩,
  ⟨.other, [], 0⟩,
  ⟨.other, [], 0⟩,
  ⟨.struct [(0, 3), (1, 34)], [.int .i64, .row 3], 32⟩,
  ⟨.struct [(0, 3), (1, 34)], [.int .i64, .row 3], 32⟩,
  ⟨.other, [], 0⟩,
  ⟨.slice 224, [.row 224], 24⟩,
  ⟨.struct [(0, 162), (1, 185), (2, 4), (3, 34)], [.row 34, .row 224, .bool, .row 3], 80⟩,
  ⟨.struct [(0, 162), (1, 185), (2, 4), (3, 34)], [.row 34, .row 224, .bool, .row 3], 80⟩,
  ⟨.other, [], 0⟩,
  ⟨.struct [(0, 3), (1, 34)], [.int .i64, .row 3], 32⟩,
  ⟨.other, [], 0⟩,
  ⟨.other, [], 0⟩,
  ⟨.other, [], 0⟩,
  ⟨.other, [], 0⟩,
  ⟨.other, [], 0⟩,
  ⟨.other, [], 0⟩,
  ⟨.other, [], 0⟩,
  ⟨.other, [], 0⟩,
  ⟨.other, [], 0⟩,
  ⟨.other, [], 0⟩,
  ⟨.other, [], 0⟩,
  ⟨.other, [], 0⟩,
  ⟨.struct [(0, 3), (1, 34)], [.int .i64, .row 3], 32⟩,
  ⟨.struct [(0, 3), (1, 34)], [.int .i64, .row 3], 32⟩,
  ⟨.other, [], 0⟩,
  ⟨.other, [], 0⟩,
  ⟨.other, [], 0⟩,
  ⟨.other, [], 0⟩,
  ⟨.other, [], 0⟩,
  ⟨.other, [], 0⟩,
  ⟨.other, [], 0⟩,
  ⟨.other, [], 0⟩,
  ⟨.other, [], 0⟩,
  ⟨.other, [], 0⟩,
  ⟨.int .u64, [.int .u64], 8⟩,
  ⟨.other, [], 0⟩,
  ⟨.ptr 43, [.ptr 43], 8⟩,
  ⟨.ptr 74, [.ptr 74], 8⟩,
  ⟨.other, [], 0⟩,
  ⟨.other, [], 0⟩,
  ⟨.other, [], 0⟩,
  ⟨.other, [], 0⟩,
  ⟨.other, [], 0⟩,
  ⟨.other, [], 0⟩,
  ⟨.struct [(0, 3), (1, 34)], [.int .i64, .row 3], 32⟩,
  ⟨.other, [], 0⟩,
  ⟨.other, [], 0⟩,
  ⟨.other, [], 0⟩,
  ⟨.other, [], 0⟩,
  ⟨.other, [], 0⟩,
  ⟨.other, [], 0⟩,
  ⟨.other, [], 0⟩,
  ⟨.other, [], 0⟩,
  ⟨.other, [], 0⟩,
  ⟨.other, [], 0⟩,
  ⟨.other, [], 0⟩,
  ⟨.other, [], 0⟩,
  ⟨.other, [], 0⟩,
  ⟨.other, [], 0⟩,
  ⟨.other, [], 0⟩,
  ⟨.other, [], 0⟩,
  ⟨.other, [], 0⟩,
  ⟨.other, [], 0⟩,
  ⟨.other, [], 0⟩,
  ⟨.other, [], 0⟩,
  ⟨.other, [], 0⟩,
  ⟨.other, [], 0⟩,
  ⟨.other, [], 0⟩,
  ⟨.other, [], 0⟩,
  ⟨.other, [], 0⟩,
  ⟨.struct [(0, 3), (1, 3), (2, 34)], [.int .i64, .int .i64, .row 3], 40⟩,
  ⟨.struct [(0, 3), (1, 3), (2, 34)], [.int .i64, .int .i64, .row 3], 40⟩,
  ⟨.other, [], 0⟩,
  ⟨.other, [], 0⟩,
  ⟨.other, [], 0⟩,
  ⟨.other, [], 0⟩,
  ⟨.other, [], 0⟩,
  ⟨.other, [], 0⟩,
  ⟨.struct [(0, 17), (1, 17), (2, 17), (3, 9)], [.ptr 272, .ptr 272, .ptr 272, .str], 40⟩,
  ⟨.struct [(0, 17), (1, 17), (2, 17), (3, 9)], [.ptr 272, .ptr 272, .ptr 272, .str], 40⟩,
  ⟨.other, [], 0⟩,
  ⟨.other, [], 0⟩,
  ⟨.other, [], 0⟩,
  ⟨.other, [], 0⟩,
  ⟨.int .u32, [.int .u32], 4⟩,
  ⟨.int .u8, [.int .u8], 1⟩,
  ⟨.int .u8, [.int .u8], 1⟩,
  ⟨.other, [], 0⟩,
  ⟨.ptr 5, [.ptr 5], 8⟩,
  ⟨.int .i32, [.int .i32], 4⟩,
  ⟨.int .i32, [.int .i32], 4⟩,
  ⟨.other, [], 0⟩,
  ⟨.other, [], 0⟩,
  ⟨.other, [], 0⟩,
  ⟨.other, [], 0⟩,
  ⟨.other, [], 0⟩]
namespace N
abbrev laws_FnExactSubmit : Nat := 3
abbrev laws_szEng : Nat := 8
abbrev laws_szCmd : Nat := 9
abbrev spec_Submit : Nat := 10
abbrev laws_toEng : Nat := 11
abbrev laws_toCmd : Nat := 12
abbrev impl_Submit : Nat := 13
abbrev laws_eqEng : Nat := 14
abbrev laws_eqCmd : Nat := 15
abbrev laws_markEng : Nat := 16
abbrev laws_markCmd : Nat := 17
abbrev laws_heldEng : Nat := 18
abbrev spec_Fetch : Nat := 19
abbrev laws_eqAns : Nat := 21
abbrev laws_markAns : Nat := 22
abbrev laws_heldAns : Nat := 23
abbrev spec_Begin : Nat := 24
abbrev laws_big : Nat := 26
abbrev impl_CanBegin : Nat := 28
abbrev impl_Clash : Nat := 29
abbrev impl_EngOk : Nat := 31
abbrev impl_Apart : Nat := 32
abbrev spec_DrawEngNew : Nat := 34
abbrev spec_EngNew : Nat := 36
abbrev laws_sameCmd : Nat := 37
abbrev laws_szArr : Nat := 39
abbrev laws_szCmdS : Nat := 40
abbrev laws_szJobS : Nat := 41
abbrev laws_szAnsS : Nat := 42
abbrev laws_szTurnS : Nat := 43
abbrev laws_szIntS : Nat := 44
abbrev spec_l15Copy : Nat := 45
abbrev spec_EngOk : Nat := 46
abbrev spec_l13Copy : Nat := 47
abbrev laws_toArr : Nat := 48
abbrev laws_toCmdS : Nat := 49
abbrev laws_toJobS : Nat := 50
abbrev laws_toAnsS : Nat := 51
abbrev laws_toTurnS : Nat := 52
abbrev laws_toIntS : Nat := 53
abbrev impl_copyEng : Nat := 54
abbrev impl_copyCmd : Nat := 55
abbrev laws_eqArr : Nat := 56
abbrev laws_eqCmdS : Nat := 57
abbrev laws_eqJobS : Nat := 58
abbrev laws_eqAnsS : Nat := 59
abbrev laws_eqTurnS : Nat := 60
abbrev laws_eqIntS : Nat := 61
abbrev laws_markArr : Nat := 62
abbrev laws_markCmdS : Nat := 63
abbrev laws_markJobS : Nat := 64
abbrev laws_markAnsS : Nat := 65
abbrev laws_markTurnS : Nat := 66
abbrev laws_markIntS : Nat := 67
abbrev laws_heldArr : Nat := 68
abbrev laws_heldCmdS : Nat := 69
abbrev laws_heldJobS : Nat := 70
abbrev laws_heldAnsS : Nat := 71
abbrev laws_heldTurnS : Nat := 72
abbrev spec_l1In : Nat := 73
abbrev spec_l15Ans : Nat := 74
abbrev impl_within : Nat := 75
abbrev impl_copyAns : Nat := 77
abbrev laws_heldIntS : Nat := 78
abbrev spec_CanBegin : Nat := 79
abbrev spec_l15Begin : Nat := 80
abbrev impl_CmdCode : Nat := 82
abbrev impl_Eng_answer : Nat := 83
abbrev spec_l1New : Nat := 84
abbrev spec_l1Size : Nat := 86
abbrev impl_SpanOf : Nat := 87
abbrev laws_sameCmds : Nat := 88
abbrev laws_sameAnss : Nat := 89
abbrev laws_sameInts : Nat := 90
abbrev laws_sameAns : Nat := 91
abbrev impl_jobOk : Nat := 92
abbrev impl_ArrOk : Nat := 93
abbrev spec_l13Any : Nat := 95
abbrev spec_DrawArrNew : Nat := 96
abbrev spec_ArrNew : Nat := 98
abbrev laws_sameMems : Nat := 99
abbrev laws_sameDirty : Nat := 100
abbrev laws_szMemS : Nat := 101
abbrev laws_szEntS : Nat := 102
abbrev laws_szJob : Nat := 103
abbrev laws_szAns : Nat := 104
abbrev laws_szTurn : Nat := 105
abbrev spec_l6Copy : Nat := 106
abbrev spec_l15Job : Nat := 107
abbrev spec_ArrOk : Nat := 108
abbrev laws_toGeo : Nat := 109
abbrev laws_toMemS : Nat := 110
abbrev laws_toEntS : Nat := 111
abbrev laws_toJob : Nat := 112
abbrev laws_toAns : Nat := 113
abbrev laws_toTurn : Nat := 114
abbrev impl_copyArr : Nat := 115
abbrev impl_copyInts : Nat := 116
abbrev laws_eqGeo : Nat := 117
abbrev laws_eqMemS : Nat := 118
abbrev laws_eqEntS : Nat := 119
abbrev laws_eqJob : Nat := 120
abbrev laws_eqTurn : Nat := 121
abbrev laws_markMemS : Nat := 122
abbrev laws_markEntS : Nat := 123
abbrev laws_heldMemS : Nat := 124
abbrev laws_heldEntS : Nat := 125
abbrev spec_l15Can : Nat := 126
abbrev spec_CmdCode : Nat := 127
abbrev spec_l15Answer : Nat := 128
abbrev impl_GeoOk : Nat := 129
abbrev impl_sizeOk : Nat := 130
abbrev impl_Blocks : Nat := 131
abbrev impl_runOf : Nat := 132
abbrev spec_l6Geo : Nat := 133
abbrev spec_l1Below : Nat := 134
abbrev impl_wordsOk : Nat := 136
abbrev impl_lostOk : Nat := 137
abbrev impl_dirtyOk : Nat := 138
abbrev impl_MemOk : Nat := 139
abbrev impl_sectors : Nat := 140
abbrev spec_l1Int : Nat := 142
abbrev spec_l1Any : Nat := 143
abbrev spec_l13Draw : Nat := 144
abbrev spec_l7Fuse : Nat := 145
abbrev spec_GeoOk : Nat := 146
abbrev spec_l3Any : Nat := 147
abbrev impl_MemNew : Nat := 149
abbrev impl_superOf : Nat := 150
abbrev impl_DataAt : Nat := 152
abbrev impl_FlushMem : Nat := 153
abbrev spec_MemNew : Nat := 154
abbrev spec_l6Secs : Nat := 155
abbrev spec_PutSuper : Nat := 156
abbrev spec_DataAt : Nat := 157
abbrev laws_sameMem : Nat := 158
abbrev laws_szMem : Nat := 159
abbrev laws_szEnt : Nat := 160
abbrev spec_l2Copy : Nat := 161
abbrev spec_l1Words : Nat := 162
abbrev spec_Clash : Nat := 163
abbrev spec_l6Mems : Nat := 164
abbrev spec_l6Dirty : Nat := 165
abbrev laws_toMem : Nat := 166
abbrev laws_toEnt : Nat := 167
abbrev impl_copyMems : Nat := 168
abbrev laws_eqMem : Nat := 169
abbrev laws_eqEnt : Nat := 170
abbrev laws_markIntSS : Nat := 171
abbrev laws_markWrS : Nat := 172
abbrev laws_heldIntSS : Nat := 173
abbrev laws_heldWrS : Nat := 174
abbrev spec_l13Size : Nat := 175
abbrev spec_Blocks : Nat := 176
abbrev spec_l13Len : Nat := 177
abbrev spec_l1Byte : Nat := 178
abbrev spec_l1Once : Nat := 179
abbrev impl_isWord : Nat := 182
abbrev impl_hasStripe : Nat := 183
abbrev impl_dataOk : Nat := 184
abbrev impl_SecOk : Nat := 185
abbrev impl_hasSec : Nat := 186
abbrev spec_l2Any : Nat := 188
abbrev spec_l1Sec : Nat := 189
abbrev spec_l7Some : Nat := 190
abbrev spec_l3Geo : Nat := 191
abbrev impl_SuperOk : Nat := 192
abbrev impl_copyMem : Nat := 193
abbrev impl_PutSuper : Nat := 194
abbrev impl_WriteSec_1 : Nat := 196
abbrev spec_SuperOk : Nat := 197
abbrev laws_szIntSS : Nat := 198
abbrev laws_szWrS : Nat := 199
abbrev spec_l1Word : Nat := 200
abbrev spec_SpanOf : Nat := 201
abbrev spec_MemOk : Nat := 202
abbrev laws_toIntSS : Nat := 203
abbrev laws_toWrS : Nat := 204
abbrev laws_eqIntSS : Nat := 205
abbrev laws_eqWrS : Nat := 206
abbrev spec_StepsOf : Nat := 207
abbrev spec_l2Draw : Nat := 215
abbrev spec_FailMem : Nat := 216
abbrev spec_l1Draw : Nat := 217
abbrev slices_IndexFunc_int_int : Nat := 218
abbrev laws_szWr : Nat := 219
abbrev spec_SecOk : Nat := 220
abbrev laws_toWr : Nat := 221
abbrev laws_eqWr : Nat := 222
abbrev spec_StripeOf : Nat := 223
abbrev spec_GetBlock : Nat := 224
abbrev spec_l16Set : Nat := 226
abbrev spec_l6Words : Nat := 228
abbrev spec_l8Set : Nat := 231
abbrev spec_SpoilSec : Nat := 234
abbrev spec_FlushMem : Nat := 235
abbrev spec_WriteSec : Nat := 236
abbrev spec_l8Code : Nat := 237
abbrev spec_l8Stripe : Nat := 238
abbrev spec_IndexOf : Nat := 239
abbrev spec_l8May : Nat := 240
abbrev spec_SetBlock : Nat := 241
abbrev spec_l6Word : Nat := 242
abbrev spec_MissingWord : Nat := 243
abbrev spec_l7Op : Nat := 244
abbrev spec_l8Put : Nat := 245
abbrev spec_l8At : Nat := 246
abbrev spec_l7Code : Nat := 247
abbrev spec_l2Has : Nat := 249
abbrev spec_l2Without : Nat := 250
abbrev spec_l6Data : Nat := 251
abbrev spec_LiveAt : Nat := 252
abbrev spec_ReadSec : Nat := 253
abbrev spec_DiskOf : Nat := 256
abbrev spec_SlotOf : Nat := 257
abbrev spec_PutRec : Nat := 258
abbrev spec_ParityOf : Nat := 259
abbrev spec_ParityWord : Nat := 260
abbrev spec_l3Stripe : Nat := 261
abbrev spec_RecOk : Nat := 262
abbrev spec_XorOf : Nat := 263
end N
namespace TN
abbrev Int64 : Nat := 2
abbrev Int : Nat := 3
abbrev Bool : Nat := 4
abbrev Uint8 : Nat := 5
abbrev String : Nat := 9
abbrev Uintptr : Nat := 12
abbrev Int32 : Nat := 21
abbrev laws_Geo : Nat := 23
abbrev laws_MemS : Nat := 24
abbrev laws_EntS : Nat := 25
abbrev laws_Arr : Nat := 27
abbrev laws_CmdS : Nat := 28
abbrev laws_JobS : Nat := 29
abbrev laws_AnsS : Nat := 30
abbrev laws_TurnS : Nat := 31
abbrev laws_Eng : Nat := 33
abbrev IntS : Nat := 34
abbrev laws_Cmd : Nat := 36
abbrev impl_Geo : Nat := 39
abbrev impl_MemS : Nat := 40
abbrev impl_EntS : Nat := 41
abbrev impl_Arr : Nat := 43
abbrev impl_CmdS : Nat := 44
abbrev impl_JobS : Nat := 45
abbrev impl_AnsS : Nat := 46
abbrev impl_TurnS : Nat := 47
abbrev impl_Eng : Nat := 49
abbrev impl_Cmd : Nat := 53
abbrev impl_Ans : Nat := 61
abbrev Uint8S : Nat := 68
abbrev impl_Job : Nat := 74
abbrev impl_Turn : Nat := 121
abbrev laws_Job : Nat := 132
abbrev laws_Ans : Nat := 134
abbrev laws_Turn : Nat := 137
abbrev spec_l1Cur : Nat := 156
abbrev IntSS : Nat := 162
abbrev impl_WrS : Nat := 163
abbrev impl_Mem : Nat := 165
abbrev impl_Super : Nat := 174
abbrev impl_Ent : Nat := 183
abbrev laws_WrS : Nat := 185
abbrev laws_Mem : Nat := 187
abbrev laws_Ent : Nat := 189
abbrev impl_Wr : Nat := 203
abbrev Uint : Nat := 214
abbrev laws_Wr : Nat := 224
abbrev impl_Rec : Nat := 251
abbrev Uint32 : Nat := 264
end TN
noncomputable def fnTab : Tr Func := (.node (.node (.node (.node (.node (.node (.node (.node .nil 3 Tryz.f3 .nil) 8 Tryz.f8 (.node .nil 9 Tryz.f9 .nil)) 10 Tryz.f10 (.node (.node .nil 11 Tryz.f11 .nil) 12 Tryz.f12 .nil)) 13 Tryz.f13 (.node (.node (.node .nil 14 Tryz.f14 .nil) 15 Tryz.f15 (.node .nil 16 Tryz.f16 .nil)) 17 Tryz.f17 (.node (.node .nil 18 Tryz.f18 .nil) 19 Tryz.f19 .nil))) 21 Tryz.f21 (.node (.node (.node (.node .nil 22 Tryz.f22 .nil) 23 Tryz.f23 (.node .nil 24 Tryz.f24 .nil)) 26 Tryz.f26 (.node (.node .nil 28 Tryz.f28 .nil) 29 Tryz.f29 .nil)) 31 Tryz.f31 (.node (.node (.node .nil 32 Tryz.f32 .nil) 34 Tryz.f34 (.node .nil 36 Tryz.f36 .nil)) 37 Tryz.f37 (.node (.node .nil 39 Tryz.f39 .nil) 40 Tryz.f40 .nil)))) 41 Tryz.f41 (.node (.node (.node (.node (.node .nil 42 Tryz.f42 .nil) 43 Tryz.f43 (.node .nil 44 Tryz.f44 .nil)) 45 Tryz.f45 (.node (.node .nil 46 Tryz.f46 .nil) 47 Tryz.f47 .nil)) 48 Tryz.f48 (.node (.node (.node .nil 49 Tryz.f49 .nil) 50 Tryz.f50 (.node .nil 51 Tryz.f51 .nil)) 52 Tryz.f52 (.node (.node .nil 53 Tryz.f53 .nil) 54 Tryz.f54 .nil))) 55 Tryz.f55 (.node (.node (.node (.node .nil 56 Tryz.f56 .nil) 57 Tryz.f57 (.node .nil 58 Tryz.f58 .nil)) 59 Tryz.f59 (.node (.node .nil 60 Tryz.f60 .nil) 61 Tryz.f61 .nil)) 62 Tryz.f62 (.node (.node (.node .nil 63 Tryz.f63 .nil) 64 Tryz.f64 (.node .nil 65 Tryz.f65 .nil)) 66 Tryz.f66 (.node (.node .nil 67 Tryz.f67 .nil) 68 Tryz.f68 .nil))))) 69 Tryz.f69 (.node (.node (.node (.node (.node (.node .nil 70 Tryz.f70 .nil) 71 Tryz.f71 (.node .nil 72 Tryz.f72 .nil)) 73 Tryz.f73 (.node (.node .nil 74 Tryz.f74 .nil) 75 Tryz.f75 .nil)) 77 Tryz.f77 (.node (.node (.node .nil 78 Tryz.f78 .nil) 79 Tryz.f79 (.node .nil 80 Tryz.f80 .nil)) 82 Tryz.f82 (.node (.node .nil 83 Tryz.f83 .nil) 84 Tryz.f84 .nil))) 86 Tryz.f86 (.node (.node (.node (.node .nil 87 Tryz.f87 .nil) 88 Tryz.f88 (.node .nil 89 Tryz.f89 .nil)) 90 Tryz.f90 (.node (.node .nil 91 Tryz.f91 .nil) 92 Tryz.f92 .nil)) 93 Tryz.f93 (.node (.node (.node .nil 95 Tryz.f95 .nil) 96 Tryz.f96 (.node .nil 98 Tryz.f98 .nil)) 99 Tryz.f99 (.node (.node .nil 100 Tryz.f100 .nil) 101 Tryz.f101 .nil)))) 102 Tryz.f102 (.node (.node (.node (.node (.node .nil 103 Tryz.f103 .nil) 104 Tryz.f104 (.node .nil 105 Tryz.f105 .nil)) 106 Tryz.f106 (.node (.node .nil 107 Tryz.f107 .nil) 108 Tryz.f108 .nil)) 109 Tryz.f109 (.node (.node (.node .nil 110 Tryz.f110 .nil) 111 Tryz.f111 (.node .nil 112 Tryz.f112 .nil)) 113 Tryz.f113 (.node (.node .nil 114 Tryz.f114 .nil) 115 Tryz.f115 .nil))) 116 Tryz.f116 (.node (.node (.node (.node .nil 117 Tryz.f117 .nil) 118 Tryz.f118 (.node .nil 119 Tryz.f119 .nil)) 120 Tryz.f120 (.node (.node .nil 121 Tryz.f121 .nil) 122 Tryz.f122 .nil)) 123 Tryz.f123 (.node (.node (.node .nil 124 Tryz.f124 .nil) 125 Tryz.f125 .nil) 126 Tryz.f126 (.node (.node .nil 127 Tryz.f127 .nil) 128 Tryz.f128 .nil)))))) 129 Tryz.f129 (.node (.node (.node (.node (.node (.node (.node .nil 130 Tryz.f130 .nil) 131 Tryz.f131 (.node .nil 132 Tryz.f132 .nil)) 133 Tryz.f133 (.node (.node .nil 134 Tryz.f134 .nil) 136 Tryz.f136 .nil)) 137 Tryz.f137 (.node (.node (.node .nil 138 Tryz.f138 .nil) 139 Tryz.f139 (.node .nil 140 Tryz.f140 .nil)) 142 Tryz.f142 (.node (.node .nil 143 Tryz.f143 .nil) 144 Tryz.f144 .nil))) 145 Tryz.f145 (.node (.node (.node (.node .nil 146 Tryz.f146 .nil) 147 Tryz.f147 (.node .nil 149 Tryz.f149 .nil)) 150 Tryz.f150 (.node (.node .nil 152 Tryz.f152 .nil) 153 Tryz.f153 .nil)) 154 Tryz.f154 (.node (.node (.node .nil 155 Tryz.f155 .nil) 156 Tryz.f156 (.node .nil 157 Tryz.f157 .nil)) 158 Tryz.f158 (.node (.node .nil 159 Tryz.f159 .nil) 160 Tryz.f160 .nil)))) 161 Tryz.f161 (.node (.node (.node (.node (.node .nil 162 Tryz.f162 .nil) 163 Tryz.f163 (.node .nil 164 Tryz.f164 .nil)) 165 Tryz.f165 (.node (.node .nil 166 Tryz.f166 .nil) 167 Tryz.f167 .nil)) 168 Tryz.f168 (.node (.node (.node .nil 169 Tryz.f169 .nil) 170 Tryz.f170 (.node .nil 171 Tryz.f171 .nil)) 172 Tryz.f172 (.node (.node .nil 173 Tryz.f173 .nil) 174 Tryz.f174 .nil))) 175 Tryz.f175 (.node (.node (.node (.node .nil 176 Tryz.f176 .nil) 177 Tryz.f177 (.node .nil 178 Tryz.f178 .nil)) 179 Tryz.f179 (.node (.node .nil 182 Tryz.f182 .nil) 183 Tryz.f183 .nil)) 184 Tryz.f184 (.node (.node (.node .nil 185 Tryz.f185 .nil) 186 Tryz.f186 (.node .nil 188 Tryz.f188 .nil)) 189 Tryz.f189 (.node (.node .nil 190 Tryz.f190 .nil) 191 Tryz.f191 .nil))))) 192 Tryz.f192 (.node (.node (.node (.node (.node (.node .nil 193 Tryz.f193 .nil) 194 Tryz.f194 (.node .nil 196 Tryz.f196 .nil)) 197 Tryz.f197 (.node (.node .nil 198 Tryz.f198 .nil) 199 Tryz.f199 .nil)) 200 Tryz.f200 (.node (.node (.node .nil 201 Tryz.f201 .nil) 202 Tryz.f202 (.node .nil 203 Tryz.f203 .nil)) 204 Tryz.f204 (.node (.node .nil 205 Tryz.f205 .nil) 206 Tryz.f206 .nil))) 207 Tryz.f207 (.node (.node (.node (.node .nil 215 Tryz.f215 .nil) 216 Tryz.f216 (.node .nil 217 Tryz.f217 .nil)) 218 Tryz.f218 (.node (.node .nil 219 Tryz.f219 .nil) 220 Tryz.f220 .nil)) 221 Tryz.f221 (.node (.node (.node .nil 222 Tryz.f222 .nil) 223 Tryz.f223 (.node .nil 224 Tryz.f224 .nil)) 226 Tryz.f226 (.node (.node .nil 228 Tryz.f228 .nil) 231 Tryz.f231 .nil)))) 234 Tryz.f234 (.node (.node (.node (.node (.node .nil 235 Tryz.f235 .nil) 236 Tryz.f236 (.node .nil 237 Tryz.f237 .nil)) 238 Tryz.f238 (.node (.node .nil 239 Tryz.f239 .nil) 240 Tryz.f240 .nil)) 241 Tryz.f241 (.node (.node (.node .nil 242 Tryz.f242 .nil) 243 Tryz.f243 (.node .nil 244 Tryz.f244 .nil)) 245 Tryz.f245 (.node (.node .nil 246 Tryz.f246 .nil) 247 Tryz.f247 .nil))) 249 Tryz.f249 (.node (.node (.node (.node .nil 250 Tryz.f250 .nil) 251 Tryz.f251 (.node .nil 252 Tryz.f252 .nil)) 253 Tryz.f253 (.node (.node .nil 256 Tryz.f256 .nil) 257 Tryz.f257 .nil)) 258 Tryz.f258 (.node (.node (.node .nil 259 Tryz.f259 .nil) 260 Tryz.f260 .nil) 261 Tryz.f261 (.node (.node .nil 262 Tryz.f262 .nil) 263 Tryz.f263 .nil)))))))
def sigTab : Tr Sig := (.node (.node (.node (.node (.node (.node (.node .nil 10 ⟨[], [false, false, false, true, false, false, false, false, false, true, false, false, false, true, true, true, true, false], [], false⟩ .nil) 11 ⟨[], [false, false, false, true, false, false, false, false, false, true, false, false, false, true, true, true, true, false, false, false, true, false, false, false, false, false, true, false, false, false, true, true, true, true], [], true⟩ .nil) 12 ⟨[], [false, false, false, false, true], [], false⟩ (.node .nil 13 ⟨[], [false, false, false, true, false, false, false, false, false, true, false, false, false, true, true, true, true, false, false, false, false, true, false, false, false, false, false, true, false, false, false, true, true, true, true, false], [], true⟩ .nil)) 16 ⟨[[false, false, false, true, false, false, false, false, false, true, false, false, false, true, true, true, true, false, false, false, true, false, false, false, false, false, true, false, false, false, true, true, true, true, true], [false]], [], [], true⟩ (.node (.node (.node .nil 17 ⟨[[false, false, false, false, true, false, false, false, false, false, true], [false]], [], [], false⟩ .nil) 19 ⟨[], [false, false, false, true, false, false, false, false, false, true, false, false, false, true, true, true, true, false, false, true, false], [], false⟩ .nil) 22 ⟨[[false, false, true, false, false, false, true], [false]], [], [], false⟩ (.node .nil 24 ⟨[], [false, false, false, true, false, false, false, false, false, true, false, false, false, true, true, true, true, false], [], false⟩ .nil))) 36 ⟨[], [false, false, false, true, false, false, false, false, false, true, false, false, false, true, true, true, true], [], false⟩ (.node (.node (.node (.node .nil 45 ⟨[], [false, false, false, true, false, false, false, false, false, true, false, false, false, true, true, true, true], [], false⟩ .nil) 47 ⟨[], [false, false, false, false, true], [], false⟩ .nil) 48 ⟨[], [false, false, false, true, false, false, false, false, false, true, false, false, false, false, false, false, true, false, false, false, false, false, true, false, false, false], [], true⟩ (.node .nil 49 ⟨[], [true, true, true], [], true⟩ .nil)) 50 ⟨[], [true, true, true], [], true⟩ (.node (.node (.node .nil 51 ⟨[], [true, true, true], [], true⟩ .nil) 52 ⟨[], [true, true, true], [], true⟩ .nil) 53 ⟨[], [true], [], false⟩ (.node .nil 54 ⟨[], [false, false, false, true, false, false, false, false, false, true, false, false, false, true, true, true, true, false, false, false, true, false, false, false, false, false, true, false, false, false, true, true, true, true], [], true⟩ .nil)))) 55 ⟨[], [false, false, false, false, true], [], false⟩ (.node (.node (.node (.node (.node .nil 62 ⟨[[false, false, false, true, false, false, false, false, false, true, false, false, false, false, false, false, true, false, false, false, false, false, true, false, false, false, true], [false]], [], [], true⟩ .nil) 63 ⟨[[true, true], [false]], [], [], true⟩ .nil) 64 ⟨[[true, true], [false]], [], [], true⟩ (.node .nil 65 ⟨[[true, true], [false]], [], [], true⟩ .nil)) 66 ⟨[[true, true], [false]], [], [], true⟩ (.node (.node (.node .nil 67 ⟨[[false, true], [false]], [], [], false⟩ .nil) 74 ⟨[], [false, false, true], [], false⟩ .nil) 77 ⟨[], [false, false, true], [], false⟩ (.node .nil 80 ⟨[[false, false, false, true, false, false, false, false, false, true, false, false, false, true, true, true, true], [false]], [], [], false⟩ .nil))) 83 ⟨[[false, false, false, true, false, false, false, false, false, true, false, false, false, true, true, true, true], [false, false, false, false, false], [false, false, false]], [], [], false⟩ (.node (.node (.node (.node .nil 84 ⟨[], [true], [], false⟩ .nil) 95 ⟨[], [false, false, false, false, true], [], false⟩ .nil) 98 ⟨[], [false, false, false, true, false, false, false, false, false, true, false, false, false], [], false⟩ (.node .nil 106 ⟨[], [false, false, false, true, false, false, false, false, false, true, false, false, false], [], false⟩ .nil)) 110 ⟨[], [true, true, true], [], true⟩ (.node (.node .nil 111 ⟨[], [true, true, true], [], true⟩ .nil) 112 ⟨[], [false, false, false, false, true, false, true, false], [], false⟩ (.node .nil 113 ⟨[], [false, false, true], [], false⟩ .nil))))) 114 ⟨[], [false, false, false, false, true, false, false, true], [], false⟩ (.node (.node (.node (.node (.node (.node .nil 115 ⟨[], [false, false, false, true, false, false, false, false, false, true, false, false, false, false, false, false, true, false, false, false, false, false, true, false, false, false], [], true⟩ .nil) 116 ⟨[], [true], [], false⟩ .nil) 122 ⟨[[true, true], [false]], [], [], true⟩ (.node .nil 123 ⟨[[true, true], [false]], [], [], true⟩ .nil)) 128 ⟨[[false, false, false, true, false, false, false, false, false, true, false, false, false, true, true, true, true], [false, false, false, false, false], [false, false, false]], [], [], false⟩ (.node (.node (.node .nil 143 ⟨[], [true], [], false⟩ .nil) 144 ⟨[], [false, false, false, false, true], [], false⟩ .nil) 149 ⟨[], [true, true, false, true], [], false⟩ (.node .nil 153 ⟨[], [true, true, false, true], [], false⟩ .nil))) 154 ⟨[], [true, true, false, true], [], false⟩ (.node (.node (.node (.node .nil 156 ⟨[], [true], [], false⟩ .nil) 161 ⟨[], [true, true, false, true], [], false⟩ .nil) 166 ⟨[], [true, true, false, true, true, true, false, false], [], true⟩ (.node .nil 167 ⟨[], [false, true], [], false⟩ .nil)) 168 ⟨[], [true, true, true], [], true⟩ (.node (.node .nil 171 ⟨[[true, true], [false]], [], [], true⟩ .nil) 172 ⟨[[true, true], [false]], [], [], true⟩ (.node .nil 188 ⟨[], [true, true, false, true], [], false⟩ .nil)))) 189 ⟨[], [true], [], false⟩ (.node (.node (.node (.node (.node .nil 190 ⟨[], [true], [], false⟩ .nil) 193 ⟨[], [true, true, false, true, true, true, false, false], [], true⟩ .nil) 194 ⟨[], [true], [], false⟩ (.node .nil 196 ⟨[], [], [3], false⟩ .nil)) 203 ⟨[], [true, true, true], [], true⟩ (.node (.node (.node .nil 204 ⟨[], [true, true, true], [], true⟩ .nil) 215 ⟨[], [true, true, false, true], [], false⟩ .nil) 216 ⟨[], [true, true, false, true], [], false⟩ (.node .nil 221 ⟨[], [false, true], [], false⟩ .nil))) 228 ⟨[], [true, false], [], false⟩ (.node (.node (.node (.node .nil 234 ⟨[], [true, true, false, true], [], false⟩ .nil) 235 ⟨[], [true, true, false, true], [], false⟩ .nil) 236 ⟨[], [true, true, false, true, false], [], false⟩ (.node .nil 238 ⟨[], [true, false], [], false⟩ .nil)) 250 ⟨[], [true], [], false⟩ (.node (.node .nil 251 ⟨[], [true, false], [], false⟩ .nil) 253 ⟨[], [true, false], [], false⟩ (.node .nil 258 ⟨[], [true], [], false⟩ .nil))))))
noncomputable def E : Env := ⟨tys, fnTab.get, sigOf sigTab⟩
def P0 : FuncId → Option (List Arg → Option Outs) := fun _ => none
theorem tabOk_ : tabOk Tryz.prog E = true := by kernel_rfl
theorem orders_ : Tryz.prog.follows .mixedOrders = true := by kernel_rfl
theorem allF_ : AllF Tryz.prog fnTab := ⟨⟨Tryz.func129, by kernel_rfl, by kernel_rfl⟩, ⟨⟨Tryz.func69, by kernel_rfl, by kernel_rfl⟩, ⟨⟨Tryz.func41, by kernel_rfl, by kernel_rfl⟩, ⟨⟨Tryz.func21, by kernel_rfl, by kernel_rfl⟩, ⟨⟨Tryz.func13, by kernel_rfl, by kernel_rfl⟩, ⟨⟨Tryz.func10, by kernel_rfl, by kernel_rfl⟩, ⟨⟨Tryz.func8, by kernel_rfl, by kernel_rfl⟩, ⟨⟨Tryz.func3, by kernel_rfl, by kernel_rfl⟩, trivial, trivial⟩, ⟨⟨Tryz.func9, by kernel_rfl, by kernel_rfl⟩, trivial, trivial⟩⟩, ⟨⟨Tryz.func12, by kernel_rfl, by kernel_rfl⟩, ⟨⟨Tryz.func11, by kernel_rfl, by kernel_rfl⟩, trivial, trivial⟩, trivial⟩⟩, ⟨⟨Tryz.func17, by kernel_rfl, by kernel_rfl⟩, ⟨⟨Tryz.func15, by kernel_rfl, by kernel_rfl⟩, ⟨⟨Tryz.func14, by kernel_rfl, by kernel_rfl⟩, trivial, trivial⟩, ⟨⟨Tryz.func16, by kernel_rfl, by kernel_rfl⟩, trivial, trivial⟩⟩, ⟨⟨Tryz.func19, by kernel_rfl, by kernel_rfl⟩, ⟨⟨Tryz.func18, by kernel_rfl, by kernel_rfl⟩, trivial, trivial⟩, trivial⟩⟩⟩, ⟨⟨Tryz.func31, by kernel_rfl, by kernel_rfl⟩, ⟨⟨Tryz.func26, by kernel_rfl, by kernel_rfl⟩, ⟨⟨Tryz.func23, by kernel_rfl, by kernel_rfl⟩, ⟨⟨Tryz.func22, by kernel_rfl, by kernel_rfl⟩, trivial, trivial⟩, ⟨⟨Tryz.func24, by kernel_rfl, by kernel_rfl⟩, trivial, trivial⟩⟩, ⟨⟨Tryz.func29, by kernel_rfl, by kernel_rfl⟩, ⟨⟨Tryz.func28, by kernel_rfl, by kernel_rfl⟩, trivial, trivial⟩, trivial⟩⟩, ⟨⟨Tryz.func37, by kernel_rfl, by kernel_rfl⟩, ⟨⟨Tryz.func34, by kernel_rfl, by kernel_rfl⟩, ⟨⟨Tryz.func32, by kernel_rfl, by kernel_rfl⟩, trivial, trivial⟩, ⟨⟨Tryz.func36, by kernel_rfl, by kernel_rfl⟩, trivial, trivial⟩⟩, ⟨⟨Tryz.func40, by kernel_rfl, by kernel_rfl⟩, ⟨⟨Tryz.func39, by kernel_rfl, by kernel_rfl⟩, trivial, trivial⟩, trivial⟩⟩⟩⟩, ⟨⟨Tryz.func55, by kernel_rfl, by kernel_rfl⟩, ⟨⟨Tryz.func48, by kernel_rfl, by kernel_rfl⟩, ⟨⟨Tryz.func45, by kernel_rfl, by kernel_rfl⟩, ⟨⟨Tryz.func43, by kernel_rfl, by kernel_rfl⟩, ⟨⟨Tryz.func42, by kernel_rfl, by kernel_rfl⟩, trivial, trivial⟩, ⟨⟨Tryz.func44, by kernel_rfl, by kernel_rfl⟩, trivial, trivial⟩⟩, ⟨⟨Tryz.func47, by kernel_rfl, by kernel_rfl⟩, ⟨⟨Tryz.func46, by kernel_rfl, by kernel_rfl⟩, trivial, trivial⟩, trivial⟩⟩, ⟨⟨Tryz.func52, by kernel_rfl, by kernel_rfl⟩, ⟨⟨Tryz.func50, by kernel_rfl, by kernel_rfl⟩, ⟨⟨Tryz.func49, by kernel_rfl, by kernel_rfl⟩, trivial, trivial⟩, ⟨⟨Tryz.func51, by kernel_rfl, by kernel_rfl⟩, trivial, trivial⟩⟩, ⟨⟨Tryz.func54, by kernel_rfl, by kernel_rfl⟩, ⟨⟨Tryz.func53, by kernel_rfl, by kernel_rfl⟩, trivial, trivial⟩, trivial⟩⟩⟩, ⟨⟨Tryz.func62, by kernel_rfl, by kernel_rfl⟩, ⟨⟨Tryz.func59, by kernel_rfl, by kernel_rfl⟩, ⟨⟨Tryz.func57, by kernel_rfl, by kernel_rfl⟩, ⟨⟨Tryz.func56, by kernel_rfl, by kernel_rfl⟩, trivial, trivial⟩, ⟨⟨Tryz.func58, by kernel_rfl, by kernel_rfl⟩, trivial, trivial⟩⟩, ⟨⟨Tryz.func61, by kernel_rfl, by kernel_rfl⟩, ⟨⟨Tryz.func60, by kernel_rfl, by kernel_rfl⟩, trivial, trivial⟩, trivial⟩⟩, ⟨⟨Tryz.func66, by kernel_rfl, by kernel_rfl⟩, ⟨⟨Tryz.func64, by kernel_rfl, by kernel_rfl⟩, ⟨⟨Tryz.func63, by kernel_rfl, by kernel_rfl⟩, trivial, trivial⟩, ⟨⟨Tryz.func65, by kernel_rfl, by kernel_rfl⟩, trivial, trivial⟩⟩, ⟨⟨Tryz.func68, by kernel_rfl, by kernel_rfl⟩, ⟨⟨Tryz.func67, by kernel_rfl, by kernel_rfl⟩, trivial, trivial⟩, trivial⟩⟩⟩⟩⟩, ⟨⟨Tryz.func102, by kernel_rfl, by kernel_rfl⟩, ⟨⟨Tryz.func86, by kernel_rfl, by kernel_rfl⟩, ⟨⟨Tryz.func77, by kernel_rfl, by kernel_rfl⟩, ⟨⟨Tryz.func73, by kernel_rfl, by kernel_rfl⟩, ⟨⟨Tryz.func71, by kernel_rfl, by kernel_rfl⟩, ⟨⟨Tryz.func70, by kernel_rfl, by kernel_rfl⟩, trivial, trivial⟩, ⟨⟨Tryz.func72, by kernel_rfl, by kernel_rfl⟩, trivial, trivial⟩⟩, ⟨⟨Tryz.func75, by kernel_rfl, by kernel_rfl⟩, ⟨⟨Tryz.func74, by kernel_rfl, by kernel_rfl⟩, trivial, trivial⟩, trivial⟩⟩, ⟨⟨Tryz.func82, by kernel_rfl, by kernel_rfl⟩, ⟨⟨Tryz.func79, by kernel_rfl, by kernel_rfl⟩, ⟨⟨Tryz.func78, by kernel_rfl, by kernel_rfl⟩, trivial, trivial⟩, ⟨⟨Tryz.func80, by kernel_rfl, by kernel_rfl⟩, trivial, trivial⟩⟩, ⟨⟨Tryz.func84, by kernel_rfl, by kernel_rfl⟩, ⟨⟨Tryz.func83, by kernel_rfl, by kernel_rfl⟩, trivial, trivial⟩, trivial⟩⟩⟩, ⟨⟨Tryz.func93, by kernel_rfl, by kernel_rfl⟩, ⟨⟨Tryz.func90, by kernel_rfl, by kernel_rfl⟩, ⟨⟨Tryz.func88, by kernel_rfl, by kernel_rfl⟩, ⟨⟨Tryz.func87, by kernel_rfl, by kernel_rfl⟩, trivial, trivial⟩, ⟨⟨Tryz.func89, by kernel_rfl, by kernel_rfl⟩, trivial, trivial⟩⟩, ⟨⟨Tryz.func92, by kernel_rfl, by kernel_rfl⟩, ⟨⟨Tryz.func91, by kernel_rfl, by kernel_rfl⟩, trivial, trivial⟩, trivial⟩⟩, ⟨⟨Tryz.func99, by kernel_rfl, by kernel_rfl⟩, ⟨⟨Tryz.func96, by kernel_rfl, by kernel_rfl⟩, ⟨⟨Tryz.func95, by kernel_rfl, by kernel_rfl⟩, trivial, trivial⟩, ⟨⟨Tryz.func98, by kernel_rfl, by kernel_rfl⟩, trivial, trivial⟩⟩, ⟨⟨Tryz.func101, by kernel_rfl, by kernel_rfl⟩, ⟨⟨Tryz.func100, by kernel_rfl, by kernel_rfl⟩, trivial, trivial⟩, trivial⟩⟩⟩⟩, ⟨⟨Tryz.func116, by kernel_rfl, by kernel_rfl⟩, ⟨⟨Tryz.func109, by kernel_rfl, by kernel_rfl⟩, ⟨⟨Tryz.func106, by kernel_rfl, by kernel_rfl⟩, ⟨⟨Tryz.func104, by kernel_rfl, by kernel_rfl⟩, ⟨⟨Tryz.func103, by kernel_rfl, by kernel_rfl⟩, trivial, trivial⟩, ⟨⟨Tryz.func105, by kernel_rfl, by kernel_rfl⟩, trivial, trivial⟩⟩, ⟨⟨Tryz.func108, by kernel_rfl, by kernel_rfl⟩, ⟨⟨Tryz.func107, by kernel_rfl, by kernel_rfl⟩, trivial, trivial⟩, trivial⟩⟩, ⟨⟨Tryz.func113, by kernel_rfl, by kernel_rfl⟩, ⟨⟨Tryz.func111, by kernel_rfl, by kernel_rfl⟩, ⟨⟨Tryz.func110, by kernel_rfl, by kernel_rfl⟩, trivial, trivial⟩, ⟨⟨Tryz.func112, by kernel_rfl, by kernel_rfl⟩, trivial, trivial⟩⟩, ⟨⟨Tryz.func115, by kernel_rfl, by kernel_rfl⟩, ⟨⟨Tryz.func114, by kernel_rfl, by kernel_rfl⟩, trivial, trivial⟩, trivial⟩⟩⟩, ⟨⟨Tryz.func123, by kernel_rfl, by kernel_rfl⟩, ⟨⟨Tryz.func120, by kernel_rfl, by kernel_rfl⟩, ⟨⟨Tryz.func118, by kernel_rfl, by kernel_rfl⟩, ⟨⟨Tryz.func117, by kernel_rfl, by kernel_rfl⟩, trivial, trivial⟩, ⟨⟨Tryz.func119, by kernel_rfl, by kernel_rfl⟩, trivial, trivial⟩⟩, ⟨⟨Tryz.func122, by kernel_rfl, by kernel_rfl⟩, ⟨⟨Tryz.func121, by kernel_rfl, by kernel_rfl⟩, trivial, trivial⟩, trivial⟩⟩, ⟨⟨Tryz.func126, by kernel_rfl, by kernel_rfl⟩, ⟨⟨Tryz.func125, by kernel_rfl, by kernel_rfl⟩, ⟨⟨Tryz.func124, by kernel_rfl, by kernel_rfl⟩, trivial, trivial⟩, trivial⟩, ⟨⟨Tryz.func128, by kernel_rfl, by kernel_rfl⟩, ⟨⟨Tryz.func127, by kernel_rfl, by kernel_rfl⟩, trivial, trivial⟩, trivial⟩⟩⟩⟩⟩⟩, ⟨⟨Tryz.func192, by kernel_rfl, by kernel_rfl⟩, ⟨⟨Tryz.func161, by kernel_rfl, by kernel_rfl⟩, ⟨⟨Tryz.func145, by kernel_rfl, by kernel_rfl⟩, ⟨⟨Tryz.func137, by kernel_rfl, by kernel_rfl⟩, ⟨⟨Tryz.func133, by kernel_rfl, by kernel_rfl⟩, ⟨⟨Tryz.func131, by kernel_rfl, by kernel_rfl⟩, ⟨⟨Tryz.func130, by kernel_rfl, by kernel_rfl⟩, trivial, trivial⟩, ⟨⟨Tryz.func132, by kernel_rfl, by kernel_rfl⟩, trivial, trivial⟩⟩, ⟨⟨Tryz.func136, by kernel_rfl, by kernel_rfl⟩, ⟨⟨Tryz.func134, by kernel_rfl, by kernel_rfl⟩, trivial, trivial⟩, trivial⟩⟩, ⟨⟨Tryz.func142, by kernel_rfl, by kernel_rfl⟩, ⟨⟨Tryz.func139, by kernel_rfl, by kernel_rfl⟩, ⟨⟨Tryz.func138, by kernel_rfl, by kernel_rfl⟩, trivial, trivial⟩, ⟨⟨Tryz.func140, by kernel_rfl, by kernel_rfl⟩, trivial, trivial⟩⟩, ⟨⟨Tryz.func144, by kernel_rfl, by kernel_rfl⟩, ⟨⟨Tryz.func143, by kernel_rfl, by kernel_rfl⟩, trivial, trivial⟩, trivial⟩⟩⟩, ⟨⟨Tryz.func154, by kernel_rfl, by kernel_rfl⟩, ⟨⟨Tryz.func150, by kernel_rfl, by kernel_rfl⟩, ⟨⟨Tryz.func147, by kernel_rfl, by kernel_rfl⟩, ⟨⟨Tryz.func146, by kernel_rfl, by kernel_rfl⟩, trivial, trivial⟩, ⟨⟨Tryz.func149, by kernel_rfl, by kernel_rfl⟩, trivial, trivial⟩⟩, ⟨⟨Tryz.func153, by kernel_rfl, by kernel_rfl⟩, ⟨⟨Tryz.func152, by kernel_rfl, by kernel_rfl⟩, trivial, trivial⟩, trivial⟩⟩, ⟨⟨Tryz.func158, by kernel_rfl, by kernel_rfl⟩, ⟨⟨Tryz.func156, by kernel_rfl, by kernel_rfl⟩, ⟨⟨Tryz.func155, by kernel_rfl, by kernel_rfl⟩, trivial, trivial⟩, ⟨⟨Tryz.func157, by kernel_rfl, by kernel_rfl⟩, trivial, trivial⟩⟩, ⟨⟨Tryz.func160, by kernel_rfl, by kernel_rfl⟩, ⟨⟨Tryz.func159, by kernel_rfl, by kernel_rfl⟩, trivial, trivial⟩, trivial⟩⟩⟩⟩, ⟨⟨Tryz.func175, by kernel_rfl, by kernel_rfl⟩, ⟨⟨Tryz.func168, by kernel_rfl, by kernel_rfl⟩, ⟨⟨Tryz.func165, by kernel_rfl, by kernel_rfl⟩, ⟨⟨Tryz.func163, by kernel_rfl, by kernel_rfl⟩, ⟨⟨Tryz.func162, by kernel_rfl, by kernel_rfl⟩, trivial, trivial⟩, ⟨⟨Tryz.func164, by kernel_rfl, by kernel_rfl⟩, trivial, trivial⟩⟩, ⟨⟨Tryz.func167, by kernel_rfl, by kernel_rfl⟩, ⟨⟨Tryz.func166, by kernel_rfl, by kernel_rfl⟩, trivial, trivial⟩, trivial⟩⟩, ⟨⟨Tryz.func172, by kernel_rfl, by kernel_rfl⟩, ⟨⟨Tryz.func170, by kernel_rfl, by kernel_rfl⟩, ⟨⟨Tryz.func169, by kernel_rfl, by kernel_rfl⟩, trivial, trivial⟩, ⟨⟨Tryz.func171, by kernel_rfl, by kernel_rfl⟩, trivial, trivial⟩⟩, ⟨⟨Tryz.func174, by kernel_rfl, by kernel_rfl⟩, ⟨⟨Tryz.func173, by kernel_rfl, by kernel_rfl⟩, trivial, trivial⟩, trivial⟩⟩⟩, ⟨⟨Tryz.func184, by kernel_rfl, by kernel_rfl⟩, ⟨⟨Tryz.func179, by kernel_rfl, by kernel_rfl⟩, ⟨⟨Tryz.func177, by kernel_rfl, by kernel_rfl⟩, ⟨⟨Tryz.func176, by kernel_rfl, by kernel_rfl⟩, trivial, trivial⟩, ⟨⟨Tryz.func178, by kernel_rfl, by kernel_rfl⟩, trivial, trivial⟩⟩, ⟨⟨Tryz.func183, by kernel_rfl, by kernel_rfl⟩, ⟨⟨Tryz.func182, by kernel_rfl, by kernel_rfl⟩, trivial, trivial⟩, trivial⟩⟩, ⟨⟨Tryz.func189, by kernel_rfl, by kernel_rfl⟩, ⟨⟨Tryz.func186, by kernel_rfl, by kernel_rfl⟩, ⟨⟨Tryz.func185, by kernel_rfl, by kernel_rfl⟩, trivial, trivial⟩, ⟨⟨Tryz.func188, by kernel_rfl, by kernel_rfl⟩, trivial, trivial⟩⟩, ⟨⟨Tryz.func191, by kernel_rfl, by kernel_rfl⟩, ⟨⟨Tryz.func190, by kernel_rfl, by kernel_rfl⟩, trivial, trivial⟩, trivial⟩⟩⟩⟩⟩, ⟨⟨Tryz.func234, by kernel_rfl, by kernel_rfl⟩, ⟨⟨Tryz.func207, by kernel_rfl, by kernel_rfl⟩, ⟨⟨Tryz.func200, by kernel_rfl, by kernel_rfl⟩, ⟨⟨Tryz.func197, by kernel_rfl, by kernel_rfl⟩, ⟨⟨Tryz.func194, by kernel_rfl, by kernel_rfl⟩, ⟨⟨Tryz.func193, by kernel_rfl, by kernel_rfl⟩, trivial, trivial⟩, ⟨⟨Tryz.func196, by kernel_rfl, by kernel_rfl⟩, trivial, trivial⟩⟩, ⟨⟨Tryz.func199, by kernel_rfl, by kernel_rfl⟩, ⟨⟨Tryz.func198, by kernel_rfl, by kernel_rfl⟩, trivial, trivial⟩, trivial⟩⟩, ⟨⟨Tryz.func204, by kernel_rfl, by kernel_rfl⟩, ⟨⟨Tryz.func202, by kernel_rfl, by kernel_rfl⟩, ⟨⟨Tryz.func201, by kernel_rfl, by kernel_rfl⟩, trivial, trivial⟩, ⟨⟨Tryz.func203, by kernel_rfl, by kernel_rfl⟩, trivial, trivial⟩⟩, ⟨⟨Tryz.func206, by kernel_rfl, by kernel_rfl⟩, ⟨⟨Tryz.func205, by kernel_rfl, by kernel_rfl⟩, trivial, trivial⟩, trivial⟩⟩⟩, ⟨⟨Tryz.func221, by kernel_rfl, by kernel_rfl⟩, ⟨⟨Tryz.func218, by kernel_rfl, by kernel_rfl⟩, ⟨⟨Tryz.func216, by kernel_rfl, by kernel_rfl⟩, ⟨⟨Tryz.func215, by kernel_rfl, by kernel_rfl⟩, trivial, trivial⟩, ⟨⟨Tryz.func217, by kernel_rfl, by kernel_rfl⟩, trivial, trivial⟩⟩, ⟨⟨Tryz.func220, by kernel_rfl, by kernel_rfl⟩, ⟨⟨Tryz.func219, by kernel_rfl, by kernel_rfl⟩, trivial, trivial⟩, trivial⟩⟩, ⟨⟨Tryz.func226, by kernel_rfl, by kernel_rfl⟩, ⟨⟨Tryz.func223, by kernel_rfl, by kernel_rfl⟩, ⟨⟨Tryz.func222, by kernel_rfl, by kernel_rfl⟩, trivial, trivial⟩, ⟨⟨Tryz.func224, by kernel_rfl, by kernel_rfl⟩, trivial, trivial⟩⟩, ⟨⟨Tryz.func231, by kernel_rfl, by kernel_rfl⟩, ⟨⟨Tryz.func228, by kernel_rfl, by kernel_rfl⟩, trivial, trivial⟩, trivial⟩⟩⟩⟩, ⟨⟨Tryz.func249, by kernel_rfl, by kernel_rfl⟩, ⟨⟨Tryz.func241, by kernel_rfl, by kernel_rfl⟩, ⟨⟨Tryz.func238, by kernel_rfl, by kernel_rfl⟩, ⟨⟨Tryz.func236, by kernel_rfl, by kernel_rfl⟩, ⟨⟨Tryz.func235, by kernel_rfl, by kernel_rfl⟩, trivial, trivial⟩, ⟨⟨Tryz.func237, by kernel_rfl, by kernel_rfl⟩, trivial, trivial⟩⟩, ⟨⟨Tryz.func240, by kernel_rfl, by kernel_rfl⟩, ⟨⟨Tryz.func239, by kernel_rfl, by kernel_rfl⟩, trivial, trivial⟩, trivial⟩⟩, ⟨⟨Tryz.func245, by kernel_rfl, by kernel_rfl⟩, ⟨⟨Tryz.func243, by kernel_rfl, by kernel_rfl⟩, ⟨⟨Tryz.func242, by kernel_rfl, by kernel_rfl⟩, trivial, trivial⟩, ⟨⟨Tryz.func244, by kernel_rfl, by kernel_rfl⟩, trivial, trivial⟩⟩, ⟨⟨Tryz.func247, by kernel_rfl, by kernel_rfl⟩, ⟨⟨Tryz.func246, by kernel_rfl, by kernel_rfl⟩, trivial, trivial⟩, trivial⟩⟩⟩, ⟨⟨Tryz.func258, by kernel_rfl, by kernel_rfl⟩, ⟨⟨Tryz.func253, by kernel_rfl, by kernel_rfl⟩, ⟨⟨Tryz.func251, by kernel_rfl, by kernel_rfl⟩, ⟨⟨Tryz.func250, by kernel_rfl, by kernel_rfl⟩, trivial, trivial⟩, ⟨⟨Tryz.func252, by kernel_rfl, by kernel_rfl⟩, trivial, trivial⟩⟩, ⟨⟨Tryz.func257, by kernel_rfl, by kernel_rfl⟩, ⟨⟨Tryz.func256, by kernel_rfl, by kernel_rfl⟩, trivial, trivial⟩, trivial⟩⟩, ⟨⟨Tryz.func261, by kernel_rfl, by kernel_rfl⟩, ⟨⟨Tryz.func260, by kernel_rfl, by kernel_rfl⟩, ⟨⟨Tryz.func259, by kernel_rfl, by kernel_rfl⟩, trivial, trivial⟩, trivial⟩, ⟨⟨Tryz.func263, by kernel_rfl, by kernel_rfl⟩, ⟨⟨Tryz.func262, by kernel_rfl, by kernel_rfl⟩, trivial, trivial⟩, trivial⟩⟩⟩⟩⟩⟩⟩
theorem tabF_ : TabF Tryz.prog E := fun f fn h => tabF_of allF_ f fn h
theorem sound_ (k : Nat) : FnOk Tryz.prog E (evalF E P0 k) := eval_sound tabOk_ tabF_ orders_ noPrim k
end Go.Proofs.YtahlghlpdcfbgaaGreat.Ev
