/- The seat's types and functions, as the evaluator takes them. No condition. -/
import Derived.Test.YtahlghlpdcfbgaaEvYb
import Derived.Test.YtahlghlpdcfbgaaProg
namespace Go.Proofs.Ytahlghlpdcfbgaa.Ev
open Go Go.Proofs
set_option linter.unusedVariables false
set_option maxRecDepth 100000
def tys : List TI := [⟨.other, [], 0⟩,
  ⟨.other, [], 0⟩,
  ⟨.int .i64, [.int .i64], 8⟩,
  ⟨.int .i64, [.int .i64], 8⟩,
  ⟨.bool, [.bool], 1⟩,
  ⟨.int .u8, [.int .u8], 1⟩,
  ⟨.int .u8, [.int .u8], 1⟩,
  ⟨.struct [(0, 2), (1, 3), (2, 4), (3, 6)], [.int .i64, .int .i64, .bool, .int .u8], 24⟩,
  ⟨.struct [(0, 2), (1, 3), (2, 4), (3, 6)], [.int .i64, .int .i64, .bool, .int .u8], 24⟩,
  ⟨.str, [.str], 16⟩,
  ⟨.str, [.str], 16⟩,
  ⟨.str, [.str], 16⟩,
  ⟨.int .u64, [.int .u64], 8⟩,
  ⟨.struct [(0, 9), (1, 12)], [.str, .int .u64], 24⟩,
  ⟨.struct [(0, 9), (1, 12)], [.str, .int .u64], 24⟩,
  ⟨.ptr 224, [.ptr 224], 8⟩,
  ⟨.ptr 227, [.ptr 227], 8⟩,
  ⟨.ptr 237, [.ptr 237], 8⟩,
  ⟨.struct [(0, 17)], [.ptr 237], 8⟩,
  ⟨.struct [(0, 17)], [.ptr 237], 8⟩,
  ⟨.other, [], 0⟩,
  ⟨.int .i32, [.int .i32], 4⟩,
  ⟨.slice 93, [.row 93], 24⟩,
  ⟨.other, [], 0⟩,
  ⟨.slice 61, [.row 61], 24⟩,
  ⟨.other, [], 0⟩,
  ⟨.slice 63, [.row 63], 24⟩,
  ⟨.other, [], 0⟩,
  ⟨.other, [], 0⟩,
  ⟨.other, [], 0⟩,
  ⟨.other, [], 0⟩,
  ⟨.other, [], 0⟩,
  ⟨.other, [], 0⟩,
  ⟨.slice 54, [.row 54], 24⟩,
  ⟨.other, [], 0⟩,
  ⟨.other, [], 0⟩,
  ⟨.other, [], 0⟩,
  ⟨.struct [(0, 3), (1, 3)], [.int .i64, .int .i64], 16⟩,
  ⟨.struct [(0, 3), (1, 3)], [.int .i64, .int .i64], 16⟩,
  ⟨.slice 3, [.row 3], 24⟩,
  ⟨.other, [], 0⟩,
  ⟨.struct [(0, 3), (1, 3)], [.int .i64, .int .i64], 16⟩,
  ⟨.other, [], 0⟩,
  ⟨.other, [], 0⟩,
  ⟨.other, [], 0⟩,
  ⟨.other, [], 0⟩,
  ⟨.other, [], 0⟩,
  ⟨.slice 5, [.row 5], 24⟩,
  ⟨.other, [], 0⟩,
  ⟨.other, [], 0⟩,
  ⟨.other, [], 0⟩,
  ⟨.other, [], 0⟩,
  ⟨.other, [], 0⟩,
  ⟨.struct [(0, 3), (1, 3), (2, 3), (3, 3), (4, 39)], [.int .i64, .int .i64, .int .i64, .int .i64, .row 3], 56⟩,
  ⟨.struct [(0, 3), (1, 3), (2, 3), (3, 3), (4, 39)], [.int .i64, .int .i64, .int .i64, .int .i64, .row 3], 56⟩,
  ⟨.other, [], 0⟩,
  ⟨.other, [], 0⟩,
  ⟨.other, [], 0⟩,
  ⟨.other, [], 0⟩,
  ⟨.other, [], 0⟩,
  ⟨.struct [(0, 3), (1, 3), (2, 39)], [.int .i64, .int .i64, .row 3], 40⟩,
  ⟨.struct [(0, 3), (1, 3), (2, 39)], [.int .i64, .int .i64, .row 3], 40⟩,
  ⟨.struct [(0, 54), (5, 61)], [.int .i64, .int .i64, .int .i64, .int .i64, .row 3, .int .i64, .int .i64, .row 3], 96⟩,
  ⟨.struct [(0, 54), (5, 61)], [.int .i64, .int .i64, .int .i64, .int .i64, .row 3, .int .i64, .int .i64, .row 3], 96⟩,
  ⟨.other, [], 0⟩,
  ⟨.other, [], 0⟩,
  ⟨.other, [], 0⟩,
  ⟨.other, [], 0⟩,
  ⟨.other, [], 0⟩,
  ⟨.other, [], 0⟩,
  ⟨.other, [], 0⟩,
  ⟨.other, [], 0⟩,
  ⟨.slice 139, [.row 139], 24⟩,
  ⟨.slice 166, [.row 166], 24⟩,
  ⟨.struct [(0, 3), (1, 41), (3, 72), (4, 3), (5, 3), (6, 3), (7, 3), (8, 3), (9, 73), (10, 3), (11, 4), (12, 4)], [.int .i64, .int .i64, .int .i64, .row 139, .int .i64, .int .i64, .int .i64, .int .i64, .int .i64, .row 166, .int .i64, .bool, .bool], 128⟩,
  ⟨.struct [(0, 3), (1, 41), (3, 72), (4, 3), (5, 3), (6, 3), (7, 3), (8, 3), (9, 73), (10, 3), (11, 4), (12, 4)], [.int .i64, .int .i64, .int .i64, .row 139, .int .i64, .int .i64, .int .i64, .int .i64, .int .i64, .row 166, .int .i64, .bool, .bool], 128⟩,
  ⟨.slice 155, [.row 155], 24⟩,
  ⟨.struct [(0, 75), (13, 33), (14, 76), (15, 24), (16, 26)], [.int .i64, .int .i64, .int .i64, .row 139, .int .i64, .int .i64, .int .i64, .int .i64, .int .i64, .row 166, .int .i64, .bool, .bool, .row 54, .row 155, .row 61, .row 63], 224⟩,
  ⟨.struct [(0, 75), (13, 33), (14, 76), (15, 24), (16, 26)], [.int .i64, .int .i64, .int .i64, .row 139, .int .i64, .int .i64, .int .i64, .int .i64, .int .i64, .row 166, .int .i64, .bool, .bool, .row 54, .row 155, .row 61, .row 63], 224⟩,
  ⟨.other, [], 0⟩,
  ⟨.other, [], 0⟩,
  ⟨.other, [], 0⟩,
  ⟨.other, [], 0⟩,
  ⟨.other, [], 0⟩,
  ⟨.other, [], 0⟩,
  ⟨.other, [], 0⟩,
  ⟨.other, [], 0⟩,
  ⟨.other, [], 0⟩,
  ⟨.other, [], 0⟩,
  ⟨.other, [], 0⟩,
  ⟨.struct [(0, 3), (1, 3), (2, 3), (3, 3), (4, 39)], [.int .i64, .int .i64, .int .i64, .int .i64, .row 3], 56⟩,
  ⟨.struct [(0, 3), (1, 3), (2, 39)], [.int .i64, .int .i64, .row 3], 40⟩,
  ⟨.struct [(0, 90), (5, 91)], [.int .i64, .int .i64, .int .i64, .int .i64, .row 3, .int .i64, .int .i64, .row 3], 96⟩,
  ⟨.struct [(0, 90), (5, 91)], [.int .i64, .int .i64, .int .i64, .int .i64, .row 3, .int .i64, .int .i64, .row 3], 96⟩,
  ⟨.other, [], 0⟩,
  ⟨.other, [], 0⟩,
  ⟨.other, [], 0⟩,
  ⟨.other, [], 0⟩,
  ⟨.other, [], 0⟩,
  ⟨.ptr 129, [.ptr 129], 8⟩,
  ⟨.other, [], 0⟩,
  ⟨.other, [], 0⟩,
  ⟨.other, [], 0⟩,
  ⟨.other, [], 0⟩,
  ⟨.other, [], 0⟩,
  ⟨.other, [], 0⟩,
  ⟨.other, [], 0⟩,
  ⟨.other, [], 0⟩,
  ⟨.other, [], 0⟩,
  ⟨.int .u64, [.int .u64], 8⟩,
  ⟨.other, [], 0⟩,
  ⟨.other, [], 0⟩,
  ⟨.other, [], 0⟩,
  ⟨.other, [], 0⟩,
  ⟨.other, [], 0⟩,
  ⟨.other, [], 0⟩,
  ⟨.other, [], 0⟩,
  ⟨.other, [], 0⟩,
  ⟨.other, [], 0⟩,
  ⟨.other, [], 0⟩,
  ⟨.other, [], 0⟩,
  ⟨.other, [], 0⟩,
  ⟨.other, [], 0⟩,
  ⟨.other, [], 0⟩,
  ⟨.other, [], 0⟩,
  ⟨.other, [], 0⟩,
  ⟨.other, [], 0⟩,
  ⟨.other, [], 0⟩,
  ⟨.struct [(0, 47), (1, 3), (2, 3)], [.row 5, .int .i64, .int .i64], 40⟩,
  ⟨.struct [(0, 47), (1, 3), (2, 3)], [.row 5, .int .i64, .int .i64], 40⟩,
  ⟨.other, [], 0⟩,
  ⟨.other, [], 0⟩,
  ⟨.other, [], 0⟩,
  ⟨.other, [], 0⟩,
  ⟨.other, [], 0⟩,
  ⟨.other, [], 0⟩,
  ⟨.slice 39, [.row 39], 24⟩,
  ⟨.slice 174, [.row 174], 24⟩,
  ⟨.struct [(0, 136), (1, 137), (2, 4), (3, 39)], [.row 39, .row 174, .bool, .row 3], 80⟩,
  ⟨.struct [(0, 136), (1, 137), (2, 4), (3, 39)], [.row 39, .row 174, .bool, .row 3], 80⟩,
  ⟨.other, [], 0⟩,
  ⟨.other, [], 0⟩,
  ⟨.struct [(0, 3), (1, 3), (2, 3), (3, 3), (4, 3), (5, 3), (6, 3), (7, 3)], [.int .i64, .int .i64, .int .i64, .int .i64, .int .i64, .int .i64, .int .i64, .int .i64], 64⟩,
  ⟨.struct [(0, 3), (1, 3), (2, 3), (3, 3), (4, 3), (5, 3), (6, 3), (7, 3)], [.int .i64, .int .i64, .int .i64, .int .i64, .int .i64, .int .i64, .int .i64, .int .i64], 64⟩,
  ⟨.other, [], 0⟩,
  ⟨.other, [], 0⟩,
  ⟨.other, [], 0⟩,
  ⟨.other, [], 0⟩,
  ⟨.other, [], 0⟩,
  ⟨.other, [], 0⟩,
  ⟨.other, [], 0⟩,
  ⟨.other, [], 0⟩,
  ⟨.other, [], 0⟩,
  ⟨.other, [], 0⟩,
  ⟨.struct [(0, 54), (5, 3), (6, 39), (7, 3)], [.int .i64, .int .i64, .int .i64, .int .i64, .row 3, .int .i64, .row 3, .int .i64], 96⟩,
  ⟨.struct [(0, 54), (5, 3), (6, 39), (7, 3)], [.int .i64, .int .i64, .int .i64, .int .i64, .row 3, .int .i64, .row 3, .int .i64], 96⟩,
  ⟨.other, [], 0⟩,
  ⟨.other, [], 0⟩,
  ⟨.other, [], 0⟩,
  ⟨.other, [], 0⟩,
  ⟨.other, [], 0⟩,
  ⟨.other, [], 0⟩,
  ⟨.other, [], 0⟩,
  ⟨.other, [], 0⟩,
  ⟨.other, [], 0⟩,
  ⟨.struct [(0, 3), (1, 39)], [.int .i64, .row 3], 32⟩,
  ⟨.struct [(0, 3), (1, 39)], [.int .i64, .row 3], 32⟩,
  ⟨.other, [], 0⟩,
  ⟨.other, [], 0⟩,
  ⟨.other, [], 0⟩,
  ⟨.other, [], 0⟩,
  ⟨.other, [], 0⟩,
  ⟨.other, [], 0⟩,
  ⟨.struct [(0, 3), (1, 39)], [.int .i64, .row 3], 32⟩,
  ⟨.struct [(0, 3), (1, 39)], [.int .i64, .row 3], 32⟩,
  ⟨.other, [], 0⟩,
  ⟨.other, [], 0⟩,
  ⟨.other, [], 0⟩,
  ⟨.other, [], 0⟩,
  ⟨.other, [], 0⟩,
  ⟨.other, [], 0⟩,
  ⟨.other, [], 0⟩,
  ⟨.other, [], 0⟩,
  ⟨.other, [], 0⟩,
  ⟨.other, [], 0⟩,
  ⟨.other, [], 0⟩,
  ⟨.other, [], 0⟩,
  ⟨.other, [], 0⟩,
  ⟨.other, [], 0⟩,
  ⟨.other, [], 0⟩,
  ⟨.other, [], 0⟩,
  ⟨.other, [], 0⟩,
  ⟨.other, [], 0⟩,
  ⟨.other, [], 0⟩,
  ⟨.ptr 155, [.ptr 155], 8⟩,
  ⟨.other, [], 0⟩,
  ⟨.other, [], 0⟩,
  ⟨.ptr 78, [.ptr 78], 8⟩,
  ⟨.other, [], 0⟩,
  ⟨.other, [], 0⟩,
  ⟨.other, [], 0⟩,
  ⟨.other, [], 0⟩,
  ⟨.other, [], 0⟩,
  ⟨.other, [], 0⟩,
  ⟨.other, [], 0⟩,
  ⟨.other, [], 0⟩,
  ⟨.other, [], 0⟩,
  ⟨.other, [], 0⟩,
  ⟨.other, [], 0⟩,
  ⟨.other, [], 0⟩,
  ⟨.other, [], 0⟩,
  ⟨.other, [], 0⟩,
  ⟨.other, [], 0⟩,
  ⟨.other, [], 0⟩,
  ⟨.ptr 75, [.ptr 75], 8⟩,
  ⟨.other, [], 0⟩,
  ⟨.other, [], 0⟩,
  ⟨.struct [(0, 3), (1, 3), (2, 39)], [.int .i64, .int .i64, .row 3], 40⟩,
  ⟨.struct [(0, 3), (1, 3), (2, 39)], [.int .i64, .int .i64, .row 3], 40⟩,
  ⟨.other, [], 0⟩,
  ⟨.other, [], 0⟩,
  ⟨.other, [], 0⟩,
  ⟨.other, [], 0⟩,
  ⟨.struct [(0, 17), (1, 17), (2, 17), (3, 9)], [.ptr 237, .ptr 237, .ptr 237, .str], 40⟩,
  ⟨.struct [(0, 17), (1, 17), (2, 17), (3, 9)], [.ptr 237, .ptr 237, .ptr 237, .str], 40⟩,
  ⟨.other, [], 0⟩,
  ⟨.other, [], 0⟩,
  ⟨.other, [], 0⟩,
  ⟨.other, [], 0⟩,
  ⟨.int .u32, [.int .u32], 4⟩,
  ⟨.int .u8, [.int .u8], 1⟩,
  ⟨.int .u8, [.int .u8], 1⟩,
  ⟨.other, [], 0⟩,
  ⟨.ptr 5, [.ptr 5], 8⟩,
  ⟨.int .i32, [.int .i32], 4⟩,
  ⟨.int .i32, [.int .i32], 4⟩,
  ⟨.other, [], 0⟩,
  ⟨.other, [], 0⟩,
  ⟨.other, [], 0⟩]
namespace N
abbrev laws_FnExactAnsOf : Nat := 3
abbrev laws_FnExactCmdsOf : Nat := 4
abbrev laws_FnExactAfter : Nat := 5
abbrev laws_FnMusts : Nat := 6
abbrev laws_FnOrders : Nat := 7
abbrev laws_szTurnS : Nat := 10
abbrev spec_AnsOf : Nat := 11
abbrev laws_toTurnS : Nat := 12
abbrev impl_AnsOf : Nat := 13
abbrev laws_eqAnsS : Nat := 14
abbrev laws_eqTurnS : Nat := 15
abbrev laws_markTurnS : Nat := 16
abbrev laws_markAnsS : Nat := 17
abbrev laws_heldAnsS : Nat := 18
abbrev spec_CmdsOf : Nat := 19
abbrev impl_CmdsOf : Nat := 20
abbrev laws_eqCmdS : Nat := 21
abbrev laws_markCmdS : Nat := 22
abbrev laws_heldCmdS : Nat := 23
abbrev spec_After : Nat := 24
abbrev laws_toGeo : Nat := 25
abbrev laws_toIntS : Nat := 26
abbrev impl_After : Nat := 27
abbrev laws_eqIntS : Nat := 28
abbrev laws_markIntS : Nat := 29
abbrev laws_heldIntS : Nat := 30
abbrev laws_big : Nat := 31
abbrev spec_DrawSureOf : Nat := 32
abbrev impl_SureOf : Nat := 33
abbrev spec_DrawMayBe : Nat := 34
abbrev spec_DrawWrites : Nat := 35
abbrev spec_SureOf : Nat := 36
abbrev impl_MayBe : Nat := 37
abbrev spec_MayBe : Nat := 38
abbrev impl_Writes : Nat := 39
abbrev spec_Writes : Nat := 40
abbrev impl_WordOf : Nat := 41
abbrev spec_WordOf : Nat := 42
abbrev spec_DrawFollows : Nat := 43
abbrev impl_Follows : Nat := 44
abbrev spec_DrawSameAns : Nat := 45
abbrev impl_DoCmds : Nat := 46
abbrev spec_Follows : Nat := 47
abbrev laws_sameInts : Nat := 48
abbrev impl_SameAns : Nat := 49
abbrev laws_sameAns : Nat := 50
abbrev laws_sameAnss : Nat := 51
abbrev spec_EngNew : Nat := 52
abbrev laws_eqEng : Nat := 54
abbrev laws_heldEng : Nat := 56
abbrev laws_at : Nat := 57
abbrev impl_Submit : Nat := 58
abbrev impl_GetBlock : Nat := 60
abbrev laws_szTurn : Nat := 61
abbrev spec_l15Ans : Nat := 62
abbrev laws_toTurn : Nat := 63
abbrev impl_copyAns : Nat := 64
abbrev laws_eqAns : Nat := 65
abbrev laws_eqTurn : Nat := 66
abbrev spec_l13Copy : Nat := 67
abbrev impl_copyCmd : Nat := 68
abbrev laws_eqCmd : Nat := 69
abbrev spec_DoCmds : Nat := 70
abbrev spec_l1New : Nat := 71
abbrev spec_l18Log : Nat := 72
abbrev spec_l1Below : Nat := 73
abbrev spec_l1Once : Nat := 74
abbrev spec_l3Geo : Nat := 75
abbrev spec_l13Any : Nat := 76
abbrev spec_l1Int : Nat := 77
abbrev spec_l19Flushed : Nat := 78
abbrev impl_within : Nat := 79
abbrev spec_l1In : Nat := 80
abbrev impl_runOf : Nat := 81
abbrev spec_l13Len : Nat := 82
abbrev slices_EqualFunc_impl_Ans_impl_Ans_impl_Ans_impl_Ans : Nat := 83
abbrev spec_l1Sec : Nat := 84
abbrev impl_copyInts : Nat := 85
abbrev impl_DoCmd : Nat := 86
abbrev spec_SameAns : Nat := 87
abbrev slices_Equal_int_int : Nat := 88
abbrev spec_ArrNew : Nat := 89
abbrev laws_eqArr : Nat := 91
abbrev laws_eqJobS : Nat := 92
abbrev laws_markJobS : Nat := 94
abbrev laws_heldArr : Nat := 95
abbrev laws_heldJobS : Nat := 96
abbrev laws_heldTurnS : Nat := 97
abbrev impl_copyEng : Nat := 98
abbrev impl_EngOk : Nat := 99
abbrev impl_blockCode : Nat := 101
abbrev impl_dataNow : Nat := 102
abbrev impl_StripeOf : Nat := 103
abbrev impl_IndexOf : Nat := 104
abbrev laws_szCmd : Nat := 105
abbrev laws_szAns : Nat := 106
abbrev laws_toCmd : Nat := 107
abbrev laws_toAns : Nat := 108
abbrev spec_DoCmd : Nat := 109
abbrev spec_l6Geo : Nat := 110
abbrev spec_l7Some : Nat := 111
abbrev spec_Blocks : Nat := 112
abbrev spec_l1Byte : Nat := 113
abbrev spec_GeoOk : Nat := 114
abbrev spec_l13Draw : Nat := 115
abbrev spec_l1Draw : Nat := 116
abbrev impl_CmdCode : Nat := 117
abbrev impl_Blocks : Nat := 118
abbrev impl_SpanOf : Nat := 119
abbrev spec_SameSec : Nat := 120
abbrev spec_MemNew : Nat := 121
abbrev spec_l6Secs : Nat := 122
abbrev spec_PutSuper : Nat := 123
abbrev spec_DataAt : Nat := 124
abbrev impl_GeoOk : Nat := 125
abbrev impl_MemNew : Nat := 127
abbrev impl_sectors : Nat := 128
abbrev impl_superOf : Nat := 129
abbrev impl_DataAt : Nat := 131
abbrev impl_FlushMem : Nat := 132
abbrev laws_eqGeo : Nat := 133
abbrev laws_eqMemS : Nat := 134
abbrev laws_eqEntS : Nat := 135
abbrev laws_eqJob : Nat := 136
abbrev laws_markMemS : Nat := 137
abbrev laws_markEntS : Nat := 138
abbrev laws_heldMemS : Nat := 139
abbrev laws_heldEntS : Nat := 140
abbrev impl_copyArr : Nat := 141
abbrev impl_jobOk : Nat := 142
abbrev impl_ArrOk : Nat := 143
abbrev impl_Apart : Nat := 144
abbrev impl_FirstReady : Nat := 145
abbrev impl_hasBlock : Nat := 148
abbrev impl_entOf : Nat := 149
abbrev impl_DataOf : Nat := 150
abbrev laws_szIntS : Nat := 151
abbrev spec_CmdCode : Nat := 152
abbrev spec_l14Do : Nat := 153
abbrev impl_sizeOk : Nat := 154
abbrev spec_SuperOk : Nat := 155
abbrev impl_SuperOk : Nat := 156
abbrev impl_copyMem : Nat := 157
abbrev impl_PutSuper : Nat := 158
abbrev impl_MemOk : Nat := 159
abbrev impl_hasSec : Nat := 160
abbrev impl_SecOk : Nat := 161
abbrev impl_WriteSec_1 : Nat := 163
abbrev laws_eqMem : Nat := 164
abbrev laws_eqEnt : Nat := 165
abbrev laws_markIntSS : Nat := 166
abbrev laws_markWrS : Nat := 167
abbrev laws_heldIntSS : Nat := 168
abbrev laws_heldWrS : Nat := 169
abbrev impl_copyMems : Nat := 170
abbrev impl_wordsOk : Nat := 171
abbrev impl_lostOk : Nat := 172
abbrev impl_dirtyOk : Nat := 173
abbrev impl_Clash : Nat := 174
abbrev impl_CanBegin : Nat := 175
abbrev impl_Eng_answer : Nat := 178
abbrev slices_IndexFunc_impl_Ent_impl_Ent : Nat := 179
abbrev impl_entOf_1 : Nat := 180
abbrev impl_Words : Nat := 181
abbrev impl_DiskOf : Nat := 182
abbrev spec_l13Size : Nat := 183
abbrev slices_IndexFunc_int_int : Nat := 184
abbrev laws_eqIntSS : Nat := 185
abbrev laws_eqWrS : Nat := 186
abbrev impl_isWord : Nat := 187
abbrev impl_hasStripe : Nat := 188
abbrev impl_dataOk : Nat := 189
abbrev impl_StepsOf : Nat := 190
abbrev impl_wordAt : Nat := 193
abbrev impl_MissingWord : Nat := 194
abbrev impl_ParityOf : Nat := 195
abbrev spec_l1Words : Nat := 196
abbrev laws_eqWr : Nat := 197
abbrev impl_stripesOf : Nat := 198
abbrev impl_ReadSec : Nat := 201
abbrev impl_LiveAt : Nat := 202
abbrev impl_XorOf : Nat := 203
abbrev spec_l1Word : Nat := 204
abbrev slices_Contains_int_int : Nat := 208
abbrev impl_goodOr : Nat := 212
abbrev slices_Index_int_int : Nat := 213
abbrev impl_Arr_sync : Nat := 219
abbrev impl_SlotOf : Nat := 222
abbrev impl_PutRec : Nat := 223
abbrev impl_ParityWord : Nat := 224
abbrev impl_Arr_op : Nat := 225
abbrev impl_RecOk : Nat := 226
end N
namespace TN
abbrev Int64 : Nat := 2
abbrev Int : Nat := 3
abbrev Bool : Nat := 4
abbrev Uint8 : Nat := 5
abbrev String : Nat := 9
abbrev Uintptr : Nat := 12
abbrev Int32 : Nat := 21
abbrev laws_TurnS : Nat := 22
abbrev impl_AnsS : Nat := 24
abbrev impl_TurnS : Nat := 26
abbrev impl_CmdS : Nat := 33
abbrev laws_Geo : Nat := 38
abbrev IntS : Nat := 39
abbrev impl_Geo : Nat := 41
abbrev Uint8S : Nat := 47
abbrev impl_Cmd : Nat := 54
abbrev impl_Ans : Nat := 61
abbrev impl_Turn : Nat := 63
abbrev impl_MemS : Nat := 72
abbrev impl_EntS : Nat := 73
abbrev impl_Arr : Nat := 75
abbrev impl_JobS : Nat := 76
abbrev impl_Eng : Nat := 78
abbrev laws_Cmd : Nat := 90
abbrev laws_Ans : Nat := 91
abbrev laws_Turn : Nat := 93
abbrev Uint : Nat := 109
abbrev spec_l1Cur : Nat := 129
abbrev IntSS : Nat := 136
abbrev impl_WrS : Nat := 137
abbrev impl_Mem : Nat := 139
abbrev impl_Super : Nat := 143
abbrev impl_Job : Nat := 155
abbrev impl_Ent : Nat := 166
abbrev impl_Wr : Nat := 174
abbrev impl_Rec : Nat := 218
abbrev Uint32 : Nat := 229
end TN
noncomputable def fnTab : Tr Func := (.node (.node (.node (.node (.node (.node (.node (.node .nil 3 Try.f3 .nil) 4 Try.f4 (.node .nil 5 Try.f5 .nil)) 6 Try.f6 (.node (.node .nil 7 Try.f7 .nil) 10 Try.f10 .nil)) 11 Try.f11 (.node (.node (.node .nil 12 Try.f12 .nil) 13 Try.f13 .nil) 14 Try.f14 (.node (.node .nil 15 Try.f15 .nil) 16 Try.f16 .nil))) 17 Try.f17 (.node (.node (.node (.node .nil 18 Try.f18 .nil) 19 Try.f19 .nil) 20 Try.f20 (.node (.node .nil 21 Try.f21 .nil) 22 Try.f22 .nil)) 23 Try.f23 (.node (.node (.node .nil 24 Try.f24 .nil) 25 Try.f25 .nil) 26 Try.f26 (.node (.node .nil 27 Try.f27 .nil) 28 Try.f28 .nil)))) 29 Try.f29 (.node (.node (.node (.node (.node .nil 30 Try.f30 .nil) 31 Try.f31 .nil) 32 Try.f32 (.node (.node .nil 33 Try.f33 .nil) 34 Try.f34 .nil)) 35 Try.f35 (.node (.node (.node .nil 36 Try.f36 .nil) 37 Try.f37 .nil) 38 Try.f38 (.node (.node .nil 39 Try.f39 .nil) 40 Try.f40 .nil))) 41 Try.f41 (.node (.node (.node (.node .nil 42 Try.f42 .nil) 43 Try.f43 .nil) 44 Try.f44 (.node (.node .nil 45 Try.f45 .nil) 46 Try.f46 .nil)) 47 Try.f47 (.node (.node (.node .nil 48 Try.f48 .nil) 49 Try.f49 .nil) 50 Try.f50 (.node (.node .nil 51 Try.f51 .nil) 52 Try.f52 .nil))))) 54 Try.f54 (.node (.node (.node (.node (.node (.node .nil 56 Try.f56 .nil) 57 Try.f57 .nil) 58 Try.f58 (.node (.node .nil 60 Try.f60 .nil) 61 Try.f61 .nil)) 62 Try.f62 (.node (.node (.node .nil 63 Try.f63 .nil) 64 Try.f64 .nil) 65 Try.f65 (.node (.node .nil 66 Try.f66 .nil) 67 Try.f67 .nil))) 68 Try.f68 (.node (.node (.node (.node .nil 69 Try.f69 .nil) 70 Try.f70 .nil) 71 Try.f71 (.node (.node .nil 72 Try.f72 .nil) 73 Try.f73 .nil)) 74 Try.f74 (.node (.node (.node .nil 75 Try.f75 .nil) 76 Try.f76 .nil) 77 Try.f77 (.node (.node .nil 78 Try.f78 .nil) 79 Try.f79 .nil)))) 80 Try.f80 (.node (.node (.node (.node (.node .nil 81 Try.f81 .nil) 82 Try.f82 .nil) 83 Try.f83 (.node (.node .nil 84 Try.f84 .nil) 85 Try.f85 .nil)) 86 Try.f86 (.node (.node (.node .nil 87 Try.f87 .nil) 88 Try.f88 .nil) 89 Try.f89 (.node (.node .nil 91 Try.f91 .nil) 92 Try.f92 .nil))) 94 Try.f94 (.node (.node (.node (.node .nil 95 Try.f95 .nil) 96 Try.f96 .nil) 97 Try.f97 (.node (.node .nil 98 Try.f98 .nil) 99 Try.f99 .nil)) 101 Try.f101 (.node (.node (.node .nil 102 Try.f102 .nil) 103 Try.f103 .nil) 104 Try.f104 (.node (.node .nil 105 Try.f105 .nil) 106 Try.f106 .nil)))))) 107 Try.f107 (.node (.node (.node (.node (.node (.node (.node .nil 108 Try.f108 .nil) 109 Try.f109 .nil) 110 Try.f110 (.node (.node .nil 111 Try.f111 .nil) 112 Try.f112 .nil)) 113 Try.f113 (.node (.node (.node .nil 114 Try.f114 .nil) 115 Try.f115 .nil) 116 Try.f116 (.node (.node .nil 117 Try.f117 .nil) 118 Try.f118 .nil))) 119 Try.f119 (.node (.node (.node (.node .nil 120 Try.f120 .nil) 121 Try.f121 .nil) 122 Try.f122 (.node (.node .nil 123 Try.f123 .nil) 124 Try.f124 .nil)) 125 Try.f125 (.node (.node (.node .nil 127 Try.f127 .nil) 128 Try.f128 .nil) 129 Try.f129 (.node (.node .nil 131 Try.f131 .nil) 132 Try.f132 .nil)))) 133 Try.f133 (.node (.node (.node (.node (.node .nil 134 Try.f134 .nil) 135 Try.f135 .nil) 136 Try.f136 (.node (.node .nil 137 Try.f137 .nil) 138 Try.f138 .nil)) 139 Try.f139 (.node (.node (.node .nil 140 Try.f140 .nil) 141 Try.f141 .nil) 142 Try.f142 (.node (.node .nil 143 Try.f143 .nil) 144 Try.f144 .nil))) 145 Try.f145 (.node (.node (.node (.node .nil 148 Try.f148 .nil) 149 Try.f149 .nil) 150 Try.f150 (.node (.node .nil 151 Try.f151 .nil) 152 Try.f152 .nil)) 153 Try.f153 (.node (.node (.node .nil 154 Try.f154 .nil) 155 Try.f155 .nil) 156 Try.f156 (.node (.node .nil 157 Try.f157 .nil) 158 Try.f158 .nil))))) 159 Try.f159 (.node (.node (.node (.node (.node (.node .nil 160 Try.f160 .nil) 161 Try.f161 .nil) 163 Try.f163 (.node (.node .nil 164 Try.f164 .nil) 165 Try.f165 .nil)) 166 Try.f166 (.node (.node (.node .nil 167 Try.f167 .nil) 168 Try.f168 .nil) 169 Try.f169 (.node (.node .nil 170 Try.f170 .nil) 171 Try.f171 .nil))) 172 Try.f172 (.node (.node (.node (.node .nil 173 Try.f173 .nil) 174 Try.f174 .nil) 175 Try.f175 (.node (.node .nil 178 Try.f178 .nil) 179 Try.f179 .nil)) 180 Try.f180 (.node (.node (.node .nil 181 Try.f181 .nil) 182 Try.f182 .nil) 183 Try.f183 (.node (.node .nil 184 Try.f184 .nil) 185 Try.f185 .nil)))) 186 Try.f186 (.node (.node (.node (.node (.node .nil 187 Try.f187 .nil) 188 Try.f188 .nil) 189 Try.f189 (.node (.node .nil 190 Try.f190 .nil) 193 Try.f193 .nil)) 194 Try.f194 (.node (.node (.node .nil 195 Try.f195 .nil) 196 Try.f196 .nil) 197 Try.f197 (.node (.node .nil 198 Try.f198 .nil) 201 Try.f201 .nil))) 202 Try.f202 (.node (.node (.node (.node .nil 203 Try.f203 .nil) 204 Try.f204 .nil) 208 Try.f208 (.node (.node .nil 212 Try.f212 .nil) 213 Try.f213 .nil)) 219 Try.f219 (.node (.node (.node .nil 222 Try.f222 .nil) 223 Try.f223 .nil) 224 Try.f224 (.node (.node .nil 225 Try.f225 .nil) 226 Try.f226 .nil)))))))
def sigTab : Tr Sig := (.node (.node (.node (.node (.node (.node .nil 11 ⟨[], [true], [], false⟩ .nil) 12 ⟨[], [true, true, true], [], true⟩ (.node .nil 13 ⟨[], [true, true, true], [], true⟩ .nil)) 16 ⟨[[true, true], [false]], [], [], true⟩ (.node (.node .nil 17 ⟨[[true, true], [false]], [], [], true⟩ .nil) 19 ⟨[], [true], [], false⟩ (.node .nil 20 ⟨[], [true, true, true], [], true⟩ .nil))) 22 ⟨[[true, true], [false]], [], [], true⟩ (.node (.node (.node .nil 24 ⟨[], [true], [], false⟩ .nil) 26 ⟨[], [true], [], false⟩ (.node .nil 27 ⟨[], [true], [], false⟩ .nil)) 29 ⟨[[false, true], [false]], [], [], false⟩ (.node (.node .nil 32 ⟨[], [true, false], [], false⟩ .nil) 34 ⟨[], [false, true, false, false], [], false⟩ (.node .nil 35 ⟨[], [false, false, false, false, true, false], [], false⟩ .nil)))) 43 ⟨[], [false, false, true, true], [], false⟩ (.node (.node (.node (.node .nil 45 ⟨[], [false, false, true, false, false, true], [], false⟩ .nil) 46 ⟨[], [true, true], [], false⟩ (.node .nil 52 ⟨[], [false, false, false, true, false, false, false, false, false, true, false, false, false, true, true, true, true], [], false⟩ .nil)) 58 ⟨[], [false, false, false, true, false, false, false, false, false, true, false, false, false, true, true, true, true, false], [], false⟩ (.node (.node .nil 62 ⟨[], [false, false, true], [], false⟩ .nil) 63 ⟨[], [false, false, false, false, true, false, false, true], [], false⟩ (.node .nil 64 ⟨[], [false, false, true], [], false⟩ .nil))) 67 ⟨[], [false, false, false, false, true], [], false⟩ (.node (.node (.node .nil 68 ⟨[], [false, false, false, false, true], [], false⟩ .nil) 70 ⟨[], [true, true], [], false⟩ (.node .nil 71 ⟨[], [true], [], false⟩ .nil)) 72 ⟨[], [false, false, true, true, false, false, false, true], [], true⟩ (.node (.node .nil 76 ⟨[], [false, false, false, false, true], [], false⟩ .nil) 84 ⟨[], [true], [], false⟩ (.node .nil 85 ⟨[], [true], [], false⟩ .nil))))) 86 ⟨[], [true, false, false, true], [], false⟩ (.node (.node (.node (.node (.node .nil 89 ⟨[], [false, false, false, true, false, false, false, false, false, true, false, false, false], [], false⟩ .nil) 94 ⟨[[true, true], [false]], [], [], true⟩ (.node .nil 98 ⟨[], [false, false, false, true, false, false, false, false, false, true, false, false, false, true, true, true, true], [], false⟩ .nil)) 102 ⟨[], [true, false], [], false⟩ (.node (.node .nil 107 ⟨[], [false, false, false, false, true], [], false⟩ .nil) 108 ⟨[], [false, false, true], [], false⟩ (.node .nil 109 ⟨[], [true, false, false, true], [], false⟩ .nil))) 111 ⟨[], [true], [], false⟩ (.node (.node (.node .nil 115 ⟨[], [false, false, false, false, true], [], false⟩ .nil) 121 ⟨[], [true, true, false, true], [], false⟩ (.node .nil 123 ⟨[], [true], [], false⟩ .nil)) 127 ⟨[], [true, true, false, true], [], false⟩ (.node (.node .nil 132 ⟨[], [true, true, false, true], [], false⟩ .nil) 137 ⟨[[true, true], [false]], [], [], true⟩ (.node .nil 138 ⟨[[true, true], [false]], [], [], true⟩ .nil)))) 141 ⟨[], [false, false, false, true, false, false, false, false, false, true, false, false, false], [], false⟩ (.node (.node (.node (.node .nil 150 ⟨[], [true, false], [], false⟩ .nil) 153 ⟨[[false, true], [false, false, false, false, false]], [false, false, true], [], false⟩ (.node .nil 157 ⟨[], [true, true, false, true], [], false⟩ .nil)) 158 ⟨[], [true], [], false⟩ (.node (.node .nil 163 ⟨[], [], [3], false⟩ .nil) 166 ⟨[[true, true], [false]], [], [], true⟩ (.node .nil 167 ⟨[[true, true], [false]], [], [], true⟩ .nil))) 170 ⟨[], [true], [], false⟩ (.node (.node (.node .nil 178 ⟨[[false, false, false, true, false, false, false, false, false, true, false, false, false, true, true, true, true], [false, false, false, false, false], [false, false, false]], [], [], false⟩ .nil) 180 ⟨[], [], [3], false⟩ (.node .nil 181 ⟨[], [true, false], [], false⟩ .nil)) 201 ⟨[], [true, false], [], false⟩ (.node (.node .nil 219 ⟨[[false, false, false, true, false, false, false, false, false, true, false, false, false]], [], [], false⟩ .nil) 223 ⟨[], [true], [], false⟩ (.node .nil 225 ⟨[[false, false, false, true, false, false, false, false, false, true, false, false, false]], [], [], false⟩ .nil))))))
noncomputable def E : Env := ⟨tys, fnTab.get, sigOf sigTab⟩
def P0 : FuncId → Option (List Arg → Option Outs) := fun _ => none
theorem tabOk_ : tabOk Try.prog E = true := by kernel_rfl
theorem orders_ : Try.prog.follows .mixedOrders = true := by kernel_rfl
theorem allF_ : AllF Try.prog fnTab := ⟨⟨Try.func107, by kernel_rfl, by kernel_rfl⟩, ⟨⟨Try.func54, by kernel_rfl, by kernel_rfl⟩, ⟨⟨Try.func29, by kernel_rfl, by kernel_rfl⟩, ⟨⟨Try.func17, by kernel_rfl, by kernel_rfl⟩, ⟨⟨Try.func11, by kernel_rfl, by kernel_rfl⟩, ⟨⟨Try.func6, by kernel_rfl, by kernel_rfl⟩, ⟨⟨Try.func4, by kernel_rfl, by kernel_rfl⟩, ⟨⟨Try.func3, by kernel_rfl, by kernel_rfl⟩, trivial, trivial⟩, ⟨⟨Try.func5, by kernel_rfl, by kernel_rfl⟩, trivial, trivial⟩⟩, ⟨⟨Try.func10, by kernel_rfl, by kernel_rfl⟩, ⟨⟨Try.func7, by kernel_rfl, by kernel_rfl⟩, trivial, trivial⟩, trivial⟩⟩, ⟨⟨Try.func14, by kernel_rfl, by kernel_rfl⟩, ⟨⟨Try.func13, by kernel_rfl, by kernel_rfl⟩, ⟨⟨Try.func12, by kernel_rfl, by kernel_rfl⟩, trivial, trivial⟩, trivial⟩, ⟨⟨Try.func16, by kernel_rfl, by kernel_rfl⟩, ⟨⟨Try.func15, by kernel_rfl, by kernel_rfl⟩, trivial, trivial⟩, trivial⟩⟩⟩, ⟨⟨Try.func23, by kernel_rfl, by kernel_rfl⟩, ⟨⟨Try.func20, by kernel_rfl, by kernel_rfl⟩, ⟨⟨Try.func19, by kernel_rfl, by kernel_rfl⟩, ⟨⟨Try.func18, by kernel_rfl, by kernel_rfl⟩, trivial, trivial⟩, trivial⟩, ⟨⟨Try.func22, by kernel_rfl, by kernel_rfl⟩, ⟨⟨Try.func21, by kernel_rfl, by kernel_rfl⟩, trivial, trivial⟩, trivial⟩⟩, ⟨⟨Try.func26, by kernel_rfl, by kernel_rfl⟩, ⟨⟨Try.func25, by kernel_rfl, by kernel_rfl⟩, ⟨⟨Try.func24, by kernel_rfl, by kernel_rfl⟩, trivial, trivial⟩, trivial⟩, ⟨⟨Try.func28, by kernel_rfl, by kernel_rfl⟩, ⟨⟨Try.func27, by kernel_rfl, by kernel_rfl⟩, trivial, trivial⟩, trivial⟩⟩⟩⟩, ⟨⟨Try.func41, by kernel_rfl, by kernel_rfl⟩, ⟨⟨Try.func35, by kernel_rfl, by kernel_rfl⟩, ⟨⟨Try.func32, by kernel_rfl, by kernel_rfl⟩, ⟨⟨Try.func31, by kernel_rfl, by kernel_rfl⟩, ⟨⟨Try.func30, by kernel_rfl, by kernel_rfl⟩, trivial, trivial⟩, trivial⟩, ⟨⟨Try.func34, by kernel_rfl, by kernel_rfl⟩, ⟨⟨Try.func33, by kernel_rfl, by kernel_rfl⟩, trivial, trivial⟩, trivial⟩⟩, ⟨⟨Try.func38, by kernel_rfl, by kernel_rfl⟩, ⟨⟨Try.func37, by kernel_rfl, by kernel_rfl⟩, ⟨⟨Try.func36, by kernel_rfl, by kernel_rfl⟩, trivial, trivial⟩, trivial⟩, ⟨⟨Try.func40, by kernel_rfl, by kernel_rfl⟩, ⟨⟨Try.func39, by kernel_rfl, by kernel_rfl⟩, trivial, trivial⟩, trivial⟩⟩⟩, ⟨⟨Try.func47, by kernel_rfl, by kernel_rfl⟩, ⟨⟨Try.func44, by kernel_rfl, by kernel_rfl⟩, ⟨⟨Try.func43, by kernel_rfl, by kernel_rfl⟩, ⟨⟨Try.func42, by kernel_rfl, by kernel_rfl⟩, trivial, trivial⟩, trivial⟩, ⟨⟨Try.func46, by kernel_rfl, by kernel_rfl⟩, ⟨⟨Try.func45, by kernel_rfl, by kernel_rfl⟩, trivial, trivial⟩, trivial⟩⟩, ⟨⟨Try.func50, by kernel_rfl, by kernel_rfl⟩, ⟨⟨Try.func49, by kernel_rfl, by kernel_rfl⟩, ⟨⟨Try.func48, by kernel_rfl, by kernel_rfl⟩, trivial, trivial⟩, trivial⟩, ⟨⟨Try.func52, by kernel_rfl, by kernel_rfl⟩, ⟨⟨Try.func51, by kernel_rfl, by kernel_rfl⟩, trivial, trivial⟩, trivial⟩⟩⟩⟩⟩, ⟨⟨Try.func80, by kernel_rfl, by kernel_rfl⟩, ⟨⟨Try.func68, by kernel_rfl, by kernel_rfl⟩, ⟨⟨Try.func62, by kernel_rfl, by kernel_rfl⟩, ⟨⟨Try.func58, by kernel_rfl, by kernel_rfl⟩, ⟨⟨Try.func57, by kernel_rfl, by kernel_rfl⟩, ⟨⟨Try.func56, by kernel_rfl, by kernel_rfl⟩, trivial, trivial⟩, trivial⟩, ⟨⟨Try.func61, by kernel_rfl, by kernel_rfl⟩, ⟨⟨Try.func60, by kernel_rfl, by kernel_rfl⟩, trivial, trivial⟩, trivial⟩⟩, ⟨⟨Try.func65, by kernel_rfl, by kernel_rfl⟩, ⟨⟨Try.func64, by kernel_rfl, by kernel_rfl⟩, ⟨⟨Try.func63, by kernel_rfl, by kernel_rfl⟩, trivial, trivial⟩, trivial⟩, ⟨⟨Try.func67, by kernel_rfl, by kernel_rfl⟩, ⟨⟨Try.func66, by kernel_rfl, by kernel_rfl⟩, trivial, trivial⟩, trivial⟩⟩⟩, ⟨⟨Try.func74, by kernel_rfl, by kernel_rfl⟩, ⟨⟨Try.func71, by kernel_rfl, by kernel_rfl⟩, ⟨⟨Try.func70, by kernel_rfl, by kernel_rfl⟩, ⟨⟨Try.func69, by kernel_rfl, by kernel_rfl⟩, trivial, trivial⟩, trivial⟩, ⟨⟨Try.func73, by kernel_rfl, by kernel_rfl⟩, ⟨⟨Try.func72, by kernel_rfl, by kernel_rfl⟩, trivial, trivial⟩, trivial⟩⟩, ⟨⟨Try.func77, by kernel_rfl, by kernel_rfl⟩, ⟨⟨Try.func76, by kernel_rfl, by kernel_rfl⟩, ⟨⟨Try.func75, by kernel_rfl, by kernel_rfl⟩, trivial, trivial⟩, trivial⟩, ⟨⟨Try.func79, by kernel_rfl, by kernel_rfl⟩, ⟨⟨Try.func78, by kernel_rfl, by kernel_rfl⟩, trivial, trivial⟩, trivial⟩⟩⟩⟩, ⟨⟨Try.func94, by kernel_rfl, by kernel_rfl⟩, ⟨⟨Try.func86, by kernel_rfl, by kernel_rfl⟩, ⟨⟨Try.func83, by kernel_rfl, by kernel_rfl⟩, ⟨⟨Try.func82, by kernel_rfl, by kernel_rfl⟩, ⟨⟨Try.func81, by kernel_rfl, by kernel_rfl⟩, trivial, trivial⟩, trivial⟩, ⟨⟨Try.func85, by kernel_rfl, by kernel_rfl⟩, ⟨⟨Try.func84, by kernel_rfl, by kernel_rfl⟩, trivial, trivial⟩, trivial⟩⟩, ⟨⟨Try.func89, by kernel_rfl, by kernel_rfl⟩, ⟨⟨Try.func88, by kernel_rfl, by kernel_rfl⟩, ⟨⟨Try.func87, by kernel_rfl, by kernel_rfl⟩, trivial, trivial⟩, trivial⟩, ⟨⟨Try.func92, by kernel_rfl, by kernel_rfl⟩, ⟨⟨Try.func91, by kernel_rfl, by kernel_rfl⟩, trivial, trivial⟩, trivial⟩⟩⟩, ⟨⟨Try.func101, by kernel_rfl, by kernel_rfl⟩, ⟨⟨Try.func97, by kernel_rfl, by kernel_rfl⟩, ⟨⟨Try.func96, by kernel_rfl, by kernel_rfl⟩, ⟨⟨Try.func95, by kernel_rfl, by kernel_rfl⟩, trivial, trivial⟩, trivial⟩, ⟨⟨Try.func99, by kernel_rfl, by kernel_rfl⟩, ⟨⟨Try.func98, by kernel_rfl, by kernel_rfl⟩, trivial, trivial⟩, trivial⟩⟩, ⟨⟨Try.func104, by kernel_rfl, by kernel_rfl⟩, ⟨⟨Try.func103, by kernel_rfl, by kernel_rfl⟩, ⟨⟨Try.func102, by kernel_rfl, by kernel_rfl⟩, trivial, trivial⟩, trivial⟩, ⟨⟨Try.func106, by kernel_rfl, by kernel_rfl⟩, ⟨⟨Try.func105, by kernel_rfl, by kernel_rfl⟩, trivial, trivial⟩, trivial⟩⟩⟩⟩⟩⟩, ⟨⟨Try.func159, by kernel_rfl, by kernel_rfl⟩, ⟨⟨Try.func133, by kernel_rfl, by kernel_rfl⟩, ⟨⟨Try.func119, by kernel_rfl, by kernel_rfl⟩, ⟨⟨Try.func113, by kernel_rfl, by kernel_rfl⟩, ⟨⟨Try.func110, by kernel_rfl, by kernel_rfl⟩, ⟨⟨Try.func109, by kernel_rfl, by kernel_rfl⟩, ⟨⟨Try.func108, by kernel_rfl, by kernel_rfl⟩, trivial, trivial⟩, trivial⟩, ⟨⟨Try.func112, by kernel_rfl, by kernel_rfl⟩, ⟨⟨Try.func111, by kernel_rfl, by kernel_rfl⟩, trivial, trivial⟩, trivial⟩⟩, ⟨⟨Try.func116, by kernel_rfl, by kernel_rfl⟩, ⟨⟨Try.func115, by kernel_rfl, by kernel_rfl⟩, ⟨⟨Try.func114, by kernel_rfl, by kernel_rfl⟩, trivial, trivial⟩, trivial⟩, ⟨⟨Try.func118, by kernel_rfl, by kernel_rfl⟩, ⟨⟨Try.func117, by kernel_rfl, by kernel_rfl⟩, trivial, trivial⟩, trivial⟩⟩⟩, ⟨⟨Try.func125, by kernel_rfl, by kernel_rfl⟩, ⟨⟨Try.func122, by kernel_rfl, by kernel_rfl⟩, ⟨⟨Try.func121, by kernel_rfl, by kernel_rfl⟩, ⟨⟨Try.func120, by kernel_rfl, by kernel_rfl⟩, trivial, trivial⟩, trivial⟩, ⟨⟨Try.func124, by kernel_rfl, by kernel_rfl⟩, ⟨⟨Try.func123, by kernel_rfl, by kernel_rfl⟩, trivial, trivial⟩, trivial⟩⟩, ⟨⟨Try.func129, by kernel_rfl, by kernel_rfl⟩, ⟨⟨Try.func128, by kernel_rfl, by kernel_rfl⟩, ⟨⟨Try.func127, by kernel_rfl, by kernel_rfl⟩, trivial, trivial⟩, trivial⟩, ⟨⟨Try.func132, by kernel_rfl, by kernel_rfl⟩, ⟨⟨Try.func131, by kernel_rfl, by kernel_rfl⟩, trivial, trivial⟩, trivial⟩⟩⟩⟩, ⟨⟨Try.func145, by kernel_rfl, by kernel_rfl⟩, ⟨⟨Try.func139, by kernel_rfl, by kernel_rfl⟩, ⟨⟨Try.func136, by kernel_rfl, by kernel_rfl⟩, ⟨⟨Try.func135, by kernel_rfl, by kernel_rfl⟩, ⟨⟨Try.func134, by kernel_rfl, by kernel_rfl⟩, trivial, trivial⟩, trivial⟩, ⟨⟨Try.func138, by kernel_rfl, by kernel_rfl⟩, ⟨⟨Try.func137, by kernel_rfl, by kernel_rfl⟩, trivial, trivial⟩, trivial⟩⟩, ⟨⟨Try.func142, by kernel_rfl, by kernel_rfl⟩, ⟨⟨Try.func141, by kernel_rfl, by kernel_rfl⟩, ⟨⟨Try.func140, by kernel_rfl, by kernel_rfl⟩, trivial, trivial⟩, trivial⟩, ⟨⟨Try.func144, by kernel_rfl, by kernel_rfl⟩, ⟨⟨Try.func143, by kernel_rfl, by kernel_rfl⟩, trivial, trivial⟩, trivial⟩⟩⟩, ⟨⟨Try.func153, by kernel_rfl, by kernel_rfl⟩, ⟨⟨Try.func150, by kernel_rfl, by kernel_rfl⟩, ⟨⟨Try.func149, by kernel_rfl, by kernel_rfl⟩, ⟨⟨Try.func148, by kernel_rfl, by kernel_rfl⟩, trivial, trivial⟩, trivial⟩, ⟨⟨Try.func152, by kernel_rfl, by kernel_rfl⟩, ⟨⟨Try.func151, by kernel_rfl, by kernel_rfl⟩, trivial, trivial⟩, trivial⟩⟩, ⟨⟨Try.func156, by kernel_rfl, by kernel_rfl⟩, ⟨⟨Try.func155, by kernel_rfl, by kernel_rfl⟩, ⟨⟨Try.func154, by kernel_rfl, by kernel_rfl⟩, trivial, trivial⟩, trivial⟩, ⟨⟨Try.func158, by kernel_rfl, by kernel_rfl⟩, ⟨⟨Try.func157, by kernel_rfl, by kernel_rfl⟩, trivial, trivial⟩, trivial⟩⟩⟩⟩⟩, ⟨⟨Try.func186, by kernel_rfl, by kernel_rfl⟩, ⟨⟨Try.func172, by kernel_rfl, by kernel_rfl⟩, ⟨⟨Try.func166, by kernel_rfl, by kernel_rfl⟩, ⟨⟨Try.func163, by kernel_rfl, by kernel_rfl⟩, ⟨⟨Try.func161, by kernel_rfl, by kernel_rfl⟩, ⟨⟨Try.func160, by kernel_rfl, by kernel_rfl⟩, trivial, trivial⟩, trivial⟩, ⟨⟨Try.func165, by kernel_rfl, by kernel_rfl⟩, ⟨⟨Try.func164, by kernel_rfl, by kernel_rfl⟩, trivial, trivial⟩, trivial⟩⟩, ⟨⟨Try.func169, by kernel_rfl, by kernel_rfl⟩, ⟨⟨Try.func168, by kernel_rfl, by kernel_rfl⟩, ⟨⟨Try.func167, by kernel_rfl, by kernel_rfl⟩, trivial, trivial⟩, trivial⟩, ⟨⟨Try.func171, by kernel_rfl, by kernel_rfl⟩, ⟨⟨Try.func170, by kernel_rfl, by kernel_rfl⟩, trivial, trivial⟩, trivial⟩⟩⟩, ⟨⟨Try.func180, by kernel_rfl, by kernel_rfl⟩, ⟨⟨Try.func175, by kernel_rfl, by kernel_rfl⟩, ⟨⟨Try.func174, by kernel_rfl, by kernel_rfl⟩, ⟨⟨Try.func173, by kernel_rfl, by kernel_rfl⟩, trivial, trivial⟩, trivial⟩, ⟨⟨Try.func179, by kernel_rfl, by kernel_rfl⟩, ⟨⟨Try.func178, by kernel_rfl, by kernel_rfl⟩, trivial, trivial⟩, trivial⟩⟩, ⟨⟨Try.func183, by kernel_rfl, by kernel_rfl⟩, ⟨⟨Try.func182, by kernel_rfl, by kernel_rfl⟩, ⟨⟨Try.func181, by kernel_rfl, by kernel_rfl⟩, trivial, trivial⟩, trivial⟩, ⟨⟨Try.func185, by kernel_rfl, by kernel_rfl⟩, ⟨⟨Try.func184, by kernel_rfl, by kernel_rfl⟩, trivial, trivial⟩, trivial⟩⟩⟩⟩, ⟨⟨Try.func202, by kernel_rfl, by kernel_rfl⟩, ⟨⟨Try.func194, by kernel_rfl, by kernel_rfl⟩, ⟨⟨Try.func189, by kernel_rfl, by kernel_rfl⟩, ⟨⟨Try.func188, by kernel_rfl, by kernel_rfl⟩, ⟨⟨Try.func187, by kernel_rfl, by kernel_rfl⟩, trivial, trivial⟩, trivial⟩, ⟨⟨Try.func193, by kernel_rfl, by kernel_rfl⟩, ⟨⟨Try.func190, by kernel_rfl, by kernel_rfl⟩, trivial, trivial⟩, trivial⟩⟩, ⟨⟨Try.func197, by kernel_rfl, by kernel_rfl⟩, ⟨⟨Try.func196, by kernel_rfl, by kernel_rfl⟩, ⟨⟨Try.func195, by kernel_rfl, by kernel_rfl⟩, trivial, trivial⟩, trivial⟩, ⟨⟨Try.func201, by kernel_rfl, by kernel_rfl⟩, ⟨⟨Try.func198, by kernel_rfl, by kernel_rfl⟩, trivial, trivial⟩, trivial⟩⟩⟩, ⟨⟨Try.func219, by kernel_rfl, by kernel_rfl⟩, ⟨⟨Try.func208, by kernel_rfl, by kernel_rfl⟩, ⟨⟨Try.func204, by kernel_rfl, by kernel_rfl⟩, ⟨⟨Try.func203, by kernel_rfl, by kernel_rfl⟩, trivial, trivial⟩, trivial⟩, ⟨⟨Try.func213, by kernel_rfl, by kernel_rfl⟩, ⟨⟨Try.func212, by kernel_rfl, by kernel_rfl⟩, trivial, trivial⟩, trivial⟩⟩, ⟨⟨Try.func224, by kernel_rfl, by kernel_rfl⟩, ⟨⟨Try.func223, by kernel_rfl, by kernel_rfl⟩, ⟨⟨Try.func222, by kernel_rfl, by kernel_rfl⟩, trivial, trivial⟩, trivial⟩, ⟨⟨Try.func226, by kernel_rfl, by kernel_rfl⟩, ⟨⟨Try.func225, by kernel_rfl, by kernel_rfl⟩, trivial, trivial⟩, trivial⟩⟩⟩⟩⟩⟩⟩
theorem tabF_ : TabF Try.prog E := fun f fn h => tabF_of allF_ f fn h
theorem sound_ (k : Nat) : FnOk Try.prog E (evalF E P0 k) := eval_sound tabOk_ tabF_ orders_ noPrim k
end Go.Proofs.Ytahlghlpdcfbgaa.Ev
