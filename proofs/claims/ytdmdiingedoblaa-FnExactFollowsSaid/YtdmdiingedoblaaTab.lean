/- The seat's types and functions, as the evaluator takes them. No condition. -/
import Derived.Test.YtdmdiingedoblaaEvYb
import Derived.Test.YtdmdiingedoblaaProg
namespace Go.Proofs.Ytdmdiingedoblaa.Ev
open Go Go.Proofs
set_option linter.unusedVariables false
set_option maxRecDepth 100000
def tys : List TI := [⟨.other, [], 0⟩,
  ⟨.other, [], 0⟩,
  ⟨.int .i64, [.int .i64], 8⟩,
  ⟨.int .i64, [.int .i64], 8⟩,
  ⟨.bool, [.bool], 1⟩,
  ⟨.int .u8, [.int .u8], 1⟩,
  ⟨.int .u8, [.int .u8], 1⟩,
  ⟨.struct [(0, 2), (1, 3), (2, 4), (3, 6)], [.int .i64, .int .i64, .bool, .int .u8], 24⟩,
  ⟨.struct [(0, 2), (1, 3), (2, 4), (3, 6)], [.int .i64, .int .i64, .bool, .int .u8], 24⟩,
  ⟨.str, [.str], 16⟩,
  ⟨.str, [.str], 16⟩,
  ⟨.str, [.str], 16⟩,
  ⟨.int .u64, [.int .u64], 8⟩,
  ⟨.struct [(0, 9), (1, 12)], [.str, .int .u64], 24⟩,
  ⟨.struct [(0, 9), (1, 12)], [.str, .int .u64], 24⟩,
  ⟨.ptr 176, [.ptr], 8⟩,
  ⟨.ptr 179, [.ptr], 8⟩,
  ⟨.ptr 189, [.ptr], 8⟩,
  ⟨.struct [(0, 17)], [.ptr], 8⟩,
  ⟨.struct [(0, 17)], [.ptr], 8⟩,
  ⟨.other, [], 0⟩,
  ⟨.int .i32, [.int .i32], 4⟩,
  ⟨.struct [(0, 3), (1, 3)], [.int .i64, .int .i64], 16⟩,
  ⟨.struct [(0, 3), (1, 3)], [.int .i64, .int .i64], 16⟩,
  ⟨.slice 3, [.row 3], 24⟩,
  ⟨.struct [(0, 3), (1, 3), (2, 3), (3, 3), (4, 24)], [.int .i64, .int .i64, .int .i64, .int .i64, .row 3], 56⟩,
  ⟨.struct [(0, 3), (1, 3), (2, 3), (3, 3), (4, 24)], [.int .i64, .int .i64, .int .i64, .int .i64, .row 3], 56⟩,
  ⟨.other, [], 0⟩,
  ⟨.other, [], 0⟩,
  ⟨.struct [(0, 3), (1, 3)], [.int .i64, .int .i64], 16⟩,
  ⟨.other, [], 0⟩,
  ⟨.struct [(0, 3), (1, 3), (2, 3), (3, 3), (4, 24)], [.int .i64, .int .i64, .int .i64, .int .i64, .row 3], 56⟩,
  ⟨.other, [], 0⟩,
  ⟨.other, [], 0⟩,
  ⟨.other, [], 0⟩,
  ⟨.slice 82, [.row 82], 24⟩,
  ⟨.other, [], 0⟩,
  ⟨.other, [], 0⟩,
  ⟨.slice 86, [.row 86], 24⟩,
  ⟨.other, [], 0⟩,
  ⟨.other, [], 0⟩,
  ⟨.other, [], 0⟩,
  ⟨.other, [], 0⟩,
  ⟨.other, [], 0⟩,
  ⟨.other, [], 0⟩,
  ⟨.other, [], 0⟩,
  ⟨.slice 150, [.row 150], 24⟩,
  ⟨.slice 153, [.row 153], 24⟩,
  ⟨.struct [(0, 3), (1, 23), (3, 46), (4, 3), (5, 3), (6, 3), (7, 3), (8, 3), (9, 47), (10, 3), (11, 4), (12, 4)], [.int .i64, .int .i64, .int .i64, .row 150, .int .i64, .int .i64, .int .i64, .int .i64, .int .i64, .row 153, .int .i64, .bool, .bool], 128⟩,
  ⟨.struct [(0, 3), (1, 23), (3, 46), (4, 3), (5, 3), (6, 3), (7, 3), (8, 3), (9, 47), (10, 3), (11, 4), (12, 4)], [.int .i64, .int .i64, .int .i64, .row 150, .int .i64, .int .i64, .int .i64, .int .i64, .int .i64, .row 153, .int .i64, .bool, .bool], 128⟩,
  ⟨.slice 26, [.row 26], 24⟩,
  ⟨.slice 130, [.row 130], 24⟩,
  ⟨.slice 80, [.row 80], 24⟩,
  ⟨.struct [(0, 49), (13, 50), (14, 51), (15, 52), (16, 35)], [.int .i64, .int .i64, .int .i64, .row 150, .int .i64, .int .i64, .int .i64, .int .i64, .int .i64, .row 153, .int .i64, .bool, .bool, .row 26, .row 130, .row 80, .row 82], 224⟩,
  ⟨.struct [(0, 49), (13, 50), (14, 51), (15, 52), (16, 35)], [.int .i64, .int .i64, .int .i64, .row 150, .int .i64, .int .i64, .int .i64, .int .i64, .int .i64, .row 153, .int .i64, .bool, .bool, .row 26, .row 130, .row 80, .row 82], 224⟩,
  ⟨.other, [], 0⟩,
  ⟨.other, [], 0⟩,
  ⟨.slice 143, [.row 143], 24⟩,
  ⟨.slice 155, [.row 155], 24⟩,
  ⟨.struct [(0, 3), (1, 29), (3, 57), (4, 3), (5, 3), (6, 3), (7, 3), (8, 3), (9, 58), (10, 3), (11, 4), (12, 4)], [.int .i64, .int .i64, .int .i64, .row 143, .int .i64, .int .i64, .int .i64, .int .i64, .int .i64, .row 155, .int .i64, .bool, .bool], 128⟩,
  ⟨.struct [(0, 3), (1, 29), (3, 57), (4, 3), (5, 3), (6, 3), (7, 3), (8, 3), (9, 58), (10, 3), (11, 4), (12, 4)], [.int .i64, .int .i64, .int .i64, .row 143, .int .i64, .int .i64, .int .i64, .int .i64, .int .i64, .row 155, .int .i64, .bool, .bool], 128⟩,
  ⟨.slice 31, [.row 31], 24⟩,
  ⟨.slice 104, [.row 104], 24⟩,
  ⟨.slice 84, [.row 84], 24⟩,
  ⟨.struct [(0, 60), (13, 61), (14, 62), (15, 63), (16, 38)], [.int .i64, .int .i64, .int .i64, .row 143, .int .i64, .int .i64, .int .i64, .int .i64, .int .i64, .row 155, .int .i64, .bool, .bool, .row 31, .row 104, .row 84, .row 86], 224⟩,
  ⟨.struct [(0, 60), (13, 61), (14, 62), (15, 63), (16, 38)], [.int .i64, .int .i64, .int .i64, .row 143, .int .i64, .int .i64, .int .i64, .int .i64, .int .i64, .row 155, .int .i64, .bool, .bool, .row 31, .row 104, .row 84, .row 86], 224⟩,
  ⟨.other, [], 0⟩,
  ⟨.other, [], 0⟩,
  ⟨.other, [], 0⟩,
  ⟨.other, [], 0⟩,
  ⟨.other, [], 0⟩,
  ⟨.other, [], 0⟩,
  ⟨.other, [], 0⟩,
  ⟨.other, [], 0⟩,
  ⟨.other, [], 0⟩,
  ⟨.other, [], 0⟩,
  ⟨.other, [], 0⟩,
  ⟨.other, [], 0⟩,
  ⟨.other, [], 0⟩,
  ⟨.struct [(0, 3), (1, 3), (2, 24)], [.int .i64, .int .i64, .row 3], 40⟩,
  ⟨.struct [(0, 3), (1, 3), (2, 24)], [.int .i64, .int .i64, .row 3], 40⟩,
  ⟨.struct [(0, 26), (5, 80)], [.int .i64, .int .i64, .int .i64, .int .i64, .row 3, .int .i64, .int .i64, .row 3], 96⟩,
  ⟨.struct [(0, 26), (5, 80)], [.int .i64, .int .i64, .int .i64, .int .i64, .row 3, .int .i64, .int .i64, .row 3], 96⟩,
  ⟨.other, [], 0⟩,
  ⟨.struct [(0, 3), (1, 3), (2, 24)], [.int .i64, .int .i64, .row 3], 40⟩,
  ⟨.struct [(0, 31), (5, 84)], [.int .i64, .int .i64, .int .i64, .int .i64, .row 3, .int .i64, .int .i64, .row 3], 96⟩,
  ⟨.struct [(0, 31), (5, 84)], [.int .i64, .int .i64, .int .i64, .int .i64, .row 3, .int .i64, .int .i64, .row 3], 96⟩,
  ⟨.other, [], 0⟩,
  ⟨.other, [], 0⟩,
  ⟨.other, [], 0⟩,
  ⟨.other, [], 0⟩,
  ⟨.other, [], 0⟩,
  ⟨.other, [], 0⟩,
  ⟨.other, [], 0⟩,
  ⟨.other, [], 0⟩,
  ⟨.other, [], 0⟩,
  ⟨.other, [], 0⟩,
  ⟨.other, [], 0⟩,
  ⟨.other, [], 0⟩,
  ⟨.other, [], 0⟩,
  ⟨.other, [], 0⟩,
  ⟨.other, [], 0⟩,
  ⟨.other, [], 0⟩,
  ⟨.struct [(0, 31), (5, 3), (6, 24), (7, 3)], [.int .i64, .int .i64, .int .i64, .int .i64, .row 3, .int .i64, .row 3, .int .i64], 96⟩,
  ⟨.struct [(0, 31), (5, 3), (6, 24), (7, 3)], [.int .i64, .int .i64, .int .i64, .int .i64, .row 3, .int .i64, .row 3, .int .i64], 96⟩,
  ⟨.other, [], 0⟩,
  ⟨.other, [], 0⟩,
  ⟨.other, [], 0⟩,
  ⟨.other, [], 0⟩,
  ⟨.other, [], 0⟩,
  ⟨.other, [], 0⟩,
  ⟨.other, [], 0⟩,
  ⟨.other, [], 0⟩,
  ⟨.other, [], 0⟩,
  ⟨.other, [], 0⟩,
  ⟨.other, [], 0⟩,
  ⟨.other, [], 0⟩,
  ⟨.other, [], 0⟩,
  ⟨.other, [], 0⟩,
  ⟨.other, [], 0⟩,
  ⟨.other, [], 0⟩,
  ⟨.int .u64, [.int .u64], 8⟩,
  ⟨.other, [], 0⟩,
  ⟨.other, [], 0⟩,
  ⟨.other, [], 0⟩,
  ⟨.other, [], 0⟩,
  ⟨.other, [], 0⟩,
  ⟨.other, [], 0⟩,
  ⟨.other, [], 0⟩,
  ⟨.struct [(0, 26), (5, 3), (6, 24), (7, 3)], [.int .i64, .int .i64, .int .i64, .int .i64, .row 3, .int .i64, .row 3, .int .i64], 96⟩,
  ⟨.struct [(0, 26), (5, 3), (6, 24), (7, 3)], [.int .i64, .int .i64, .int .i64, .int .i64, .row 3, .int .i64, .row 3, .int .i64], 96⟩,
  ⟨.other, [], 0⟩,
  ⟨.other, [], 0⟩,
  ⟨.other, [], 0⟩,
  ⟨.other, [], 0⟩,
  ⟨.other, [], 0⟩,
  ⟨.other, [], 0⟩,
  ⟨.other, [], 0⟩,
  ⟨.other, [], 0⟩,
  ⟨.other, [], 0⟩,
  ⟨.slice 24, [.row 24], 24⟩,
  ⟨.slice 162, [.row 162], 24⟩,
  ⟨.struct [(0, 140), (1, 141), (2, 4), (3, 24)], [.row 24, .row 162, .bool, .row 3], 80⟩,
  ⟨.struct [(0, 140), (1, 141), (2, 4), (3, 24)], [.row 24, .row 162, .bool, .row 3], 80⟩,
  ⟨.other, [], 0⟩,
  ⟨.other, [], 0⟩,
  ⟨.other, [], 0⟩,
  ⟨.other, [], 0⟩,
  ⟨.slice 171, [.row 171], 24⟩,
  ⟨.struct [(0, 140), (1, 148), (2, 4), (3, 24)], [.row 24, .row 171, .bool, .row 3], 80⟩,
  ⟨.struct [(0, 140), (1, 148), (2, 4), (3, 24)], [.row 24, .row 171, .bool, .row 3], 80⟩,
  ⟨.other, [], 0⟩,
  ⟨.struct [(0, 3), (1, 24)], [.int .i64, .row 3], 32⟩,
  ⟨.struct [(0, 3), (1, 24)], [.int .i64, .row 3], 32⟩,
  ⟨.other, [], 0⟩,
  ⟨.struct [(0, 3), (1, 24)], [.int .i64, .row 3], 32⟩,
  ⟨.other, [], 0⟩,
  ⟨.other, [], 0⟩,
  ⟨.other, [], 0⟩,
  ⟨.other, [], 0⟩,
  ⟨.other, [], 0⟩,
  ⟨.struct [(0, 3), (1, 24)], [.int .i64, .row 3], 32⟩,
  ⟨.struct [(0, 3), (1, 24)], [.int .i64, .row 3], 32⟩,
  ⟨.other, [], 0⟩,
  ⟨.other, [], 0⟩,
  ⟨.other, [], 0⟩,
  ⟨.other, [], 0⟩,
  ⟨.other, [], 0⟩,
  ⟨.other, [], 0⟩,
  ⟨.other, [], 0⟩,
  ⟨.other, [], 0⟩,
  ⟨.struct [(0, 3), (1, 24)], [.int .i64, .row 3], 32⟩,
  ⟨.other, [], 0⟩,
  ⟨.other, [], 0⟩,
  ⟨.other, [], 0⟩,
  ⟨.struct [(0, 17), (1, 17), (2, 17), (3, 9)], [.ptr, .ptr, .ptr, .str], 40⟩,
  ⟨.struct [(0, 17), (1, 17), (2, 17), (3, 9)], [.ptr, .ptr, .ptr, .str], 40⟩,
  ⟨.other, [], 0⟩,
  ⟨.other, [], 0⟩,
  ⟨.other, [], 0⟩,
  ⟨.other, [], 0⟩,
  ⟨.int .u32, [.int .u32], 4⟩,
  ⟨.int .u8, [.int .u8], 1⟩,
  ⟨.int .u8, [.int .u8], 1⟩,
  ⟨.other, [], 0⟩,
  ⟨.ptr 5, [.ptr], 8⟩,
  ⟨.int .i32, [.int .i32], 4⟩,
  ⟨.int .i32, [.int .i32], 4⟩,
  ⟨.other, [], 0⟩,
  ⟨.other, [], 0⟩,
  ⟨.other, [], 0⟩]
namespace N
abbrev laws_FnExactStepsOf : Nat := 3
abbrev laws_FnExactMayBe : Nat := 4
abbrev laws_FnExactFollows : Nat := 5
abbrev laws_FnExactApart : Nat := 6
abbrev laws_FnExactNeedOf : Nat := 7
abbrev laws_FnExactNeedAll : Nat := 8
abbrev laws_FnExactEngOk : Nat := 9
abbrev laws_FnExactOnline : Nat := 10
abbrev laws_FnExactCanBegin : Nat := 11
abbrev laws_szCmd : Nat := 12
abbrev spec_StepsOf : Nat := 13
abbrev laws_toGeo : Nat := 14
abbrev laws_toCmd : Nat := 15
abbrev impl_StepsOf : Nat := 16
abbrev laws_eqCmd : Nat := 17
abbrev laws_szTurnS : Nat := 18
abbrev spec_MayBe : Nat := 19
abbrev laws_toTurnS : Nat := 20
abbrev impl_MayBe : Nat := 21
abbrev laws_eqTurnS : Nat := 22
abbrev spec_Follows : Nat := 23
abbrev laws_toIntS : Nat := 24
abbrev impl_Follows : Nat := 25
abbrev laws_eqIntS : Nat := 26
abbrev laws_szEng : Nat := 27
abbrev spec_Apart : Nat := 28
abbrev laws_toEng : Nat := 29
abbrev impl_Apart : Nat := 30
abbrev laws_eqEng : Nat := 31
abbrev spec_NeedOf : Nat := 32
abbrev impl_NeedOf : Nat := 33
abbrev spec_NeedAll : Nat := 34
abbrev impl_NeedAll : Nat := 35
abbrev spec_EngOk : Nat := 36
abbrev impl_EngOk : Nat := 37
abbrev spec_Online : Nat := 38
abbrev impl_Online : Nat := 39
abbrev spec_CanBegin : Nat := 40
abbrev impl_CanBegin : Nat := 41
abbrev laws_szIntS : Nat := 42
abbrev spec_CmdCode : Nat := 43
abbrev spec_StripeOf : Nat := 44
abbrev spec_l13Len : Nat := 45
abbrev impl_CmdCode : Nat := 46
abbrev impl_stripesOf : Nat := 47
abbrev impl_runOf : Nat := 48
abbrev laws_szTurn : Nat := 49
abbrev spec_SureOf : Nat := 50
abbrev spec_Writes : Nat := 51
abbrev spec_WordOf : Nat := 52
abbrev spec_l1In : Nat := 53
abbrev laws_toTurn : Nat := 54
abbrev impl_SureOf : Nat := 55
abbrev impl_Writes : Nat := 56
abbrev impl_WordOf : Nat := 57
abbrev impl_within : Nat := 58
abbrev laws_eqTurn : Nat := 59
abbrev spec_DoCmds : Nat := 60
abbrev spec_CmdsOf : Nat := 61
abbrev spec_SameAns : Nat := 62
abbrev impl_DoCmds : Nat := 63
abbrev impl_CmdsOf : Nat := 64
abbrev slices_EqualFunc_impl_Ans_impl_Ans_impl_Ans_impl_Ans : Nat := 65
abbrev impl_AnsOf : Nat := 66
abbrev impl_SameAns : Nat := 67
abbrev laws_szArr : Nat := 68
abbrev laws_szCmdS : Nat := 69
abbrev laws_szJobS : Nat := 70
abbrev laws_szAnsS : Nat := 71
abbrev spec_Clash : Nat := 72
abbrev laws_toArr : Nat := 73
abbrev laws_toCmdS : Nat := 74
abbrev laws_toJobS : Nat := 75
abbrev laws_toAnsS : Nat := 76
abbrev impl_Clash : Nat := 77
abbrev laws_eqArr : Nat := 78
abbrev laws_eqCmdS : Nat := 79
abbrev laws_eqJobS : Nat := 80
abbrev laws_eqAnsS : Nat := 81
abbrev spec_l15Job : Nat := 82
abbrev spec_ArrOk : Nat := 83
abbrev impl_jobOk : Nat := 84
abbrev impl_ArrOk : Nat := 85
abbrev spec_l15Can : Nat := 86
abbrev spec_GeoOk : Nat := 87
abbrev spec_l13Size : Nat := 88
abbrev spec_Blocks : Nat := 89
abbrev impl_GeoOk : Nat := 90
abbrev impl_sizeOk : Nat := 91
abbrev impl_Blocks : Nat := 92
abbrev impl_SpanOf : Nat := 93
abbrev impl_StripeOf : Nat := 94
abbrev laws_szAns : Nat := 95
abbrev spec_l19Flushed : Nat := 96
abbrev laws_toAns : Nat := 97
abbrev laws_eqAns : Nat := 98
abbrev spec_DoCmd : Nat := 99
abbrev spec_l13Copy : Nat := 100
abbrev spec_SameSec : Nat := 101
abbrev impl_copyInts : Nat := 102
abbrev impl_DoCmd : Nat := 103
abbrev impl_copyCmd : Nat := 104
abbrev impl_copyAns : Nat := 105
abbrev slices_Equal_int_int : Nat := 106
abbrev laws_szMemS : Nat := 107
abbrev laws_szEntS : Nat := 108
abbrev laws_szJob : Nat := 109
abbrev spec_SpanOf : Nat := 110
abbrev laws_toMemS : Nat := 111
abbrev laws_toEntS : Nat := 112
abbrev laws_toJob : Nat := 113
abbrev laws_eqGeo : Nat := 114
abbrev laws_eqMemS : Nat := 115
abbrev laws_eqEntS : Nat := 116
abbrev laws_eqJob : Nat := 117
abbrev spec_l1Words : Nat := 118
abbrev spec_l6Mems : Nat := 119
abbrev spec_l6Dirty : Nat := 120
abbrev impl_wordsOk : Nat := 121
abbrev impl_lostOk : Nat := 122
abbrev impl_dirtyOk : Nat := 123
abbrev impl_MemOk : Nat := 124
abbrev impl_sectors : Nat := 125
abbrev impl_hasBlock : Nat := 126
abbrev spec_l14Do : Nat := 127
abbrev laws_szMem : Nat := 128
abbrev laws_szEnt : Nat := 129
abbrev laws_toMem : Nat := 130
abbrev laws_toEnt : Nat := 131
abbrev laws_eqMem : Nat := 132
abbrev laws_eqEnt : Nat := 133
abbrev spec_l1Word : Nat := 134
abbrev spec_MemOk : Nat := 135
abbrev spec_l6Secs : Nat := 136
abbrev impl_isWord : Nat := 137
abbrev impl_hasStripe : Nat := 138
abbrev impl_dataOk : Nat := 139
abbrev impl_SecOk : Nat := 140
abbrev impl_hasSec : Nat := 141
abbrev laws_szIntSS : Nat := 142
abbrev laws_szWrS : Nat := 143
abbrev laws_toIntSS : Nat := 144
abbrev laws_toWrS : Nat := 145
abbrev laws_eqIntSS : Nat := 146
abbrev laws_eqWrS : Nat := 147
abbrev spec_SecOk : Nat := 148
abbrev laws_szWr : Nat := 149
abbrev laws_toWr : Nat := 150
abbrev laws_eqWr : Nat := 151
end N
namespace TN
abbrev Int64 : Nat := 2
abbrev Int : Nat := 3
abbrev Bool : Nat := 4
abbrev Uint8 : Nat := 5
abbrev String : Nat := 9
abbrev Uintptr : Nat := 12
abbrev Int32 : Nat := 21
abbrev laws_Geo : Nat := 23
abbrev IntS : Nat := 24
abbrev laws_Cmd : Nat := 26
abbrev impl_Geo : Nat := 29
abbrev impl_Cmd : Nat := 31
abbrev laws_TurnS : Nat := 35
abbrev impl_TurnS : Nat := 38
abbrev laws_MemS : Nat := 46
abbrev laws_EntS : Nat := 47
abbrev laws_Arr : Nat := 49
abbrev laws_CmdS : Nat := 50
abbrev laws_JobS : Nat := 51
abbrev laws_AnsS : Nat := 52
abbrev laws_Eng : Nat := 54
abbrev impl_MemS : Nat := 57
abbrev impl_EntS : Nat := 58
abbrev impl_Arr : Nat := 60
abbrev impl_CmdS : Nat := 61
abbrev impl_JobS : Nat := 62
abbrev impl_AnsS : Nat := 63
abbrev impl_Eng : Nat := 65
abbrev laws_Ans : Nat := 80
abbrev laws_Turn : Nat := 82
abbrev impl_Ans : Nat := 84
abbrev impl_Turn : Nat := 86
abbrev impl_Job : Nat := 104
abbrev Uint : Nat := 121
abbrev laws_Job : Nat := 130
abbrev IntSS : Nat := 140
abbrev impl_WrS : Nat := 141
abbrev impl_Mem : Nat := 143
abbrev laws_WrS : Nat := 148
abbrev laws_Mem : Nat := 150
abbrev laws_Ent : Nat := 153
abbrev impl_Ent : Nat := 155
abbrev impl_Wr : Nat := 162
abbrev laws_Wr : Nat := 171
abbrev Uint32 : Nat := 181
end TN
noncomputable def fnTab : Tr Func := (.node (.node (.node (.node (.node (.node (.node (.node .nil 3 Try.f3 .nil) 4 Try.f4 .nil) 5 Try.f5 (.node .nil 6 Try.f6 .nil)) 7 Try.f7 (.node (.node (.node .nil 8 Try.f8 .nil) 9 Try.f9 .nil) 10 Try.f10 (.node .nil 11 Try.f11 .nil))) 12 Try.f12 (.node (.node (.node (.node .nil 13 Try.f13 .nil) 14 Try.f14 .nil) 15 Try.f15 (.node .nil 16 Try.f16 .nil)) 17 Try.f17 (.node (.node .nil 18 Try.f18 .nil) 19 Try.f19 (.node .nil 20 Try.f20 .nil)))) 21 Try.f21 (.node (.node (.node (.node (.node .nil 22 Try.f22 .nil) 23 Try.f23 .nil) 24 Try.f24 (.node .nil 25 Try.f25 .nil)) 26 Try.f26 (.node (.node (.node .nil 27 Try.f27 .nil) 28 Try.f28 .nil) 29 Try.f29 (.node .nil 30 Try.f30 .nil))) 31 Try.f31 (.node (.node (.node (.node .nil 32 Try.f32 .nil) 33 Try.f33 .nil) 34 Try.f34 (.node .nil 35 Try.f35 .nil)) 36 Try.f36 (.node (.node .nil 37 Try.f37 .nil) 38 Try.f38 (.node .nil 39 Try.f39 .nil))))) 40 Try.f40 (.node (.node (.node (.node (.node (.node .nil 41 Try.f41 .nil) 42 Try.f42 .nil) 43 Try.f43 (.node .nil 44 Try.f44 .nil)) 45 Try.f45 (.node (.node (.node .nil 46 Try.f46 .nil) 47 Try.f47 .nil) 48 Try.f48 (.node .nil 49 Try.f49 .nil))) 50 Try.f50 (.node (.node (.node (.node .nil 51 Try.f51 .nil) 52 Try.f52 .nil) 53 Try.f53 (.node .nil 54 Try.f54 .nil)) 55 Try.f55 (.node (.node .nil 56 Try.f56 .nil) 57 Try.f57 (.node .nil 58 Try.f58 .nil)))) 59 Try.f59 (.node (.node (.node (.node (.node .nil 60 Try.f60 .nil) 61 Try.f61 .nil) 62 Try.f62 (.node .nil 63 Try.f63 .nil)) 64 Try.f64 (.node (.node .nil 65 Try.f65 .nil) 66 Try.f66 (.node .nil 67 Try.f67 .nil))) 68 Try.f68 (.node (.node (.node (.node .nil 69 Try.f69 .nil) 70 Try.f70 .nil) 71 Try.f71 (.node .nil 72 Try.f72 .nil)) 73 Try.f73 (.node (.node .nil 74 Try.f74 .nil) 75 Try.f75 (.node .nil 76 Try.f76 .nil)))))) 77 Try.f77 (.node (.node (.node (.node (.node (.node (.node .nil 78 Try.f78 .nil) 79 Try.f79 .nil) 80 Try.f80 (.node .nil 81 Try.f81 .nil)) 82 Try.f82 (.node (.node (.node .nil 83 Try.f83 .nil) 84 Try.f84 .nil) 85 Try.f85 (.node .nil 86 Try.f86 .nil))) 87 Try.f87 (.node (.node (.node (.node .nil 88 Try.f88 .nil) 89 Try.f89 .nil) 90 Try.f90 (.node .nil 91 Try.f91 .nil)) 92 Try.f92 (.node (.node .nil 93 Try.f93 .nil) 94 Try.f94 (.node .nil 95 Try.f95 .nil)))) 96 Try.f96 (.node (.node (.node (.node (.node .nil 97 Try.f97 .nil) 98 Try.f98 .nil) 99 Try.f99 (.node .nil 100 Try.f100 .nil)) 101 Try.f101 (.node (.node (.node .nil 102 Try.f102 .nil) 103 Try.f103 .nil) 104 Try.f104 (.node .nil 105 Try.f105 .nil))) 106 Try.f106 (.node (.node (.node (.node .nil 107 Try.f107 .nil) 108 Try.f108 .nil) 109 Try.f109 (.node .nil 110 Try.f110 .nil)) 111 Try.f111 (.node (.node .nil 112 Try.f112 .nil) 113 Try.f113 (.node .nil 114 Try.f114 .nil))))) 115 Try.f115 (.node (.node (.node (.node (.node (.node .nil 116 Try.f116 .nil) 117 Try.f117 .nil) 118 Try.f118 (.node .nil 119 Try.f119 .nil)) 120 Try.f120 (.node (.node (.node .nil 121 Try.f121 .nil) 122 Try.f122 .nil) 123 Try.f123 (.node .nil 124 Try.f124 .nil))) 125 Try.f125 (.node (.node (.node (.node .nil 126 Try.f126 .nil) 127 Try.f127 .nil) 128 Try.f128 (.node .nil 129 Try.f129 .nil)) 130 Try.f130 (.node (.node .nil 131 Try.f131 .nil) 132 Try.f132 (.node .nil 133 Try.f133 .nil)))) 134 Try.f134 (.node (.node (.node (.node (.node .nil 135 Try.f135 .nil) 136 Try.f136 .nil) 137 Try.f137 (.node .nil 138 Try.f138 .nil)) 139 Try.f139 (.node (.node .nil 140 Try.f140 .nil) 141 Try.f141 (.node .nil 142 Try.f142 .nil))) 143 Try.f143 (.node (.node (.node (.node .nil 144 Try.f144 .nil) 145 Try.f145 .nil) 146 Try.f146 (.node .nil 147 Try.f147 .nil)) 148 Try.f148 (.node (.node .nil 149 Try.f149 .nil) 150 Try.f150 (.node .nil 151 Try.f151 .nil)))))))
def sigTab : Tr Sig := (.node (.node (.node (.node (.node .nil 15 ⟨[], [false, false, false, false, true], []⟩ .nil) 20 ⟨[], [true], []⟩ (.node .nil 24 ⟨[], [true], []⟩ .nil)) 29 ⟨[], [false, false, false, true, false, false, false, false, false, true, false, false, false, true, true, true, true], []⟩ (.node (.node .nil 54 ⟨[], [false, false, false, false, true, false, false, true], []⟩ .nil) 60 ⟨[], [true, true], []⟩ (.node .nil 61 ⟨[], [true], []⟩ .nil))) 63 ⟨[], [true, true], []⟩ (.node (.node (.node .nil 64 ⟨[], [true], []⟩ .nil) 66 ⟨[], [true], []⟩ (.node .nil 73 ⟨[], [false, false, false, true, false, false, false, false, false, true, false, false, false], []⟩ .nil)) 74 ⟨[], [true], []⟩ (.node (.node .nil 75 ⟨[], [true], []⟩ .nil) 76 ⟨[], [true], []⟩ (.node .nil 97 ⟨[], [false, false, true], []⟩ .nil)))) 99 ⟨[], [true, false, false, true], []⟩ (.node (.node (.node (.node .nil 100 ⟨[], [false, false, false, false, true], []⟩ .nil) 102 ⟨[], [true], []⟩ (.node .nil 103 ⟨[], [true, false, false, true], []⟩ .nil)) 104 ⟨[], [false, false, false, false, true], []⟩ (.node (.node .nil 105 ⟨[], [false, false, true], []⟩ .nil) 111 ⟨[], [true], []⟩ (.node .nil 112 ⟨[], [true], []⟩ .nil))) 113 ⟨[], [false, false, false, false, true, false, true, false], []⟩ (.node (.node (.node .nil 127 ⟨[[false, true], [false, false, false, false, false]], [false, false, true], []⟩ .nil) 130 ⟨[], [true, true, false, true], []⟩ (.node .nil 131 ⟨[], [false, true], []⟩ .nil)) 144 ⟨[], [true], []⟩ (.node (.node .nil 145 ⟨[], [true], []⟩ .nil) 150 ⟨[], [false, true], []⟩ .nil))))
noncomputable def E : Env := ⟨tys, fnTab.get, sigOf sigTab⟩
def P0 : FuncId → Option (List Arg → Option Outs) := fun _ => none
theorem tabOk_ : tabOk Try.prog E = true := by kernel_rfl
theorem orders_ : Try.prog.follows .mixedOrders = true := by kernel_rfl
theorem allF_ : AllF Try.prog fnTab := ⟨⟨Try.func77, by kernel_rfl, by kernel_rfl⟩, ⟨⟨Try.func40, by kernel_rfl, by kernel_rfl⟩, ⟨⟨Try.func21, by kernel_rfl, by kernel_rfl⟩, ⟨⟨Try.func12, by kernel_rfl, by kernel_rfl⟩, ⟨⟨Try.func7, by kernel_rfl, by kernel_rfl⟩, ⟨⟨Try.func5, by kernel_rfl, by kernel_rfl⟩, ⟨⟨Try.func4, by kernel_rfl, by kernel_rfl⟩, ⟨⟨Try.func3, by kernel_rfl, by kernel_rfl⟩, trivial, trivial⟩, trivial⟩, ⟨⟨Try.func6, by kernel_rfl, by kernel_rfl⟩, trivial, trivial⟩⟩, ⟨⟨Try.func10, by kernel_rfl, by kernel_rfl⟩, ⟨⟨Try.func9, by kernel_rfl, by kernel_rfl⟩, ⟨⟨Try.func8, by kernel_rfl, by kernel_rfl⟩, trivial, trivial⟩, trivial⟩, ⟨⟨Try.func11, by kernel_rfl, by kernel_rfl⟩, trivial, trivial⟩⟩⟩, ⟨⟨Try.func17, by kernel_rfl, by kernel_rfl⟩, ⟨⟨Try.func15, by kernel_rfl, by kernel_rfl⟩, ⟨⟨Try.func14, by kernel_rfl, by kernel_rfl⟩, ⟨⟨Try.func13, by kernel_rfl, by kernel_rfl⟩, trivial, trivial⟩, trivial⟩, ⟨⟨Try.func16, by kernel_rfl, by kernel_rfl⟩, trivial, trivial⟩⟩, ⟨⟨Try.func19, by kernel_rfl, by kernel_rfl⟩, ⟨⟨Try.func18, by kernel_rfl, by kernel_rfl⟩, trivial, trivial⟩, ⟨⟨Try.func20, by kernel_rfl, by kernel_rfl⟩, trivial, trivial⟩⟩⟩⟩, ⟨⟨Try.func31, by kernel_rfl, by kernel_rfl⟩, ⟨⟨Try.func26, by kernel_rfl, by kernel_rfl⟩, ⟨⟨Try.func24, by kernel_rfl, by kernel_rfl⟩, ⟨⟨Try.func23, by kernel_rfl, by kernel_rfl⟩, ⟨⟨Try.func22, by kernel_rfl, by kernel_rfl⟩, trivial, trivial⟩, trivial⟩, ⟨⟨Try.func25, by kernel_rfl, by kernel_rfl⟩, trivial, trivial⟩⟩, ⟨⟨Try.func29, by kernel_rfl, by kernel_rfl⟩, ⟨⟨Try.func28, by kernel_rfl, by kernel_rfl⟩, ⟨⟨Try.func27, by kernel_rfl, by kernel_rfl⟩, trivial, trivial⟩, trivial⟩, ⟨⟨Try.func30, by kernel_rfl, by kernel_rfl⟩, trivial, trivial⟩⟩⟩, ⟨⟨Try.func36, by kernel_rfl, by kernel_rfl⟩, ⟨⟨Try.func34, by kernel_rfl, by kernel_rfl⟩, ⟨⟨Try.func33, by kernel_rfl, by kernel_rfl⟩, ⟨⟨Try.func32, by kernel_rfl, by kernel_rfl⟩, trivial, trivial⟩, trivial⟩, ⟨⟨Try.func35, by kernel_rfl, by kernel_rfl⟩, trivial, trivial⟩⟩, ⟨⟨Try.func38, by kernel_rfl, by kernel_rfl⟩, ⟨⟨Try.func37, by kernel_rfl, by kernel_rfl⟩, trivial, trivial⟩, ⟨⟨Try.func39, by kernel_rfl, by kernel_rfl⟩, trivial, trivial⟩⟩⟩⟩⟩, ⟨⟨Try.func59, by kernel_rfl, by kernel_rfl⟩, ⟨⟨Try.func50, by kernel_rfl, by kernel_rfl⟩, ⟨⟨Try.func45, by kernel_rfl, by kernel_rfl⟩, ⟨⟨Try.func43, by kernel_rfl, by kernel_rfl⟩, ⟨⟨Try.func42, by kernel_rfl, by kernel_rfl⟩, ⟨⟨Try.func41, by kernel_rfl, by kernel_rfl⟩, trivial, trivial⟩, trivial⟩, ⟨⟨Try.func44, by kernel_rfl, by kernel_rfl⟩, trivial, trivial⟩⟩, ⟨⟨Try.func48, by kernel_rfl, by kernel_rfl⟩, ⟨⟨Try.func47, by kernel_rfl, by kernel_rfl⟩, ⟨⟨Try.func46, by kernel_rfl, by kernel_rfl⟩, trivial, trivial⟩, trivial⟩, ⟨⟨Try.func49, by kernel_rfl, by kernel_rfl⟩, trivial, trivial⟩⟩⟩, ⟨⟨Try.func55, by kernel_rfl, by kernel_rfl⟩, ⟨⟨Try.func53, by kernel_rfl, by kernel_rfl⟩, ⟨⟨Try.func52, by kernel_rfl, by kernel_rfl⟩, ⟨⟨Try.func51, by kernel_rfl, by kernel_rfl⟩, trivial, trivial⟩, trivial⟩, ⟨⟨Try.func54, by kernel_rfl, by kernel_rfl⟩, trivial, trivial⟩⟩, ⟨⟨Try.func57, by kernel_rfl, by kernel_rfl⟩, ⟨⟨Try.func56, by kernel_rfl, by kernel_rfl⟩, trivial, trivial⟩, ⟨⟨Try.func58, by kernel_rfl, by kernel_rfl⟩, trivial, trivial⟩⟩⟩⟩, ⟨⟨Try.func68, by kernel_rfl, by kernel_rfl⟩, ⟨⟨Try.func64, by kernel_rfl, by kernel_rfl⟩, ⟨⟨Try.func62, by kernel_rfl, by kernel_rfl⟩, ⟨⟨Try.func61, by kernel_rfl, by kernel_rfl⟩, ⟨⟨Try.func60, by kernel_rfl, by kernel_rfl⟩, trivial, trivial⟩, trivial⟩, ⟨⟨Try.func63, by kernel_rfl, by kernel_rfl⟩, trivial, trivial⟩⟩, ⟨⟨Try.func66, by kernel_rfl, by kernel_rfl⟩, ⟨⟨Try.func65, by kernel_rfl, by kernel_rfl⟩, trivial, trivial⟩, ⟨⟨Try.func67, by kernel_rfl, by kernel_rfl⟩, trivial, trivial⟩⟩⟩, ⟨⟨Try.func73, by kernel_rfl, by kernel_rfl⟩, ⟨⟨Try.func71, by kernel_rfl, by kernel_rfl⟩, ⟨⟨Try.func70, by kernel_rfl, by kernel_rfl⟩, ⟨⟨Try.func69, by kernel_rfl, by kernel_rfl⟩, trivial, trivial⟩, trivial⟩, ⟨⟨Try.func72, by kernel_rfl, by kernel_rfl⟩, trivial, trivial⟩⟩, ⟨⟨Try.func75, by kernel_rfl, by kernel_rfl⟩, ⟨⟨Try.func74, by kernel_rfl, by kernel_rfl⟩, trivial, trivial⟩, ⟨⟨Try.func76, by kernel_rfl, by kernel_rfl⟩, trivial, trivial⟩⟩⟩⟩⟩⟩, ⟨⟨Try.func115, by kernel_rfl, by kernel_rfl⟩, ⟨⟨Try.func96, by kernel_rfl, by kernel_rfl⟩, ⟨⟨Try.func87, by kernel_rfl, by kernel_rfl⟩, ⟨⟨Try.func82, by kernel_rfl, by kernel_rfl⟩, ⟨⟨Try.func80, by kernel_rfl, by kernel_rfl⟩, ⟨⟨Try.func79, by kernel_rfl, by kernel_rfl⟩, ⟨⟨Try.func78, by kernel_rfl, by kernel_rfl⟩, trivial, trivial⟩, trivial⟩, ⟨⟨Try.func81, by kernel_rfl, by kernel_rfl⟩, trivial, trivial⟩⟩, ⟨⟨Try.func85, by kernel_rfl, by kernel_rfl⟩, ⟨⟨Try.func84, by kernel_rfl, by kernel_rfl⟩, ⟨⟨Try.func83, by kernel_rfl, by kernel_rfl⟩, trivial, trivial⟩, trivial⟩, ⟨⟨Try.func86, by kernel_rfl, by kernel_rfl⟩, trivial, trivial⟩⟩⟩, ⟨⟨Try.func92, by kernel_rfl, by kernel_rfl⟩, ⟨⟨Try.func90, by kernel_rfl, by kernel_rfl⟩, ⟨⟨Try.func89, by kernel_rfl, by kernel_rfl⟩, ⟨⟨Try.func88, by kernel_rfl, by kernel_rfl⟩, trivial, trivial⟩, trivial⟩, ⟨⟨Try.func91, by kernel_rfl, by kernel_rfl⟩, trivial, trivial⟩⟩, ⟨⟨Try.func94, by kernel_rfl, by kernel_rfl⟩, ⟨⟨Try.func93, by kernel_rfl, by kernel_rfl⟩, trivial, trivial⟩, ⟨⟨Try.func95, by kernel_rfl, by kernel_rfl⟩, trivial, trivial⟩⟩⟩⟩, ⟨⟨Try.func106, by kernel_rfl, by kernel_rfl⟩, ⟨⟨Try.func101, by kernel_rfl, by kernel_rfl⟩, ⟨⟨Try.func99, by kernel_rfl, by kernel_rfl⟩, ⟨⟨Try.func98, by kernel_rfl, by kernel_rfl⟩, ⟨⟨Try.func97, by kernel_rfl, by kernel_rfl⟩, trivial, trivial⟩, trivial⟩, ⟨⟨Try.func100, by kernel_rfl, by kernel_rfl⟩, trivial, trivial⟩⟩, ⟨⟨Try.func104, by kernel_rfl, by kernel_rfl⟩, ⟨⟨Try.func103, by kernel_rfl, by kernel_rfl⟩, ⟨⟨Try.func102, by kernel_rfl, by kernel_rfl⟩, trivial, trivial⟩, trivial⟩, ⟨⟨Try.func105, by kernel_rfl, by kernel_rfl⟩, trivial, trivial⟩⟩⟩, ⟨⟨Try.func111, by kernel_rfl, by kernel_rfl⟩, ⟨⟨Try.func109, by kernel_rfl, by kernel_rfl⟩, ⟨⟨Try.func108, by kernel_rfl, by kernel_rfl⟩, ⟨⟨Try.func107, by kernel_rfl, by kernel_rfl⟩, trivial, trivial⟩, trivial⟩, ⟨⟨Try.func110, by kernel_rfl, by kernel_rfl⟩, trivial, trivial⟩⟩, ⟨⟨Try.func113, by kernel_rfl, by kernel_rfl⟩, ⟨⟨Try.func112, by kernel_rfl, by kernel_rfl⟩, trivial, trivial⟩, ⟨⟨Try.func114, by kernel_rfl, by kernel_rfl⟩, trivial, trivial⟩⟩⟩⟩⟩, ⟨⟨Try.func134, by kernel_rfl, by kernel_rfl⟩, ⟨⟨Try.func125, by kernel_rfl, by kernel_rfl⟩, ⟨⟨Try.func120, by kernel_rfl, by kernel_rfl⟩, ⟨⟨Try.func118, by kernel_rfl, by kernel_rfl⟩, ⟨⟨Try.func117, by kernel_rfl, by kernel_rfl⟩, ⟨⟨Try.func116, by kernel_rfl, by kernel_rfl⟩, trivial, trivial⟩, trivial⟩, ⟨⟨Try.func119, by kernel_rfl, by kernel_rfl⟩, trivial, trivial⟩⟩, ⟨⟨Try.func123, by kernel_rfl, by kernel_rfl⟩, ⟨⟨Try.func122, by kernel_rfl, by kernel_rfl⟩, ⟨⟨Try.func121, by kernel_rfl, by kernel_rfl⟩, trivial, trivial⟩, trivial⟩, ⟨⟨Try.func124, by kernel_rfl, by kernel_rfl⟩, trivial, trivial⟩⟩⟩, ⟨⟨Try.func130, by kernel_rfl, by kernel_rfl⟩, ⟨⟨Try.func128, by kernel_rfl, by kernel_rfl⟩, ⟨⟨Try.func127, by kernel_rfl, by kernel_rfl⟩, ⟨⟨Try.func126, by kernel_rfl, by kernel_rfl⟩, trivial, trivial⟩, trivial⟩, ⟨⟨Try.func129, by kernel_rfl, by kernel_rfl⟩, trivial, trivial⟩⟩, ⟨⟨Try.func132, by kernel_rfl, by kernel_rfl⟩, ⟨⟨Try.func131, by kernel_rfl, by kernel_rfl⟩, trivial, trivial⟩, ⟨⟨Try.func133, by kernel_rfl, by kernel_rfl⟩, trivial, trivial⟩⟩⟩⟩, ⟨⟨Try.func143, by kernel_rfl, by kernel_rfl⟩, ⟨⟨Try.func139, by kernel_rfl, by kernel_rfl⟩, ⟨⟨Try.func137, by kernel_rfl, by kernel_rfl⟩, ⟨⟨Try.func136, by kernel_rfl, by kernel_rfl⟩, ⟨⟨Try.func135, by kernel_rfl, by kernel_rfl⟩, trivial, trivial⟩, trivial⟩, ⟨⟨Try.func138, by kernel_rfl, by kernel_rfl⟩, trivial, trivial⟩⟩, ⟨⟨Try.func141, by kernel_rfl, by kernel_rfl⟩, ⟨⟨Try.func140, by kernel_rfl, by kernel_rfl⟩, trivial, trivial⟩, ⟨⟨Try.func142, by kernel_rfl, by kernel_rfl⟩, trivial, trivial⟩⟩⟩, ⟨⟨Try.func148, by kernel_rfl, by kernel_rfl⟩, ⟨⟨Try.func146, by kernel_rfl, by kernel_rfl⟩, ⟨⟨Try.func145, by kernel_rfl, by kernel_rfl⟩, ⟨⟨Try.func144, by kernel_rfl, by kernel_rfl⟩, trivial, trivial⟩, trivial⟩, ⟨⟨Try.func147, by kernel_rfl, by kernel_rfl⟩, trivial, trivial⟩⟩, ⟨⟨Try.func150, by kernel_rfl, by kernel_rfl⟩, ⟨⟨Try.func149, by kernel_rfl, by kernel_rfl⟩, trivial, trivial⟩, ⟨⟨Try.func151, by kernel_rfl, by kernel_rfl⟩, trivial, trivial⟩⟩⟩⟩⟩⟩⟩
theorem tabF_ : TabF Try.prog E := fun f fn h => tabF_of allF_ f fn h
theorem sound_ (k : Nat) : FnOk Try.prog E (evalF E P0 k) := eval_sound tabOk_ tabF_ orders_ noPrim k
end Go.Proofs.Ytdmdiingedoblaa.Ev
