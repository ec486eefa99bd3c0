/- The seat's types and functions, as the evaluator takes them. No condition. -/
import Derived.Test.YtdmdiingedoblaaGreatEvYb
import Derived.Test.YtdmdiingedoblaaGreatProg
namespace Go.Proofs.YtdmdiingedoblaaGreat.Ev
open Go Go.Proofs
set_option linter.unusedVariables false
set_option maxRecDepth 100000
def tys : List TI := [⟨.other, [], 0⟩,
  ⟨.other, [], 0⟩,
  ⟨.int .i64, [.int .i64], 8⟩,
  ⟨.int .i64, [.int .i64], 8⟩,
  ⟨.bool, [.bool], 1⟩,
  ⟨.int .u8, [.int .u8], 1⟩,
  ⟨.int .u8, [.int .u8], 1⟩,
  ⟨.struct [(0, 2), (1, 3), (2, 4), (3, 6)], [.int .i64, .int .i64, .bool, .int .u8], 24⟩,
  ⟨.struct [(0, 2), (1, 3), (2, 4), (3, 6)], [.int .i64, .int .i64, .bool, .int .u8], 24⟩,
  ⟨.str, [.str], 16⟩,
  ⟨.str, [.str], 16⟩,
  ⟨.str, [.str], 16⟩,
  ⟨.int .u64, [.int .u64], 8⟩,
  ⟨.struct [(0, 9), (1, 12)], [.str, .int .u64], 24⟩,
  ⟨.struct [(0, 9), (1, 12)], [.str, .int .u64], 24⟩,
  ⟨.ptr 170, [.ptr], 8⟩,
  ⟨.ptr 173, [.ptr], 8⟩,
  ⟨.ptr 183, [.ptr], 8⟩,
  ⟨.struct [(0, 17)], [.ptr], 8⟩,
  ⟨.struct [(0, 17)], [.ptr], 8⟩,
  ⟨.other, [], 0⟩,
  ⟨.int .i32, [.int .i32], 4⟩,
  ⟨.struct [(0, 3), (1, 3)], [.int .i64, .int .i64], 16⟩,
  ⟨.struct [(0, 3), (1, 3)], [.int .i64, .int .i64], 16⟩,
  ⟨.slice 122, [.row 122], 24⟩,
  ⟨.slice 125, [.row 125], 24⟩,
  ⟨.struct [(0, 3), (1, 23), (3, 24), (4, 3), (5, 3), (6, 3), (7, 3), (8, 3), (9, 25), (10, 3), (11, 4), (12, 4)], [.int .i64, .int .i64, .int .i64, .row 122, .int .i64, .int .i64, .int .i64, .int .i64, .int .i64, .row 125, .int .i64, .bool, .bool], 128⟩,
  ⟨.struct [(0, 3), (1, 23), (3, 24), (4, 3), (5, 3), (6, 3), (7, 3), (8, 3), (9, 25), (10, 3), (11, 4), (12, 4)], [.int .i64, .int .i64, .int .i64, .row 122, .int .i64, .int .i64, .int .i64, .int .i64, .int .i64, .row 125, .int .i64, .bool, .bool], 128⟩,
  ⟨.slice 75, [.row 75], 24⟩,
  ⟨.slice 78, [.row 78], 24⟩,
  ⟨.slice 81, [.row 81], 24⟩,
  ⟨.slice 84, [.row 84], 24⟩,
  ⟨.struct [(0, 27), (13, 28), (14, 29), (15, 30), (16, 31)], [.int .i64, .int .i64, .int .i64, .row 122, .int .i64, .int .i64, .int .i64, .int .i64, .int .i64, .row 125, .int .i64, .bool, .bool, .row 75, .row 78, .row 81, .row 84], 224⟩,
  ⟨.struct [(0, 27), (13, 28), (14, 29), (15, 30), (16, 31)], [.int .i64, .int .i64, .int .i64, .row 122, .int .i64, .int .i64, .int .i64, .int .i64, .int .i64, .row 125, .int .i64, .bool, .bool, .row 75, .row 78, .row 81, .row 84], 224⟩,
  ⟨.other, [], 0⟩,
  ⟨.other, [], 0⟩,
  ⟨.struct [(0, 3), (1, 3)], [.int .i64, .int .i64], 16⟩,
  ⟨.slice 115, [.row 115], 24⟩,
  ⟨.slice 128, [.row 128], 24⟩,
  ⟨.struct [(0, 3), (1, 36), (3, 37), (4, 3), (5, 3), (6, 3), (7, 3), (8, 3), (9, 38), (10, 3), (11, 4), (12, 4)], [.int .i64, .int .i64, .int .i64, .row 115, .int .i64, .int .i64, .int .i64, .int .i64, .int .i64, .row 128, .int .i64, .bool, .bool], 128⟩,
  ⟨.struct [(0, 3), (1, 36), (3, 37), (4, 3), (5, 3), (6, 3), (7, 3), (8, 3), (9, 38), (10, 3), (11, 4), (12, 4)], [.int .i64, .int .i64, .int .i64, .row 115, .int .i64, .int .i64, .int .i64, .int .i64, .int .i64, .row 128, .int .i64, .bool, .bool], 128⟩,
  ⟨.slice 89, [.row 89], 24⟩,
  ⟨.slice 92, [.row 92], 24⟩,
  ⟨.slice 94, [.row 94], 24⟩,
  ⟨.slice 97, [.row 97], 24⟩,
  ⟨.struct [(0, 40), (13, 41), (14, 42), (15, 43), (16, 44)], [.int .i64, .int .i64, .int .i64, .row 115, .int .i64, .int .i64, .int .i64, .int .i64, .int .i64, .row 128, .int .i64, .bool, .bool, .row 89, .row 92, .row 94, .row 97], 224⟩,
  ⟨.struct [(0, 40), (13, 41), (14, 42), (15, 43), (16, 44)], [.int .i64, .int .i64, .int .i64, .row 115, .int .i64, .int .i64, .int .i64, .int .i64, .int .i64, .row 128, .int .i64, .bool, .bool, .row 89, .row 92, .row 94, .row 97], 224⟩,
  ⟨.other, [], 0⟩,
  ⟨.other, [], 0⟩,
  ⟨.other, [], 0⟩,
  ⟨.other, [], 0⟩,
  ⟨.other, [], 0⟩,
  ⟨.other, [], 0⟩,
  ⟨.other, [], 0⟩,
  ⟨.other, [], 0⟩,
  ⟨.other, [], 0⟩,
  ⟨.other, [], 0⟩,
  ⟨.other, [], 0⟩,
  ⟨.other, [], 0⟩,
  ⟨.other, [], 0⟩,
  ⟨.other, [], 0⟩,
  ⟨.other, [], 0⟩,
  ⟨.other, [], 0⟩,
  ⟨.other, [], 0⟩,
  ⟨.other, [], 0⟩,
  ⟨.other, [], 0⟩,
  ⟨.other, [], 0⟩,
  ⟨.slice 3, [.row 3], 24⟩,
  ⟨.other, [], 0⟩,
  ⟨.other, [], 0⟩,
  ⟨.other, [], 0⟩,
  ⟨.other, [], 0⟩,
  ⟨.other, [], 0⟩,
  ⟨.other, [], 0⟩,
  ⟨.struct [(0, 3), (1, 3), (2, 3), (3, 3), (4, 67)], [.int .i64, .int .i64, .int .i64, .int .i64, .row 3], 56⟩,
  ⟨.struct [(0, 3), (1, 3), (2, 3), (3, 3), (4, 67)], [.int .i64, .int .i64, .int .i64, .int .i64, .row 3], 56⟩,
  ⟨.other, [], 0⟩,
  ⟨.struct [(0, 75), (5, 3), (6, 67), (7, 3)], [.int .i64, .int .i64, .int .i64, .int .i64, .row 3, .int .i64, .row 3, .int .i64], 96⟩,
  ⟨.struct [(0, 75), (5, 3), (6, 67), (7, 3)], [.int .i64, .int .i64, .int .i64, .int .i64, .row 3, .int .i64, .row 3, .int .i64], 96⟩,
  ⟨.other, [], 0⟩,
  ⟨.struct [(0, 3), (1, 3), (2, 67)], [.int .i64, .int .i64, .row 3], 40⟩,
  ⟨.struct [(0, 3), (1, 3), (2, 67)], [.int .i64, .int .i64, .row 3], 40⟩,
  ⟨.other, [], 0⟩,
  ⟨.struct [(0, 75), (5, 81)], [.int .i64, .int .i64, .int .i64, .int .i64, .row 3, .int .i64, .int .i64, .row 3], 96⟩,
  ⟨.struct [(0, 75), (5, 81)], [.int .i64, .int .i64, .int .i64, .int .i64, .row 3, .int .i64, .int .i64, .row 3], 96⟩,
  ⟨.other, [], 0⟩,
  ⟨.other, [], 0⟩,
  ⟨.other, [], 0⟩,
  ⟨.other, [], 0⟩,
  ⟨.struct [(0, 3), (1, 3), (2, 3), (3, 3), (4, 67)], [.int .i64, .int .i64, .int .i64, .int .i64, .row 3], 56⟩,
  ⟨.other, [], 0⟩,
  ⟨.struct [(0, 89), (5, 3), (6, 67), (7, 3)], [.int .i64, .int .i64, .int .i64, .int .i64, .row 3, .int .i64, .row 3, .int .i64], 96⟩,
  ⟨.struct [(0, 89), (5, 3), (6, 67), (7, 3)], [.int .i64, .int .i64, .int .i64, .int .i64, .row 3, .int .i64, .row 3, .int .i64], 96⟩,
  ⟨.other, [], 0⟩,
  ⟨.struct [(0, 3), (1, 3), (2, 67)], [.int .i64, .int .i64, .row 3], 40⟩,
  ⟨.other, [], 0⟩,
  ⟨.struct [(0, 89), (5, 94)], [.int .i64, .int .i64, .int .i64, .int .i64, .row 3, .int .i64, .int .i64, .row 3], 96⟩,
  ⟨.struct [(0, 89), (5, 94)], [.int .i64, .int .i64, .int .i64, .int .i64, .row 3, .int .i64, .int .i64, .row 3], 96⟩,
  ⟨.other, [], 0⟩,
  ⟨.other, [], 0⟩,
  ⟨.other, [], 0⟩,
  ⟨.other, [], 0⟩,
  ⟨.other, [], 0⟩,
  ⟨.other, [], 0⟩,
  ⟨.other, [], 0⟩,
  ⟨.other, [], 0⟩,
  ⟨.other, [], 0⟩,
  ⟨.other, [], 0⟩,
  ⟨.other, [], 0⟩,
  ⟨.other, [], 0⟩,
  ⟨.other, [], 0⟩,
  ⟨.other, [], 0⟩,
  ⟨.slice 67, [.row 67], 24⟩,
  ⟨.slice 158, [.row 158], 24⟩,
  ⟨.struct [(0, 112), (1, 113), (2, 4), (3, 67)], [.row 67, .row 158, .bool, .row 3], 80⟩,
  ⟨.struct [(0, 112), (1, 113), (2, 4), (3, 67)], [.row 67, .row 158, .bool, .row 3], 80⟩,
  ⟨.other, [], 0⟩,
  ⟨.other, [], 0⟩,
  ⟨.other, [], 0⟩,
  ⟨.other, [], 0⟩,
  ⟨.slice 161, [.row 161], 24⟩,
  ⟨.struct [(0, 112), (1, 120), (2, 4), (3, 67)], [.row 67, .row 161, .bool, .row 3], 80⟩,
  ⟨.struct [(0, 112), (1, 120), (2, 4), (3, 67)], [.row 67, .row 161, .bool, .row 3], 80⟩,
  ⟨.other, [], 0⟩,
  ⟨.struct [(0, 3), (1, 67)], [.int .i64, .row 3], 32⟩,
  ⟨.struct [(0, 3), (1, 67)], [.int .i64, .row 3], 32⟩,
  ⟨.other, [], 0⟩,
  ⟨.other, [], 0⟩,
  ⟨.struct [(0, 3), (1, 67)], [.int .i64, .row 3], 32⟩,
  ⟨.other, [], 0⟩,
  ⟨.other, [], 0⟩,
  ⟨.other, [], 0⟩,
  ⟨.other, [], 0⟩,
  ⟨.other, [], 0⟩,
  ⟨.other, [], 0⟩,
  ⟨.other, [], 0⟩,
  ⟨.other, [], 0⟩,
  ⟨.other, [], 0⟩,
  ⟨.other, [], 0⟩,
  ⟨.other, [], 0⟩,
  ⟨.other, [], 0⟩,
  ⟨.other, [], 0⟩,
  ⟨.other, [], 0⟩,
  ⟨.other, [], 0⟩,
  ⟨.other, [], 0⟩,
  ⟨.other, [], 0⟩,
  ⟨.other, [], 0⟩,
  ⟨.other, [], 0⟩,
  ⟨.other, [], 0⟩,
  ⟨.other, [], 0⟩,
  ⟨.other, [], 0⟩,
  ⟨.other, [], 0⟩,
  ⟨.other, [], 0⟩,
  ⟨.other, [], 0⟩,
  ⟨.other, [], 0⟩,
  ⟨.other, [], 0⟩,
  ⟨.other, [], 0⟩,
  ⟨.struct [(0, 3), (1, 67)], [.int .i64, .row 3], 32⟩,
  ⟨.struct [(0, 3), (1, 67)], [.int .i64, .row 3], 32⟩,
  ⟨.other, [], 0⟩,
  ⟨.other, [], 0⟩,
  ⟨.struct [(0, 3), (1, 67)], [.int .i64, .row 3], 32⟩,
  ⟨.other, [], 0⟩,
  ⟨.other, [], 0⟩,
  ⟨.other, [], 0⟩,
  ⟨.other, [], 0⟩,
  ⟨.other, [], 0⟩,
  ⟨.other, [], 0⟩,
  ⟨.other, [], 0⟩,
  ⟨.struct [(0, 17), (1, 17), (2, 17), (3, 9)], [.ptr, .ptr, .ptr, .str], 40⟩,
  ⟨.struct [(0, 17), (1, 17), (2, 17), (3, 9)], [.ptr, .ptr, .ptr, .str], 40⟩,
  ⟨.other, [], 0⟩,
  ⟨.other, [], 0⟩,
  ⟨.other, [], 0⟩,
  ⟨.other, [], 0⟩,
  ⟨.int .u32, [.int .u32], 4⟩,
  ⟨.int .u8, [.int .u8], 1⟩,
  ⟨.int .u8, [.int .u8], 1⟩,
  ⟨.other, [], 0⟩,
  ⟨.ptr 5, [.ptr], 8⟩,
  ⟨.int .i32, [.int .i32], 4⟩,
  ⟨.int .i32, [.int .i32], 4⟩,
  ⟨.other, [], 0⟩,
  ⟨.other, [], 0⟩,
  ⟨.other, [], 0⟩]
namespace N
abbrev laws_FnExactFirstReady : Nat := 3
abbrev laws_FnExactWhole : Nat := 4
abbrev laws_FnExactSafe : Nat := 5
abbrev laws_szEng : Nat := 6
abbrev spec_FirstReady : Nat := 7
abbrev laws_toEng : Nat := 8
abbrev impl_FirstReady : Nat := 9
abbrev laws_eqEng : Nat := 10
abbrev spec_Whole : Nat := 11
abbrev impl_Whole : Nat := 12
abbrev spec_Safe : Nat := 13
abbrev impl_Safe : Nat := 14
abbrev laws_szArr : Nat := 15
abbrev laws_szCmdS : Nat := 16
abbrev laws_szJobS : Nat := 17
abbrev laws_szAnsS : Nat := 18
abbrev laws_szTurnS : Nat := 19
abbrev spec_CanBegin : Nat := 20
abbrev laws_toArr : Nat := 21
abbrev laws_toCmdS : Nat := 22
abbrev laws_toJobS : Nat := 23
abbrev laws_toAnsS : Nat := 24
abbrev laws_toTurnS : Nat := 25
abbrev impl_CanBegin : Nat := 26
abbrev laws_eqArr : Nat := 27
abbrev laws_eqCmdS : Nat := 28
abbrev laws_eqJobS : Nat := 29
abbrev laws_eqAnsS : Nat := 30
abbrev laws_eqTurnS : Nat := 31
abbrev spec_Contents : Nat := 32
abbrev spec_Blocks : Nat := 33
abbrev impl_Contents : Nat := 34
abbrev impl_Blocks : Nat := 35
abbrev spec_EngOk : Nat := 36
abbrev spec_Apart : Nat := 37
abbrev spec_Even : Nat := 38
abbrev spec_l21Bad : Nat := 39
abbrev impl_EngOk : Nat := 40
abbrev impl_Apart : Nat := 41
abbrev impl_Even : Nat := 42
abbrev impl_anySpoilt : Nat := 43
abbrev laws_szMemS : Nat := 44
abbrev laws_szEntS : Nat := 45
abbrev laws_szCmd : Nat := 46
abbrev laws_szJob : Nat := 47
abbrev laws_szAns : Nat := 48
abbrev laws_szTurn : Nat := 49
abbrev spec_l1In : Nat := 50
abbrev spec_l15Can : Nat := 51
abbrev laws_toGeo : Nat := 52
abbrev laws_toMemS : Nat := 53
abbrev laws_toEntS : Nat := 54
abbrev laws_toCmd : Nat := 55
abbrev laws_toJob : Nat := 56
abbrev laws_toAns : Nat := 57
abbrev laws_toTurn : Nat := 58
abbrev impl_within : Nat := 59
abbrev impl_Clash : Nat := 60
abbrev laws_eqGeo : Nat := 61
abbrev laws_eqMemS : Nat := 62
abbrev laws_eqEntS : Nat := 63
abbrev laws_eqCmd : Nat := 64
abbrev laws_eqJob : Nat := 65
abbrev laws_eqAns : Nat := 66
abbrev laws_eqTurn : Nat := 67
abbrev spec_GetBlock : Nat := 68
abbrev spec_GeoOk : Nat := 69
abbrev impl_GetBlock : Nat := 70
abbrev impl_GeoOk : Nat := 71
abbrev spec_l15Job : Nat := 72
abbrev spec_ArrOk : Nat := 73
abbrev spec_Clash : Nat := 74
abbrev spec_XorAt : Nat := 75
abbrev spec_DataAt : Nat := 76
abbrev impl_jobOk : Nat := 77
abbrev impl_ArrOk : Nat := 78
abbrev impl_XorAt : Nat := 79
abbrev impl_isSpoilt : Nat := 80
abbrev laws_szMem : Nat := 81
abbrev laws_szEnt : Nat := 82
abbrev laws_szIntS : Nat := 83
abbrev laws_toMem : Nat := 84
abbrev laws_toEnt : Nat := 85
abbrev laws_toIntS : Nat := 86
abbrev impl_SpanOf : Nat := 87
abbrev laws_eqMem : Nat := 88
abbrev laws_eqEnt : Nat := 89
abbrev laws_eqIntS : Nat := 90
abbrev spec_l8Code : Nat := 91
abbrev spec_l8Stripe : Nat := 92
abbrev spec_StripeOf : Nat := 93
abbrev spec_IndexOf : Nat := 94
abbrev impl_blockCode : Nat := 95
abbrev impl_dataNow : Nat := 96
abbrev impl_StripeOf : Nat := 97
abbrev impl_IndexOf : Nat := 98
abbrev spec_CmdCode : Nat := 99
abbrev spec_l1Words : Nat := 100
abbrev spec_l6Mems : Nat := 101
abbrev spec_l6Dirty : Nat := 102
abbrev spec_SpanOf : Nat := 103
abbrev spec_l6Word : Nat := 104
abbrev impl_CmdCode : Nat := 105
abbrev impl_wordsOk : Nat := 106
abbrev impl_lostOk : Nat := 107
abbrev impl_dirtyOk : Nat := 108
abbrev impl_MemOk : Nat := 109
abbrev impl_sectors : Nat := 110
abbrev impl_wordAt : Nat := 111
abbrev impl_XorOf : Nat := 112
abbrev impl_DataAt : Nat := 113
abbrev laws_szIntSS : Nat := 114
abbrev laws_szWrS : Nat := 115
abbrev laws_toIntSS : Nat := 116
abbrev laws_toWrS : Nat := 117
abbrev impl_runOf : Nat := 118
abbrev laws_eqIntSS : Nat := 119
abbrev laws_eqWrS : Nat := 120
abbrev spec_l8At : Nat := 121
abbrev spec_l6Data : Nat := 122
abbrev impl_hasBlock : Nat := 123
abbrev impl_entOf : Nat := 124
abbrev impl_copyInts : Nat := 125
abbrev impl_DataOf : Nat := 126
abbrev spec_l13Size : Nat := 127
abbrev spec_l13Len : Nat := 128
abbrev spec_l1Word : Nat := 129
abbrev spec_MemOk : Nat := 130
abbrev spec_l6Secs : Nat := 131
abbrev spec_LiveAt : Nat := 132
abbrev spec_ReadSec : Nat := 133
abbrev impl_sizeOk : Nat := 134
abbrev impl_isWord : Nat := 135
abbrev impl_hasStripe : Nat := 136
abbrev impl_dataOk : Nat := 137
abbrev impl_SecOk : Nat := 138
abbrev impl_hasSec : Nat := 139
abbrev impl_ReadSec : Nat := 140
abbrev impl_LiveAt : Nat := 141
abbrev laws_szWr : Nat := 142
abbrev laws_toWr : Nat := 143
abbrev laws_eqWr : Nat := 144
abbrev spec_l6Words : Nat := 145
abbrev spec_DiskOf : Nat := 146
abbrev slices_IndexFunc_impl_Ent_impl_Ent : Nat := 147
abbrev impl_entOf_1 : Nat := 148
abbrev impl_Words : Nat := 149
abbrev impl_DiskOf : Nat := 150
abbrev spec_SecOk : Nat := 151
abbrev spec_l2Has : Nat := 152
abbrev slices_Contains_int_int : Nat := 153
abbrev spec_MissingWord : Nat := 154
abbrev spec_l3Stripe : Nat := 155
abbrev spec_ParityOf : Nat := 156
abbrev impl_MissingWord : Nat := 157
abbrev impl_ParityOf : Nat := 158
abbrev slices_Index_int_int : Nat := 159
end N
namespace TN
abbrev Int64 : Nat := 2
abbrev Int : Nat := 3
abbrev Bool : Nat := 4
abbrev Uint8 : Nat := 5
abbrev String : Nat := 9
abbrev Uintptr : Nat := 12
abbrev Int32 : Nat := 21
abbrev laws_Geo : Nat := 23
abbrev laws_MemS : Nat := 24
abbrev laws_EntS : Nat := 25
abbrev laws_Arr : Nat := 27
abbrev laws_CmdS : Nat := 28
abbrev laws_JobS : Nat := 29
abbrev laws_AnsS : Nat := 30
abbrev laws_TurnS : Nat := 31
abbrev laws_Eng : Nat := 33
abbrev impl_Geo : Nat := 36
abbrev impl_MemS : Nat := 37
abbrev impl_EntS : Nat := 38
abbrev impl_Arr : Nat := 40
abbrev impl_CmdS : Nat := 41
abbrev impl_JobS : Nat := 42
abbrev impl_AnsS : Nat := 43
abbrev impl_TurnS : Nat := 44
abbrev impl_Eng : Nat := 46
abbrev IntS : Nat := 67
abbrev laws_Cmd : Nat := 75
abbrev laws_Job : Nat := 78
abbrev laws_Ans : Nat := 81
abbrev laws_Turn : Nat := 84
abbrev impl_Cmd : Nat := 89
abbrev impl_Job : Nat := 92
abbrev impl_Ans : Nat := 94
abbrev impl_Turn : Nat := 97
abbrev IntSS : Nat := 112
abbrev impl_WrS : Nat := 113
abbrev impl_Mem : Nat := 115
abbrev laws_WrS : Nat := 120
abbrev laws_Mem : Nat := 122
abbrev laws_Ent : Nat := 125
abbrev impl_Ent : Nat := 128
abbrev impl_Wr : Nat := 158
abbrev laws_Wr : Nat := 161
abbrev Uint32 : Nat := 175
end TN
noncomputable def fnTab : Tr Func := (.node (.node (.node (.node (.node (.node (.node (.node .nil 3 Tryz.f3 .nil) 4 Tryz.f4 .nil) 5 Tryz.f5 (.node .nil 6 Tryz.f6 .nil)) 7 Tryz.f7 (.node (.node (.node .nil 8 Tryz.f8 .nil) 9 Tryz.f9 .nil) 10 Tryz.f10 (.node .nil 11 Tryz.f11 .nil))) 12 Tryz.f12 (.node (.node (.node (.node .nil 13 Tryz.f13 .nil) 14 Tryz.f14 .nil) 15 Tryz.f15 (.node .nil 16 Tryz.f16 .nil)) 17 Tryz.f17 (.node (.node (.node .nil 18 Tryz.f18 .nil) 19 Tryz.f19 .nil) 20 Tryz.f20 (.node .nil 21 Tryz.f21 .nil)))) 22 Tryz.f22 (.node (.node (.node (.node (.node .nil 23 Tryz.f23 .nil) 24 Tryz.f24 .nil) 25 Tryz.f25 (.node .nil 26 Tryz.f26 .nil)) 27 Tryz.f27 (.node (.node (.node .nil 28 Tryz.f28 .nil) 29 Tryz.f29 .nil) 30 Tryz.f30 (.node .nil 31 Tryz.f31 .nil))) 32 Tryz.f32 (.node (.node (.node (.node .nil 33 Tryz.f33 .nil) 34 Tryz.f34 .nil) 35 Tryz.f35 (.node .nil 36 Tryz.f36 .nil)) 37 Tryz.f37 (.node (.node (.node .nil 38 Tryz.f38 .nil) 39 Tryz.f39 .nil) 40 Tryz.f40 (.node .nil 41 Tryz.f41 .nil))))) 42 Tryz.f42 (.node (.node (.node (.node (.node (.node .nil 43 Tryz.f43 .nil) 44 Tryz.f44 .nil) 45 Tryz.f45 (.node .nil 46 Tryz.f46 .nil)) 47 Tryz.f47 (.node (.node (.node .nil 48 Tryz.f48 .nil) 49 Tryz.f49 .nil) 50 Tryz.f50 (.node .nil 51 Tryz.f51 .nil))) 52 Tryz.f52 (.node (.node (.node (.node .nil 53 Tryz.f53 .nil) 54 Tryz.f54 .nil) 55 Tryz.f55 (.node .nil 56 Tryz.f56 .nil)) 57 Tryz.f57 (.node (.node (.node .nil 58 Tryz.f58 .nil) 59 Tryz.f59 .nil) 60 Tryz.f60 (.node .nil 61 Tryz.f61 .nil)))) 62 Tryz.f62 (.node (.node (.node (.node (.node .nil 63 Tryz.f63 .nil) 64 Tryz.f64 .nil) 65 Tryz.f65 (.node .nil 66 Tryz.f66 .nil)) 67 Tryz.f67 (.node (.node (.node .nil 68 Tryz.f68 .nil) 69 Tryz.f69 .nil) 70 Tryz.f70 (.node .nil 71 Tryz.f71 .nil))) 72 Tryz.f72 (.node (.node (.node (.node .nil 73 Tryz.f73 .nil) 74 Tryz.f74 .nil) 75 Tryz.f75 (.node .nil 76 Tryz.f76 .nil)) 77 Tryz.f77 (.node (.node .nil 78 Tryz.f78 .nil) 79 Tryz.f79 (.node .nil 80 Tryz.f80 .nil)))))) 81 Tryz.f81 (.node (.node (.node (.node (.node (.node (.node .nil 82 Tryz.f82 .nil) 83 Tryz.f83 .nil) 84 Tryz.f84 (.node .nil 85 Tryz.f85 .nil)) 86 Tryz.f86 (.node (.node (.node .nil 87 Tryz.f87 .nil) 88 Tryz.f88 .nil) 89 Tryz.f89 (.node .nil 90 Tryz.f90 .nil))) 91 Tryz.f91 (.node (.node (.node (.node .nil 92 Tryz.f92 .nil) 93 Tryz.f93 .nil) 94 Tryz.f94 (.node .nil 95 Tryz.f95 .nil)) 96 Tryz.f96 (.node (.node (.node .nil 97 Tryz.f97 .nil) 98 Tryz.f98 .nil) 99 Tryz.f99 (.node .nil 100 Tryz.f100 .nil)))) 101 Tryz.f101 (.node (.node (.node (.node (.node .nil 102 Tryz.f102 .nil) 103 Tryz.f103 .nil) 104 Tryz.f104 (.node .nil 105 Tryz.f105 .nil)) 106 Tryz.f106 (.node (.node (.node .nil 107 Tryz.f107 .nil) 108 Tryz.f108 .nil) 109 Tryz.f109 (.node .nil 110 Tryz.f110 .nil))) 111 Tryz.f111 (.node (.node (.node (.node .nil 112 Tryz.f112 .nil) 113 Tryz.f113 .nil) 114 Tryz.f114 (.node .nil 115 Tryz.f115 .nil)) 116 Tryz.f116 (.node (.node (.node .nil 117 Tryz.f117 .nil) 118 Tryz.f118 .nil) 119 Tryz.f119 (.node .nil 120 Tryz.f120 .nil))))) 121 Tryz.f121 (.node (.node (.node (.node (.node (.node .nil 122 Tryz.f122 .nil) 123 Tryz.f123 .nil) 124 Tryz.f124 (.node .nil 125 Tryz.f125 .nil)) 126 Tryz.f126 (.node (.node (.node .nil 127 Tryz.f127 .nil) 128 Tryz.f128 .nil) 129 Tryz.f129 (.node .nil 130 Tryz.f130 .nil))) 131 Tryz.f131 (.node (.node (.node (.node .nil 132 Tryz.f132 .nil) 133 Tryz.f133 .nil) 134 Tryz.f134 (.node .nil 135 Tryz.f135 .nil)) 136 Tryz.f136 (.node (.node (.node .nil 137 Tryz.f137 .nil) 138 Tryz.f138 .nil) 139 Tryz.f139 (.node .nil 140 Tryz.f140 .nil)))) 141 Tryz.f141 (.node (.node (.node (.node (.node .nil 142 Tryz.f142 .nil) 143 Tryz.f143 .nil) 144 Tryz.f144 (.node .nil 145 Tryz.f145 .nil)) 146 Tryz.f146 (.node (.node (.node .nil 147 Tryz.f147 .nil) 148 Tryz.f148 .nil) 149 Tryz.f149 (.node .nil 150 Tryz.f150 .nil))) 151 Tryz.f151 (.node (.node (.node (.node .nil 152 Tryz.f152 .nil) 153 Tryz.f153 .nil) 154 Tryz.f154 (.node .nil 155 Tryz.f155 .nil)) 156 Tryz.f156 (.node (.node .nil 157 Tryz.f157 .nil) 158 Tryz.f158 (.node .nil 159 Tryz.f159 .nil)))))))
def sigTab : Tr Sig := (.node (.node (.node (.node (.node .nil 8 ⟨[], [false, false, false, true, false, false, false, false, false, true, false, false, false, true, true, true, true], []⟩ .nil) 21 ⟨[], [false, false, false, true, false, false, false, false, false, true, false, false, false], []⟩ (.node .nil 22 ⟨[], [true], []⟩ .nil)) 23 ⟨[], [true], []⟩ (.node (.node .nil 24 ⟨[], [true], []⟩ .nil) 25 ⟨[], [true], []⟩ (.node .nil 32 ⟨[], [true], []⟩ .nil))) 34 ⟨[], [true], []⟩ (.node (.node (.node .nil 53 ⟨[], [true], []⟩ .nil) 54 ⟨[], [true], []⟩ (.node .nil 55 ⟨[], [false, false, false, false, true], []⟩ .nil)) 56 ⟨[], [false, false, false, false, true, false, true, false], []⟩ (.node (.node .nil 57 ⟨[], [false, false, true], []⟩ .nil) 58 ⟨[], [false, false, false, false, true, false, false, true], []⟩ (.node .nil 84 ⟨[], [true, true, false, true], []⟩ .nil)))) 85 ⟨[], [false, true], []⟩ (.node (.node (.node (.node .nil 86 ⟨[], [true], []⟩ .nil) 92 ⟨[], [true, false], []⟩ (.node .nil 96 ⟨[], [true, false], []⟩ .nil)) 116 ⟨[], [true], []⟩ (.node (.node .nil 117 ⟨[], [true], []⟩ .nil) 122 ⟨[], [true, false], []⟩ (.node .nil 125 ⟨[], [true], []⟩ .nil))) 126 ⟨[], [true, false], []⟩ (.node (.node (.node .nil 133 ⟨[], [true, false], []⟩ .nil) 140 ⟨[], [true, false], []⟩ (.node .nil 143 ⟨[], [false, true], []⟩ .nil)) 145 ⟨[], [true, false], []⟩ (.node (.node .nil 148 ⟨[], [], [3]⟩ .nil) 149 ⟨[], [true, false], []⟩ .nil))))
noncomputable def E : Env := ⟨tys, fnTab.get, sigOf sigTab⟩
def P0 : FuncId → Option (List Arg → Option Outs) := fun _ => none
theorem tabOk_ : tabOk Tryz.prog E = true := by kernel_rfl
theorem orders_ : Tryz.prog.follows .mixedOrders = true := by kernel_rfl
theorem allF_ : AllF Tryz.prog fnTab := ⟨⟨Tryz.func81, by kernel_rfl, by kernel_rfl⟩, ⟨⟨Tryz.func42, by kernel_rfl, by kernel_rfl⟩, ⟨⟨Tryz.func22, by kernel_rfl, by kernel_rfl⟩, ⟨⟨Tryz.func12, by kernel_rfl, by kernel_rfl⟩, ⟨⟨Tryz.func7, by kernel_rfl, by kernel_rfl⟩, ⟨⟨Tryz.func5, by kernel_rfl, by kernel_rfl⟩, ⟨⟨Tryz.func4, by kernel_rfl, by kernel_rfl⟩, ⟨⟨Tryz.func3, by kernel_rfl, by kernel_rfl⟩, trivial, trivial⟩, trivial⟩, ⟨⟨Tryz.func6, by kernel_rfl, by kernel_rfl⟩, trivial, trivial⟩⟩, ⟨⟨Tryz.func10, by kernel_rfl, by kernel_rfl⟩, ⟨⟨Tryz.func9, by kernel_rfl, by kernel_rfl⟩, ⟨⟨Tryz.func8, by kernel_rfl, by kernel_rfl⟩, trivial, trivial⟩, trivial⟩, ⟨⟨Tryz.func11, by kernel_rfl, by kernel_rfl⟩, trivial, trivial⟩⟩⟩, ⟨⟨Tryz.func17, by kernel_rfl, by kernel_rfl⟩, ⟨⟨Tryz.func15, by kernel_rfl, by kernel_rfl⟩, ⟨⟨Tryz.func14, by kernel_rfl, by kernel_rfl⟩, ⟨⟨Tryz.func13, by kernel_rfl, by kernel_rfl⟩, trivial, trivial⟩, trivial⟩, ⟨⟨Tryz.func16, by kernel_rfl, by kernel_rfl⟩, trivial, trivial⟩⟩, ⟨⟨Tryz.func20, by kernel_rfl, by kernel_rfl⟩, ⟨⟨Tryz.func19, by kernel_rfl, by kernel_rfl⟩, ⟨⟨Tryz.func18, by kernel_rfl, by kernel_rfl⟩, trivial, trivial⟩, trivial⟩, ⟨⟨Tryz.func21, by kernel_rfl, by kernel_rfl⟩, trivial, trivial⟩⟩⟩⟩, ⟨⟨Tryz.func32, by kernel_rfl, by kernel_rfl⟩, ⟨⟨Tryz.func27, by kernel_rfl, by kernel_rfl⟩, ⟨⟨Tryz.func25, by kernel_rfl, by kernel_rfl⟩, ⟨⟨Tryz.func24, by kernel_rfl, by kernel_rfl⟩, ⟨⟨Tryz.func23, by kernel_rfl, by kernel_rfl⟩, trivial, trivial⟩, trivial⟩, ⟨⟨Tryz.func26, by kernel_rfl, by kernel_rfl⟩, trivial, trivial⟩⟩, ⟨⟨Tryz.func30, by kernel_rfl, by kernel_rfl⟩, ⟨⟨Tryz.func29, by kernel_rfl, by kernel_rfl⟩, ⟨⟨Tryz.func28, by kernel_rfl, by kernel_rfl⟩, trivial, trivial⟩, trivial⟩, ⟨⟨Tryz.func31, by kernel_rfl, by kernel_rfl⟩, trivial, trivial⟩⟩⟩, ⟨⟨Tryz.func37, by kernel_rfl, by kernel_rfl⟩, ⟨⟨Tryz.func35, by kernel_rfl, by kernel_rfl⟩, ⟨⟨Tryz.func34, by kernel_rfl, by kernel_rfl⟩, ⟨⟨Tryz.func33, by kernel_rfl, by kernel_rfl⟩, trivial, trivial⟩, trivial⟩, ⟨⟨Tryz.func36, by kernel_rfl, by kernel_rfl⟩, trivial, trivial⟩⟩, ⟨⟨Tryz.func40, by kernel_rfl, by kernel_rfl⟩, ⟨⟨Tryz.func39, by kernel_rfl, by kernel_rfl⟩, ⟨⟨Tryz.func38, by kernel_rfl, by kernel_rfl⟩, trivial, trivial⟩, trivial⟩, ⟨⟨Tryz.func41, by kernel_rfl, by kernel_rfl⟩, trivial, trivial⟩⟩⟩⟩⟩, ⟨⟨Tryz.func62, by kernel_rfl, by kernel_rfl⟩, ⟨⟨Tryz.func52, by kernel_rfl, by kernel_rfl⟩, ⟨⟨Tryz.func47, by kernel_rfl, by kernel_rfl⟩, ⟨⟨Tryz.func45, by kernel_rfl, by kernel_rfl⟩, ⟨⟨Tryz.func44, by kernel_rfl, by kernel_rfl⟩, ⟨⟨Tryz.func43, by kernel_rfl, by kernel_rfl⟩, trivial, trivial⟩, trivial⟩, ⟨⟨Tryz.func46, by kernel_rfl, by kernel_rfl⟩, trivial, trivial⟩⟩, ⟨⟨Tryz.func50, by kernel_rfl, by kernel_rfl⟩, ⟨⟨Tryz.func49, by kernel_rfl, by kernel_rfl⟩, ⟨⟨Tryz.func48, by kernel_rfl, by kernel_rfl⟩, trivial, trivial⟩, trivial⟩, ⟨⟨Tryz.func51, by kernel_rfl, by kernel_rfl⟩, trivial, trivial⟩⟩⟩, ⟨⟨Tryz.func57, by kernel_rfl, by kernel_rfl⟩, ⟨⟨Tryz.func55, by kernel_rfl, by kernel_rfl⟩, ⟨⟨Tryz.func54, by kernel_rfl, by kernel_rfl⟩, ⟨⟨Tryz.func53, by kernel_rfl, by kernel_rfl⟩, trivial, trivial⟩, trivial⟩, ⟨⟨Tryz.func56, by kernel_rfl, by kernel_rfl⟩, trivial, trivial⟩⟩, ⟨⟨Tryz.func60, by kernel_rfl, by kernel_rfl⟩, ⟨⟨Tryz.func59, by kernel_rfl, by kernel_rfl⟩, ⟨⟨Tryz.func58, by kernel_rfl, by kernel_rfl⟩, trivial, trivial⟩, trivial⟩, ⟨⟨Tryz.func61, by kernel_rfl, by kernel_rfl⟩, trivial, trivial⟩⟩⟩⟩, ⟨⟨Tryz.func72, by kernel_rfl, by kernel_rfl⟩, ⟨⟨Tryz.func67, by kernel_rfl, by kernel_rfl⟩, ⟨⟨Tryz.func65, by kernel_rfl, by kernel_rfl⟩, ⟨⟨Tryz.func64, by kernel_rfl, by kernel_rfl⟩, ⟨⟨Tryz.func63, by kernel_rfl, by kernel_rfl⟩, trivial, trivial⟩, trivial⟩, ⟨⟨Tryz.func66, by kernel_rfl, by kernel_rfl⟩, trivial, trivial⟩⟩, ⟨⟨Tryz.func70, by kernel_rfl, by kernel_rfl⟩, ⟨⟨Tryz.func69, by kernel_rfl, by kernel_rfl⟩, ⟨⟨Tryz.func68, by kernel_rfl, by kernel_rfl⟩, trivial, trivial⟩, trivial⟩, ⟨⟨Tryz.func71, by kernel_rfl, by kernel_rfl⟩, trivial, trivial⟩⟩⟩, ⟨⟨Tryz.func77, by kernel_rfl, by kernel_rfl⟩, ⟨⟨Tryz.func75, by kernel_rfl, by kernel_rfl⟩, ⟨⟨Tryz.func74, by kernel_rfl, by kernel_rfl⟩, ⟨⟨Tryz.func73, by kernel_rfl, by kernel_rfl⟩, trivial, trivial⟩, trivial⟩, ⟨⟨Tryz.func76, by kernel_rfl, by kernel_rfl⟩, trivial, trivial⟩⟩, ⟨⟨Tryz.func79, by kernel_rfl, by kernel_rfl⟩, ⟨⟨Tryz.func78, by kernel_rfl, by kernel_rfl⟩, trivial, trivial⟩, ⟨⟨Tryz.func80, by kernel_rfl, by kernel_rfl⟩, trivial, trivial⟩⟩⟩⟩⟩⟩, ⟨⟨Tryz.func121, by kernel_rfl, by kernel_rfl⟩, ⟨⟨Tryz.func101, by kernel_rfl, by kernel_rfl⟩, ⟨⟨Tryz.func91, by kernel_rfl, by kernel_rfl⟩, ⟨⟨Tryz.func86, by kernel_rfl, by kernel_rfl⟩, ⟨⟨Tryz.func84, by kernel_rfl, by kernel_rfl⟩, ⟨⟨Tryz.func83, by kernel_rfl, by kernel_rfl⟩, ⟨⟨Tryz.func82, by kernel_rfl, by kernel_rfl⟩, trivial, trivial⟩, trivial⟩, ⟨⟨Tryz.func85, by kernel_rfl, by kernel_rfl⟩, trivial, trivial⟩⟩, ⟨⟨Tryz.func89, by kernel_rfl, by kernel_rfl⟩, ⟨⟨Tryz.func88, by kernel_rfl, by kernel_rfl⟩, ⟨⟨Tryz.func87, by kernel_rfl, by kernel_rfl⟩, trivial, trivial⟩, trivial⟩, ⟨⟨Tryz.func90, by kernel_rfl, by kernel_rfl⟩, trivial, trivial⟩⟩⟩, ⟨⟨Tryz.func96, by kernel_rfl, by kernel_rfl⟩, ⟨⟨Tryz.func94, by kernel_rfl, by kernel_rfl⟩, ⟨⟨Tryz.func93, by kernel_rfl, by kernel_rfl⟩, ⟨⟨Tryz.func92, by kernel_rfl, by kernel_rfl⟩, trivial, trivial⟩, trivial⟩, ⟨⟨Tryz.func95, by kernel_rfl, by kernel_rfl⟩, trivial, trivial⟩⟩, ⟨⟨Tryz.func99, by kernel_rfl, by kernel_rfl⟩, ⟨⟨Tryz.func98, by kernel_rfl, by kernel_rfl⟩, ⟨⟨Tryz.func97, by kernel_rfl, by kernel_rfl⟩, trivial, trivial⟩, trivial⟩, ⟨⟨Tryz.func100, by kernel_rfl, by kernel_rfl⟩, trivial, trivial⟩⟩⟩⟩, ⟨⟨Tryz.func111, by kernel_rfl, by kernel_rfl⟩, ⟨⟨Tryz.func106, by kernel_rfl, by kernel_rfl⟩, ⟨⟨Tryz.func104, by kernel_rfl, by kernel_rfl⟩, ⟨⟨Tryz.func103, by kernel_rfl, by kernel_rfl⟩, ⟨⟨Tryz.func102, by kernel_rfl, by kernel_rfl⟩, trivial, trivial⟩, trivial⟩, ⟨⟨Tryz.func105, by kernel_rfl, by kernel_rfl⟩, trivial, trivial⟩⟩, ⟨⟨Tryz.func109, by kernel_rfl, by kernel_rfl⟩, ⟨⟨Tryz.func108, by kernel_rfl, by kernel_rfl⟩, ⟨⟨Tryz.func107, by kernel_rfl, by kernel_rfl⟩, trivial, trivial⟩, trivial⟩, ⟨⟨Tryz.func110, by kernel_rfl, by kernel_rfl⟩, trivial, trivial⟩⟩⟩, ⟨⟨Tryz.func116, by kernel_rfl, by kernel_rfl⟩, ⟨⟨Tryz.func114, by kernel_rfl, by kernel_rfl⟩, ⟨⟨Tryz.func113, by kernel_rfl, by kernel_rfl⟩, ⟨⟨Tryz.func112, by kernel_rfl, by kernel_rfl⟩, trivial, trivial⟩, trivial⟩, ⟨⟨Tryz.func115, by kernel_rfl, by kernel_rfl⟩, trivial, trivial⟩⟩, ⟨⟨Tryz.func119, by kernel_rfl, by kernel_rfl⟩, ⟨⟨Tryz.func118, by kernel_rfl, by kernel_rfl⟩, ⟨⟨Tryz.func117, by kernel_rfl, by kernel_rfl⟩, trivial, trivial⟩, trivial⟩, ⟨⟨Tryz.func120, by kernel_rfl, by kernel_rfl⟩, trivial, trivial⟩⟩⟩⟩⟩, ⟨⟨Tryz.func141, by kernel_rfl, by kernel_rfl⟩, ⟨⟨Tryz.func131, by kernel_rfl, by kernel_rfl⟩, ⟨⟨Tryz.func126, by kernel_rfl, by kernel_rfl⟩, ⟨⟨Tryz.func124, by kernel_rfl, by kernel_rfl⟩, ⟨⟨Tryz.func123, by kernel_rfl, by kernel_rfl⟩, ⟨⟨Tryz.func122, by kernel_rfl, by kernel_rfl⟩, trivial, trivial⟩, trivial⟩, ⟨⟨Tryz.func125, by kernel_rfl, by kernel_rfl⟩, trivial, trivial⟩⟩, ⟨⟨Tryz.func129, by kernel_rfl, by kernel_rfl⟩, ⟨⟨Tryz.func128, by kernel_rfl, by kernel_rfl⟩, ⟨⟨Tryz.func127, by kernel_rfl, by kernel_rfl⟩, trivial, trivial⟩, trivial⟩, ⟨⟨Tryz.func130, by kernel_rfl, by kernel_rfl⟩, trivial, trivial⟩⟩⟩, ⟨⟨Tryz.func136, by kernel_rfl, by kernel_rfl⟩, ⟨⟨Tryz.func134, by kernel_rfl, by kernel_rfl⟩, ⟨⟨Tryz.func133, by kernel_rfl, by kernel_rfl⟩, ⟨⟨Tryz.func132, by kernel_rfl, by kernel_rfl⟩, trivial, trivial⟩, trivial⟩, ⟨⟨Tryz.func135, by kernel_rfl, by kernel_rfl⟩, trivial, trivial⟩⟩, ⟨⟨Tryz.func139, by kernel_rfl, by kernel_rfl⟩, ⟨⟨Tryz.func138, by kernel_rfl, by kernel_rfl⟩, ⟨⟨Tryz.func137, by kernel_rfl, by kernel_rfl⟩, trivial, trivial⟩, trivial⟩, ⟨⟨Tryz.func140, by kernel_rfl, by kernel_rfl⟩, trivial, trivial⟩⟩⟩⟩, ⟨⟨Tryz.func151, by kernel_rfl, by kernel_rfl⟩, ⟨⟨Tryz.func146, by kernel_rfl, by kernel_rfl⟩, ⟨⟨Tryz.func144, by kernel_rfl, by kernel_rfl⟩, ⟨⟨Tryz.func143, by kernel_rfl, by kernel_rfl⟩, ⟨⟨Tryz.func142, by kernel_rfl, by kernel_rfl⟩, trivial, trivial⟩, trivial⟩, ⟨⟨Tryz.func145, by kernel_rfl, by kernel_rfl⟩, trivial, trivial⟩⟩, ⟨⟨Tryz.func149, by kernel_rfl, by kernel_rfl⟩, ⟨⟨Tryz.func148, by kernel_rfl, by kernel_rfl⟩, ⟨⟨Tryz.func147, by kernel_rfl, by kernel_rfl⟩, trivial, trivial⟩, trivial⟩, ⟨⟨Tryz.func150, by kernel_rfl, by kernel_rfl⟩, trivial, trivial⟩⟩⟩, ⟨⟨Tryz.func156, by kernel_rfl, by kernel_rfl⟩, ⟨⟨Tryz.func154, by kernel_rfl, by kernel_rfl⟩, ⟨⟨Tryz.func153, by kernel_rfl, by kernel_rfl⟩, ⟨⟨Tryz.func152, by kernel_rfl, by kernel_rfl⟩, trivial, trivial⟩, trivial⟩, ⟨⟨Tryz.func155, by kernel_rfl, by kernel_rfl⟩, trivial, trivial⟩⟩, ⟨⟨Tryz.func158, by kernel_rfl, by kernel_rfl⟩, ⟨⟨Tryz.func157, by kernel_rfl, by kernel_rfl⟩, trivial, trivial⟩, ⟨⟨Tryz.func159, by kernel_rfl, by kernel_rfl⟩, trivial, trivial⟩⟩⟩⟩⟩⟩⟩
theorem tabF_ : TabF Tryz.prog E := fun f fn h => tabF_of allF_ f fn h
theorem sound_ (k : Nat) : FnOk Tryz.prog E (evalF E P0 k) := eval_sound tabOk_ tabF_ orders_ noPrim k
end Go.Proofs.YtdmdiingedoblaaGreat.Ev
