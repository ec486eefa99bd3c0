/- The seat's types and functions, as the evaluator takes them. No condition. -/
import Derived.Test.YtjmmcnbhnaeieaaEvYb
import Derived.Test.YtjmmcnbhnaeieaaProg
namespace Go.Proofs.Ytjmmcnbhnaeieaa.Ev
open Go Go.Proofs
set_option linter.unusedVariables false
set_option maxRecDepth 100000
def tys : List TI := [⟨.other, [], 0⟩,
  ⟨.other, [], 0⟩,
  ⟨.int .i64, [.int .i64], 8⟩,
  ⟨.int .i64, [.int .i64], 8⟩,
  ⟨.bool, [.bool], 1⟩,
  ⟨.int .u8, [.int .u8], 1⟩,
  ⟨.int .u8, [.int .u8], 1⟩,
  ⟨.struct [(0, 2), (1, 3), (2, 4), (3, 6)], [.int .i64, .int .i64, .bool, .int .u8], 24⟩,
  ⟨.struct [(0, 2), (1, 3), (2, 4), (3, 6)], [.int .i64, .int .i64, .bool, .int .u8], 24⟩,
  ⟨.str, [.str], 16⟩,
  ⟨.str, [.str], 16⟩,
  ⟨.str, [.str], 16⟩,
  ⟨.int .u64, [.int .u64], 8⟩,
  ⟨.struct [(0, 9), (1, 12)], [.str, .int .u64], 24⟩,
  ⟨.struct [(0, 9), (1, 12)], [.str, .int .u64], 24⟩,
  ⟨.ptr 190, [.ptr 190], 8⟩,
  ⟨.ptr 193, [.ptr 193], 8⟩,
  ⟨.ptr 203, [.ptr 203], 8⟩,
  ⟨.struct [(0, 17)], [.ptr 203], 8⟩,
  ⟨.struct [(0, 17)], [.ptr 203], 8⟩,
  ⟨.other, [], 0⟩,
  ⟨.int .i32, [.int .i32], 4⟩,
  ⟨.slice 5, [.row 5], 24⟩,
  ⟨.other, [], 0⟩,
  ⟨.struct [(0, 3), (1, 3)], [.int .i64, .int .i64], 16⟩,
  ⟨.struct [(0, 3), (1, 3)], [.int .i64, .int .i64], 16⟩,
  ⟨.slice 3, [.row 3], 24⟩,
  ⟨.struct [(0, 3), (1, 3), (2, 3), (3, 3), (4, 26)], [.int .i64, .int .i64, .int .i64, .int .i64, .row 3], 56⟩,
  ⟨.struct [(0, 3), (1, 3), (2, 3), (3, 3), (4, 26)], [.int .i64, .int .i64, .int .i64, .int .i64, .row 3], 56⟩,
  ⟨.other, [], 0⟩,
  ⟨.other, [], 0⟩,
  ⟨.other, [], 0⟩,
  ⟨.other, [], 0⟩,
  ⟨.other, [], 0⟩,
  ⟨.other, [], 0⟩,
  ⟨.other, [], 0⟩,
  ⟨.other, [], 0⟩,
  ⟨.slice 51, [.row 51], 24⟩,
  ⟨.other, [], 0⟩,
  ⟨.other, [], 0⟩,
  ⟨.other, [], 0⟩,
  ⟨.other, [], 0⟩,
  ⟨.other, [], 0⟩,
  ⟨.other, [], 0⟩,
  ⟨.other, [], 0⟩,
  ⟨.other, [], 0⟩,
  ⟨.other, [], 0⟩,
  ⟨.other, [], 0⟩,
  ⟨.struct [(0, 3), (1, 3), (2, 26)], [.int .i64, .int .i64, .row 3], 40⟩,
  ⟨.struct [(0, 3), (1, 3), (2, 26)], [.int .i64, .int .i64, .row 3], 40⟩,
  ⟨.struct [(0, 28), (5, 49)], [.int .i64, .int .i64, .int .i64, .int .i64, .row 3, .int .i64, .int .i64, .row 3], 96⟩,
  ⟨.struct [(0, 28), (5, 49)], [.int .i64, .int .i64, .int .i64, .int .i64, .row 3, .int .i64, .int .i64, .row 3], 96⟩,
  ⟨.other, [], 0⟩,
  ⟨.other, [], 0⟩,
  ⟨.other, [], 0⟩,
  ⟨.other, [], 0⟩,
  ⟨.other, [], 0⟩,
  ⟨.other, [], 0⟩,
  ⟨.other, [], 0⟩,
  ⟨.other, [], 0⟩,
  ⟨.other, [], 0⟩,
  ⟨.other, [], 0⟩,
  ⟨.other, [], 0⟩,
  ⟨.other, [], 0⟩,
  ⟨.slice 49, [.row 49], 24⟩,
  ⟨.other, [], 0⟩,
  ⟨.other, [], 0⟩,
  ⟨.slice 28, [.row 28], 24⟩,
  ⟨.other, [], 0⟩,
  ⟨.other, [], 0⟩,
  ⟨.other, [], 0⟩,
  ⟨.slice 120, [.row 120], 24⟩,
  ⟨.slice 140, [.row 140], 24⟩,
  ⟨.struct [(0, 3), (1, 25), (3, 71), (4, 3), (5, 3), (6, 3), (7, 3), (8, 3), (9, 72), (10, 3), (11, 4), (12, 4)], [.int .i64, .int .i64, .int .i64, .row 120, .int .i64, .int .i64, .int .i64, .int .i64, .int .i64, .row 140, .int .i64, .bool, .bool], 128⟩,
  ⟨.struct [(0, 3), (1, 25), (3, 71), (4, 3), (5, 3), (6, 3), (7, 3), (8, 3), (9, 72), (10, 3), (11, 4), (12, 4)], [.int .i64, .int .i64, .int .i64, .row 120, .int .i64, .int .i64, .int .i64, .int .i64, .int .i64, .row 140, .int .i64, .bool, .bool], 128⟩,
  ⟨.slice 132, [.row 132], 24⟩,
  ⟨.struct [(0, 74), (13, 67), (14, 75), (15, 64), (16, 37)], [.int .i64, .int .i64, .int .i64, .row 120, .int .i64, .int .i64, .int .i64, .int .i64, .int .i64, .row 140, .int .i64, .bool, .bool, .row 28, .row 132, .row 49, .row 51], 224⟩,
  ⟨.struct [(0, 74), (13, 67), (14, 75), (15, 64), (16, 37)], [.int .i64, .int .i64, .int .i64, .row 120, .int .i64, .int .i64, .int .i64, .int .i64, .int .i64, .row 140, .int .i64, .bool, .bool, .row 28, .row 132, .row 49, .row 51], 224⟩,
  ⟨.other, [], 0⟩,
  ⟨.other, [], 0⟩,
  ⟨.other, [], 0⟩,
  ⟨.other, [], 0⟩,
  ⟨.other, [], 0⟩,
  ⟨.other, [], 0⟩,
  ⟨.ptr 113, [.ptr 113], 8⟩,
  ⟨.other, [], 0⟩,
  ⟨.other, [], 0⟩,
  ⟨.other, [], 0⟩,
  ⟨.other, [], 0⟩,
  ⟨.other, [], 0⟩,
  ⟨.other, [], 0⟩,
  ⟨.other, [], 0⟩,
  ⟨.other, [], 0⟩,
  ⟨.other, [], 0⟩,
  ⟨.other, [], 0⟩,
  ⟨.other, [], 0⟩,
  ⟨.other, [], 0⟩,
  ⟨.other, [], 0⟩,
  ⟨.other, [], 0⟩,
  ⟨.int .u64, [.int .u64], 8⟩,
  ⟨.other, [], 0⟩,
  ⟨.other, [], 0⟩,
  ⟨.other, [], 0⟩,
  ⟨.other, [], 0⟩,
  ⟨.other, [], 0⟩,
  ⟨.other, [], 0⟩,
  ⟨.other, [], 0⟩,
  ⟨.other, [], 0⟩,
  ⟨.other, [], 0⟩,
  ⟨.other, [], 0⟩,
  ⟨.other, [], 0⟩,
  ⟨.other, [], 0⟩,
  ⟨.struct [(0, 22), (1, 3), (2, 3)], [.row 5, .int .i64, .int .i64], 40⟩,
  ⟨.struct [(0, 22), (1, 3), (2, 3)], [.row 5, .int .i64, .int .i64], 40⟩,
  ⟨.other, [], 0⟩,
  ⟨.other, [], 0⟩,
  ⟨.other, [], 0⟩,
  ⟨.slice 26, [.row 26], 24⟩,
  ⟨.slice 147, [.row 147], 24⟩,
  ⟨.struct [(0, 117), (1, 118), (2, 4), (3, 26)], [.row 26, .row 147, .bool, .row 3], 80⟩,
  ⟨.struct [(0, 117), (1, 118), (2, 4), (3, 26)], [.row 26, .row 147, .bool, .row 3], 80⟩,
  ⟨.other, [], 0⟩,
  ⟨.other, [], 0⟩,
  ⟨.struct [(0, 3), (1, 3), (2, 3), (3, 3), (4, 3), (5, 3), (6, 3), (7, 3)], [.int .i64, .int .i64, .int .i64, .int .i64, .int .i64, .int .i64, .int .i64, .int .i64], 64⟩,
  ⟨.struct [(0, 3), (1, 3), (2, 3), (3, 3), (4, 3), (5, 3), (6, 3), (7, 3)], [.int .i64, .int .i64, .int .i64, .int .i64, .int .i64, .int .i64, .int .i64, .int .i64], 64⟩,
  ⟨.other, [], 0⟩,
  ⟨.other, [], 0⟩,
  ⟨.other, [], 0⟩,
  ⟨.other, [], 0⟩,
  ⟨.other, [], 0⟩,
  ⟨.other, [], 0⟩,
  ⟨.struct [(0, 28), (5, 3), (6, 26), (7, 3)], [.int .i64, .int .i64, .int .i64, .int .i64, .row 3, .int .i64, .row 3, .int .i64], 96⟩,
  ⟨.struct [(0, 28), (5, 3), (6, 26), (7, 3)], [.int .i64, .int .i64, .int .i64, .int .i64, .row 3, .int .i64, .row 3, .int .i64], 96⟩,
  ⟨.other, [], 0⟩,
  ⟨.other, [], 0⟩,
  ⟨.other, [], 0⟩,
  ⟨.other, [], 0⟩,
  ⟨.other, [], 0⟩,
  ⟨.other, [], 0⟩,
  ⟨.struct [(0, 3), (1, 26)], [.int .i64, .row 3], 32⟩,
  ⟨.struct [(0, 3), (1, 26)], [.int .i64, .row 3], 32⟩,
  ⟨.other, [], 0⟩,
  ⟨.other, [], 0⟩,
  ⟨.other, [], 0⟩,
  ⟨.other, [], 0⟩,
  ⟨.other, [], 0⟩,
  ⟨.struct [(0, 3), (1, 26)], [.int .i64, .row 3], 32⟩,
  ⟨.struct [(0, 3), (1, 26)], [.int .i64, .row 3], 32⟩,
  ⟨.other, [], 0⟩,
  ⟨.other, [], 0⟩,
  ⟨.other, [], 0⟩,
  ⟨.other, [], 0⟩,
  ⟨.other, [], 0⟩,
  ⟨.other, [], 0⟩,
  ⟨.other, [], 0⟩,
  ⟨.other, [], 0⟩,
  ⟨.other, [], 0⟩,
  ⟨.other, [], 0⟩,
  ⟨.other, [], 0⟩,
  ⟨.ptr 132, [.ptr 132], 8⟩,
  ⟨.other, [], 0⟩,
  ⟨.other, [], 0⟩,
  ⟨.ptr 77, [.ptr 77], 8⟩,
  ⟨.other, [], 0⟩,
  ⟨.other, [], 0⟩,
  ⟨.other, [], 0⟩,
  ⟨.other, [], 0⟩,
  ⟨.other, [], 0⟩,
  ⟨.other, [], 0⟩,
  ⟨.other, [], 0⟩,
  ⟨.other, [], 0⟩,
  ⟨.other, [], 0⟩,
  ⟨.other, [], 0⟩,
  ⟨.other, [], 0⟩,
  ⟨.other, [], 0⟩,
  ⟨.other, [], 0⟩,
  ⟨.other, [], 0⟩,
  ⟨.other, [], 0⟩,
  ⟨.other, [], 0⟩,
  ⟨.other, [], 0⟩,
  ⟨.ptr 74, [.ptr 74], 8⟩,
  ⟨.other, [], 0⟩,
  ⟨.other, [], 0⟩,
  ⟨.struct [(0, 3), (1, 3), (2, 26)], [.int .i64, .int .i64, .row 3], 40⟩,
  ⟨.struct [(0, 3), (1, 3), (2, 26)], [.int .i64, .int .i64, .row 3], 40⟩,
  ⟨.other, [], 0⟩,
  ⟨.other, [], 0⟩,
  ⟨.other, [], 0⟩,
  ⟨.other, [], 0⟩,
  ⟨.struct [(0, 17), (1, 17), (2, 17), (3, 9)], [.ptr 203, .ptr 203, .ptr 203, .str], 40⟩,
  ⟨.struct [(0, 17), (1, 17), (2, 17), (3, 9)], [.ptr 203, .ptr 203, .ptr 203, .str], 40⟩,
  ⟨.other, [], 0⟩,
  ⟨.other, [], 0⟩,
  ⟨.other, [], 0⟩,
  ⟨.other, [], 0⟩,
  ⟨.int .u32, [.int .u32], 4⟩,
  ⟨.int .u8, [.int .u8], 1⟩,
  ⟨.int .u8, [.int .u8], 1⟩,
  ⟨.other, [], 0⟩,
  ⟨.ptr 5, [.ptr 5], 8⟩,
  ⟨.int .i32, [.int .i32], 4⟩,
  ⟨.int .i32, [.int .i32], 4⟩,
  ⟨.other, [], 0⟩,
  ⟨.other, [], 0⟩,
  ⟨.other, [], 0⟩]
namespace N
abbrev laws_FnCmdsBent : Nat := 3
abbrev laws_FnModel : Nat := 5
abbrev laws_big : Nat := 8
abbrev spec_DrawCmdCode : Nat := 9
abbrev impl_SpanOf : Nat := 10
abbrev spec_SpanOf : Nat := 11
abbrev spec_DrawClash : Nat := 12
abbrev spec_DrawStepsOf : Nat := 13
abbrev impl_CmdCode : Nat := 14
abbrev spec_CmdCode : Nat := 15
abbrev impl_Clash : Nat := 16
abbrev spec_Clash : Nat := 17
abbrev impl_StepsOf : Nat := 18
abbrev spec_StepsOf : Nat := 19
abbrev impl_SureOf : Nat := 21
abbrev spec_DrawWrites : Nat := 23
abbrev spec_SureOf : Nat := 24
abbrev impl_MayBe : Nat := 25
abbrev spec_MayBe : Nat := 26
abbrev impl_Writes : Nat := 27
abbrev spec_Writes : Nat := 28
abbrev impl_WordOf : Nat := 29
abbrev spec_WordOf : Nat := 30
abbrev spec_DrawDoCmd : Nat := 31
abbrev impl_DoCmd : Nat := 32
abbrev spec_DoCmd : Nat := 33
abbrev laws_sameInts : Nat := 34
abbrev laws_sameAns : Nat := 35
abbrev impl_Follows : Nat := 37
abbrev impl_After : Nat := 38
abbrev spec_DrawSameAns : Nat := 39
abbrev impl_DoCmds : Nat := 40
abbrev impl_CmdsOf : Nat := 41
abbrev spec_Follows : Nat := 42
abbrev spec_After : Nat := 43
abbrev impl_SameAns : Nat := 44
abbrev laws_sameAnss : Nat := 45
abbrev impl_AnsOf : Nat := 46
abbrev laws_at : Nat := 48
abbrev impl_Submit : Nat := 49
abbrev impl_GetBlock : Nat := 51
abbrev spec_l1New : Nat := 52
abbrev spec_l3Any : Nat := 53
abbrev spec_l13Any : Nat := 54
abbrev impl_Blocks : Nat := 55
abbrev impl_runOf : Nat := 56
abbrev spec_Blocks : Nat := 57
abbrev spec_l13Len : Nat := 58
abbrev impl_GeoOk : Nat := 59
abbrev impl_within : Nat := 60
abbrev impl_sizeOk : Nat := 61
abbrev spec_GeoOk : Nat := 62
abbrev spec_l1In : Nat := 63
abbrev spec_l13Size : Nat := 64
abbrev impl_stripesOf : Nat := 65
abbrev spec_StripeOf : Nat := 66
abbrev spec_l1Below : Nat := 68
abbrev spec_l1Once : Nat := 69
abbrev spec_l3Geo : Nat := 70
abbrev spec_l1Int : Nat := 71
abbrev spec_l19Flushed : Nat := 72
abbrev spec_l14Blocks : Nat := 73
abbrev impl_copyInts : Nat := 74
abbrev spec_l14Do : Nat := 75
abbrev slices_EqualFunc_impl_Ans_impl_Ans_impl_Ans_impl_Ans : Nat := 76
abbrev spec_l1Sec : Nat := 77
abbrev spec_l15Ans : Nat := 78
abbrev impl_copyCmd : Nat := 79
abbrev spec_DoCmds : Nat := 80
abbrev spec_CmdsOf : Nat := 81
abbrev spec_SameAns : Nat := 82
abbrev slices_Equal_int_int : Nat := 83
abbrev impl_copyAns : Nat := 84
abbrev impl_copyEng : Nat := 86
abbrev impl_EngOk : Nat := 87
abbrev impl_blockCode : Nat := 89
abbrev impl_dataNow : Nat := 90
abbrev impl_StripeOf : Nat := 91
abbrev impl_IndexOf : Nat := 92
abbrev spec_l13Draw : Nat := 93
abbrev impl_wordsOk : Nat := 94
abbrev spec_l1Words : Nat := 95
abbrev spec_l6Geo : Nat := 96
abbrev spec_l7Some : Nat := 97
abbrev spec_l1Byte : Nat := 98
abbrev spec_l1Any : Nat := 99
abbrev spec_l1Draw : Nat := 100
abbrev spec_l13Copy : Nat := 101
abbrev spec_SameSec : Nat := 102
abbrev impl_MemNew : Nat := 104
abbrev impl_sectors : Nat := 105
abbrev impl_superOf : Nat := 106
abbrev impl_DataAt : Nat := 108
abbrev impl_FlushMem : Nat := 109
abbrev impl_copyArr : Nat := 110
abbrev impl_jobOk : Nat := 111
abbrev impl_ArrOk : Nat := 112
abbrev impl_Apart : Nat := 113
abbrev impl_FirstReady : Nat := 114
abbrev impl_hasBlock : Nat := 117
abbrev impl_entOf : Nat := 118
abbrev impl_DataOf : Nat := 119
abbrev impl_isWord : Nat := 120
abbrev spec_l1Word : Nat := 121
abbrev impl_SuperOk : Nat := 122
abbrev impl_copyMem : Nat := 123
abbrev impl_PutSuper : Nat := 124
abbrev impl_MemOk : Nat := 125
abbrev impl_hasSec : Nat := 126
abbrev impl_SecOk : Nat := 127
abbrev impl_WriteSec_1 : Nat := 129
abbrev impl_copyMems : Nat := 130
abbrev impl_lostOk : Nat := 131
abbrev impl_dirtyOk : Nat := 132
abbrev impl_CanBegin : Nat := 133
abbrev impl_Eng_answer : Nat := 136
abbrev slices_IndexFunc_impl_Ent_impl_Ent : Nat := 137
abbrev impl_entOf_1 : Nat := 138
abbrev impl_Words : Nat := 139
abbrev impl_DiskOf : Nat := 140
abbrev slices_IndexFunc_int_int : Nat := 141
abbrev impl_hasStripe : Nat := 142
abbrev impl_dataOk : Nat := 143
abbrev impl_wordAt : Nat := 146
abbrev impl_MissingWord : Nat := 147
abbrev impl_ParityOf : Nat := 148
abbrev impl_ReadSec : Nat := 151
abbrev impl_LiveAt : Nat := 152
abbrev impl_XorOf : Nat := 153
abbrev slices_Contains_int_int : Nat := 157
abbrev impl_goodOr : Nat := 161
abbrev slices_Index_int_int : Nat := 162
abbrev slices_Reverse_impl_Ent_impl_Ent : Nat := 167
abbrev impl_SlotOf : Nat := 171
abbrev impl_PutRec : Nat := 172
abbrev impl_ParityWord : Nat := 173
abbrev impl_Arr_op : Nat := 174
abbrev impl_RecOk : Nat := 175
end N
namespace TN
abbrev Int64 : Nat := 2
abbrev Int : Nat := 3
abbrev Bool : Nat := 4
abbrev Uint8 : Nat := 5
abbrev String : Nat := 9
abbrev Uintptr : Nat := 12
abbrev Int32 : Nat := 21
abbrev Uint8S : Nat := 22
abbrev impl_Geo : Nat := 25
abbrev IntS : Nat := 26
abbrev impl_Cmd : Nat := 28
abbrev impl_TurnS : Nat := 37
abbrev impl_Ans : Nat := 49
abbrev impl_Turn : Nat := 51
abbrev impl_AnsS : Nat := 64
abbrev impl_CmdS : Nat := 67
abbrev impl_MemS : Nat := 71
abbrev impl_EntS : Nat := 72
abbrev impl_Arr : Nat := 74
abbrev impl_JobS : Nat := 75
abbrev impl_Eng : Nat := 77
abbrev Uint : Nat := 99
abbrev spec_l1Cur : Nat := 113
abbrev IntSS : Nat := 117
abbrev impl_WrS : Nat := 118
abbrev impl_Mem : Nat := 120
abbrev impl_Super : Nat := 124
abbrev impl_Job : Nat := 132
abbrev impl_Ent : Nat := 140
abbrev impl_Wr : Nat := 147
abbrev impl_Rec : Nat := 184
abbrev Uint32 : Nat := 195
end TN
noncomputable def fnTab : Tr Func := (.node (.node (.node (.node (.node (.node (.node (.node .nil 3 Try.f3 .nil) 5 Try.f5 .nil) 8 Try.f8 (.node .nil 9 Try.f9 .nil)) 10 Try.f10 (.node (.node .nil 11 Try.f11 .nil) 12 Try.f12 (.node .nil 13 Try.f13 .nil))) 14 Try.f14 (.node (.node (.node (.node .nil 15 Try.f15 .nil) 16 Try.f16 .nil) 17 Try.f17 (.node .nil 18 Try.f18 .nil)) 19 Try.f19 (.node (.node .nil 21 Try.f21 .nil) 23 Try.f23 (.node .nil 24 Try.f24 .nil)))) 25 Try.f25 (.node (.node (.node (.node (.node .nil 26 Try.f26 .nil) 27 Try.f27 .nil) 28 Try.f28 (.node .nil 29 Try.f29 .nil)) 30 Try.f30 (.node (.node .nil 31 Try.f31 .nil) 32 Try.f32 (.node .nil 33 Try.f33 .nil))) 34 Try.f34 (.node (.node (.node .nil 35 Try.f35 .nil) 37 Try.f37 (.node .nil 38 Try.f38 .nil)) 39 Try.f39 (.node (.node .nil 40 Try.f40 .nil) 41 Try.f41 (.node .nil 42 Try.f42 .nil))))) 43 Try.f43 (.node (.node (.node (.node (.node (.node .nil 44 Try.f44 .nil) 45 Try.f45 .nil) 46 Try.f46 (.node .nil 48 Try.f48 .nil)) 49 Try.f49 (.node (.node .nil 51 Try.f51 .nil) 52 Try.f52 (.node .nil 53 Try.f53 .nil))) 54 Try.f54 (.node (.node (.node (.node .nil 55 Try.f55 .nil) 56 Try.f56 .nil) 57 Try.f57 (.node .nil 58 Try.f58 .nil)) 59 Try.f59 (.node (.node .nil 60 Try.f60 .nil) 61 Try.f61 (.node .nil 62 Try.f62 .nil)))) 63 Try.f63 (.node (.node (.node (.node (.node .nil 64 Try.f64 .nil) 65 Try.f65 .nil) 66 Try.f66 (.node .nil 68 Try.f68 .nil)) 69 Try.f69 (.node (.node .nil 70 Try.f70 .nil) 71 Try.f71 (.node .nil 72 Try.f72 .nil))) 73 Try.f73 (.node (.node (.node .nil 74 Try.f74 .nil) 75 Try.f75 (.node .nil 76 Try.f76 .nil)) 77 Try.f77 (.node (.node .nil 78 Try.f78 .nil) 79 Try.f79 (.node .nil 80 Try.f80 .nil)))))) 81 Try.f81 (.node (.node (.node (.node (.node (.node (.node .nil 82 Try.f82 .nil) 83 Try.f83 .nil) 84 Try.f84 (.node .nil 86 Try.f86 .nil)) 87 Try.f87 (.node (.node .nil 89 Try.f89 .nil) 90 Try.f90 (.node .nil 91 Try.f91 .nil))) 92 Try.f92 (.node (.node (.node (.node .nil 93 Try.f93 .nil) 94 Try.f94 .nil) 95 Try.f95 (.node .nil 96 Try.f96 .nil)) 97 Try.f97 (.node (.node .nil 98 Try.f98 .nil) 99 Try.f99 (.node .nil 100 Try.f100 .nil)))) 101 Try.f101 (.node (.node (.node (.node (.node .nil 102 Try.f102 .nil) 104 Try.f104 .nil) 105 Try.f105 (.node .nil 106 Try.f106 .nil)) 108 Try.f108 (.node (.node .nil 109 Try.f109 .nil) 110 Try.f110 (.node .nil 111 Try.f111 .nil))) 112 Try.f112 (.node (.node (.node .nil 113 Try.f113 .nil) 114 Try.f114 (.node .nil 117 Try.f117 .nil)) 118 Try.f118 (.node (.node .nil 119 Try.f119 .nil) 120 Try.f120 (.node .nil 121 Try.f121 .nil))))) 122 Try.f122 (.node (.node (.node (.node (.node (.node .nil 123 Try.f123 .nil) 124 Try.f124 .nil) 125 Try.f125 (.node .nil 126 Try.f126 .nil)) 127 Try.f127 (.node (.node .nil 129 Try.f129 .nil) 130 Try.f130 (.node .nil 131 Try.f131 .nil))) 132 Try.f132 (.node (.node (.node .nil 133 Try.f133 .nil) 136 Try.f136 (.node .nil 137 Try.f137 .nil)) 138 Try.f138 (.node (.node .nil 139 Try.f139 .nil) 140 Try.f140 (.node .nil 141 Try.f141 .nil)))) 142 Try.f142 (.node (.node (.node (.node (.node .nil 143 Try.f143 .nil) 146 Try.f146 .nil) 147 Try.f147 (.node .nil 148 Try.f148 .nil)) 151 Try.f151 (.node (.node .nil 152 Try.f152 .nil) 153 Try.f153 (.node .nil 157 Try.f157 .nil))) 161 Try.f161 (.node (.node (.node .nil 162 Try.f162 .nil) 167 Try.f167 (.node .nil 171 Try.f171 .nil)) 172 Try.f172 (.node (.node .nil 173 Try.f173 .nil) 174 Try.f174 (.node .nil 175 Try.f175 .nil)))))))
def sigTab : Tr Sig := (.node (.node (.node (.node (.node (.node .nil 9 ⟨[], [false, false, false, false, false, false, true], []⟩ .nil) 12 ⟨[], [false, false, false, false, false, false, true, false, false, false, false, true], []⟩ .nil) 13 ⟨[], [false, false, false, false, false, false, true], []⟩ (.node (.node .nil 23 ⟨[], [false, false, false, false, true, false], []⟩ .nil) 31 ⟨[], [false, false, true, false, false, false, false, true], []⟩ .nil)) 32 ⟨[], [true, false, false, true], []⟩ (.node (.node (.node .nil 33 ⟨[], [true, false, false, true], []⟩ .nil) 38 ⟨[], [true], []⟩ .nil) 39 ⟨[], [false, false, true, false, false, true], []⟩ (.node (.node .nil 40 ⟨[], [true, true], []⟩ .nil) 41 ⟨[], [true], []⟩ .nil))) 43 ⟨[], [true], []⟩ (.node (.node (.node (.node .nil 46 ⟨[], [true], []⟩ .nil) 49 ⟨[], [false, false, false, true, false, false, false, false, false, true, false, false, false, true, true, true, true, false], []⟩ .nil) 52 ⟨[], [true], []⟩ (.node (.node .nil 54 ⟨[], [false, false, false, false, true], []⟩ .nil) 73 ⟨[], [true], []⟩ .nil)) 74 ⟨[], [true], []⟩ (.node (.node (.node .nil 75 ⟨[[false, true], [false, false, false, false, false]], [false, false, true], []⟩ .nil) 77 ⟨[], [true], []⟩ .nil) 78 ⟨[], [false, false, true], []⟩ (.node .nil 79 ⟨[], [false, false, false, false, true], []⟩ .nil)))) 80 ⟨[], [true, true], []⟩ (.node (.node (.node (.node (.node .nil 81 ⟨[], [true], []⟩ .nil) 84 ⟨[], [false, false, true], []⟩ .nil) 86 ⟨[], [false, false, false, true, false, false, false, false, false, true, false, false, false, true, true, true, true], []⟩ (.node (.node .nil 90 ⟨[], [true, false], []⟩ .nil) 93 ⟨[], [false, false, false, false, true], []⟩ .nil)) 97 ⟨[], [true], []⟩ (.node (.node (.node .nil 99 ⟨[], [true], []⟩ .nil) 101 ⟨[], [false, false, false, false, true], []⟩ .nil) 104 ⟨[], [true, true, false, true], []⟩ (.node (.node .nil 109 ⟨[], [true, true, false, true], []⟩ .nil) 110 ⟨[], [false, false, false, true, false, false, false, false, false, true, false, false, false], []⟩ .nil))) 119 ⟨[], [true, false], []⟩ (.node (.node (.node (.node .nil 123 ⟨[], [true, true, false, true], []⟩ .nil) 124 ⟨[], [true], []⟩ .nil) 129 ⟨[], [], [3]⟩ (.node (.node .nil 130 ⟨[], [true], []⟩ .nil) 136 ⟨[[false, false, false, true, false, false, false, false, false, true, false, false, false, true, true, true, true], [false, false, false, false, false], [false, false, false]], [], []⟩ .nil)) 138 ⟨[], [], [3]⟩ (.node (.node (.node .nil 139 ⟨[], [true, false], []⟩ .nil) 151 ⟨[], [true, false], []⟩ .nil) 167 ⟨[[false, true]], [], []⟩ (.node .nil 172 ⟨[], [true], []⟩ .nil)))))
noncomputable def E : Env := ⟨tys, fnTab.get, sigOf sigTab⟩
def P0 : FuncId → Option (List Arg → Option Outs) := fun _ => none
theorem tabOk_ : tabOk Try.prog E = true := by kernel_rfl
theorem orders_ : Try.prog.follows .mixedOrders = true := by kernel_rfl
theorem allF_ : AllF Try.prog fnTab := ⟨⟨Try.func81, by kernel_rfl, by kernel_rfl⟩, ⟨⟨Try.func43, by kernel_rfl, by kernel_rfl⟩, ⟨⟨Try.func25, by kernel_rfl, by kernel_rfl⟩, ⟨⟨Try.func14, by kernel_rfl, by kernel_rfl⟩, ⟨⟨Try.func10, by kernel_rfl, by kernel_rfl⟩, ⟨⟨Try.func8, by kernel_rfl, by kernel_rfl⟩, ⟨⟨Try.func5, by kernel_rfl, by kernel_rfl⟩, ⟨⟨Try.func3, by kernel_rfl, by kernel_rfl⟩, trivial, trivial⟩, trivial⟩, ⟨⟨Try.func9, by kernel_rfl, by kernel_rfl⟩, trivial, trivial⟩⟩, ⟨⟨Try.func12, by kernel_rfl, by kernel_rfl⟩, ⟨⟨Try.func11, by kernel_rfl, by kernel_rfl⟩, trivial, trivial⟩, ⟨⟨Try.func13, by kernel_rfl, by kernel_rfl⟩, trivial, trivial⟩⟩⟩, ⟨⟨Try.func19, by kernel_rfl, by kernel_rfl⟩, ⟨⟨Try.func17, by kernel_rfl, by kernel_rfl⟩, ⟨⟨Try.func16, by kernel_rfl, by kernel_rfl⟩, ⟨⟨Try.func15, by kernel_rfl, by kernel_rfl⟩, trivial, trivial⟩, trivial⟩, ⟨⟨Try.func18, by kernel_rfl, by kernel_rfl⟩, trivial, trivial⟩⟩, ⟨⟨Try.func23, by kernel_rfl, by kernel_rfl⟩, ⟨⟨Try.func21, by kernel_rfl, by kernel_rfl⟩, trivial, trivial⟩, ⟨⟨Try.func24, by kernel_rfl, by kernel_rfl⟩, trivial, trivial⟩⟩⟩⟩, ⟨⟨Try.func34, by kernel_rfl, by kernel_rfl⟩, ⟨⟨Try.func30, by kernel_rfl, by kernel_rfl⟩, ⟨⟨Try.func28, by kernel_rfl, by kernel_rfl⟩, ⟨⟨Try.func27, by kernel_rfl, by kernel_rfl⟩, ⟨⟨Try.func26, by kernel_rfl, by kernel_rfl⟩, trivial, trivial⟩, trivial⟩, ⟨⟨Try.func29, by kernel_rfl, by kernel_rfl⟩, trivial, trivial⟩⟩, ⟨⟨Try.func32, by kernel_rfl, by kernel_rfl⟩, ⟨⟨Try.func31, by kernel_rfl, by kernel_rfl⟩, trivial, trivial⟩, ⟨⟨Try.func33, by kernel_rfl, by kernel_rfl⟩, trivial, trivial⟩⟩⟩, ⟨⟨Try.func39, by kernel_rfl, by kernel_rfl⟩, ⟨⟨Try.func37, by kernel_rfl, by kernel_rfl⟩, ⟨⟨Try.func35, by kernel_rfl, by kernel_rfl⟩, trivial, trivial⟩, ⟨⟨Try.func38, by kernel_rfl, by kernel_rfl⟩, trivial, trivial⟩⟩, ⟨⟨Try.func41, by kernel_rfl, by kernel_rfl⟩, ⟨⟨Try.func40, by kernel_rfl, by kernel_rfl⟩, trivial, trivial⟩, ⟨⟨Try.func42, by kernel_rfl, by kernel_rfl⟩, trivial, trivial⟩⟩⟩⟩⟩, ⟨⟨Try.func63, by kernel_rfl, by kernel_rfl⟩, ⟨⟨Try.func54, by kernel_rfl, by kernel_rfl⟩, ⟨⟨Try.func49, by kernel_rfl, by kernel_rfl⟩, ⟨⟨Try.func46, by kernel_rfl, by kernel_rfl⟩, ⟨⟨Try.func45, by kernel_rfl, by kernel_rfl⟩, ⟨⟨Try.func44, by kernel_rfl, by kernel_rfl⟩, trivial, trivial⟩, trivial⟩, ⟨⟨Try.func48, by kernel_rfl, by kernel_rfl⟩, trivial, trivial⟩⟩, ⟨⟨Try.func52, by kernel_rfl, by kernel_rfl⟩, ⟨⟨Try.func51, by kernel_rfl, by kernel_rfl⟩, trivial, trivial⟩, ⟨⟨Try.func53, by kernel_rfl, by kernel_rfl⟩, trivial, trivial⟩⟩⟩, ⟨⟨Try.func59, by kernel_rfl, by kernel_rfl⟩, ⟨⟨Try.func57, by kernel_rfl, by kernel_rfl⟩, ⟨⟨Try.func56, by kernel_rfl, by kernel_rfl⟩, ⟨⟨Try.func55, by kernel_rfl, by kernel_rfl⟩, trivial, trivial⟩, trivial⟩, ⟨⟨Try.func58, by kernel_rfl, by kernel_rfl⟩, trivial, trivial⟩⟩, ⟨⟨Try.func61, by kernel_rfl, by kernel_rfl⟩, ⟨⟨Try.func60, by kernel_rfl, by kernel_rfl⟩, trivial, trivial⟩, ⟨⟨Try.func62, by kernel_rfl, by kernel_rfl⟩, trivial, trivial⟩⟩⟩⟩, ⟨⟨Try.func73, by kernel_rfl, by kernel_rfl⟩, ⟨⟨Try.func69, by kernel_rfl, by kernel_rfl⟩, ⟨⟨Try.func66, by kernel_rfl, by kernel_rfl⟩, ⟨⟨Try.func65, by kernel_rfl, by kernel_rfl⟩, ⟨⟨Try.func64, by kernel_rfl, by kernel_rfl⟩, trivial, trivial⟩, trivial⟩, ⟨⟨Try.func68, by kernel_rfl, by kernel_rfl⟩, trivial, trivial⟩⟩, ⟨⟨Try.func71, by kernel_rfl, by kernel_rfl⟩, ⟨⟨Try.func70, by kernel_rfl, by kernel_rfl⟩, trivial, trivial⟩, ⟨⟨Try.func72, by kernel_rfl, by kernel_rfl⟩, trivial, trivial⟩⟩⟩, ⟨⟨Try.func77, by kernel_rfl, by kernel_rfl⟩, ⟨⟨Try.func75, by kernel_rfl, by kernel_rfl⟩, ⟨⟨Try.func74, by kernel_rfl, by kernel_rfl⟩, trivial, trivial⟩, ⟨⟨Try.func76, by kernel_rfl, by kernel_rfl⟩, trivial, trivial⟩⟩, ⟨⟨Try.func79, by kernel_rfl, by kernel_rfl⟩, ⟨⟨Try.func78, by kernel_rfl, by kernel_rfl⟩, trivial, trivial⟩, ⟨⟨Try.func80, by kernel_rfl, by kernel_rfl⟩, trivial, trivial⟩⟩⟩⟩⟩⟩, ⟨⟨Try.func122, by kernel_rfl, by kernel_rfl⟩, ⟨⟨Try.func101, by kernel_rfl, by kernel_rfl⟩, ⟨⟨Try.func92, by kernel_rfl, by kernel_rfl⟩, ⟨⟨Try.func87, by kernel_rfl, by kernel_rfl⟩, ⟨⟨Try.func84, by kernel_rfl, by kernel_rfl⟩, ⟨⟨Try.func83, by kernel_rfl, by kernel_rfl⟩, ⟨⟨Try.func82, by kernel_rfl, by kernel_rfl⟩, trivial, trivial⟩, trivial⟩, ⟨⟨Try.func86, by kernel_rfl, by kernel_rfl⟩, trivial, trivial⟩⟩, ⟨⟨Try.func90, by kernel_rfl, by kernel_rfl⟩, ⟨⟨Try.func89, by kernel_rfl, by kernel_rfl⟩, trivial, trivial⟩, ⟨⟨Try.func91, by kernel_rfl, by kernel_rfl⟩, trivial, trivial⟩⟩⟩, ⟨⟨Try.func97, by kernel_rfl, by kernel_rfl⟩, ⟨⟨Try.func95, by kernel_rfl, by kernel_rfl⟩, ⟨⟨Try.func94, by kernel_rfl, by kernel_rfl⟩, ⟨⟨Try.func93, by kernel_rfl, by kernel_rfl⟩, trivial, trivial⟩, trivial⟩, ⟨⟨Try.func96, by kernel_rfl, by kernel_rfl⟩, trivial, trivial⟩⟩, ⟨⟨Try.func99, by kernel_rfl, by kernel_rfl⟩, ⟨⟨Try.func98, by kernel_rfl, by kernel_rfl⟩, trivial, trivial⟩, ⟨⟨Try.func100, by kernel_rfl, by kernel_rfl⟩, trivial, trivial⟩⟩⟩⟩, ⟨⟨Try.func112, by kernel_rfl, by kernel_rfl⟩, ⟨⟨Try.func108, by kernel_rfl, by kernel_rfl⟩, ⟨⟨Try.func105, by kernel_rfl, by kernel_rfl⟩, ⟨⟨Try.func104, by kernel_rfl, by kernel_rfl⟩, ⟨⟨Try.func102, by kernel_rfl, by kernel_rfl⟩, trivial, trivial⟩, trivial⟩, ⟨⟨Try.func106, by kernel_rfl, by kernel_rfl⟩, trivial, trivial⟩⟩, ⟨⟨Try.func110, by kernel_rfl, by kernel_rfl⟩, ⟨⟨Try.func109, by kernel_rfl, by kernel_rfl⟩, trivial, trivial⟩, ⟨⟨Try.func111, by kernel_rfl, by kernel_rfl⟩, trivial, trivial⟩⟩⟩, ⟨⟨Try.func118, by kernel_rfl, by kernel_rfl⟩, ⟨⟨Try.func114, by kernel_rfl, by kernel_rfl⟩, ⟨⟨Try.func113, by kernel_rfl, by kernel_rfl⟩, trivial, trivial⟩, ⟨⟨Try.func117, by kernel_rfl, by kernel_rfl⟩, trivial, trivial⟩⟩, ⟨⟨Try.func120, by kernel_rfl, by kernel_rfl⟩, ⟨⟨Try.func119, by kernel_rfl, by kernel_rfl⟩, trivial, trivial⟩, ⟨⟨Try.func121, by kernel_rfl, by kernel_rfl⟩, trivial, trivial⟩⟩⟩⟩⟩, ⟨⟨Try.func142, by kernel_rfl, by kernel_rfl⟩, ⟨⟨Try.func132, by kernel_rfl, by kernel_rfl⟩, ⟨⟨Try.func127, by kernel_rfl, by kernel_rfl⟩, ⟨⟨Try.func125, by kernel_rfl, by kernel_rfl⟩, ⟨⟨Try.func124, by kernel_rfl, by kernel_rfl⟩, ⟨⟨Try.func123, by kernel_rfl, by kernel_rfl⟩, trivial, trivial⟩, trivial⟩, ⟨⟨Try.func126, by kernel_rfl, by kernel_rfl⟩, trivial, trivial⟩⟩, ⟨⟨Try.func130, by kernel_rfl, by kernel_rfl⟩, ⟨⟨Try.func129, by kernel_rfl, by kernel_rfl⟩, trivial, trivial⟩, ⟨⟨Try.func131, by kernel_rfl, by kernel_rfl⟩, trivial, trivial⟩⟩⟩, ⟨⟨Try.func138, by kernel_rfl, by kernel_rfl⟩, ⟨⟨Try.func136, by kernel_rfl, by kernel_rfl⟩, ⟨⟨Try.func133, by kernel_rfl, by kernel_rfl⟩, trivial, trivial⟩, ⟨⟨Try.func137, by kernel_rfl, by kernel_rfl⟩, trivial, trivial⟩⟩, ⟨⟨Try.func140, by kernel_rfl, by kernel_rfl⟩, ⟨⟨Try.func139, by kernel_rfl, by kernel_rfl⟩, trivial, trivial⟩, ⟨⟨Try.func141, by kernel_rfl, by kernel_rfl⟩, trivial, trivial⟩⟩⟩⟩, ⟨⟨Try.func161, by kernel_rfl, by kernel_rfl⟩, ⟨⟨Try.func151, by kernel_rfl, by kernel_rfl⟩, ⟨⟨Try.func147, by kernel_rfl, by kernel_rfl⟩, ⟨⟨Try.func146, by kernel_rfl, by kernel_rfl⟩, ⟨⟨Try.func143, by kernel_rfl, by kernel_rfl⟩, trivial, trivial⟩, trivial⟩, ⟨⟨Try.func148, by kernel_rfl, by kernel_rfl⟩, trivial, trivial⟩⟩, ⟨⟨Try.func153, by kernel_rfl, by kernel_rfl⟩, ⟨⟨Try.func152, by kernel_rfl, by kernel_rfl⟩, trivial, trivial⟩, ⟨⟨Try.func157, by kernel_rfl, by kernel_rfl⟩, trivial, trivial⟩⟩⟩, ⟨⟨Try.func172, by kernel_rfl, by kernel_rfl⟩, ⟨⟨Try.func167, by kernel_rfl, by kernel_rfl⟩, ⟨⟨Try.func162, by kernel_rfl, by kernel_rfl⟩, trivial, trivial⟩, ⟨⟨Try.func171, by kernel_rfl, by kernel_rfl⟩, trivial, trivial⟩⟩, ⟨⟨Try.func174, by kernel_rfl, by kernel_rfl⟩, ⟨⟨Try.func173, by kernel_rfl, by kernel_rfl⟩, trivial, trivial⟩, ⟨⟨Try.func175, by kernel_rfl, by kernel_rfl⟩, trivial, trivial⟩⟩⟩⟩⟩⟩⟩
theorem tabF_ : TabF Try.prog E := fun f fn h => tabF_of allF_ f fn h
theorem sound_ (k : Nat) : FnOk Try.prog E (evalF E P0 k) := eval_sound tabOk_ tabF_ orders_ noPrim k
end Go.Proofs.Ytjmmcnbhnaeieaa.Ev
