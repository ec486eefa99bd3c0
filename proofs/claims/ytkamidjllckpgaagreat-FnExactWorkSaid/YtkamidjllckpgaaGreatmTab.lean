/- The seat's types and functions, as the evaluator takes them. No condition. -/
import Derived.Test.YtkamidjllckpgaaGreatmEvYb
import Derived.Test.YtkamidjllckpgaaGreatProg
namespace Go.Proofs.YtkamidjllckpgaaGreat.Ev
open Go Go.Proofs
set_option linter.unusedVariables false
set_option maxRecDepth 100000
def tys:List TI:=[⟨.other,[],0⟩,
 ⟨.other,[],0⟩,
 ⟨.int .i64,[.int .i64],8⟩,
 ⟨.int .i64,[.int .i64],8⟩,
 ⟨.bool,[.bool],1⟩,
 ⟨.int .u8,[.int .u8],1⟩,
 ⟨.int .u8,[.int .u8],1⟩,
 ⟨.struct [(0,2),(1,3),(2,4),(3,6)],[.int .i64,.int .i64,.bool,.int .u8],24⟩,
 ⟨.struct [(0,2),(1,3),(2,4),(3,6)],[.int .i64,.int .i64,.bool,.int .u8],24⟩,
 ⟨.str,[.str],16⟩,
 ⟨.str,[.str],16⟩,
 ⟨.str,[.str],16⟩,
 ⟨.int .u64,[.int .u64],8⟩,
 ⟨.struct [(0,9),(1,12)],[.str,.int .u64],24⟩,
 ⟨.struct [(0,9),(1,12)],[.str,.int .u64],24⟩,
 ⟨.ptr 229,[.ptr 229],8⟩,
 ⟨.ptr 232,[.ptr 232],8⟩,
 ⟨.ptr 242,[.ptr 242],8⟩,
 ⟨.struct [(0,17)],[.ptr 242],8⟩,
 ⟨.struct [(0,17)],[.ptr 242],8⟩,
 ⟨.other,[],0⟩,
 ⟨.int .i32,[.int .i32],4⟩,
 ⟨.struct [(0,3),(1,3)],[.int .i64,.int .i64],16⟩,
 ⟨.struct [(0,3),(1,3)],[.int .i64,.int .i64],16⟩,
 ⟨.slice 141,[.row 141],24⟩,
 ⟨.slice 144,[.row 144],24⟩,
 ⟨.struct [(0,3),(1,23),(3,24),(4,3),(5,3),(6,3),(7,3),(8,3),(9,25),(10,3),(11,4),(12,4)],[.int .i64,.int .i64,.int .i64,.row 141,.int .i64,.int .i64,.int .i64,.int .i64,.int .i64,.row 144,.int .i64,.bool,.bool],128⟩,
 ⟨.struct [(0,3),(1,23),(3,24),(4,3),(5,3),(6,3),(7,3),(8,3),(9,25),(10,3),(11,4),(12,4)],[.int .i64,.int .i64,.int .i64,.row 141,.int .i64,.int .i64,.int .i64,.int .i64,.int .i64,.row 144,.int .i64,.bool,.bool],128⟩,
 ⟨.slice 93,[.row 93],24⟩,
 ⟨.slice 96,[.row 96],24⟩,
 ⟨.slice 98,[.row 98],24⟩,
 ⟨.slice 101,[.row 101],24⟩,
 ⟨.struct [(0,27),(13,28),(14,29),(15,30),(16,31)],[.int .i64,.int .i64,.int .i64,.row 141,.int .i64,.int .i64,.int .i64,.int .i64,.int .i64,.row 144,.int .i64,.bool,.bool,.row 93,.row 96,.row 98,.row 101],224⟩,
 ⟨.struct [(0,27),(13,28),(14,29),(15,30),(16,31)],[.int .i64,.int .i64,.int .i64,.row 141,.int .i64,.int .i64,.int .i64,.int .i64,.int .i64,.row 144,.int .i64,.bool,.bool,.row 93,.row 96,.row 98,.row 101],224⟩,
 ⟨.other,[],0⟩,
 ⟨.struct [(0,3),(1,3)],[.int .i64,.int .i64],16⟩,
 ⟨.slice 147,[.row 147],24⟩,
 ⟨.slice 149,[.row 149],24⟩,
 ⟨.struct [(0,3),(1,35),(3,36),(4,3),(5,3),(6,3),(7,3),(8,3),(9,37),(10,3),(11,4),(12,4)],[.int .i64,.int .i64,.int .i64,.row 147,.int .i64,.int .i64,.int .i64,.int .i64,.int .i64,.row 149,.int .i64,.bool,.bool],128⟩,
 ⟨.struct [(0,3),(1,35),(3,36),(4,3),(5,3),(6,3),(7,3),(8,3),(9,37),(10,3),(11,4),(12,4)],[.int .i64,.int .i64,.int .i64,.row 147,.int .i64,.int .i64,.int .i64,.int .i64,.int .i64,.row 149,.int .i64,.bool,.bool],128⟩,
 ⟨.slice 70,[.row 70],24⟩,
 ⟨.slice 72,[.row 72],24⟩,
 ⟨.slice 76,[.row 76],24⟩,
 ⟨.slice 106,[.row 106],24⟩,
 ⟨.struct [(0,39),(13,40),(14,41),(15,42),(16,43)],[.int .i64,.int .i64,.int .i64,.row 147,.int .i64,.int .i64,.int .i64,.int .i64,.int .i64,.row 149,.int .i64,.bool,.bool,.row 70,.row 72,.row 76,.row 106],224⟩,
 ⟨.struct [(0,39),(13,40),(14,41),(15,42),(16,43)],[.int .i64,.int .i64,.int .i64,.row 147,.int .i64,.int .i64,.int .i64,.int .i64,.int .i64,.row 149,.int .i64,.bool,.bool,.row 70,.row 72,.row 76,.row 106],224⟩,
 ⟨.other,[],0⟩,
 ⟨.other,[],0⟩,
 ⟨.other,[],0⟩,
 ⟨.other,[],0⟩,
 ⟨.other,[],0⟩,
 ⟨.other,[],0⟩,
 ⟨.other,[],0⟩,
 ⟨.other,[],0⟩,
 ⟨.other,[],0⟩,
 ⟨.other,[],0⟩,
 ⟨.other,[],0⟩,
 ⟨.other,[],0⟩,
 ⟨.other,[],0⟩,
 ⟨.other,[],0⟩,
 ⟨.other,[],0⟩,
 ⟨.ptr 45,[.ptr 45],8⟩,
 ⟨.other,[],0⟩,
 ⟨.other,[],0⟩,
 ⟨.other,[],0⟩,
 ⟨.other,[],0⟩,
 ⟨.other,[],0⟩,
 ⟨.ptr 72,[.ptr 72],8⟩,
 ⟨.slice 3,[.row 3],24⟩,
 ⟨.struct [(0,3),(1,3),(2,3),(3,3),(4,68)],[.int .i64,.int .i64,.int .i64,.int .i64,.row 3],56⟩,
 ⟨.struct [(0,3),(1,3),(2,3),(3,3),(4,68)],[.int .i64,.int .i64,.int .i64,.int .i64,.row 3],56⟩,
 ⟨.struct [(0,70),(5,3),(6,68),(7,3)],[.int .i64,.int .i64,.int .i64,.int .i64,.row 3,.int .i64,.row 3,.int .i64],96⟩,
 ⟨.struct [(0,70),(5,3),(6,68),(7,3)],[.int .i64,.int .i64,.int .i64,.int .i64,.row 3,.int .i64,.row 3,.int .i64],96⟩,
 ⟨.other,[],0⟩,
 ⟨.other,[],0⟩,
 ⟨.struct [(0,3),(1,3),(2,68)],[.int .i64,.int .i64,.row 3],40⟩,
 ⟨.struct [(0,3),(1,3),(2,68)],[.int .i64,.int .i64,.row 3],40⟩,
 ⟨.other,[],0⟩,
 ⟨.other,[],0⟩,
 ⟨.other,[],0⟩,
 ⟨.other,[],0⟩,
 ⟨.other,[],0⟩,
 ⟨.other,[],0⟩,
 ⟨.other,[],0⟩,
 ⟨.other,[],0⟩,
 ⟨.other,[],0⟩,
 ⟨.other,[],0⟩,
 ⟨.other,[],0⟩,
 ⟨.other,[],0⟩,
 ⟨.other,[],0⟩,
 ⟨.other,[],0⟩,
 ⟨.other,[],0⟩,
 ⟨.other,[],0⟩,
 ⟨.struct [(0,3),(1,3),(2,3),(3,3),(4,68)],[.int .i64,.int .i64,.int .i64,.int .i64,.row 3],56⟩,
 ⟨.other,[],0⟩,
 ⟨.struct [(0,93),(5,3),(6,68),(7,3)],[.int .i64,.int .i64,.int .i64,.int .i64,.row 3,.int .i64,.row 3,.int .i64],96⟩,
 ⟨.struct [(0,93),(5,3),(6,68),(7,3)],[.int .i64,.int .i64,.int .i64,.int .i64,.row 3,.int .i64,.row 3,.int .i64],96⟩,
 ⟨.other,[],0⟩,
 ⟨.struct [(0,3),(1,3),(2,68)],[.int .i64,.int .i64,.row 3],40⟩,
 ⟨.other,[],0⟩,
 ⟨.struct [(0,93),(5,98)],[.int .i64,.int .i64,.int .i64,.int .i64,.row 3,.int .i64,.int .i64,.row 3],96⟩,
 ⟨.struct [(0,93),(5,98)],[.int .i64,.int .i64,.int .i64,.int .i64,.row 3,.int .i64,.int .i64,.row 3],96⟩,
 ⟨.other,[],0⟩,
 ⟨.other,[],0⟩,
 ⟨.other,[],0⟩,
 ⟨.struct [(0,70),(5,76)],[.int .i64,.int .i64,.int .i64,.int .i64,.row 3,.int .i64,.int .i64,.row 3],96⟩,
 ⟨.struct [(0,70),(5,76)],[.int .i64,.int .i64,.int .i64,.int .i64,.row 3,.int .i64,.int .i64,.row 3],96⟩,
 ⟨.other,[],0⟩,
 ⟨.other,[],0⟩,
 ⟨.other,[],0⟩,
 ⟨.ptr 39,[.ptr 39],8⟩,
 ⟨.other,[],0⟩,
 ⟨.other,[],0⟩,
 ⟨.other,[],0⟩,
 ⟨.other,[],0⟩,
 ⟨.other,[],0⟩,
 ⟨.other,[],0⟩,
 ⟨.other,[],0⟩,
 ⟨.other,[],0⟩,
 ⟨.other,[],0⟩,
 ⟨.other,[],0⟩,
 ⟨.other,[],0⟩,
 ⟨.other,[],0⟩,
 ⟨.other,[],0⟩,
 ⟨.other,[],0⟩,
 ⟨.other,[],0⟩,
 ⟨.other,[],0⟩,
 ⟨.other,[],0⟩,
 ⟨.other,[],0⟩,
 ⟨.other,[],0⟩,
 ⟨.other,[],0⟩,
 ⟨.other,[],0⟩,
 ⟨.other,[],0⟩,
 ⟨.other,[],0⟩,
 ⟨.other,[],0⟩,
 ⟨.other,[],0⟩,
 ⟨.other,[],0⟩,
 ⟨.other,[],0⟩,
 ⟨.slice 68,[.row 68],24⟩,
 ⟨.slice 191,[.row 191],24⟩,
 ⟨.struct [(0,138),(1,139),(2,4),(3,68)],[.row 68,.row 191,.bool,.row 3],80⟩,
 ⟨.struct [(0,138),(1,139),(2,4),(3,68)],[.row 68,.row 191,.bool,.row 3],80⟩,
 ⟨.other,[],0⟩,
 ⟨.struct [(0,3),(1,68)],[.int .i64,.row 3],32⟩,
 ⟨.struct [(0,3),(1,68)],[.int .i64,.row 3],32⟩,
 ⟨.slice 176,[.row 176],24⟩,
 ⟨.struct [(0,138),(1,145),(2,4),(3,68)],[.row 68,.row 176,.bool,.row 3],80⟩,
 ⟨.struct [(0,138),(1,145),(2,4),(3,68)],[.row 68,.row 176,.bool,.row 3],80⟩,
 ⟨.other,[],0⟩,
 ⟨.struct [(0,3),(1,68)],[.int .i64,.row 3],32⟩,
 ⟨.other,[],0⟩,
 ⟨.other,[],0⟩,
 ⟨.other,[],0⟩,
 ⟨.other,[],0⟩,
 ⟨.other,[],0⟩,
 ⟨.other,[],0⟩,
 ⟨.other,[],0⟩,
 ⟨.other,[],0⟩,
 ⟨.other,[],0⟩,
 ⟨.other,[],0⟩,
 ⟨.other,[],0⟩,
 ⟨.other,[],0⟩,
 ⟨.other,[],0⟩,
 ⟨.other,[],0⟩,
 ⟨.other,[],0⟩,
 ⟨.other,[],0⟩,
 ⟨.other,[],0⟩,
 ⟨.other,[],0⟩,
 ⟨.other,[],0⟩,
 ⟨.other,[],0⟩,
 ⟨.other,[],0⟩,
 ⟨.other,[],0⟩,
 ⟨.other,[],0⟩,
 ⟨.other,[],0⟩,
 ⟨.other,[],0⟩,
 ⟨.struct [(0,3),(1,68)],[.int .i64,.row 3],32⟩,
 ⟨.struct [(0,3),(1,68)],[.int .i64,.row 3],32⟩,
 ⟨.other,[],0⟩,
 ⟨.other,[],0⟩,
 ⟨.other,[],0⟩,
 ⟨.other,[],0⟩,
 ⟨.other,[],0⟩,
 ⟨.other,[],0⟩,
 ⟨.other,[],0⟩,
 ⟨.other,[],0⟩,
 ⟨.other,[],0⟩,
 ⟨.other,[],0⟩,
 ⟨.other,[],0⟩,
 ⟨.other,[],0⟩,
 ⟨.other,[],0⟩,
 ⟨.other,[],0⟩,
 ⟨.struct [(0,3),(1,68)],[.int .i64,.row 3],32⟩,
 ⟨.other,[],0⟩,
 ⟨.other,[],0⟩,
 ⟨.other,[],0⟩,
 ⟨.other,[],0⟩,
 ⟨.other,[],0⟩,
 ⟨.other,[],0⟩,
 ⟨.struct [(0,3),(1,3),(2,68)],[.int .i64,.int .i64,.row 3],40⟩,
 ⟨.struct [(0,3),(1,3),(2,68)],[.int .i64,.int .i64,.row 3],40⟩,
 ⟨.other,[],0⟩,
 ⟨.other,[],0⟩,
 ⟨.other,[],0⟩,
 ⟨.other,[],0⟩,
 ⟨.other,[],0⟩,
 ⟨.other,[],0⟩,
 ⟨.other,[],0⟩,
 ⟨.other,[],0⟩,
 ⟨.other,[],0⟩,
 ⟨.other,[],0⟩,
 ⟨.other,[],0⟩,
 ⟨.other,[],0⟩,
 ⟨.other,[],0⟩,
 ⟨.other,[],0⟩,
 ⟨.other,[],0⟩,
 ⟨.other,[],0⟩,
 ⟨.struct [(0,3),(1,3),(2,3),(3,3),(4,3),(5,3),(6,3),(7,3)],[.int .i64,.int .i64,.int .i64,.int .i64,.int .i64,.int .i64,.int .i64,.int .i64],64⟩,
 ⟨.struct [(0,3),(1,3),(2,3),(3,3),(4,3),(5,3),(6,3),(7,3)],[.int .i64,.int .i64,.int .i64,.int .i64,.int .i64,.int .i64,.int .i64,.int .i64],64⟩,
 ⟨.other,[],0⟩,
 ⟨.other,[],0⟩,
 ⟨.other,[],0⟩,
 ⟨.other,[],0⟩,
 ⟨.other,[],0⟩,
 ⟨.other,[],0⟩,
 ⟨.other,[],0⟩,
 ⟨.other,[],0⟩,
 ⟨.other,[],0⟩,
 ⟨.other,[],0⟩,
 ⟨.struct [(0,17),(1,17),(2,17),(3,9)],[.ptr 242,.ptr 242,.ptr 242,.str],40⟩,
 ⟨.struct [(0,17),(1,17),(2,17),(3,9)],[.ptr 242,.ptr 242,.ptr 242,.str],40⟩,
 ⟨.other,[],0⟩,
 ⟨.other,[],0⟩,
 ⟨.other,[],0⟩,
 ⟨.other,[],0⟩,
 ⟨.int .u32,[.int .u32],4⟩,
 ⟨.int .u8,[.int .u8],1⟩,
 ⟨.int .u8,[.int .u8],1⟩,
 ⟨.other,[],0⟩,
 ⟨.ptr 5,[.ptr 5],8⟩,
 ⟨.int .i32,[.int .i32],4⟩,
 ⟨.int .i32,[.int .i32],4⟩,
 ⟨.other,[],0⟩,
 ⟨.other,[],0⟩,
 ⟨.other,[],0⟩]
namespace N
abbrev k4n:Nat:=3
abbrev k2r:Nat:=4
abbrev k3m:Nat:=5
abbrev j7i:Nat:=6
abbrev k2h:Nat:=7
abbrev j7h:Nat:=8
abbrev k2j:Nat:=9
abbrev k2k:Nat:=10
abbrev k2o:Nat:=11
abbrev j8f:Nat:=12
abbrev j8g:Nat:=13
abbrev j8h:Nat:=14
abbrev j8i:Nat:=15
abbrev j6j:Nat:=16
abbrev j8z:Nat:=17
abbrev j5y:Nat:=18
abbrev k4o:Nat:=19
abbrev k2w:Nat:=20
abbrev j8o:Nat:=21
abbrev j8p:Nat:=22
abbrev j8q:Nat:=23
abbrev j8r:Nat:=24
abbrev j6k:Nat:=25
abbrev j9r:Nat:=26
abbrev j5z:Nat:=27
abbrev k1v:Nat:=28
abbrev k4p:Nat:=29
abbrev j6a:Nat:=30
abbrev k4q:Nat:=31
abbrev j6b:Nat:=32
abbrev k4i:Nat:=33
abbrev k0h:Nat:=34
abbrev k0i:Nat:=35
abbrev k0j:Nat:=36
abbrev k0k:Nat:=37
abbrev k4l:Nat:=38
abbrev k0p:Nat:=39
abbrev k0q:Nat:=40
abbrev k0r:Nat:=41
abbrev k0s:Nat:=42
abbrev k4m:Nat:=43
abbrev k0x:Nat:=44
abbrev k0y:Nat:=45
abbrev k0z:Nat:=46
abbrev k1a:Nat:=47
abbrev j8c:Nat:=48
abbrev j8d:Nat:=49
abbrev j8e:Nat:=50
abbrev k2p:Nat:=51
abbrev k1b:Nat:=52
abbrev k2q:Nat:=53
abbrev j6s:Nat:=54
abbrev j8s:Nat:=55
abbrev j6c:Nat:=56
abbrev j8v:Nat:=57
abbrev j7j:Nat:=58
abbrev k1f:Nat:=59
abbrev k4r:Nat:=60
abbrev k4s:Nat:=61
abbrev k2s:Nat:=62
abbrev j8l:Nat:=63
abbrev j8m:Nat:=64
abbrev j8n:Nat:=65
abbrev k2x:Nat:=66
abbrev k1c:Nat:=67
abbrev k2y:Nat:=68
abbrev j6o:Nat:=69
abbrev j7q:Nat:=70
abbrev j9k:Nat:=71
abbrev k3o:Nat:=72
abbrev j6w:Nat:=73
abbrev j7a:Nat:=74
abbrev j9m:Nat:=75
abbrev j9t:Nat:=76
abbrev j7r:Nat:=77
abbrev j7v:Nat:=78
abbrev j6d:Nat:=79
abbrev j7z:Nat:=80
abbrev k4e:Nat:=81
abbrev k0e:Nat:=82
abbrev k0f:Nat:=83
abbrev k0g:Nat:=84
abbrev k4j:Nat:=85
abbrev k2i:Nat:=86
abbrev k4k:Nat:=87
abbrev k0n:Nat:=88
abbrev k0o:Nat:=89
abbrev j6e:Nat:=90
abbrev k0v:Nat:=91
abbrev k0w:Nat:=92
abbrev j6f:Nat:=93
abbrev k2m:Nat:=94
abbrev k2n:Nat:=95
abbrev j6v:Nat:=96
abbrev j6r:Nat:=97
abbrev j8u:Nat:=98
abbrev j6m:Nat:=99
abbrev k3a:Nat:=100
abbrev j7b:Nat:=101
abbrev j8x:Nat:=102
abbrev j8y:Nat:=103
abbrev j6x:Nat:=104
abbrev j8t:Nat:=105
abbrev j7l:Nat:=106
abbrev j7o:Nat:=107
abbrev k4t:Nat:=108
abbrev k2u:Nat:=109
abbrev k2v:Nat:=110
abbrev j6l:Nat:=111
abbrev j9j:Nat:=112
abbrev j6u:Nat:=113
abbrev j7e:Nat:=114
abbrev k1u:Nat:=115
abbrev j9o:Nat:=116
abbrev j6h:Nat:=117
abbrev k3p:Nat:=118
abbrev k3q:Nat:=119
abbrev k3n:Nat:=120
abbrev j9l:Nat:=121
abbrev j9q:Nat:=122
abbrev j7t:Nat:=123
abbrev k1w:Nat:=124
abbrev k2c:Nat:=125
abbrev k2d:Nat:=126
abbrev k1t:Nat:=127
abbrev k4u:Nat:=128
abbrev j6z:Nat:=129
abbrev k1x:Nat:=130
abbrev k2g:Nat:=131
abbrev k4v:Nat:=132
abbrev k4g:Nat:=133
abbrev k4h:Nat:=134
abbrev j6q:Nat:=135
abbrev k0l:Nat:=136
abbrev k0m:Nat:=137
abbrev k0t:Nat:=138
abbrev k0u:Nat:=139
abbrev j8a:Nat:=140
abbrev j8b:Nat:=141
abbrev k2z:Nat:=142
abbrev j7c:Nat:=143
abbrev k1d:Nat:=144
abbrev k1e:Nat:=145
abbrev j6g:Nat:=146
abbrev k3b:Nat:=147
abbrev k1g:Nat:=148
abbrev k1l:Nat:=149
abbrev k1m:Nat:=150
abbrev k3e:Nat:=151
abbrev k1r:Nat:=152
abbrev j6n:Nat:=153
abbrev j8j:Nat:=154
abbrev j8k:Nat:=155
abbrev j6t:Nat:=156
abbrev j9n:Nat:=157
abbrev j9p:Nat:=158
abbrev j7s:Nat:=159
abbrev j9s:Nat:=160
abbrev j9y:Nat:=161
abbrev j9u:Nat:=164
abbrev j7f:Nat:=165
abbrev k4c:Nat:=166
abbrev k4d:Nat:=167
abbrev k0c:Nat:=168
abbrev k0d:Nat:=169
abbrev k2l:Nat:=170
abbrev j8w:Nat:=171
abbrev j7k:Nat:=172
abbrev j9e:Nat:=173
abbrev k1n:Nat:=174
abbrev k1q:Nat:=175
abbrev k1s:Nat:=176
abbrev k2t:Nat:=177
abbrev j9x:Nat:=178
abbrev k2b:Nat:=179
abbrev k3x:Nat:=181
abbrev j7y:Nat:=182
abbrev j6p:Nat:=183
abbrev k4f:Nat:=184
abbrev j9d:Nat:=185
abbrev k3d:Nat:=186
abbrev k3h:Nat:=187
abbrev j7n:Nat:=188
abbrev j6y:Nat:=189
abbrev j7p:Nat:=190
abbrev k3s:Nat:=191
abbrev k3t:Nat:=192
abbrev k2a:Nat:=193
abbrev j7g:Nat:=195
abbrev k0b:Nat:=196
abbrev j7x:Nat:=197
abbrev k3y:Nat:=198
abbrev k4a:Nat:=199
abbrev k4b:Nat:=200
abbrev k1z:Nat:=201
abbrev k1y:Nat:=202
abbrev k3c:Nat:=203
abbrev j9c:Nat:=204
abbrev k1j:Nat:=205
abbrev k1k:Nat:=206
abbrev j7d:Nat:=207
abbrev j9h:Nat:=208
abbrev j9g:Nat:=209
abbrev k3i:Nat:=210
abbrev k3k:Nat:=211
abbrev k3l:Nat:=212
abbrev k1h:Nat:=213
abbrev k1i:Nat:=214
abbrev j9w:Nat:=215
abbrev j7u:Nat:=216
abbrev k2e:Nat:=217
abbrev j7w:Nat:=218
abbrev k3w:Nat:=219
abbrev k3u:Nat:=220
abbrev k2f:Nat:=221
abbrev k3z:Nat:=222
abbrev j9b:Nat:=223
abbrev k1o:Nat:=224
abbrev j7m:Nat:=225
abbrev k3g:Nat:=226
abbrev k1p:Nat:=227
abbrev k3j:Nat:=228
abbrev j9i:Nat:=229
abbrev k3r:Nat:=230
abbrev k3v:Nat:=231
abbrev k0a:Nat:=232
abbrev j6i:Nat:=233
abbrev j9a:Nat:=234
abbrev k3f:Nat:=235
abbrev j9f:Nat:=236
abbrev j9v:Nat:=237
abbrev j9z:Nat:=238
end N
namespace TN
abbrev j5r:Nat:=2
abbrev Int:Nat:=3
abbrev Bool:Nat:=4
abbrev j5s:Nat:=5
abbrev j5j:Nat:=9
abbrev j4x:Nat:=12
abbrev j5t:Nat:=21
abbrev j3x:Nat:=23
abbrev j2j:Nat:=24
abbrev j2k:Nat:=25
abbrev j3y:Nat:=27
abbrev j2l:Nat:=28
abbrev j2m:Nat:=29
abbrev j2n:Nat:=30
abbrev j1n:Nat:=31
abbrev j3z:Nat:=33
abbrev j4a:Nat:=35
abbrev j2o:Nat:=36
abbrev j2p:Nat:=37
abbrev j4b:Nat:=39
abbrev j2q:Nat:=40
abbrev j2r:Nat:=41
abbrev j2s:Nat:=42
abbrev j1o:Nat:=43
abbrev j4c:Nat:=45
abbrev IntS:Nat:=68
abbrev j4d:Nat:=70
abbrev j4e:Nat:=72
abbrev j4f:Nat:=76
abbrev laws_Cmd:Nat:=93
abbrev laws_Job:Nat:=96
abbrev laws_Ans:Nat:=98
abbrev laws_Turn:Nat:=101
abbrev j2t:Nat:=106
abbrev j5u:Nat:=138
abbrev j4g:Nat:=139
abbrev laws_Mem:Nat:=141
abbrev laws_Ent:Nat:=144
abbrev j4h:Nat:=145
abbrev j4i:Nat:=147
abbrev j4j:Nat:=149
abbrev j4y:Nat:=176
abbrev laws_Wr:Nat:=191
abbrev j4k:Nat:=199
abbrev j1p:Nat:=217
abbrev j5k:Nat:=234
end TN
noncomputable def fnTab:Tr Func:=(.node (.node (.node (.node (.node (.node (.node (.node .nil 3 Tryz.f3 .nil) 4 Tryz.f4 (.node .nil 5 Tryz.f5 .nil)) 6 Tryz.f6 (.node (.node .nil 7 Tryz.f7 .nil) 8 Tryz.f8 (.node .nil 9 Tryz.f9 .nil))) 10 Tryz.f10 (.node (.node (.node .nil 11 Tryz.f11 .nil) 12 Tryz.f12 (.node .nil 13 Tryz.f13 .nil)) 14 Tryz.f14 (.node (.node .nil 15 Tryz.f15 .nil) 16 Tryz.f16 .nil))) 17 Tryz.f17 (.node (.node (.node (.node .nil 18 Tryz.f18 .nil) 19 Tryz.f19 (.node .nil 20 Tryz.f20 .nil)) 21 Tryz.f21 (.node (.node .nil 22 Tryz.f22 .nil) 23 Tryz.f23 (.node .nil 24 Tryz.f24 .nil))) 25 Tryz.f25 (.node (.node (.node .nil 26 Tryz.f26 .nil) 27 Tryz.f27 (.node .nil 28 Tryz.f28 .nil)) 29 Tryz.f29 (.node (.node .nil 30 Tryz.f30 .nil) 31 Tryz.f31 .nil)))) 32 Tryz.f32 (.node (.node (.node (.node (.node .nil 33 Tryz.f33 .nil) 34 Tryz.f34 (.node .nil 35 Tryz.f35 .nil)) 36 Tryz.f36 (.node (.node .nil 37 Tryz.f37 .nil) 38 Tryz.f38 (.node .nil 39 Tryz.f39 .nil))) 40 Tryz.f40 (.node (.node (.node .nil 41 Tryz.f41 .nil) 42 Tryz.f42 (.node .nil 43 Tryz.f43 .nil)) 44 Tryz.f44 (.node (.node .nil 45 Tryz.f45 .nil) 46 Tryz.f46 .nil))) 47 Tryz.f47 (.node (.node (.node (.node .nil 48 Tryz.f48 .nil) 49 Tryz.f49 (.node .nil 50 Tryz.f50 .nil)) 51 Tryz.f51 (.node (.node .nil 52 Tryz.f52 .nil) 53 Tryz.f53 .nil)) 54 Tryz.f54 (.node (.node (.node .nil 55 Tryz.f55 .nil) 56 Tryz.f56 (.node .nil 57 Tryz.f57 .nil)) 58 Tryz.f58 (.node (.node .nil 59 Tryz.f59 .nil) 60 Tryz.f60 .nil))))) 61 Tryz.f61 (.node (.node (.node (.node (.node (.node .nil 62 Tryz.f62 .nil) 63 Tryz.f63 (.node .nil 64 Tryz.f64 .nil)) 65 Tryz.f65 (.node (.node .nil 66 Tryz.f66 .nil) 67 Tryz.f67 (.node .nil 68 Tryz.f68 .nil))) 69 Tryz.f69 (.node (.node (.node .nil 70 Tryz.f70 .nil) 71 Tryz.f71 (.node .nil 72 Tryz.f72 .nil)) 73 Tryz.f73 (.node (.node .nil 74 Tryz.f74 .nil) 75 Tryz.f75 .nil))) 76 Tryz.f76 (.node (.node (.node (.node .nil 77 Tryz.f77 .nil) 78 Tryz.f78 (.node .nil 79 Tryz.f79 .nil)) 80 Tryz.f80 (.node (.node .nil 81 Tryz.f81 .nil) 82 Tryz.f82 .nil)) 83 Tryz.f83 (.node (.node (.node .nil 84 Tryz.f84 .nil) 85 Tryz.f85 (.node .nil 86 Tryz.f86 .nil)) 87 Tryz.f87 (.node (.node .nil 88 Tryz.f88 .nil) 89 Tryz.f89 .nil)))) 90 Tryz.f90 (.node (.node (.node (.node (.node .nil 91 Tryz.f91 .nil) 92 Tryz.f92 (.node .nil 93 Tryz.f93 .nil)) 94 Tryz.f94 (.node (.node .nil 95 Tryz.f95 .nil) 96 Tryz.f96 (.node .nil 97 Tryz.f97 .nil))) 98 Tryz.f98 (.node (.node (.node .nil 99 Tryz.f99 .nil) 100 Tryz.f100 (.node .nil 101 Tryz.f101 .nil)) 102 Tryz.f102 (.node (.node .nil 103 Tryz.f103 .nil) 104 Tryz.f104 .nil))) 105 Tryz.f105 (.node (.node (.node (.node .nil 106 Tryz.f106 .nil) 107 Tryz.f107 (.node .nil 108 Tryz.f108 .nil)) 109 Tryz.f109 (.node (.node .nil 110 Tryz.f110 .nil) 111 Tryz.f111 .nil)) 112 Tryz.f112 (.node (.node (.node .nil 113 Tryz.f113 .nil) 114 Tryz.f114 (.node .nil 115 Tryz.f115 .nil)) 116 Tryz.f116 (.node (.node .nil 117 Tryz.f117 .nil) 118 Tryz.f118 .nil)))))) 119 Tryz.f119 (.node (.node (.node (.node (.node (.node (.node .nil 120 Tryz.f120 .nil) 121 Tryz.f121 (.node .nil 122 Tryz.f122 .nil)) 123 Tryz.f123 (.node (.node .nil 124 Tryz.f124 .nil) 125 Tryz.f125 (.node .nil 126 Tryz.f126 .nil))) 127 Tryz.f127 (.node (.node (.node .nil 128 Tryz.f128 .nil) 129 Tryz.f129 (.node .nil 130 Tryz.f130 .nil)) 131 Tryz.f131 (.node (.node .nil 132 Tryz.f132 .nil) 133 Tryz.f133 .nil))) 134 Tryz.f134 (.node (.node (.node (.node .nil 135 Tryz.f135 .nil) 136 Tryz.f136 (.node .nil 137 Tryz.f137 .nil)) 138 Tryz.f138 (.node (.node .nil 139 Tryz.f139 .nil) 140 Tryz.f140 .nil)) 141 Tryz.f141 (.node (.node (.node .nil 142 Tryz.f142 .nil) 143 Tryz.f143 (.node .nil 144 Tryz.f144 .nil)) 145 Tryz.f145 (.node (.node .nil 146 Tryz.f146 .nil) 147 Tryz.f147 .nil)))) 148 Tryz.f148 (.node (.node (.node (.node (.node .nil 149 Tryz.f149 .nil) 150 Tryz.f150 (.node .nil 151 Tryz.f151 .nil)) 152 Tryz.f152 (.node (.node .nil 153 Tryz.f153 .nil) 154 Tryz.f154 (.node .nil 155 Tryz.f155 .nil))) 156 Tryz.f156 (.node (.node (.node .nil 157 Tryz.f157 .nil) 158 Tryz.f158 (.node .nil 159 Tryz.f159 .nil)) 160 Tryz.f160 (.node (.node .nil 161 Tryz.f161 .nil) 164 Tryz.f164 .nil))) 165 Tryz.f165 (.node (.node (.node (.node .nil 166 Tryz.f166 .nil) 167 Tryz.f167 (.node .nil 168 Tryz.f168 .nil)) 169 Tryz.f169 (.node (.node .nil 170 Tryz.f170 .nil) 171 Tryz.f171 .nil)) 172 Tryz.f172 (.node (.node (.node .nil 173 Tryz.f173 .nil) 174 Tryz.f174 (.node .nil 175 Tryz.f175 .nil)) 176 Tryz.f176 (.node (.node .nil 177 Tryz.f177 .nil) 178 Tryz.f178 .nil))))) 179 Tryz.f179 (.node (.node (.node (.node (.node (.node .nil 181 Tryz.f181 .nil) 182 Tryz.f182 (.node .nil 183 Tryz.f183 .nil)) 184 Tryz.f184 (.node (.node .nil 185 Tryz.f185 .nil) 186 Tryz.f186 (.node .nil 187 Tryz.f187 .nil))) 188 Tryz.f188 (.node (.node (.node .nil 189 Tryz.f189 .nil) 190 Tryz.f190 (.node .nil 191 Tryz.f191 .nil)) 192 Tryz.f192 (.node (.node .nil 193 Tryz.f193 .nil) 195 Tryz.f195 .nil))) 196 Tryz.f196 (.node (.node (.node (.node .nil 197 Tryz.f197 .nil) 198 Tryz.f198 (.node .nil 199 Tryz.f199 .nil)) 200 Tryz.f200 (.node (.node .nil 201 Tryz.f201 .nil) 202 Tryz.f202 .nil)) 203 Tryz.f203 (.node (.node (.node .nil 204 Tryz.f204 .nil) 205 Tryz.f205 (.node .nil 206 Tryz.f206 .nil)) 207 Tryz.f207 (.node (.node .nil 208 Tryz.f208 .nil) 209 Tryz.f209 .nil)))) 210 Tryz.f210 (.node (.node (.node (.node (.node .nil 211 Tryz.f211 .nil) 212 Tryz.f212 (.node .nil 213 Tryz.f213 .nil)) 214 Tryz.f214 (.node (.node .nil 215 Tryz.f215 .nil) 216 Tryz.f216 (.node .nil 217 Tryz.f217 .nil))) 218 Tryz.f218 (.node (.node (.node .nil 219 Tryz.f219 .nil) 220 Tryz.f220 (.node .nil 221 Tryz.f221 .nil)) 222 Tryz.f222 (.node (.node .nil 223 Tryz.f223 .nil) 224 Tryz.f224 .nil))) 225 Tryz.f225 (.node (.node (.node (.node .nil 226 Tryz.f226 .nil) 227 Tryz.f227 (.node .nil 228 Tryz.f228 .nil)) 229 Tryz.f229 (.node (.node .nil 230 Tryz.f230 .nil) 231 Tryz.f231 .nil)) 232 Tryz.f232 (.node (.node (.node .nil 233 Tryz.f233 .nil) 234 Tryz.f234 (.node .nil 235 Tryz.f235 .nil)) 236 Tryz.f236 (.node (.node .nil 237 Tryz.f237 .nil) 238 Tryz.f238 .nil)))))))
def j2u:Tr Sig:=(.node (.node (.node (.node (.node (.node (.node .nil 5 ⟨[],[false,false,false,true,false,false,false,false,false,true,false,false,false,true,true,true,true,false,false,false,false,false,false,false,false,false,false,false,false,false,false,true,false,true,false,false],[],true⟩ .nil) 6 ⟨[],[false,false,false,true,false,false,false,false,false,true,false,false,false,true,true,true,true,false,false,false,true,false,false,false,false,false,true,false,false,false,true,true,true,true],[],true⟩ .nil) 7 ⟨[],[false,false,false,true,false,false,false,false,false,true,false,false,false,true,true,true,true,false,false,false,false,true,false,false,false,false,false,true,false,false,false,true,true,true,true,false],[],true⟩ (.node (.node .nil 9 ⟨[[false,false,false,true,false,false,false,false,false,true,false,false,false,true,true,true,true,false,false,false,true,false,false,false,false,false,true,false,false,false,true,true,true,true,true],[false]],[],[],true⟩ .nil) 16 ⟨[],[false,false,false,true,false,false,false,false,false,true,false,false,false,true,true,true,true,false,false,false,false,false,false,false,false,false,false,false,false,false,true,true,true,true],[],true⟩ .nil)) 20 ⟨[],[false,false,false,true,false,false,false,false,false,true,false,false,false,false,false,false,true,false,false,false,false,false,true,false,false,false],[],true⟩ (.node (.node (.node .nil 21 ⟨[],[true,true,true],[],true⟩ .nil) 22 ⟨[],[true,true,true],[],true⟩ .nil) 23 ⟨[],[true,true,true],[],true⟩ (.node (.node .nil 24 ⟨[],[true,true,true],[],true⟩ .nil) 25 ⟨[],[false,false,false,true,false,false,false,false,false,true,false,false,false,true,true,true,true,false,false,false,true,false,false,false,false,false,true,false,false,false,true,true,true,true],[],true⟩ .nil))) 30 ⟨[],[true],[],false⟩ (.node (.node (.node (.node .nil 32 ⟨[[false,false,false,true,false,false,false,false,false,true,false,false,false,true,true,true,true,false,false,false,true,false,false,false,false,false,true,false,false,false,true,true,true,true],[false,false,false,false,true],[false,false,true]],[],[],true⟩ .nil) 38 ⟨[[false,false,false,true,false,false,false,false,false,true,false,false,false,false,false,false,true,false,false,false,false,false,true,false,false,false,true],[false]],[],[],true⟩ .nil) 39 ⟨[[true,true],[false]],[],[],true⟩ (.node (.node .nil 40 ⟨[[true,true],[false]],[],[],true⟩ .nil) 41 ⟨[[true,true],[false]],[],[],true⟩ .nil)) 42 ⟨[[true,true],[false]],[],[],true⟩ (.node (.node (.node .nil 54 ⟨[],[false,false,false,true,false,false,false,false,false,true,false,false,false],[],false⟩ .nil) 55 ⟨[],[false,false,false,false,true],[],false⟩ .nil) 56 ⟨[],[false,false,true],[],false⟩ (.node .nil 63 ⟨[],[true,true,true],[],true⟩ .nil)))) 64 ⟨[],[true,true,true],[],true⟩ (.node (.node (.node (.node (.node .nil 65 ⟨[],[false,false,false,false,true],[],false⟩ .nil) 66 ⟨[],[false,false,false,false,true,false,true,false],[],false⟩ .nil) 67 ⟨[],[false,false,true],[],false⟩ (.node (.node .nil 68 ⟨[],[false,false,false,false,true,false,false,true],[],false⟩ .nil) 69 ⟨[],[false,false,false,true,false,false,false,false,false,true,false,false,false,false,false,false,true,false,false,false,false,false,true,false,false,false],[],true⟩ .nil)) 70 ⟨[],[false,false,false,false,true],[],false⟩ (.node (.node (.node .nil 71 ⟨[],[false,false,true],[],false⟩ .nil) 79 ⟨[],[false,false,false,true,false,false,false,false,false,true,false,false,false,false,false,false,false,true,false,false,false,false,false,true,false,false,false,false],[],true⟩ .nil) 80 ⟨[],[false,false,false,true,false,false,false,false,false,true,false,false,false,false,false,false,false,true,false,false,false,false,false,true,false,false,false,false],[],true⟩ (.node .nil 88 ⟨[[true,true],[false]],[],[],true⟩ .nil))) 89 ⟨[[true,true],[false]],[],[],true⟩ (.node (.node (.node (.node .nil 90 ⟨[[false,true],[false]],[],[],false⟩ .nil) 97 ⟨[],[true,true,false,true],[],false⟩ .nil) 107 ⟨[],[false,false,false,true,false,false,false,false,false,true,false,false,false,false],[],false⟩ (.node (.node .nil 109 ⟨[],[true,true,false,true,true,true,false,false],[],true⟩ .nil) 110 ⟨[],[false,true],[],false⟩ .nil)) 111 ⟨[],[true],[],false⟩ (.node (.node (.node .nil 112 ⟨[],[true,true,true],[],true⟩ .nil) 125 ⟨[],[true,false],[],false⟩ .nil) 128 ⟨[[false],[false],[true]],[],[],false⟩ (.node .nil 131 ⟨[],[false,false,false,true,false,false,false,false,false,true,false,false,false,false,false,false,false,true,false,false,false,false,false,true,false,false,false,false],[],true⟩ .nil))))) 136 ⟨[[true,true],[false]],[],[],true⟩ (.node (.node (.node (.node (.node (.node .nil 137 ⟨[[true,true],[false]],[],[],true⟩ .nil) 149 ⟨[],[true,false],[],false⟩ .nil) 152 ⟨[[false,false,false,true,false,false,false,false,false,true,false,false,false],[false]],[],[],false⟩ (.node (.node .nil 153 ⟨[],[false,false,false,true,false,false,false,false,false,true,false,false,false,false],[],false⟩ .nil) 154 ⟨[],[true,true,true],[],true⟩ .nil)) 155 ⟨[],[true,true,true],[],true⟩ (.node (.node (.node .nil 156 ⟨[],[true,true,false,true,true,true,false,false],[],true⟩ .nil) 161 ⟨[],[true,false],[],false⟩ .nil) 165 ⟨[],[],[3],false⟩ (.node (.node .nil 166 ⟨[[false,false,false,true,false,false,false,false,false,true,false,false,false,false,false,false,true,false,false,false,false,false,true,false,false,false],[false],[false]],[],[],true⟩ .nil) 173 ⟨[],[true,false],[],false⟩ .nil))) 175 ⟨[[false,false,false,true,false,false,false,false,false,true,false,false,false],[false],[false]],[],[],false⟩ (.node (.node (.node (.node .nil 176 ⟨[[false,false,false,true,false,false,false,false,false,true,false,false,false],[false],[false]],[],[],false⟩ .nil) 177 ⟨[],[false,true],[],false⟩ .nil) 178 ⟨[],[true,false],[],false⟩ (.node (.node .nil 181 ⟨[[false,false,false,true,false,false,false,false,false,true,false,false,false,false,false,false,true,false,false,false,false,false,true,false,false,false]],[],[],true⟩ .nil) 182 ⟨[[false,false,false,true,false,false,false,false,false,true,false,false,false,false,false,false,true,false,false,false,false,false,true,false,false,false],[false,false,false]],[],[],true⟩ .nil)) 183 ⟨[[false,false,false,true,false,false,false,false,false,true,false,false,false,false,false,false,true,false,false,false,false,false,true,false,false,false],[false],[false]],[],[],true⟩ (.node (.node (.node .nil 185 ⟨[],[true,false],[],false⟩ .nil) 187 ⟨[[false,false,false,true,false,false,false,false,false,true,false,false,false]],[],[],false⟩ .nil) 188 ⟨[[false,false,false,true,false,false,false,false,false,true,false,false,false],[false,false,false]],[],[],false⟩ (.node .nil 189 ⟨[[false,false,false,true,false,false,false,false,false,true,false,false,false],[false],[false]],[],[],false⟩ .nil)))) 190 ⟨[[false,false,false,true,false,false,false,false,false,true,false,false,false],[false,false]],[],[],false⟩ (.node (.node (.node (.node (.node .nil 195 ⟨[[false,false,false,true,false,false,false,false,false,true,false,false,false,false,false,false,true,false,false,false,false,false,true,false,false,false]],[],[],true⟩ .nil) 196 ⟨[[false,false,false,true,false,false,false,false,false,true,false,false,false,false,false,false,true,false,false,false,false,false,true,false,false,false]],[],[],true⟩ .nil) 197 ⟨[[false,false,false,true,false,false,false,false,false,true,false,false,false,false,false,false,true,false,false,false,false,false,true,false,false,false],[false],[false],[false]],[],[],true⟩ (.node (.node .nil 199 ⟨[],[true],[],false⟩ .nil) 207 ⟨[[false,false,false,true,false,false,false,false,false,true,false,false,false]],[],[],false⟩ .nil)) 208 ⟨[[false,false,false,true,false,false,false,false,false,true,false,false,false]],[],[],false⟩ (.node (.node (.node .nil 209 ⟨[[false,false,false,true,false,false,false,false,false,true,false,false,false],[false],[false],[false]],[],[],false⟩ .nil) 211 ⟨[],[true],[],false⟩ .nil) 215 ⟨[],[true,false],[],false⟩ (.node .nil 217 ⟨[[false,false,false,true,false,false,false,false,false,true,false,false,false,false,false,false,true,false,false,false,false,false,true,false,false,false]],[],[],true⟩ .nil))) 218 ⟨[],[true,true,false,true,true,true,false,false],[],true⟩ (.node (.node (.node (.node .nil 219 ⟨[],[true],[],false⟩ .nil) 221 ⟨[],[true,true,false,true,false,true,true,false,false,false],[],true⟩ .nil) 223 ⟨[],[true,false],[],false⟩ (.node (.node .nil 224 ⟨[[false,false,false,true,false,false,false,false,false,true,false,false,false]],[],[],false⟩ .nil) 225 ⟨[],[true,true,false,true],[],false⟩ .nil)) 226 ⟨[],[true],[],false⟩ (.node (.node (.node .nil 227 ⟨[],[true,true,false,true,false],[],false⟩ .nil) 232 ⟨[[true],[]],[true],[],false⟩ .nil) 233 ⟨[],[],[3],false⟩ (.node .nil 236 ⟨[],[true],[],false⟩ .nil))))))
noncomputable def E:Env:={ tys:=tys,fn:=fnTab.get,sig:=j4w j2u,gl:=[],del:=[(31,72),(128,1000149),(132,149)],inl:=[19,29,60,61,108] }
def P0:FuncId→Option (List Arg→Option Outs):=fun _=>none
theorem c5m:a2b Tryz.prog E=true:=by kernel_rfl
theorem h1w:Tryz.prog.follows .mixedOrders=true:=by kernel_rfl
theorem j4z:j3w Tryz.prog fnTab:=⟨Tryz.func119,⟨Tryz.func61,⟨Tryz.func32,⟨Tryz.func17,⟨Tryz.func10,⟨Tryz.func6,⟨Tryz.func4,⟨Tryz.func3,trivial,trivial⟩,⟨Tryz.func5,trivial,trivial⟩⟩,⟨Tryz.func8,⟨Tryz.func7,trivial,trivial⟩,⟨Tryz.func9,trivial,trivial⟩⟩⟩,⟨Tryz.func14,⟨Tryz.func12,⟨Tryz.func11,trivial,trivial⟩,⟨Tryz.func13,trivial,trivial⟩⟩,⟨Tryz.func16,⟨Tryz.func15,trivial,trivial⟩,trivial⟩⟩⟩,⟨Tryz.func25,⟨Tryz.func21,⟨Tryz.func19,⟨Tryz.func18,trivial,trivial⟩,⟨Tryz.func20,trivial,trivial⟩⟩,⟨Tryz.func23,⟨Tryz.func22,trivial,trivial⟩,⟨Tryz.func24,trivial,trivial⟩⟩⟩,⟨Tryz.func29,⟨Tryz.func27,⟨Tryz.func26,trivial,trivial⟩,⟨Tryz.func28,trivial,trivial⟩⟩,⟨Tryz.func31,⟨Tryz.func30,trivial,trivial⟩,trivial⟩⟩⟩⟩,⟨Tryz.func47,⟨Tryz.func40,⟨Tryz.func36,⟨Tryz.func34,⟨Tryz.func33,trivial,trivial⟩,⟨Tryz.func35,trivial,trivial⟩⟩,⟨Tryz.func38,⟨Tryz.func37,trivial,trivial⟩,⟨Tryz.func39,trivial,trivial⟩⟩⟩,⟨Tryz.func44,⟨Tryz.func42,⟨Tryz.func41,trivial,trivial⟩,⟨Tryz.func43,trivial,trivial⟩⟩,⟨Tryz.func46,⟨Tryz.func45,trivial,trivial⟩,trivial⟩⟩⟩,⟨Tryz.func54,⟨Tryz.func51,⟨Tryz.func49,⟨Tryz.func48,trivial,trivial⟩,⟨Tryz.func50,trivial,trivial⟩⟩,⟨Tryz.func53,⟨Tryz.func52,trivial,trivial⟩,trivial⟩⟩,⟨Tryz.func58,⟨Tryz.func56,⟨Tryz.func55,trivial,trivial⟩,⟨Tryz.func57,trivial,trivial⟩⟩,⟨Tryz.func60,⟨Tryz.func59,trivial,trivial⟩,trivial⟩⟩⟩⟩⟩,⟨Tryz.func90,⟨Tryz.func76,⟨Tryz.func69,⟨Tryz.func65,⟨Tryz.func63,⟨Tryz.func62,trivial,trivial⟩,⟨Tryz.func64,trivial,trivial⟩⟩,⟨Tryz.func67,⟨Tryz.func66,trivial,trivial⟩,⟨Tryz.func68,trivial,trivial⟩⟩⟩,⟨Tryz.func73,⟨Tryz.func71,⟨Tryz.func70,trivial,trivial⟩,⟨Tryz.func72,trivial,trivial⟩⟩,⟨Tryz.func75,⟨Tryz.func74,trivial,trivial⟩,trivial⟩⟩⟩,⟨Tryz.func83,⟨Tryz.func80,⟨Tryz.func78,⟨Tryz.func77,trivial,trivial⟩,⟨Tryz.func79,trivial,trivial⟩⟩,⟨Tryz.func82,⟨Tryz.func81,trivial,trivial⟩,trivial⟩⟩,⟨Tryz.func87,⟨Tryz.func85,⟨Tryz.func84,trivial,trivial⟩,⟨Tryz.func86,trivial,trivial⟩⟩,⟨Tryz.func89,⟨Tryz.func88,trivial,trivial⟩,trivial⟩⟩⟩⟩,⟨Tryz.func105,⟨Tryz.func98,⟨Tryz.func94,⟨Tryz.func92,⟨Tryz.func91,trivial,trivial⟩,⟨Tryz.func93,trivial,trivial⟩⟩,⟨Tryz.func96,⟨Tryz.func95,trivial,trivial⟩,⟨Tryz.func97,trivial,trivial⟩⟩⟩,⟨Tryz.func102,⟨Tryz.func100,⟨Tryz.func99,trivial,trivial⟩,⟨Tryz.func101,trivial,trivial⟩⟩,⟨Tryz.func104,⟨Tryz.func103,trivial,trivial⟩,trivial⟩⟩⟩,⟨Tryz.func112,⟨Tryz.func109,⟨Tryz.func107,⟨Tryz.func106,trivial,trivial⟩,⟨Tryz.func108,trivial,trivial⟩⟩,⟨Tryz.func111,⟨Tryz.func110,trivial,trivial⟩,trivial⟩⟩,⟨Tryz.func116,⟨Tryz.func114,⟨Tryz.func113,trivial,trivial⟩,⟨Tryz.func115,trivial,trivial⟩⟩,⟨Tryz.func118,⟨Tryz.func117,trivial,trivial⟩,trivial⟩⟩⟩⟩⟩⟩,⟨Tryz.func179,⟨Tryz.func148,⟨Tryz.func134,⟨Tryz.func127,⟨Tryz.func123,⟨Tryz.func121,⟨Tryz.func120,trivial,trivial⟩,⟨Tryz.func122,trivial,trivial⟩⟩,⟨Tryz.func125,⟨Tryz.func124,trivial,trivial⟩,⟨Tryz.func126,trivial,trivial⟩⟩⟩,⟨Tryz.func131,⟨Tryz.func129,⟨Tryz.func128,trivial,trivial⟩,⟨Tryz.func130,trivial,trivial⟩⟩,⟨Tryz.func133,⟨Tryz.func132,trivial,trivial⟩,trivial⟩⟩⟩,⟨Tryz.func141,⟨Tryz.func138,⟨Tryz.func136,⟨Tryz.func135,trivial,trivial⟩,⟨Tryz.func137,trivial,trivial⟩⟩,⟨Tryz.func140,⟨Tryz.func139,trivial,trivial⟩,trivial⟩⟩,⟨Tryz.func145,⟨Tryz.func143,⟨Tryz.func142,trivial,trivial⟩,⟨Tryz.func144,trivial,trivial⟩⟩,⟨Tryz.func147,⟨Tryz.func146,trivial,trivial⟩,trivial⟩⟩⟩⟩,⟨Tryz.func165,⟨Tryz.func156,⟨Tryz.func152,⟨Tryz.func150,⟨Tryz.func149,trivial,trivial⟩,⟨Tryz.func151,trivial,trivial⟩⟩,⟨Tryz.func154,⟨Tryz.func153,trivial,trivial⟩,⟨Tryz.func155,trivial,trivial⟩⟩⟩,⟨Tryz.func160,⟨Tryz.func158,⟨Tryz.func157,trivial,trivial⟩,⟨Tryz.func159,trivial,trivial⟩⟩,⟨Tryz.func164,⟨Tryz.func161,trivial,trivial⟩,trivial⟩⟩⟩,⟨Tryz.func172,⟨Tryz.func169,⟨Tryz.func167,⟨Tryz.func166,trivial,trivial⟩,⟨Tryz.func168,trivial,trivial⟩⟩,⟨Tryz.func171,⟨Tryz.func170,trivial,trivial⟩,trivial⟩⟩,⟨Tryz.func176,⟨Tryz.func174,⟨Tryz.func173,trivial,trivial⟩,⟨Tryz.func175,trivial,trivial⟩⟩,⟨Tryz.func178,⟨Tryz.func177,trivial,trivial⟩,trivial⟩⟩⟩⟩⟩,⟨Tryz.func210,⟨Tryz.func196,⟨Tryz.func188,⟨Tryz.func184,⟨Tryz.func182,⟨Tryz.func181,trivial,trivial⟩,⟨Tryz.func183,trivial,trivial⟩⟩,⟨Tryz.func186,⟨Tryz.func185,trivial,trivial⟩,⟨Tryz.func187,trivial,trivial⟩⟩⟩,⟨Tryz.func192,⟨Tryz.func190,⟨Tryz.func189,trivial,trivial⟩,⟨Tryz.func191,trivial,trivial⟩⟩,⟨Tryz.func195,⟨Tryz.func193,trivial,trivial⟩,trivial⟩⟩⟩,⟨Tryz.func203,⟨Tryz.func200,⟨Tryz.func198,⟨Tryz.func197,trivial,trivial⟩,⟨Tryz.func199,trivial,trivial⟩⟩,⟨Tryz.func202,⟨Tryz.func201,trivial,trivial⟩,trivial⟩⟩,⟨Tryz.func207,⟨Tryz.func205,⟨Tryz.func204,trivial,trivial⟩,⟨Tryz.func206,trivial,trivial⟩⟩,⟨Tryz.func209,⟨Tryz.func208,trivial,trivial⟩,trivial⟩⟩⟩⟩,⟨Tryz.func225,⟨Tryz.func218,⟨Tryz.func214,⟨Tryz.func212,⟨Tryz.func211,trivial,trivial⟩,⟨Tryz.func213,trivial,trivial⟩⟩,⟨Tryz.func216,⟨Tryz.func215,trivial,trivial⟩,⟨Tryz.func217,trivial,trivial⟩⟩⟩,⟨Tryz.func222,⟨Tryz.func220,⟨Tryz.func219,trivial,trivial⟩,⟨Tryz.func221,trivial,trivial⟩⟩,⟨Tryz.func224,⟨Tryz.func223,trivial,trivial⟩,trivial⟩⟩⟩,⟨Tryz.func232,⟨Tryz.func229,⟨Tryz.func227,⟨Tryz.func226,trivial,trivial⟩,⟨Tryz.func228,trivial,trivial⟩⟩,⟨Tryz.func231,⟨Tryz.func230,trivial,trivial⟩,trivial⟩⟩,⟨Tryz.func236,⟨Tryz.func234,⟨Tryz.func233,trivial,trivial⟩,⟨Tryz.func235,trivial,trivial⟩⟩,⟨Tryz.func238,⟨Tryz.func237,trivial,trivial⟩,trivial⟩⟩⟩⟩⟩⟩⟩
theorem j5a:j2h Tryz.prog fnTab:=h1t j4z (by kernel_rfl)
theorem j2v:i9f Tryz.prog E:=fun f fn h=>h1u j5a f fn h
abbrev LL:=List (List T)
abbrev OO:=Option Outs
abbrev V0_:=Int×List (List T)
abbrev V1_:=Int×Int
abbrev V2_:=Int×Int×List (List T)
abbrev V3_:=Int×Int×Int×Int×Int×Int×Int×Int×Int×Int×Bool×Bool×List (List T)×List (List T)
abbrev V4_:=List (List T)×Int
abbrev V5_:=Bool×Int×List (List T)
abbrev V6_:=Int×Int×List (List T)×Int
abbrev W64 (n:Int):Int:=IntKind.wrap .i64 n
theorem B2_:(∀ (R:Type) (a d:R) l,(a::l).getD 0 d=a)∧(∀ (R:Type) (a d:R) l n,(a::l).getD (n+1) d=l.getD n d):=⟨fun _ _ _ _=>rfl,fun _ _ _ _ _=>rfl⟩
end Go.Proofs.YtkamidjllckpgaaGreat.Ev
