/- The seat's types and functions, as the evaluator takes them. No condition. -/
import Derived.Test.YtjadnceefhbphaaGreatmEvYb
import Derived.Test.YtjadnceefhbphaaGreatProg
namespace Go.Proofs.YtjadnceefhbphaaGreat.Ev
open Go Go.Proofs
set_option linter.unusedVariables false
set_option maxRecDepth 100000
def tys:List TI:=[⟨.other,[],0⟩,
 ⟨.other,[],0⟩,
 ⟨.int .i64,[.int .i64],8⟩,
 ⟨.int .i64,[.int .i64],8⟩,
 ⟨.bool,[.bool],1⟩,
 ⟨.int .u8,[.int .u8],1⟩,
 ⟨.int .u8,[.int .u8],1⟩,
 ⟨.struct [(0,2),(1,3),(2,4),(3,6)],[.int .i64,.int .i64,.bool,.int .u8],24⟩,
 ⟨.struct [(0,2),(1,3),(2,4),(3,6)],[.int .i64,.int .i64,.bool,.int .u8],24⟩,
 ⟨.str,[.str],16⟩,
 ⟨.str,[.str],16⟩,
 ⟨.str,[.str],16⟩,
 ⟨.int .u64,[.int .u64],8⟩,
 ⟨.struct [(0,9),(1,12)],[.str,.int .u64],24⟩,
 ⟨.struct [(0,9),(1,12)],[.str,.int .u64],24⟩,
 ⟨.ptr 230,[.ptr 230],8⟩,
 ⟨.ptr 233,[.ptr 233],8⟩,
 ⟨.ptr 243,[.ptr 243],8⟩,
 ⟨.struct [(0,17)],[.ptr 243],8⟩,
 ⟨.struct [(0,17)],[.ptr 243],8⟩,
 ⟨.other,[],0⟩,
 ⟨.int .i32,[.int .i32],4⟩,
 ⟨.struct [(0,3),(1,3)],[.int .i64,.int .i64],16⟩,
 ⟨.struct [(0,3),(1,3)],[.int .i64,.int .i64],16⟩,
 ⟨.slice 129,[.row 129],24⟩,
 ⟨.slice 132,[.row 132],24⟩,
 ⟨.struct [(0,3),(1,23),(3,24),(4,3),(5,3),(6,3),(7,3),(8,3),(9,25),(10,3),(11,4),(12,4)],[.int .i64,.int .i64,.int .i64,.row 129,.int .i64,.int .i64,.int .i64,.int .i64,.int .i64,.row 132,.int .i64,.bool,.bool],128⟩,
 ⟨.struct [(0,3),(1,23),(3,24),(4,3),(5,3),(6,3),(7,3),(8,3),(9,25),(10,3),(11,4),(12,4)],[.int .i64,.int .i64,.int .i64,.row 129,.int .i64,.int .i64,.int .i64,.int .i64,.int .i64,.row 132,.int .i64,.bool,.bool],128⟩,
 ⟨.slice 80,[.row 80],24⟩,
 ⟨.slice 83,[.row 83],24⟩,
 ⟨.slice 86,[.row 86],24⟩,
 ⟨.slice 89,[.row 89],24⟩,
 ⟨.struct [(0,27),(13,28),(14,29),(15,30),(16,31)],[.int .i64,.int .i64,.int .i64,.row 129,.int .i64,.int .i64,.int .i64,.int .i64,.int .i64,.row 132,.int .i64,.bool,.bool,.row 80,.row 83,.row 86,.row 89],224⟩,
 ⟨.struct [(0,27),(13,28),(14,29),(15,30),(16,31)],[.int .i64,.int .i64,.int .i64,.row 129,.int .i64,.int .i64,.int .i64,.int .i64,.int .i64,.row 132,.int .i64,.bool,.bool,.row 80,.row 83,.row 86,.row 89],224⟩,
 ⟨.other,[],0⟩,
 ⟨.struct [(0,3),(1,3)],[.int .i64,.int .i64],16⟩,
 ⟨.slice 135,[.row 135],24⟩,
 ⟨.slice 137,[.row 137],24⟩,
 ⟨.struct [(0,3),(1,35),(3,36),(4,3),(5,3),(6,3),(7,3),(8,3),(9,37),(10,3),(11,4),(12,4)],[.int .i64,.int .i64,.int .i64,.row 135,.int .i64,.int .i64,.int .i64,.int .i64,.int .i64,.row 137,.int .i64,.bool,.bool],128⟩,
 ⟨.struct [(0,3),(1,35),(3,36),(4,3),(5,3),(6,3),(7,3),(8,3),(9,37),(10,3),(11,4),(12,4)],[.int .i64,.int .i64,.int .i64,.row 135,.int .i64,.int .i64,.int .i64,.int .i64,.int .i64,.row 137,.int .i64,.bool,.bool],128⟩,
 ⟨.slice 91,[.row 91],24⟩,
 ⟨.slice 94,[.row 94],24⟩,
 ⟨.slice 95,[.row 95],24⟩,
 ⟨.slice 98,[.row 98],24⟩,
 ⟨.struct [(0,39),(13,40),(14,41),(15,42),(16,43)],[.int .i64,.int .i64,.int .i64,.row 135,.int .i64,.int .i64,.int .i64,.int .i64,.int .i64,.row 137,.int .i64,.bool,.bool,.row 91,.row 94,.row 95,.row 98],224⟩,
 ⟨.struct [(0,39),(13,40),(14,41),(15,42),(16,43)],[.int .i64,.int .i64,.int .i64,.row 135,.int .i64,.int .i64,.int .i64,.int .i64,.int .i64,.row 137,.int .i64,.bool,.bool,.row 91,.row 94,.row 95,.row 98],224⟩,
 ⟨.other,[],0⟩,
 ⟨.other,[],0⟩,
 ⟨.other,[],0⟩,
 ⟨.other,[],0⟩,
 ⟨.other,[],0⟩,
 ⟨.other,[],0⟩,
 ⟨.other,[],0⟩,
 ⟨.other,[],0⟩,
 ⟨.other,[],0⟩,
 ⟨.other,[],0⟩,
 ⟨.other,[],0⟩,
 ⟨.other,[],0⟩,
 ⟨.other,[],0⟩,
 ⟨.other,[],0⟩,
 ⟨.other,[],0⟩,
 ⟨.other,[],0⟩,
 ⟨.other,[],0⟩,
 ⟨.other,[],0⟩,
 ⟨.other,[],0⟩,
 ⟨.other,[],0⟩,
 ⟨.other,[],0⟩,
 ⟨.other,[],0⟩,
 ⟨.other,[],0⟩,
 ⟨.other,[],0⟩,
 ⟨.other,[],0⟩,
 ⟨.other,[],0⟩,
 ⟨.other,[],0⟩,
 ⟨.other,[],0⟩,
 ⟨.other,[],0⟩,
 ⟨.other,[],0⟩,
 ⟨.other,[],0⟩,
 ⟨.other,[],0⟩,
 ⟨.slice 3,[.row 3],24⟩,
 ⟨.struct [(0,3),(1,3),(2,3),(3,3),(4,78)],[.int .i64,.int .i64,.int .i64,.int .i64,.row 3],56⟩,
 ⟨.struct [(0,3),(1,3),(2,3),(3,3),(4,78)],[.int .i64,.int .i64,.int .i64,.int .i64,.row 3],56⟩,
 ⟨.other,[],0⟩,
 ⟨.struct [(0,80),(5,3),(6,78),(7,3)],[.int .i64,.int .i64,.int .i64,.int .i64,.row 3,.int .i64,.row 3,.int .i64],96⟩,
 ⟨.struct [(0,80),(5,3),(6,78),(7,3)],[.int .i64,.int .i64,.int .i64,.int .i64,.row 3,.int .i64,.row 3,.int .i64],96⟩,
 ⟨.other,[],0⟩,
 ⟨.struct [(0,3),(1,3),(2,78)],[.int .i64,.int .i64,.row 3],40⟩,
 ⟨.struct [(0,3),(1,3),(2,78)],[.int .i64,.int .i64,.row 3],40⟩,
 ⟨.other,[],0⟩,
 ⟨.struct [(0,80),(5,86)],[.int .i64,.int .i64,.int .i64,.int .i64,.row 3,.int .i64,.int .i64,.row 3],96⟩,
 ⟨.struct [(0,80),(5,86)],[.int .i64,.int .i64,.int .i64,.int .i64,.row 3,.int .i64,.int .i64,.row 3],96⟩,
 ⟨.other,[],0⟩,
 ⟨.struct [(0,3),(1,3),(2,3),(3,3),(4,78)],[.int .i64,.int .i64,.int .i64,.int .i64,.row 3],56⟩,
 ⟨.other,[],0⟩,
 ⟨.struct [(0,91),(5,3),(6,78),(7,3)],[.int .i64,.int .i64,.int .i64,.int .i64,.row 3,.int .i64,.row 3,.int .i64],96⟩,
 ⟨.struct [(0,91),(5,3),(6,78),(7,3)],[.int .i64,.int .i64,.int .i64,.int .i64,.row 3,.int .i64,.row 3,.int .i64],96⟩,
 ⟨.struct [(0,3),(1,3),(2,78)],[.int .i64,.int .i64,.row 3],40⟩,
 ⟨.other,[],0⟩,
 ⟨.struct [(0,91),(5,95)],[.int .i64,.int .i64,.int .i64,.int .i64,.row 3,.int .i64,.int .i64,.row 3],96⟩,
 ⟨.struct [(0,91),(5,95)],[.int .i64,.int .i64,.int .i64,.int .i64,.row 3,.int .i64,.int .i64,.row 3],96⟩,
 ⟨.other,[],0⟩,
 ⟨.other,[],0⟩,
 ⟨.ptr 45,[.ptr 45],8⟩,
 ⟨.other,[],0⟩,
 ⟨.other,[],0⟩,
 ⟨.other,[],0⟩,
 ⟨.other,[],0⟩,
 ⟨.other,[],0⟩,
 ⟨.other,[],0⟩,
 ⟨.other,[],0⟩,
 ⟨.other,[],0⟩,
 ⟨.ptr 94,[.ptr 94],8⟩,
 ⟨.other,[],0⟩,
 ⟨.other,[],0⟩,
 ⟨.other,[],0⟩,
 ⟨.other,[],0⟩,
 ⟨.other,[],0⟩,
 ⟨.other,[],0⟩,
 ⟨.other,[],0⟩,
 ⟨.other,[],0⟩,
 ⟨.other,[],0⟩,
 ⟨.other,[],0⟩,
 ⟨.other,[],0⟩,
 ⟨.other,[],0⟩,
 ⟨.other,[],0⟩,
 ⟨.other,[],0⟩,
 ⟨.other,[],0⟩,
 ⟨.slice 78,[.row 78],24⟩,
 ⟨.slice 183,[.row 183],24⟩,
 ⟨.struct [(0,126),(1,127),(2,4),(3,78)],[.row 78,.row 183,.bool,.row 3],80⟩,
 ⟨.struct [(0,126),(1,127),(2,4),(3,78)],[.row 78,.row 183,.bool,.row 3],80⟩,
 ⟨.other,[],0⟩,
 ⟨.struct [(0,3),(1,78)],[.int .i64,.row 3],32⟩,
 ⟨.struct [(0,3),(1,78)],[.int .i64,.row 3],32⟩,
 ⟨.slice 161,[.row 161],24⟩,
 ⟨.struct [(0,126),(1,133),(2,4),(3,78)],[.row 78,.row 161,.bool,.row 3],80⟩,
 ⟨.struct [(0,126),(1,133),(2,4),(3,78)],[.row 78,.row 161,.bool,.row 3],80⟩,
 ⟨.other,[],0⟩,
 ⟨.struct [(0,3),(1,78)],[.int .i64,.row 3],32⟩,
 ⟨.other,[],0⟩,
 ⟨.other,[],0⟩,
 ⟨.other,[],0⟩,
 ⟨.ptr 39,[.ptr 39],8⟩,
 ⟨.other,[],0⟩,
 ⟨.other,[],0⟩,
 ⟨.other,[],0⟩,
 ⟨.other,[],0⟩,
 ⟨.other,[],0⟩,
 ⟨.other,[],0⟩,
 ⟨.other,[],0⟩,
 ⟨.other,[],0⟩,
 ⟨.other,[],0⟩,
 ⟨.other,[],0⟩,
 ⟨.other,[],0⟩,
 ⟨.other,[],0⟩,
 ⟨.other,[],0⟩,
 ⟨.other,[],0⟩,
 ⟨.other,[],0⟩,
 ⟨.other,[],0⟩,
 ⟨.other,[],0⟩,
 ⟨.other,[],0⟩,
 ⟨.struct [(0,3),(1,78)],[.int .i64,.row 3],32⟩,
 ⟨.struct [(0,3),(1,78)],[.int .i64,.row 3],32⟩,
 ⟨.other,[],0⟩,
 ⟨.other,[],0⟩,
 ⟨.other,[],0⟩,
 ⟨.other,[],0⟩,
 ⟨.other,[],0⟩,
 ⟨.other,[],0⟩,
 ⟨.other,[],0⟩,
 ⟨.other,[],0⟩,
 ⟨.other,[],0⟩,
 ⟨.other,[],0⟩,
 ⟨.other,[],0⟩,
 ⟨.other,[],0⟩,
 ⟨.other,[],0⟩,
 ⟨.other,[],0⟩,
 ⟨.other,[],0⟩,
 ⟨.other,[],0⟩,
 ⟨.other,[],0⟩,
 ⟨.other,[],0⟩,
 ⟨.other,[],0⟩,
 ⟨.other,[],0⟩,
 ⟨.other,[],0⟩,
 ⟨.struct [(0,3),(1,78)],[.int .i64,.row 3],32⟩,
 ⟨.other,[],0⟩,
 ⟨.other,[],0⟩,
 ⟨.other,[],0⟩,
 ⟨.other,[],0⟩,
 ⟨.other,[],0⟩,
 ⟨.other,[],0⟩,
 ⟨.other,[],0⟩,
 ⟨.other,[],0⟩,
 ⟨.other,[],0⟩,
 ⟨.other,[],0⟩,
 ⟨.other,[],0⟩,
 ⟨.other,[],0⟩,
 ⟨.other,[],0⟩,
 ⟨.other,[],0⟩,
 ⟨.other,[],0⟩,
 ⟨.other,[],0⟩,
 ⟨.struct [(0,3),(1,3),(2,78)],[.int .i64,.int .i64,.row 3],40⟩,
 ⟨.struct [(0,3),(1,3),(2,78)],[.int .i64,.int .i64,.row 3],40⟩,
 ⟨.other,[],0⟩,
 ⟨.other,[],0⟩,
 ⟨.other,[],0⟩,
 ⟨.other,[],0⟩,
 ⟨.other,[],0⟩,
 ⟨.other,[],0⟩,
 ⟨.other,[],0⟩,
 ⟨.other,[],0⟩,
 ⟨.other,[],0⟩,
 ⟨.other,[],0⟩,
 ⟨.other,[],0⟩,
 ⟨.other,[],0⟩,
 ⟨.other,[],0⟩,
 ⟨.other,[],0⟩,
 ⟨.other,[],0⟩,
 ⟨.struct [(0,3),(1,3),(2,3),(3,3),(4,3),(5,3),(6,3),(7,3)],[.int .i64,.int .i64,.int .i64,.int .i64,.int .i64,.int .i64,.int .i64,.int .i64],64⟩,
 ⟨.struct [(0,3),(1,3),(2,3),(3,3),(4,3),(5,3),(6,3),(7,3)],[.int .i64,.int .i64,.int .i64,.int .i64,.int .i64,.int .i64,.int .i64,.int .i64],64⟩,
 ⟨.other,[],0⟩,
 ⟨.other,[],0⟩,
 ⟨.other,[],0⟩,
 ⟨.other,[],0⟩,
 ⟨.other,[],0⟩,
 ⟨.other,[],0⟩,
 ⟨.other,[],0⟩,
 ⟨.other,[],0⟩,
 ⟨.other,[],0⟩,
 ⟨.other,[],0⟩,
 ⟨.struct [(0,17),(1,17),(2,17),(3,9)],[.ptr 243,.ptr 243,.ptr 243,.str],40⟩,
 ⟨.struct [(0,17),(1,17),(2,17),(3,9)],[.ptr 243,.ptr 243,.ptr 243,.str],40⟩,
 ⟨.other,[],0⟩,
 ⟨.other,[],0⟩,
 ⟨.other,[],0⟩,
 ⟨.other,[],0⟩,
 ⟨.int .u32,[.int .u32],4⟩,
 ⟨.int .u8,[.int .u8],1⟩,
 ⟨.int .u8,[.int .u8],1⟩,
 ⟨.other,[],0⟩,
 ⟨.ptr 5,[.ptr 5],8⟩,
 ⟨.int .i32,[.int .i32],4⟩,
 ⟨.int .i32,[.int .i32],4⟩,
 ⟨.other,[],0⟩,
 ⟨.other,[],0⟩,
 ⟨.other,[],0⟩]
namespace N
abbrev k0j:Nat:=3
abbrev j6l:Nat:=4
abbrev j7z:Nat:=5
abbrev j2y:Nat:=6
abbrev j5t:Nat:=7
abbrev j2x:Nat:=8
abbrev j5v:Nat:=9
abbrev j5w:Nat:=10
abbrev j6e:Nat:=11
abbrev j6f:Nat:=12
abbrev j6h:Nat:=13
abbrev j6i:Nat:=14
abbrev j6k:Nat:=15
abbrev j2g:Nat:=16
abbrev j1s:Nat:=17
abbrev j7y:Nat:=18
abbrev j6u:Nat:=19
abbrev j6v:Nat:=20
abbrev j6x:Nat:=21
abbrev j6y:Nat:=22
abbrev j7a:Nat:=23
abbrev j2j:Nat:=24
abbrev j1t:Nat:=25
abbrev j9b:Nat:=26
abbrev j9k:Nat:=27
abbrev j9l:Nat:=28
abbrev j9n:Nat:=29
abbrev j9o:Nat:=30
abbrev j9q:Nat:=31
abbrev j9v:Nat:=32
abbrev j9w:Nat:=33
abbrev j9x:Nat:=34
abbrev j9y:Nat:=35
abbrev j9z:Nat:=36
abbrev k0e:Nat:=37
abbrev k0f:Nat:=38
abbrev k0g:Nat:=39
abbrev k0h:Nat:=40
abbrev k0i:Nat:=41
abbrev j6b:Nat:=42
abbrev j6d:Nat:=43
abbrev j3l:Nat:=44
abbrev j6g:Nat:=45
abbrev j4f:Nat:=46
abbrev j6j:Nat:=47
abbrev j2n:Nat:=48
abbrev j3n:Nat:=49
abbrev j1w:Nat:=50
abbrev j7g:Nat:=51
abbrev k0k:Nat:=52
abbrev j6m:Nat:=53
abbrev j6r:Nat:=54
abbrev j6t:Nat:=55
abbrev j3m:Nat:=56
abbrev j6w:Nat:=57
abbrev j4g:Nat:=58
abbrev j6z:Nat:=59
abbrev j2i:Nat:=60
abbrev j3c:Nat:=61
abbrev j1u:Nat:=62
abbrev j3u:Nat:=63
abbrev j8g:Nat:=64
abbrev j5e:Nat:=65
abbrev k0l:Nat:=66
abbrev k0m:Nat:=67
abbrev j1v:Nat:=68
abbrev j9c:Nat:=69
abbrev j9h:Nat:=70
abbrev j9j:Nat:=71
abbrev j4e:Nat:=72
abbrev j9m:Nat:=73
abbrev j5u:Nat:=74
abbrev j9p:Nat:=75
abbrev j9t:Nat:=76
abbrev j9u:Nat:=77
abbrev j1y:Nat:=78
abbrev k0c:Nat:=79
abbrev k0d:Nat:=80
abbrev j1z:Nat:=81
abbrev j6a:Nat:=82
abbrev j6c:Nat:=83
abbrev j2e:Nat:=84
abbrev j2m:Nat:=85
abbrev j4j:Nat:=86
abbrev j2z:Nat:=87
abbrev j4k:Nat:=88
abbrev k0n:Nat:=89
abbrev k0o:Nat:=90
abbrev j6q:Nat:=91
abbrev j6s:Nat:=92
abbrev j2f:Nat:=93
abbrev j8a:Nat:=94
abbrev j8c:Nat:=95
abbrev j2w:Nat:=96
abbrev j3f:Nat:=97
abbrev j3w:Nat:=98
abbrev j4b:Nat:=99
abbrev j3d:Nat:=100
abbrev j3i:Nat:=101
abbrev j1x:Nat:=102
abbrev j3k:Nat:=103
abbrev j9g:Nat:=104
abbrev j9i:Nat:=105
abbrev j2l:Nat:=106
abbrev j9r:Nat:=107
abbrev j9s:Nat:=108
abbrev k0a:Nat:=109
abbrev k0b:Nat:=110
abbrev j5x:Nat:=111
abbrev j5z:Nat:=112
abbrev j3p:Nat:=113
abbrev j2h:Nat:=114
abbrev j7c:Nat:=115
abbrev j2s:Nat:=116
abbrev j7e:Nat:=117
abbrev j7f:Nat:=118
abbrev j2o:Nat:=119
abbrev j3o:Nat:=120
abbrev j3a:Nat:=121
abbrev j3b:Nat:=122
abbrev k0p:Nat:=123
abbrev j6n:Nat:=124
abbrev j6p:Nat:=125
abbrev j2p:Nat:=126
abbrev j2q:Nat:=127
abbrev j2v:Nat:=128
abbrev j5d:Nat:=129
abbrev j8d:Nat:=130
abbrev j2d:Nat:=131
abbrev j8e:Nat:=132
abbrev j8f:Nat:=133
abbrev j8b:Nat:=134
abbrev j3v:Nat:=135
abbrev j3z:Nat:=136
abbrev j3g:Nat:=137
abbrev j5f:Nat:=138
abbrev j5n:Nat:=139
abbrev j5o:Nat:=140
abbrev j5c:Nat:=141
abbrev k0q:Nat:=142
abbrev j2r:Nat:=143
abbrev j5g:Nat:=144
abbrev j5s:Nat:=145
abbrev k0r:Nat:=146
abbrev j9d:Nat:=147
abbrev j9f:Nat:=148
abbrev j5y:Nat:=149
abbrev j7b:Nat:=150
abbrev j2t:Nat:=151
abbrev j4h:Nat:=152
abbrev j4i:Nat:=153
abbrev j2c:Nat:=154
abbrev j7d:Nat:=155
abbrev j4l:Nat:=156
abbrev j4s:Nat:=157
abbrev j4t:Nat:=158
abbrev j7n:Nat:=159
abbrev j4z:Nat:=160
abbrev j2a:Nat:=161
abbrev j6o:Nat:=162
abbrev j3x:Nat:=163
abbrev j3y:Nat:=164
abbrev j3e:Nat:=165
abbrev j4a:Nat:=166
abbrev j5m:Nat:=167
abbrev j8h:Nat:=170
abbrev j3h:Nat:=171
abbrev j8z:Nat:=172
abbrev j9a:Nat:=173
abbrev j9e:Nat:=174
abbrev j3q:Nat:=175
abbrev j4m:Nat:=176
abbrev j4r:Nat:=177
abbrev j4u:Nat:=178
abbrev j4y:Nat:=179
abbrev j5b:Nat:=180
abbrev j8n:Nat:=181
abbrev j5l:Nat:=182
abbrev j8u:Nat:=184
abbrev j5r:Nat:=185
abbrev j2k:Nat:=186
abbrev j7l:Nat:=187
abbrev j7m:Nat:=188
abbrev j7s:Nat:=189
abbrev j4x:Nat:=190
abbrev j2u:Nat:=191
abbrev j5a:Nat:=192
abbrev j8l:Nat:=193
abbrev j8m:Nat:=194
abbrev j5k:Nat:=195
abbrev j4d:Nat:=197
abbrev j8t:Nat:=198
abbrev j3j:Nat:=199
abbrev j8v:Nat:=200
abbrev j8x:Nat:=201
abbrev j8y:Nat:=202
abbrev j5i:Nat:=203
abbrev j5h:Nat:=204
abbrev j7j:Nat:=205
abbrev j7k:Nat:=206
abbrev j4p:Nat:=207
abbrev j4q:Nat:=208
abbrev j3s:Nat:=209
abbrev j7r:Nat:=210
abbrev j3t:Nat:=211
abbrev j7t:Nat:=212
abbrev j7v:Nat:=213
abbrev j7x:Nat:=214
abbrev j4n:Nat:=215
abbrev j4o:Nat:=216
abbrev j8k:Nat:=217
abbrev j5j:Nat:=218
abbrev j5p:Nat:=219
abbrev j4c:Nat:=220
abbrev j8q:Nat:=221
abbrev j8o:Nat:=222
abbrev j5q:Nat:=223
abbrev j8w:Nat:=224
abbrev j7i:Nat:=225
abbrev j4v:Nat:=226
abbrev j3r:Nat:=227
abbrev j7p:Nat:=228
abbrev j4w:Nat:=229
abbrev j7u:Nat:=230
abbrev j7w:Nat:=231
abbrev j8j:Nat:=232
abbrev j8p:Nat:=233
abbrev j8s:Nat:=234
abbrev j2b:Nat:=235
abbrev j7h:Nat:=236
abbrev j7o:Nat:=237
abbrev j7q:Nat:=238
abbrev j8i:Nat:=239
abbrev j8r:Nat:=240
end N
namespace TN
abbrev j1l:Nat:=2
abbrev Int:Nat:=3
abbrev Bool:Nat:=4
abbrev j1m:Nat:=5
abbrev j0t:Nat:=9
abbrev j0e:Nat:=12
abbrev j1n:Nat:=21
abbrev i9a:Nat:=23
abbrev i7l:Nat:=24
abbrev i7m:Nat:=25
abbrev i9b:Nat:=27
abbrev i7n:Nat:=28
abbrev i7o:Nat:=29
abbrev i7p:Nat:=30
abbrev i6p:Nat:=31
abbrev i9c:Nat:=33
abbrev i9d:Nat:=35
abbrev i7q:Nat:=36
abbrev i7r:Nat:=37
abbrev i9e:Nat:=39
abbrev i7s:Nat:=40
abbrev i7t:Nat:=41
abbrev i7u:Nat:=42
abbrev i6q:Nat:=43
abbrev i9f:Nat:=45
abbrev IntS:Nat:=78
abbrev laws_Cmd:Nat:=80
abbrev laws_Job:Nat:=83
abbrev laws_Ans:Nat:=86
abbrev laws_Turn:Nat:=89
abbrev i9g:Nat:=91
abbrev i9h:Nat:=94
abbrev i9i:Nat:=95
abbrev i7v:Nat:=98
abbrev j1o:Nat:=126
abbrev i9j:Nat:=127
abbrev laws_Mem:Nat:=129
abbrev laws_Ent:Nat:=132
abbrev i9k:Nat:=133
abbrev i9l:Nat:=135
abbrev i9m:Nat:=137
abbrev j0f:Nat:=161
abbrev laws_Wr:Nat:=183
abbrev i9n:Nat:=201
abbrev i6r:Nat:=218
abbrev j0u:Nat:=235
end TN
noncomputable def fnTab:Tr Func:=(.node (.node (.node (.node (.node (.node (.node (.node .nil 3 Tryz.f3 .nil) 4 Tryz.f4 (.node .nil 5 Tryz.f5 .nil)) 6 Tryz.f6 (.node (.node .nil 7 Tryz.f7 .nil) 8 Tryz.f8 (.node .nil 9 Tryz.f9 .nil))) 10 Tryz.f10 (.node (.node (.node .nil 11 Tryz.f11 .nil) 12 Tryz.f12 (.node .nil 13 Tryz.f13 .nil)) 14 Tryz.f14 (.node (.node .nil 15 Tryz.f15 .nil) 16 Tryz.f16 .nil))) 17 Tryz.f17 (.node (.node (.node (.node .nil 18 Tryz.f18 .nil) 19 Tryz.f19 (.node .nil 20 Tryz.f20 .nil)) 21 Tryz.f21 (.node (.node .nil 22 Tryz.f22 .nil) 23 Tryz.f23 (.node .nil 24 Tryz.f24 .nil))) 25 Tryz.f25 (.node (.node (.node .nil 26 Tryz.f26 .nil) 27 Tryz.f27 (.node .nil 28 Tryz.f28 .nil)) 29 Tryz.f29 (.node (.node .nil 30 Tryz.f30 .nil) 31 Tryz.f31 .nil)))) 32 Tryz.f32 (.node (.node (.node (.node (.node .nil 33 Tryz.f33 .nil) 34 Tryz.f34 (.node .nil 35 Tryz.f35 .nil)) 36 Tryz.f36 (.node (.node .nil 37 Tryz.f37 .nil) 38 Tryz.f38 (.node .nil 39 Tryz.f39 .nil))) 40 Tryz.f40 (.node (.node (.node .nil 41 Tryz.f41 .nil) 42 Tryz.f42 (.node .nil 43 Tryz.f43 .nil)) 44 Tryz.f44 (.node (.node .nil 45 Tryz.f45 .nil) 46 Tryz.f46 .nil))) 47 Tryz.f47 (.node (.node (.node (.node .nil 48 Tryz.f48 .nil) 49 Tryz.f49 (.node .nil 50 Tryz.f50 .nil)) 51 Tryz.f51 (.node (.node .nil 52 Tryz.f52 .nil) 53 Tryz.f53 .nil)) 54 Tryz.f54 (.node (.node (.node .nil 55 Tryz.f55 .nil) 56 Tryz.f56 (.node .nil 57 Tryz.f57 .nil)) 58 Tryz.f58 (.node (.node .nil 59 Tryz.f59 .nil) 60 Tryz.f60 .nil))))) 61 Tryz.f61 (.node (.node (.node (.node (.node (.node .nil 62 Tryz.f62 .nil) 63 Tryz.f63 (.node .nil 64 Tryz.f64 .nil)) 65 Tryz.f65 (.node (.node .nil 66 Tryz.f66 .nil) 67 Tryz.f67 (.node .nil 68 Tryz.f68 .nil))) 69 Tryz.f69 (.node (.node (.node .nil 70 Tryz.f70 .nil) 71 Tryz.f71 (.node .nil 72 Tryz.f72 .nil)) 73 Tryz.f73 (.node (.node .nil 74 Tryz.f74 .nil) 75 Tryz.f75 .nil))) 76 Tryz.f76 (.node (.node (.node (.node .nil 77 Tryz.f77 .nil) 78 Tryz.f78 (.node .nil 79 Tryz.f79 .nil)) 80 Tryz.f80 (.node (.node .nil 81 Tryz.f81 .nil) 82 Tryz.f82 (.node .nil 83 Tryz.f83 .nil))) 84 Tryz.f84 (.node (.node (.node .nil 85 Tryz.f85 .nil) 86 Tryz.f86 (.node .nil 87 Tryz.f87 .nil)) 88 Tryz.f88 (.node (.node .nil 89 Tryz.f89 .nil) 90 Tryz.f90 .nil)))) 91 Tryz.f91 (.node (.node (.node (.node (.node .nil 92 Tryz.f92 .nil) 93 Tryz.f93 (.node .nil 94 Tryz.f94 .nil)) 95 Tryz.f95 (.node (.node .nil 96 Tryz.f96 .nil) 97 Tryz.f97 (.node .nil 98 Tryz.f98 .nil))) 99 Tryz.f99 (.node (.node (.node .nil 100 Tryz.f100 .nil) 101 Tryz.f101 (.node .nil 102 Tryz.f102 .nil)) 103 Tryz.f103 (.node (.node .nil 104 Tryz.f104 .nil) 105 Tryz.f105 .nil))) 106 Tryz.f106 (.node (.node (.node (.node .nil 107 Tryz.f107 .nil) 108 Tryz.f108 (.node .nil 109 Tryz.f109 .nil)) 110 Tryz.f110 (.node (.node .nil 111 Tryz.f111 .nil) 112 Tryz.f112 .nil)) 113 Tryz.f113 (.node (.node (.node .nil 114 Tryz.f114 .nil) 115 Tryz.f115 (.node .nil 116 Tryz.f116 .nil)) 117 Tryz.f117 (.node (.node .nil 118 Tryz.f118 .nil) 119 Tryz.f119 .nil)))))) 120 Tryz.f120 (.node (.node (.node (.node (.node (.node (.node .nil 121 Tryz.f121 .nil) 122 Tryz.f122 (.node .nil 123 Tryz.f123 .nil)) 124 Tryz.f124 (.node (.node .nil 125 Tryz.f125 .nil) 126 Tryz.f126 (.node .nil 127 Tryz.f127 .nil))) 128 Tryz.f128 (.node (.node (.node .nil 129 Tryz.f129 .nil) 130 Tryz.f130 (.node .nil 131 Tryz.f131 .nil)) 132 Tryz.f132 (.node (.node .nil 133 Tryz.f133 .nil) 134 Tryz.f134 .nil))) 135 Tryz.f135 (.node (.node (.node (.node .nil 136 Tryz.f136 .nil) 137 Tryz.f137 (.node .nil 138 Tryz.f138 .nil)) 139 Tryz.f139 (.node (.node .nil 140 Tryz.f140 .nil) 141 Tryz.f141 (.node .nil 142 Tryz.f142 .nil))) 143 Tryz.f143 (.node (.node (.node .nil 144 Tryz.f144 .nil) 145 Tryz.f145 (.node .nil 146 Tryz.f146 .nil)) 147 Tryz.f147 (.node (.node .nil 148 Tryz.f148 .nil) 149 Tryz.f149 .nil)))) 150 Tryz.f150 (.node (.node (.node (.node (.node .nil 151 Tryz.f151 .nil) 152 Tryz.f152 (.node .nil 153 Tryz.f153 .nil)) 154 Tryz.f154 (.node (.node .nil 155 Tryz.f155 .nil) 156 Tryz.f156 (.node .nil 157 Tryz.f157 .nil))) 158 Tryz.f158 (.node (.node (.node .nil 159 Tryz.f159 .nil) 160 Tryz.f160 (.node .nil 161 Tryz.f161 .nil)) 162 Tryz.f162 (.node (.node .nil 163 Tryz.f163 .nil) 164 Tryz.f164 .nil))) 165 Tryz.f165 (.node (.node (.node (.node .nil 166 Tryz.f166 .nil) 167 Tryz.f167 (.node .nil 170 Tryz.f170 .nil)) 171 Tryz.f171 (.node (.node .nil 172 Tryz.f172 .nil) 173 Tryz.f173 .nil)) 174 Tryz.f174 (.node (.node (.node .nil 175 Tryz.f175 .nil) 176 Tryz.f176 (.node .nil 177 Tryz.f177 .nil)) 178 Tryz.f178 (.node (.node .nil 179 Tryz.f179 .nil) 180 Tryz.f180 .nil))))) 181 Tryz.f181 (.node (.node (.node (.node (.node (.node .nil 182 Tryz.f182 .nil) 184 Tryz.f184 (.node .nil 185 Tryz.f185 .nil)) 186 Tryz.f186 (.node (.node .nil 187 Tryz.f187 .nil) 188 Tryz.f188 (.node .nil 189 Tryz.f189 .nil))) 190 Tryz.f190 (.node (.node (.node .nil 191 Tryz.f191 .nil) 192 Tryz.f192 (.node .nil 193 Tryz.f193 .nil)) 194 Tryz.f194 (.node (.node .nil 195 Tryz.f195 .nil) 197 Tryz.f197 .nil))) 198 Tryz.f198 (.node (.node (.node (.node .nil 199 Tryz.f199 .nil) 200 Tryz.f200 (.node .nil 201 Tryz.f201 .nil)) 202 Tryz.f202 (.node (.node .nil 203 Tryz.f203 .nil) 204 Tryz.f204 .nil)) 205 Tryz.f205 (.node (.node (.node .nil 206 Tryz.f206 .nil) 207 Tryz.f207 (.node .nil 208 Tryz.f208 .nil)) 209 Tryz.f209 (.node (.node .nil 210 Tryz.f210 .nil) 211 Tryz.f211 .nil)))) 212 Tryz.f212 (.node (.node (.node (.node (.node .nil 213 Tryz.f213 .nil) 214 Tryz.f214 (.node .nil 215 Tryz.f215 .nil)) 216 Tryz.f216 (.node (.node .nil 217 Tryz.f217 .nil) 218 Tryz.f218 (.node .nil 219 Tryz.f219 .nil))) 220 Tryz.f220 (.node (.node (.node .nil 221 Tryz.f221 .nil) 222 Tryz.f222 (.node .nil 223 Tryz.f223 .nil)) 224 Tryz.f224 (.node (.node .nil 225 Tryz.f225 .nil) 226 Tryz.f226 .nil))) 227 Tryz.f227 (.node (.node (.node (.node .nil 228 Tryz.f228 .nil) 229 Tryz.f229 (.node .nil 230 Tryz.f230 .nil)) 231 Tryz.f231 (.node (.node .nil 232 Tryz.f232 .nil) 233 Tryz.f233 .nil)) 234 Tryz.f234 (.node (.node (.node .nil 235 Tryz.f235 .nil) 236 Tryz.f236 (.node .nil 237 Tryz.f237 .nil)) 238 Tryz.f238 (.node (.node .nil 239 Tryz.f239 .nil) 240 Tryz.f240 .nil)))))))
def i7w:Tr Sig:=(.node (.node (.node (.node (.node (.node (.node .nil 6 ⟨[],[false,false,false,true,false,false,false,false,false,true,false,false,false,true,true,true,true,false,false,false,true,false,false,false,false,false,true,false,false,false,true,true,true,true],[],true⟩ .nil) 7 ⟨[],[false,false,false,true,false,false,false,false,false,true,false,false,false,true,true,true,true,false,false,false,true,false,false,false,false,false,true,false,false,false,true,true,true,true],[],true⟩ .nil) 9 ⟨[[false,false,false,true,false,false,false,false,false,true,false,false,false,true,true,true,true,false,false,false,true,false,false,false,false,false,true,false,false,false,true,true,true,true,true],[false]],[],[],true⟩ (.node (.node .nil 16 ⟨[],[false,false,false,true,false,false,false,false,false,true,false,false,false,true,true,true,true,false,false,false,false,false,false,false,false,false,false,false,false,false,true,true,true,true],[],true⟩ .nil) 18 ⟨[],[false,false,false,true,false,false,false,false,false,true,false,false,false,true,true,true,true,false,false,false,false,false,false,false,false,false,false,false,false,false,false,true,false,true,false,false],[],true⟩ .nil)) 19 ⟨[],[false,false,false,true,false,false,false,false,false,true,false,false,false,false,false,false,true,false,false,false,false,false,true,false,false,false],[],true⟩ (.node (.node (.node .nil 20 ⟨[],[true,true,true],[],true⟩ .nil) 21 ⟨[],[true,true,true],[],true⟩ .nil) 22 ⟨[],[true,true,true],[],true⟩ (.node (.node .nil 23 ⟨[],[true,true,true],[],true⟩ .nil) 24 ⟨[],[false,false,false,true,false,false,false,false,false,true,false,false,false,true,true,true,true,false,false,false,true,false,false,false,false,false,true,false,false,false,true,true,true,true],[],true⟩ .nil))) 26 ⟨[],[false,false,false,true,false,false,false,false,false,true,false,false,false,true,true,true,true,false,false,false,false,true,false,false,false,false,false,true,false,false,false,true,true,true,true,false],[],true⟩ (.node (.node (.node (.node .nil 32 ⟨[[false,false,false,true,false,false,false,false,false,true,false,false,false,false,false,false,true,false,false,false,false,false,true,false,false,false,true],[false]],[],[],true⟩ .nil) 33 ⟨[[true,true],[false]],[],[],true⟩ .nil) 34 ⟨[[true,true],[false]],[],[],true⟩ (.node (.node .nil 35 ⟨[[true,true],[false]],[],[],true⟩ .nil) 36 ⟨[[true,true],[false]],[],[],true⟩ .nil)) 48 ⟨[],[false,false,false,true,false,false,false,false,false,true,false,false,false],[],false⟩ (.node (.node (.node .nil 49 ⟨[],[false,false,false,false,true],[],false⟩ .nil) 50 ⟨[],[false,false,true],[],false⟩ .nil) 54 ⟨[],[true,true,true],[],true⟩ (.node .nil 55 ⟨[],[true,true,true],[],true⟩ .nil)))) 56 ⟨[],[false,false,false,false,true],[],false⟩ (.node (.node (.node (.node (.node .nil 57 ⟨[],[false,false,false,false,true,false,true,false],[],false⟩ .nil) 58 ⟨[],[false,false,true],[],false⟩ .nil) 59 ⟨[],[false,false,false,false,true,false,false,true],[],false⟩ (.node (.node .nil 60 ⟨[],[false,false,false,true,false,false,false,false,false,true,false,false,false,false,false,false,true,false,false,false,false,false,true,false,false,false],[],true⟩ .nil) 61 ⟨[],[false,false,false,false,true],[],false⟩ .nil)) 62 ⟨[],[true],[],false⟩ (.node (.node (.node .nil 63 ⟨[],[false,false,true],[],false⟩ .nil) 68 ⟨[[false,false,false,true,false,false,false,false,false,true,false,false,false,true,true,true,true,false,false,false,true,false,false,false,false,false,true,false,false,false,true,true,true,true],[false,false,false,false,true],[false,false,true]],[],[],true⟩ .nil) 76 ⟨[[true,true],[false]],[],[],true⟩ (.node (.node .nil 77 ⟨[[true,true],[false]],[],[],true⟩ .nil) 78 ⟨[[false,true],[false]],[],[],false⟩ .nil))) 85 ⟨[],[true,true,false,true],[],false⟩ (.node (.node (.node (.node .nil 91 ⟨[],[true,true,false,true,true,true,false,false],[],true⟩ .nil) 92 ⟨[],[false,true],[],false⟩ .nil) 93 ⟨[],[true],[],false⟩ (.node (.node .nil 94 ⟨[],[true,true,true],[],true⟩ .nil) 102 ⟨[],[false,false,false,true,false,false,false,false,false,true,false,false,false,false,false,false,false,true,false,false,false,false,false,true,false,false,false,false],[],true⟩ .nil)) 103 ⟨[],[false,false,false,true,false,false,false,false,false,true,false,false,false,false,false,false,false,true,false,false,false,false,false,true,false,false,false,false],[],true⟩ (.node (.node (.node .nil 107 ⟨[[true,true],[false]],[],[],true⟩ .nil) 108 ⟨[[true,true],[false]],[],[],true⟩ .nil) 122 ⟨[],[false,false,false,true,false,false,false,false,false,true,false,false,false,false],[],false⟩ (.node .nil 124 ⟨[],[true,true,true],[],true⟩ .nil))))) 125 ⟨[],[true,true,true],[],true⟩ (.node (.node (.node (.node (.node (.node .nil 126 ⟨[],[true,true,false,true,true,true,false,false],[],true⟩ .nil) 139 ⟨[],[true,false],[],false⟩ .nil) 142 ⟨[[false],[false],[true]],[],[],false⟩ (.node (.node .nil 145 ⟨[],[false,false,false,true,false,false,false,false,false,true,false,false,false,false,false,false,false,true,false,false,false,false,false,true,false,false,false,false],[],true⟩ .nil) 157 ⟨[],[true,false],[],false⟩ .nil)) 160 ⟨[[false,false,false,true,false,false,false,false,false,true,false,false,false],[false]],[],[],false⟩ (.node (.node (.node .nil 161 ⟨[],[false,false,false,true,false,false,false,false,false,true,false,false,false,false],[],false⟩ .nil) 162 ⟨[],[false,true],[],false⟩ .nil) 167 ⟨[],[true,false],[],false⟩ (.node (.node .nil 171 ⟨[],[],[3],false⟩ .nil) 172 ⟨[[false,false,false,true,false,false,false,false,false,true,false,false,false,false,false,false,true,false,false,false,false,false,true,false,false,false],[false],[false]],[],[],true⟩ .nil))) 177 ⟨[],[true,false],[],false⟩ (.node (.node (.node (.node .nil 179 ⟨[[false,false,false,true,false,false,false,false,false,true,false,false,false],[false],[false]],[],[],false⟩ .nil) 180 ⟨[[false,false,false,true,false,false,false,false,false,true,false,false,false],[false],[false]],[],[],false⟩ .nil) 181 ⟨[],[true,false],[],false⟩ (.node (.node .nil 184 ⟨[[false,false,false,true,false,false,false,false,false,true,false,false,false,false,false,false,true,false,false,false,false,false,true,false,false,false]],[],[],true⟩ .nil) 185 ⟨[[false,false,false,true,false,false,false,false,false,true,false,false,false,false,false,false,true,false,false,false,false,false,true,false,false,false],[false,false,false]],[],[],true⟩ .nil)) 186 ⟨[[false,false,false,true,false,false,false,false,false,true,false,false,false,false,false,false,true,false,false,false,false,false,true,false,false,false],[false],[false]],[],[],true⟩ (.node (.node (.node .nil 187 ⟨[],[true,false],[],false⟩ .nil) 189 ⟨[[false,false,false,true,false,false,false,false,false,true,false,false,false]],[],[],false⟩ .nil) 190 ⟨[[false,false,false,true,false,false,false,false,false,true,false,false,false],[false,false,false]],[],[],false⟩ (.node .nil 191 ⟨[[false,false,false,true,false,false,false,false,false,true,false,false,false],[false],[false]],[],[],false⟩ .nil)))) 192 ⟨[[false,false,false,true,false,false,false,false,false,true,false,false,false],[false,false]],[],[],false⟩ (.node (.node (.node (.node (.node .nil 197 ⟨[[false,false,false,true,false,false,false,false,false,true,false,false,false,false,false,false,true,false,false,false,false,false,true,false,false,false]],[],[],true⟩ .nil) 198 ⟨[[false,false,false,true,false,false,false,false,false,true,false,false,false,false,false,false,true,false,false,false,false,false,true,false,false,false]],[],[],true⟩ .nil) 199 ⟨[[false,false,false,true,false,false,false,false,false,true,false,false,false,false,false,false,true,false,false,false,false,false,true,false,false,false],[false],[false],[false]],[],[],true⟩ (.node (.node .nil 201 ⟨[],[true],[],false⟩ .nil) 209 ⟨[[false,false,false,true,false,false,false,false,false,true,false,false,false]],[],[],false⟩ .nil)) 210 ⟨[[false,false,false,true,false,false,false,false,false,true,false,false,false]],[],[],false⟩ (.node (.node (.node .nil 211 ⟨[[false,false,false,true,false,false,false,false,false,true,false,false,false],[false],[false],[false]],[],[],false⟩ .nil) 213 ⟨[],[true],[],false⟩ .nil) 217 ⟨[],[true,false],[],false⟩ (.node .nil 219 ⟨[[false,false,false,true,false,false,false,false,false,true,false,false,false,false,false,false,true,false,false,false,false,false,true,false,false,false]],[],[],true⟩ .nil))) 220 ⟨[],[true,true,false,true,true,true,false,false],[],true⟩ (.node (.node (.node (.node .nil 221 ⟨[],[true],[],false⟩ .nil) 223 ⟨[],[true,true,false,true,false,true,true,false,false,false],[],true⟩ .nil) 225 ⟨[],[true,false],[],false⟩ (.node (.node .nil 226 ⟨[[false,false,false,true,false,false,false,false,false,true,false,false,false]],[],[],false⟩ .nil) 227 ⟨[],[true,true,false,true],[],false⟩ .nil)) 228 ⟨[],[true],[],false⟩ (.node (.node (.node .nil 229 ⟨[],[true,true,false,true,false],[],false⟩ .nil) 234 ⟨[[true],[]],[true],[],false⟩ .nil) 235 ⟨[],[],[3],false⟩ (.node .nil 238 ⟨[],[true],[],false⟩ .nil))))))
noncomputable def E:Env:={ tys:=tys,fn:=fnTab.get,sig:=j0d i7w,gl:=[],del:=[(67,94),(142,1000137),(146,137)],inl:=[52,66,89,90,123],frz:=[] }
def P0:FuncId→Option (List Arg→Option Outs):=fun _=>none
theorem c1f:a2b Tryz.prog E=true:=by kernel_rfl
theorem g6k:Tryz.prog.follows .mixedOrders=true:=by kernel_rfl
theorem j0g:i8z Tryz.prog fnTab:=⟨Tryz.func120,⟨Tryz.func61,⟨Tryz.func32,⟨Tryz.func17,⟨Tryz.func10,⟨Tryz.func6,⟨Tryz.func4,⟨Tryz.func3,trivial,trivial⟩,⟨Tryz.func5,trivial,trivial⟩⟩,⟨Tryz.func8,⟨Tryz.func7,trivial,trivial⟩,⟨Tryz.func9,trivial,trivial⟩⟩⟩,⟨Tryz.func14,⟨Tryz.func12,⟨Tryz.func11,trivial,trivial⟩,⟨Tryz.func13,trivial,trivial⟩⟩,⟨Tryz.func16,⟨Tryz.func15,trivial,trivial⟩,trivial⟩⟩⟩,⟨Tryz.func25,⟨Tryz.func21,⟨Tryz.func19,⟨Tryz.func18,trivial,trivial⟩,⟨Tryz.func20,trivial,trivial⟩⟩,⟨Tryz.func23,⟨Tryz.func22,trivial,trivial⟩,⟨Tryz.func24,trivial,trivial⟩⟩⟩,⟨Tryz.func29,⟨Tryz.func27,⟨Tryz.func26,trivial,trivial⟩,⟨Tryz.func28,trivial,trivial⟩⟩,⟨Tryz.func31,⟨Tryz.func30,trivial,trivial⟩,trivial⟩⟩⟩⟩,⟨Tryz.func47,⟨Tryz.func40,⟨Tryz.func36,⟨Tryz.func34,⟨Tryz.func33,trivial,trivial⟩,⟨Tryz.func35,trivial,trivial⟩⟩,⟨Tryz.func38,⟨Tryz.func37,trivial,trivial⟩,⟨Tryz.func39,trivial,trivial⟩⟩⟩,⟨Tryz.func44,⟨Tryz.func42,⟨Tryz.func41,trivial,trivial⟩,⟨Tryz.func43,trivial,trivial⟩⟩,⟨Tryz.func46,⟨Tryz.func45,trivial,trivial⟩,trivial⟩⟩⟩,⟨Tryz.func54,⟨Tryz.func51,⟨Tryz.func49,⟨Tryz.func48,trivial,trivial⟩,⟨Tryz.func50,trivial,trivial⟩⟩,⟨Tryz.func53,⟨Tryz.func52,trivial,trivial⟩,trivial⟩⟩,⟨Tryz.func58,⟨Tryz.func56,⟨Tryz.func55,trivial,trivial⟩,⟨Tryz.func57,trivial,trivial⟩⟩,⟨Tryz.func60,⟨Tryz.func59,trivial,trivial⟩,trivial⟩⟩⟩⟩⟩,⟨Tryz.func91,⟨Tryz.func76,⟨Tryz.func69,⟨Tryz.func65,⟨Tryz.func63,⟨Tryz.func62,trivial,trivial⟩,⟨Tryz.func64,trivial,trivial⟩⟩,⟨Tryz.func67,⟨Tryz.func66,trivial,trivial⟩,⟨Tryz.func68,trivial,trivial⟩⟩⟩,⟨Tryz.func73,⟨Tryz.func71,⟨Tryz.func70,trivial,trivial⟩,⟨Tryz.func72,trivial,trivial⟩⟩,⟨Tryz.func75,⟨Tryz.func74,trivial,trivial⟩,trivial⟩⟩⟩,⟨Tryz.func84,⟨Tryz.func80,⟨Tryz.func78,⟨Tryz.func77,trivial,trivial⟩,⟨Tryz.func79,trivial,trivial⟩⟩,⟨Tryz.func82,⟨Tryz.func81,trivial,trivial⟩,⟨Tryz.func83,trivial,trivial⟩⟩⟩,⟨Tryz.func88,⟨Tryz.func86,⟨Tryz.func85,trivial,trivial⟩,⟨Tryz.func87,trivial,trivial⟩⟩,⟨Tryz.func90,⟨Tryz.func89,trivial,trivial⟩,trivial⟩⟩⟩⟩,⟨Tryz.func106,⟨Tryz.func99,⟨Tryz.func95,⟨Tryz.func93,⟨Tryz.func92,trivial,trivial⟩,⟨Tryz.func94,trivial,trivial⟩⟩,⟨Tryz.func97,⟨Tryz.func96,trivial,trivial⟩,⟨Tryz.func98,trivial,trivial⟩⟩⟩,⟨Tryz.func103,⟨Tryz.func101,⟨Tryz.func100,trivial,trivial⟩,⟨Tryz.func102,trivial,trivial⟩⟩,⟨Tryz.func105,⟨Tryz.func104,trivial,trivial⟩,trivial⟩⟩⟩,⟨Tryz.func113,⟨Tryz.func110,⟨Tryz.func108,⟨Tryz.func107,trivial,trivial⟩,⟨Tryz.func109,trivial,trivial⟩⟩,⟨Tryz.func112,⟨Tryz.func111,trivial,trivial⟩,trivial⟩⟩,⟨Tryz.func117,⟨Tryz.func115,⟨Tryz.func114,trivial,trivial⟩,⟨Tryz.func116,trivial,trivial⟩⟩,⟨Tryz.func119,⟨Tryz.func118,trivial,trivial⟩,trivial⟩⟩⟩⟩⟩⟩,⟨Tryz.func181,⟨Tryz.func150,⟨Tryz.func135,⟨Tryz.func128,⟨Tryz.func124,⟨Tryz.func122,⟨Tryz.func121,trivial,trivial⟩,⟨Tryz.func123,trivial,trivial⟩⟩,⟨Tryz.func126,⟨Tryz.func125,trivial,trivial⟩,⟨Tryz.func127,trivial,trivial⟩⟩⟩,⟨Tryz.func132,⟨Tryz.func130,⟨Tryz.func129,trivial,trivial⟩,⟨Tryz.func131,trivial,trivial⟩⟩,⟨Tryz.func134,⟨Tryz.func133,trivial,trivial⟩,trivial⟩⟩⟩,⟨Tryz.func143,⟨Tryz.func139,⟨Tryz.func137,⟨Tryz.func136,trivial,trivial⟩,⟨Tryz.func138,trivial,trivial⟩⟩,⟨Tryz.func141,⟨Tryz.func140,trivial,trivial⟩,⟨Tryz.func142,trivial,trivial⟩⟩⟩,⟨Tryz.func147,⟨Tryz.func145,⟨Tryz.func144,trivial,trivial⟩,⟨Tryz.func146,trivial,trivial⟩⟩,⟨Tryz.func149,⟨Tryz.func148,trivial,trivial⟩,trivial⟩⟩⟩⟩,⟨Tryz.func165,⟨Tryz.func158,⟨Tryz.func154,⟨Tryz.func152,⟨Tryz.func151,trivial,trivial⟩,⟨Tryz.func153,trivial,trivial⟩⟩,⟨Tryz.func156,⟨Tryz.func155,trivial,trivial⟩,⟨Tryz.func157,trivial,trivial⟩⟩⟩,⟨Tryz.func162,⟨Tryz.func160,⟨Tryz.func159,trivial,trivial⟩,⟨Tryz.func161,trivial,trivial⟩⟩,⟨Tryz.func164,⟨Tryz.func163,trivial,trivial⟩,trivial⟩⟩⟩,⟨Tryz.func174,⟨Tryz.func171,⟨Tryz.func167,⟨Tryz.func166,trivial,trivial⟩,⟨Tryz.func170,trivial,trivial⟩⟩,⟨Tryz.func173,⟨Tryz.func172,trivial,trivial⟩,trivial⟩⟩,⟨Tryz.func178,⟨Tryz.func176,⟨Tryz.func175,trivial,trivial⟩,⟨Tryz.func177,trivial,trivial⟩⟩,⟨Tryz.func180,⟨Tryz.func179,trivial,trivial⟩,trivial⟩⟩⟩⟩⟩,⟨Tryz.func212,⟨Tryz.func198,⟨Tryz.func190,⟨Tryz.func186,⟨Tryz.func184,⟨Tryz.func182,trivial,trivial⟩,⟨Tryz.func185,trivial,trivial⟩⟩,⟨Tryz.func188,⟨Tryz.func187,trivial,trivial⟩,⟨Tryz.func189,trivial,trivial⟩⟩⟩,⟨Tryz.func194,⟨Tryz.func192,⟨Tryz.func191,trivial,trivial⟩,⟨Tryz.func193,trivial,trivial⟩⟩,⟨Tryz.func197,⟨Tryz.func195,trivial,trivial⟩,trivial⟩⟩⟩,⟨Tryz.func205,⟨Tryz.func202,⟨Tryz.func200,⟨Tryz.func199,trivial,trivial⟩,⟨Tryz.func201,trivial,trivial⟩⟩,⟨Tryz.func204,⟨Tryz.func203,trivial,trivial⟩,trivial⟩⟩,⟨Tryz.func209,⟨Tryz.func207,⟨Tryz.func206,trivial,trivial⟩,⟨Tryz.func208,trivial,trivial⟩⟩,⟨Tryz.func211,⟨Tryz.func210,trivial,trivial⟩,trivial⟩⟩⟩⟩,⟨Tryz.func227,⟨Tryz.func220,⟨Tryz.func216,⟨Tryz.func214,⟨Tryz.func213,trivial,trivial⟩,⟨Tryz.func215,trivial,trivial⟩⟩,⟨Tryz.func218,⟨Tryz.func217,trivial,trivial⟩,⟨Tryz.func219,trivial,trivial⟩⟩⟩,⟨Tryz.func224,⟨Tryz.func222,⟨Tryz.func221,trivial,trivial⟩,⟨Tryz.func223,trivial,trivial⟩⟩,⟨Tryz.func226,⟨Tryz.func225,trivial,trivial⟩,trivial⟩⟩⟩,⟨Tryz.func234,⟨Tryz.func231,⟨Tryz.func229,⟨Tryz.func228,trivial,trivial⟩,⟨Tryz.func230,trivial,trivial⟩⟩,⟨Tryz.func233,⟨Tryz.func232,trivial,trivial⟩,trivial⟩⟩,⟨Tryz.func238,⟨Tryz.func236,⟨Tryz.func235,trivial,trivial⟩,⟨Tryz.func237,trivial,trivial⟩⟩,⟨Tryz.func240,⟨Tryz.func239,trivial,trivial⟩,trivial⟩⟩⟩⟩⟩⟩⟩
theorem j0h:i7j Tryz.prog fnTab:=g6h j0g (by kernel_rfl)
theorem i7x:i4e Tryz.prog E:=fun f fn h=>g6i j0h f fn h
abbrev LL:=List (List T)
abbrev OO:=Option Outs
abbrev V0_:=Int×List (List T)
abbrev V1_:=Int×Int
abbrev V2_:=Int×Int×List (List T)
abbrev V3_:=Int×Int×Int×Int×Int×Int×Int×Int×Int×Int×Bool×Bool×List (List T)×List (List T)
abbrev V4_:=List (List T)×Int
abbrev V5_:=Int×Int×Int×Int×Int×Int×Int×Int×Int×Int×Bool×Bool×List (List T)×List (List T)×List (List T)×List (List T)×List (List T)×List (List T)
abbrev V6_:=Bool×Int×List (List T)
abbrev V7_:=Int×Int×List (List T)×Int
abbrev W64 (n:Int):Int:=IntKind.wrap .i64 n
theorem B2_:(∀ (R:Type) (a d:R) l,(a::l).getD 0 d=a)∧(∀ (R:Type) (a d:R) l n,(a::l).getD (n+1) d=l.getD n d):=⟨fun _ _ _ _=>rfl,fun _ _ _ _ _=>rfl⟩
abbrev ck_ {R:Type} (a:Int) (c:LL) (x:Option R):Option R:=chk (decide (0≤a)&&decide (a<(c.length:Int))) x
noncomputable abbrev BK_ (k n:Nat) (l:List Arg) (f:Outs→OO):OO:=a0f (a0a E P0 k n l) f
abbrev so_ (l:List T):OO:=some ⟨l,[]⟩
abbrev vi_ (a:Int):Arg:=.v [.i a]
abbrev vr_ (a:LL):Arg:=.v [.r a]
abbrev A.w_ (a:Int):A:=.i .i64 a
abbrev ST_ (a:List (Nat×A)) (b:List (Nm×O)):St:=⟨a3q a,a1f b⟩
abbrev SD_ (a:List (Nat×A)) (b:List (Nm×O)):St:=⟨a3q a,Mem.put (a1f b) a3i .dead⟩
noncomputable abbrev IT_ (k n:Nat) (ar:List Arg) (pins:List Nat) (pt:List Stp) (keep js:List Nat) (j:Nat) (s:St):OO:=h8p E (LB E (a0a E P0 k) k pins n pt) pins keep (LK E (a0a E P0 k) k pins n ar pt js) j s
theorem a2c {k n:Nat} {ar:List Arg} {V:Type} (pins:List Nat) (pt:List Stp) (keep:List Nat) (U:(V→OO)→OO) (S:V→St) (b:(V→OO)→V→OO) (h0:a0a E P0 (k+1) n ar=U (fun v=>IT_ k n ar pins pt keep [] k (S v))) (h1:∀ j v,IT_ k n ar pins pt keep [] (j+1) (S v)=b (fun v=>IT_ k n ar pins pt keep [] j (S v)) v):a0a E P0 (k+1) n ar=U (fun v=>a1k b k v):=h0.trans (congrArg U (funext fun v=>a1v S b h1 k v))
abbrev S0_ (a b c:Int) (d:LL) (e f g h l:Int) (m:LL) (n:Int) (o p:Bool):List T:=[.i a,.i b,.i c,.r d,.i e,.i f,.i g,.i h,.i l,.r m,.i n,.b o,.b p]
abbrev S1_ (a:Outs):List T:=[.i (a.vt 0 0).asI,.i (a.vt 0 1).asI,.i (a.vt 0 2).asI,.r (a.vt 0 3).asR,.i (a.vt 0 4).asI,.i (a.vt 0 5).asI,.i (a.vt 0 6).asI,.i (a.vt 0 7).asI,.i (a.vt 0 8).asI,.r (a.vt 0 9).asR,.i (a.vt 0 10).asI,.b (a.vt 0 11).asB,.b (a.vt 0 12).asB]
abbrev S2_ (a b c:Int) (d:LL) (e f g h l:Int) (m:LL) (n:Int) (o p:Bool) (q r u w:LL):List T:=[.i a,.i b,.i c,.r d,.i e,.i f,.i g,.i h,.i l,.r m,.i n,.b o,.b p,.r q,.r r,.r u,.r w]
abbrev S3_ (a:Outs):List T:=[.i (a.t 0).asI,.i (a.t 1).asI,.r (a.t 2).asR]
abbrev S4_ (a b:Int) (c:LL):List T:=[.i a,.i b,.r c]
abbrev S5_ (a b:LL) (c:Bool) (d:LL):List T:=[.r a,.r b,.b c,.r d]
abbrev S6_ (a:Outs):List T:=[.i (a.t 0).asI,.i (a.t 1).asI,.i (a.t 2).asI,.r (a.t 3).asR,.i (a.t 4).asI,.i (a.t 5).asI,.i (a.t 6).asI,.i (a.t 7).asI,.i (a.t 8).asI,.r (a.t 9).asR,.i (a.t 10).asI,.b (a.t 11).asB,.b (a.t 12).asB,.r (a.t 13).asR,.r (a.t 14).asR,.r (a.t 15).asR,.r (a.t 16).asR]
abbrev S7_ (a b c d:Int) (e:LL):List T:=[.i a,.i b,.i c,.i d,.r e]
abbrev S8_ (a:Outs) (b:Int):List T:=[.i (a.t 0).asI,.i (a.t 1).asI,.i (a.t 2).asI,.r (a.t 3).asR,.i (a.t 4).asI,.i (a.t 5).asI,.i (a.t 6).asI,.i (a.t 7).asI,.i (a.t 8).asI,.r (a.t 9).asR,.i (a.t 10).asI,.b (a.t 11).asB,.b (a.t 12).asB,.i b]
abbrev S9_ (a b:Int):List T:=[.i a,.i b,.r []]
abbrev i2q (a b c d e f g h:Int):List T:=[.i a,.i b,.i c,.i d,.i e,.i f,.i g,.i h]
abbrev i4p (a:Outs):List T:=[.i (a.t 0).asI,.i (a.t 1).asI,.i (a.t 2).asI,.r (a.t 3).asR,.i (a.t 4).asI,.i (a.t 5).asI,.i (a.t 6).asI,.i (a.t 7).asI,.i (a.t 8).asI,.r (a.t 9).asR,.i (a.t 10).asI,.b (a.t 11).asB,.b (a.t 12).asB]
abbrev i7y (a:Outs):List T:=[.r (a.t 0).asR,.r (a.t 1).asR,.b (a.t 2).asB,.r (a.t 3).asR]
abbrev i9o (a:Outs) (b:Int):List T:=[.i (a.vt 0 0).asI,.i (a.vt 0 1).asI,.i (a.vt 0 2).asI,.r (a.vt 0 3).asR,.i (a.vt 0 4).asI,.i (a.vt 0 5).asI,.i b,.i (a.vt 0 7).asI,.i (a.vt 0 8).asI,.r (a.vt 0 9).asR,.i (a.vt 0 10).asI,.b (a.vt 0 11).asB,.b (a.vt 0 12).asB]
abbrev i9p (a:Outs):List T:=[.i (a.vt 0 0).asI,.i (a.vt 0 1).asI,.i (a.vt 0 2).asI,.r (a.vt 0 3).asR,.i (a.vt 0 4).asI,.i (a.vt 0 5).asI,.i (a.vt 0 6).asI,.i (a.vt 0 7).asI,.i (a.vt 0 8).asI,.r (a.vt 0 9).asR,.i (a.vt 0 10).asI,.b (a.vt 0 11).asB,.b (a.vt 0 12).asB,.i (a.t 0).asI]
abbrev i9q (a:Outs) (b:LL):List T:=[.i (a.t 0).asI,.i (a.t 1).asI,.i (a.t 2).asI,.r (a.t 3).asR,.i (a.t 4).asI,.i (a.t 5).asI,.i (a.t 6).asI,.i (a.t 7).asI,.i (a.t 8).asI,.r (a.t 9).asR,.i (a.t 10).asI,.b (a.t 11).asB,.b (a.t 12).asB,.r (a.t 13).asR,.r b,.r (a.t 15).asR,.r (a.t 16).asR]
abbrev j0i (a b:Outs) (c:LL):List T:=[.i (a.t 0).asI,.i (a.t 1).asI,.i (a.t 2).asI,.r (a.t 3).asR,.i (a.t 4).asI,.i (a.t 5).asI,.i (a.t 6).asI,.i (a.t 7).asI,.i (a.t 8).asI,.r (a.t 9).asR,.i (a.t 10).asI,.b (a.t 11).asB,.b (a.t 12).asB,.r (b.t 13).asR,.r c,.r (b.t 15).asR,.r (b.t 16).asR,.b true]
abbrev j0j (a:Outs):List T:=[.i (a.t 1).asI,.i (a.t 2).asI]
abbrev j0v (a:Outs):List T:=[.r (a.t 0).asR,.r (a.t 1).asR,.b (a.t 2).asB,.r (a.t 3).asR,.b false]
abbrev j0w (a:Outs):List T:=[.i (a.vt 0 0).asI,.i (a.vt 0 1).asI,.i (a.vt 0 2).asI,.r (a.vt 0 3).asR,.i (a.vt 0 4).asI,.i (a.vt 0 5).asI,.i (a.vt 0 6).asI,.i (a.vt 0 6).asI,.i (a.vt 0 8).asI,.r (a.vt 0 9).asR,.i (a.vt 0 10).asI,.b (a.vt 0 11).asB,.b (a.vt 0 12).asB]
abbrev j0x (a b:Outs):List T:=[.i (a.t 0).asI,.i (a.t 1).asI,.i (a.t 2).asI,.r (a.t 3).asR,.i (a.t 4).asI,.i (a.t 5).asI,.i (a.t 6).asI,.i (a.t 7).asI,.i (a.t 8).asI,.r (a.t 9).asR,.i (a.t 10).asI,.b (a.t 11).asB,.b (a.t 12).asB,.i (b.t 0).asI]
abbrev j0y (a:Outs) (b:LL):List T:=[.i (a.t 0).asI,.i (a.t 1).asI,.i (a.t 2).asI,.r (a.t 3).asR,.i (a.t 4).asI,.i (a.t 5).asI,.i (a.t 6).asI,.i (a.t 7).asI,.i (a.t 8).asI,.r (a.t 9).asR,.i (a.t 10).asI,.b (a.t 11).asB,.b (a.t 12).asB,.r (a.t 13).asR,.r b,.r (a.t 15).asR,.r (a.t 16).asR,.b true]
abbrev j0z (a:Outs) (b c d:LL):List T:=[.i (a.t 0).asI,.i (a.t 1).asI,.i (a.t 2).asI,.r (a.t 3).asR,.i (a.t 4).asI,.i (a.t 5).asI,.i (a.t 6).asI,.i (a.t 7).asI,.i (a.t 8).asI,.r (a.t 9).asR,.i (a.t 10).asI,.b (a.t 11).asB,.b (a.t 12).asB,.r (a.t 13).asR,.r b,.r c,.r d,.b true]
abbrev j1a (a b:Outs) (c d e:LL):List T:=[.i (a.t 0).asI,.i (a.t 1).asI,.i (a.t 2).asI,.r (a.t 3).asR,.i (a.t 4).asI,.i (a.t 5).asI,.i (a.t 6).asI,.i (a.t 7).asI,.i (a.t 8).asI,.r (a.t 9).asR,.i (a.t 10).asI,.b (a.t 11).asB,.b (a.t 12).asB,.r (b.t 13).asR,.r c,.r d,.r e,.b true]
abbrev j1b (a:Outs):List T:=[.i (a.t 0).asI,.i (a.t 1).asI,.i (a.t 2).asI,.r (a.t 3).asR,.i (a.t 4).asI,.i (a.t 5).asI,.i (a.t 6).asI,.i (a.t 7).asI,.i (a.t 8).asI,.r (a.t 9).asR,.i (a.t 10).asI,.b (a.t 11).asB,.b (a.t 12).asB,.r (a.t 13).asR,.r (a.t 14).asR,.r (a.t 15).asR,.r (a.t 16).asR,.b false]
abbrev j1c (a b:Outs):List T:=[.i (a.t 0).asI,.i (a.t 1).asI,.i (a.t 2).asI,.i (a.t 3).asI,.r (a.t 4).asR,.i (b.t 0).asI,.i (b.t 1).asI,.r (b.t 2).asR]
abbrev j1d (a b:Outs) (c:LL):List T:=[.i (a.t 0).asI,.i (a.t 1).asI,.i (a.t 2).asI,.r (a.t 3).asR,.i (a.t 4).asI,.i (a.t 5).asI,.i (a.t 6).asI,.i (a.t 7).asI,.i (a.t 8).asI,.r (a.t 9).asR,.i (a.t 10).asI,.b (a.t 11).asB,.b (a.t 12).asB,.r (b.t 13).asR,.r c,.r (b.t 15).asR,.r (b.t 16).asR]
abbrev j1e (a b:Outs):List T:=[.i (a.t 0).asI,.i (a.t 1).asI,.i (a.t 2).asI,.r (b.vt 0 3).asR,.i (a.t 4).asI,.i (a.t 5).asI,.i (a.t 6).asI,.i (a.t 7).asI,.i (a.t 8).asI,.r (b.vt 0 9).asR,.i (a.t 10).asI,.b (a.t 11).asB,.b (a.t 12).asB,.r (b.vt 0 13).asR,.r (b.vt 0 14).asR,.r (b.vt 0 15).asR,.r (b.vt 0 16).asR]
end Go.Proofs.YtjadnceefhbphaaGreat.Ev
