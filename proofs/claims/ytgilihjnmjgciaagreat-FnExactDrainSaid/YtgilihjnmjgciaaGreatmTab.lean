/- The seat's types and functions, as the evaluator takes them. No condition. -/
import Derived.Test.YtgilihjnmjgciaaGreatmEvYb
import Derived.Test.YtgilihjnmjgciaaGreatProg
namespace Go.Proofs.YtgilihjnmjgciaaGreat.Ev
open Go Go.Proofs
set_option linter.unusedVariables false
set_option maxRecDepth 100000
def tys:List TI:=[⟨.other,[],0⟩,
 ⟨.other,[],0⟩,
 ⟨.int .i64,[.int .i64],8⟩,
 ⟨.int .i64,[.int .i64],8⟩,
 ⟨.bool,[.bool],1⟩,
 ⟨.int .u8,[.int .u8],1⟩,
 ⟨.int .u8,[.int .u8],1⟩,
 ⟨.struct [(0,2),(1,3),(2,4),(3,6)],[.int .i64,.int .i64,.bool,.int .u8],24⟩,
 ⟨.struct [(0,2),(1,3),(2,4),(3,6)],[.int .i64,.int .i64,.bool,.int .u8],24⟩,
 ⟨.str,[.str],16⟩,
 ⟨.str,[.str],16⟩,
 ⟨.str,[.str],16⟩,
 ⟨.int .u64,[.int .u64],8⟩,
 ⟨.struct [(0,9),(1,12)],[.str,.int .u64],24⟩,
 ⟨.struct [(0,9),(1,12)],[.str,.int .u64],24⟩,
 ⟨.ptr 232,[.ptr 232],8⟩,
 ⟨.ptr 235,[.ptr 235],8⟩,
 ⟨.ptr 245,[.ptr 245],8⟩,
 ⟨.struct [(0,17)],[.ptr 245],8⟩,
 ⟨.struct [(0,17)],[.ptr 245],8⟩,
 ⟨.other,[],0⟩,
 ⟨.int .i32,[.int .i32],4⟩,
 ⟨.struct [(0,3),(1,3)],[.int .i64,.int .i64],16⟩,
 ⟨.struct [(0,3),(1,3)],[.int .i64,.int .i64],16⟩,
 ⟨.slice 128,[.row 128],24⟩,
 ⟨.slice 131,[.row 131],24⟩,
 ⟨.struct [(0,3),(1,23),(3,24),(4,3),(5,3),(6,3),(7,3),(8,3),(9,25),(10,3),(11,4),(12,4)],[.int .i64,.int .i64,.int .i64,.row 128,.int .i64,.int .i64,.int .i64,.int .i64,.int .i64,.row 131,.int .i64,.bool,.bool],128⟩,
 ⟨.struct [(0,3),(1,23),(3,24),(4,3),(5,3),(6,3),(7,3),(8,3),(9,25),(10,3),(11,4),(12,4)],[.int .i64,.int .i64,.int .i64,.row 128,.int .i64,.int .i64,.int .i64,.int .i64,.int .i64,.row 131,.int .i64,.bool,.bool],128⟩,
 ⟨.slice 81,[.row 81],24⟩,
 ⟨.slice 84,[.row 84],24⟩,
 ⟨.slice 87,[.row 87],24⟩,
 ⟨.slice 90,[.row 90],24⟩,
 ⟨.struct [(0,27),(13,28),(14,29),(15,30),(16,31)],[.int .i64,.int .i64,.int .i64,.row 128,.int .i64,.int .i64,.int .i64,.int .i64,.int .i64,.row 131,.int .i64,.bool,.bool,.row 81,.row 84,.row 87,.row 90],224⟩,
 ⟨.struct [(0,27),(13,28),(14,29),(15,30),(16,31)],[.int .i64,.int .i64,.int .i64,.row 128,.int .i64,.int .i64,.int .i64,.int .i64,.int .i64,.row 131,.int .i64,.bool,.bool,.row 81,.row 84,.row 87,.row 90],224⟩,
 ⟨.other,[],0⟩,
 ⟨.struct [(0,3),(1,3)],[.int .i64,.int .i64],16⟩,
 ⟨.slice 134,[.row 134],24⟩,
 ⟨.slice 136,[.row 136],24⟩,
 ⟨.struct [(0,3),(1,35),(3,36),(4,3),(5,3),(6,3),(7,3),(8,3),(9,37),(10,3),(11,4),(12,4)],[.int .i64,.int .i64,.int .i64,.row 134,.int .i64,.int .i64,.int .i64,.int .i64,.int .i64,.row 136,.int .i64,.bool,.bool],128⟩,
 ⟨.struct [(0,3),(1,35),(3,36),(4,3),(5,3),(6,3),(7,3),(8,3),(9,37),(10,3),(11,4),(12,4)],[.int .i64,.int .i64,.int .i64,.row 134,.int .i64,.int .i64,.int .i64,.int .i64,.int .i64,.row 136,.int .i64,.bool,.bool],128⟩,
 ⟨.slice 92,[.row 92],24⟩,
 ⟨.slice 95,[.row 95],24⟩,
 ⟨.slice 96,[.row 96],24⟩,
 ⟨.slice 99,[.row 99],24⟩,
 ⟨.struct [(0,39),(13,40),(14,41),(15,42),(16,43)],[.int .i64,.int .i64,.int .i64,.row 134,.int .i64,.int .i64,.int .i64,.int .i64,.int .i64,.row 136,.int .i64,.bool,.bool,.row 92,.row 95,.row 96,.row 99],224⟩,
 ⟨.struct [(0,39),(13,40),(14,41),(15,42),(16,43)],[.int .i64,.int .i64,.int .i64,.row 134,.int .i64,.int .i64,.int .i64,.int .i64,.int .i64,.row 136,.int .i64,.bool,.bool,.row 92,.row 95,.row 96,.row 99],224⟩,
 ⟨.other,[],0⟩,
 ⟨.other,[],0⟩,
 ⟨.other,[],0⟩,
 ⟨.other,[],0⟩,
 ⟨.other,[],0⟩,
 ⟨.other,[],0⟩,
 ⟨.other,[],0⟩,
 ⟨.other,[],0⟩,
 ⟨.other,[],0⟩,
 ⟨.other,[],0⟩,
 ⟨.other,[],0⟩,
 ⟨.other,[],0⟩,
 ⟨.other,[],0⟩,
 ⟨.other,[],0⟩,
 ⟨.other,[],0⟩,
 ⟨.other,[],0⟩,
 ⟨.other,[],0⟩,
 ⟨.other,[],0⟩,
 ⟨.other,[],0⟩,
 ⟨.other,[],0⟩,
 ⟨.other,[],0⟩,
 ⟨.other,[],0⟩,
 ⟨.other,[],0⟩,
 ⟨.other,[],0⟩,
 ⟨.other,[],0⟩,
 ⟨.other,[],0⟩,
 ⟨.other,[],0⟩,
 ⟨.other,[],0⟩,
 ⟨.other,[],0⟩,
 ⟨.other,[],0⟩,
 ⟨.other,[],0⟩,
 ⟨.other,[],0⟩,
 ⟨.other,[],0⟩,
 ⟨.slice 3,[.row 3],24⟩,
 ⟨.struct [(0,3),(1,3),(2,3),(3,3),(4,79)],[.int .i64,.int .i64,.int .i64,.int .i64,.row 3],56⟩,
 ⟨.struct [(0,3),(1,3),(2,3),(3,3),(4,79)],[.int .i64,.int .i64,.int .i64,.int .i64,.row 3],56⟩,
 ⟨.other,[],0⟩,
 ⟨.struct [(0,81),(5,3),(6,79),(7,3)],[.int .i64,.int .i64,.int .i64,.int .i64,.row 3,.int .i64,.row 3,.int .i64],96⟩,
 ⟨.struct [(0,81),(5,3),(6,79),(7,3)],[.int .i64,.int .i64,.int .i64,.int .i64,.row 3,.int .i64,.row 3,.int .i64],96⟩,
 ⟨.other,[],0⟩,
 ⟨.struct [(0,3),(1,3),(2,79)],[.int .i64,.int .i64,.row 3],40⟩,
 ⟨.struct [(0,3),(1,3),(2,79)],[.int .i64,.int .i64,.row 3],40⟩,
 ⟨.other,[],0⟩,
 ⟨.struct [(0,81),(5,87)],[.int .i64,.int .i64,.int .i64,.int .i64,.row 3,.int .i64,.int .i64,.row 3],96⟩,
 ⟨.struct [(0,81),(5,87)],[.int .i64,.int .i64,.int .i64,.int .i64,.row 3,.int .i64,.int .i64,.row 3],96⟩,
 ⟨.other,[],0⟩,
 ⟨.struct [(0,3),(1,3),(2,3),(3,3),(4,79)],[.int .i64,.int .i64,.int .i64,.int .i64,.row 3],56⟩,
 ⟨.other,[],0⟩,
 ⟨.struct [(0,92),(5,3),(6,79),(7,3)],[.int .i64,.int .i64,.int .i64,.int .i64,.row 3,.int .i64,.row 3,.int .i64],96⟩,
 ⟨.struct [(0,92),(5,3),(6,79),(7,3)],[.int .i64,.int .i64,.int .i64,.int .i64,.row 3,.int .i64,.row 3,.int .i64],96⟩,
 ⟨.struct [(0,3),(1,3),(2,79)],[.int .i64,.int .i64,.row 3],40⟩,
 ⟨.other,[],0⟩,
 ⟨.struct [(0,92),(5,96)],[.int .i64,.int .i64,.int .i64,.int .i64,.row 3,.int .i64,.int .i64,.row 3],96⟩,
 ⟨.struct [(0,92),(5,96)],[.int .i64,.int .i64,.int .i64,.int .i64,.row 3,.int .i64,.int .i64,.row 3],96⟩,
 ⟨.other,[],0⟩,
 ⟨.other,[],0⟩,
 ⟨.other,[],0⟩,
 ⟨.ptr 45,[.ptr 45],8⟩,
 ⟨.other,[],0⟩,
 ⟨.other,[],0⟩,
 ⟨.other,[],0⟩,
 ⟨.other,[],0⟩,
 ⟨.other,[],0⟩,
 ⟨.other,[],0⟩,
 ⟨.other,[],0⟩,
 ⟨.other,[],0⟩,
 ⟨.other,[],0⟩,
 ⟨.other,[],0⟩,
 ⟨.other,[],0⟩,
 ⟨.other,[],0⟩,
 ⟨.other,[],0⟩,
 ⟨.other,[],0⟩,
 ⟨.other,[],0⟩,
 ⟨.other,[],0⟩,
 ⟨.other,[],0⟩,
 ⟨.other,[],0⟩,
 ⟨.other,[],0⟩,
 ⟨.other,[],0⟩,
 ⟨.other,[],0⟩,
 ⟨.slice 79,[.row 79],24⟩,
 ⟨.slice 176,[.row 176],24⟩,
 ⟨.struct [(0,125),(1,126),(2,4),(3,79)],[.row 79,.row 176,.bool,.row 3],80⟩,
 ⟨.struct [(0,125),(1,126),(2,4),(3,79)],[.row 79,.row 176,.bool,.row 3],80⟩,
 ⟨.other,[],0⟩,
 ⟨.struct [(0,3),(1,79)],[.int .i64,.row 3],32⟩,
 ⟨.struct [(0,3),(1,79)],[.int .i64,.row 3],32⟩,
 ⟨.slice 157,[.row 157],24⟩,
 ⟨.struct [(0,125),(1,132),(2,4),(3,79)],[.row 79,.row 157,.bool,.row 3],80⟩,
 ⟨.struct [(0,125),(1,132),(2,4),(3,79)],[.row 79,.row 157,.bool,.row 3],80⟩,
 ⟨.other,[],0⟩,
 ⟨.struct [(0,3),(1,79)],[.int .i64,.row 3],32⟩,
 ⟨.other,[],0⟩,
 ⟨.other,[],0⟩,
 ⟨.other,[],0⟩,
 ⟨.other,[],0⟩,
 ⟨.other,[],0⟩,
 ⟨.other,[],0⟩,
 ⟨.other,[],0⟩,
 ⟨.other,[],0⟩,
 ⟨.other,[],0⟩,
 ⟨.other,[],0⟩,
 ⟨.other,[],0⟩,
 ⟨.other,[],0⟩,
 ⟨.other,[],0⟩,
 ⟨.other,[],0⟩,
 ⟨.other,[],0⟩,
 ⟨.other,[],0⟩,
 ⟨.other,[],0⟩,
 ⟨.other,[],0⟩,
 ⟨.other,[],0⟩,
 ⟨.struct [(0,3),(1,79)],[.int .i64,.row 3],32⟩,
 ⟨.struct [(0,3),(1,79)],[.int .i64,.row 3],32⟩,
 ⟨.other,[],0⟩,
 ⟨.other,[],0⟩,
 ⟨.other,[],0⟩,
 ⟨.other,[],0⟩,
 ⟨.other,[],0⟩,
 ⟨.other,[],0⟩,
 ⟨.ptr 39,[.ptr 39],8⟩,
 ⟨.ptr 95,[.ptr 95],8⟩,
 ⟨.other,[],0⟩,
 ⟨.other,[],0⟩,
 ⟨.other,[],0⟩,
 ⟨.other,[],0⟩,
 ⟨.other,[],0⟩,
 ⟨.other,[],0⟩,
 ⟨.other,[],0⟩,
 ⟨.other,[],0⟩,
 ⟨.other,[],0⟩,
 ⟨.other,[],0⟩,
 ⟨.struct [(0,3),(1,79)],[.int .i64,.row 3],32⟩,
 ⟨.other,[],0⟩,
 ⟨.other,[],0⟩,
 ⟨.other,[],0⟩,
 ⟨.other,[],0⟩,
 ⟨.other,[],0⟩,
 ⟨.other,[],0⟩,
 ⟨.other,[],0⟩,
 ⟨.other,[],0⟩,
 ⟨.other,[],0⟩,
 ⟨.other,[],0⟩,
 ⟨.other,[],0⟩,
 ⟨.other,[],0⟩,
 ⟨.other,[],0⟩,
 ⟨.other,[],0⟩,
 ⟨.other,[],0⟩,
 ⟨.other,[],0⟩,
 ⟨.other,[],0⟩,
 ⟨.other,[],0⟩,
 ⟨.other,[],0⟩,
 ⟨.other,[],0⟩,
 ⟨.other,[],0⟩,
 ⟨.other,[],0⟩,
 ⟨.other,[],0⟩,
 ⟨.other,[],0⟩,
 ⟨.other,[],0⟩,
 ⟨.struct [(0,3),(1,3),(2,79)],[.int .i64,.int .i64,.row 3],40⟩,
 ⟨.struct [(0,3),(1,3),(2,79)],[.int .i64,.int .i64,.row 3],40⟩,
 ⟨.other,[],0⟩,
 ⟨.other,[],0⟩,
 ⟨.other,[],0⟩,
 ⟨.other,[],0⟩,
 ⟨.other,[],0⟩,
 ⟨.other,[],0⟩,
 ⟨.other,[],0⟩,
 ⟨.other,[],0⟩,
 ⟨.other,[],0⟩,
 ⟨.other,[],0⟩,
 ⟨.other,[],0⟩,
 ⟨.other,[],0⟩,
 ⟨.other,[],0⟩,
 ⟨.other,[],0⟩,
 ⟨.other,[],0⟩,
 ⟨.other,[],0⟩,
 ⟨.struct [(0,3),(1,3),(2,3),(3,3),(4,3),(5,3),(6,3),(7,3)],[.int .i64,.int .i64,.int .i64,.int .i64,.int .i64,.int .i64,.int .i64,.int .i64],64⟩,
 ⟨.struct [(0,3),(1,3),(2,3),(3,3),(4,3),(5,3),(6,3),(7,3)],[.int .i64,.int .i64,.int .i64,.int .i64,.int .i64,.int .i64,.int .i64,.int .i64],64⟩,
 ⟨.other,[],0⟩,
 ⟨.other,[],0⟩,
 ⟨.other,[],0⟩,
 ⟨.other,[],0⟩,
 ⟨.other,[],0⟩,
 ⟨.other,[],0⟩,
 ⟨.other,[],0⟩,
 ⟨.other,[],0⟩,
 ⟨.other,[],0⟩,
 ⟨.struct [(0,17),(1,17),(2,17),(3,9)],[.ptr 245,.ptr 245,.ptr 245,.str],40⟩,
 ⟨.struct [(0,17),(1,17),(2,17),(3,9)],[.ptr 245,.ptr 245,.ptr 245,.str],40⟩,
 ⟨.other,[],0⟩,
 ⟨.other,[],0⟩,
 ⟨.other,[],0⟩,
 ⟨.other,[],0⟩,
 ⟨.int .u32,[.int .u32],4⟩,
 ⟨.int .u8,[.int .u8],1⟩,
 ⟨.int .u8,[.int .u8],1⟩,
 ⟨.other,[],0⟩,
 ⟨.ptr 5,[.ptr 5],8⟩,
 ⟨.int .i32,[.int .i32],4⟩,
 ⟨.int .i32,[.int .i32],4⟩,
 ⟨.other,[],0⟩,
 ⟨.other,[],0⟩,
 ⟨.other,[],0⟩]
namespace N
abbrev k4m:Nat:=3
abbrev k0l:Nat:=4
abbrev k2a:Nat:=5
abbrev j6s:Nat:=6
abbrev j9t:Nat:=7
abbrev j6r:Nat:=8
abbrev j9v:Nat:=9
abbrev j9w:Nat:=10
abbrev k0e:Nat:=11
abbrev k0f:Nat:=12
abbrev k0h:Nat:=13
abbrev k0i:Nat:=14
abbrev k0k:Nat:=15
abbrev j5t:Nat:=16
abbrev j7o:Nat:=17
abbrev k1f:Nat:=18
abbrev k1g:Nat:=19
abbrev k1z:Nat:=20
abbrev k0u:Nat:=21
abbrev k0v:Nat:=22
abbrev k0x:Nat:=23
abbrev k0y:Nat:=24
abbrev k1a:Nat:=25
abbrev j5v:Nat:=26
abbrev j7y:Nat:=27
abbrev k3e:Nat:=28
abbrev k3n:Nat:=29
abbrev k3o:Nat:=30
abbrev k3q:Nat:=31
abbrev k3r:Nat:=32
abbrev k3t:Nat:=33
abbrev k3y:Nat:=34
abbrev k3z:Nat:=35
abbrev k4a:Nat:=36
abbrev k4b:Nat:=37
abbrev k4c:Nat:=38
abbrev k4h:Nat:=39
abbrev k4i:Nat:=40
abbrev k4j:Nat:=41
abbrev k4k:Nat:=42
abbrev k4l:Nat:=43
abbrev k0b:Nat:=44
abbrev k0d:Nat:=45
abbrev j7i:Nat:=46
abbrev k0g:Nat:=47
abbrev j8e:Nat:=48
abbrev k0j:Nat:=49
abbrev j6g:Nat:=50
abbrev j7k:Nat:=51
abbrev j5p:Nat:=52
abbrev j8i:Nat:=53
abbrev j6u:Nat:=54
abbrev j8j:Nat:=55
abbrev k4n:Nat:=56
abbrev j5l:Nat:=57
abbrev k1y:Nat:=58
abbrev k0m:Nat:=59
abbrev k0r:Nat:=60
abbrev k0t:Nat:=61
abbrev j7j:Nat:=62
abbrev k0w:Nat:=63
abbrev j8f:Nat:=64
abbrev k0z:Nat:=65
abbrev j6c:Nat:=66
abbrev j6y:Nat:=67
abbrev j5n:Nat:=68
abbrev j7s:Nat:=69
abbrev k2d:Nat:=70
abbrev j6p:Nat:=71
abbrev j7c:Nat:=72
abbrev k2g:Nat:=73
abbrev k3c:Nat:=74
abbrev k3d:Nat:=75
abbrev k3f:Nat:=76
abbrev k3k:Nat:=77
abbrev k3m:Nat:=78
abbrev j8d:Nat:=79
abbrev k3p:Nat:=80
abbrev j9u:Nat:=81
abbrev k3s:Nat:=82
abbrev k3w:Nat:=83
abbrev k3x:Nat:=84
abbrev j5r:Nat:=85
abbrev k4f:Nat:=86
abbrev k4g:Nat:=87
abbrev j5s:Nat:=88
abbrev k0a:Nat:=89
abbrev k0c:Nat:=90
abbrev j5z:Nat:=91
abbrev j6f:Nat:=92
abbrev j6t:Nat:=93
abbrev j6b:Nat:=94
abbrev j7m:Nat:=95
abbrev j6l:Nat:=96
abbrev k1d:Nat:=97
abbrev k1e:Nat:=98
abbrev j6v:Nat:=99
abbrev k4o:Nat:=100
abbrev k4p:Nat:=101
abbrev k0q:Nat:=102
abbrev k0s:Nat:=103
abbrev j6a:Nat:=104
abbrev k2b:Nat:=105
abbrev j5m:Nat:=106
abbrev j7a:Nat:=107
abbrev j6j:Nat:=108
abbrev j6o:Nat:=109
abbrev j9d:Nat:=110
abbrev k2e:Nat:=111
abbrev j5y:Nat:=112
abbrev k2f:Nat:=113
abbrev j7x:Nat:=114
abbrev j6q:Nat:=115
abbrev k3b:Nat:=116
abbrev k4q:Nat:=117
abbrev j5o:Nat:=118
abbrev k3j:Nat:=119
abbrev k3l:Nat:=120
abbrev j6e:Nat:=121
abbrev k3u:Nat:=122
abbrev k3v:Nat:=123
abbrev k4d:Nat:=124
abbrev k4e:Nat:=125
abbrev j9x:Nat:=126
abbrev j9z:Nat:=127
abbrev k1b:Nat:=128
abbrev j6m:Nat:=129
abbrev j7l:Nat:=130
abbrev j8g:Nat:=131
abbrev j8h:Nat:=132
abbrev j5x:Nat:=133
abbrev k1c:Nat:=134
abbrev j8k:Nat:=135
abbrev k4r:Nat:=136
abbrev k0n:Nat:=137
abbrev k0p:Nat:=138
abbrev j6i:Nat:=139
abbrev k2c:Nat:=140
abbrev j7t:Nat:=141
abbrev j6z:Nat:=142
abbrev j9c:Nat:=143
abbrev j6k:Nat:=144
abbrev j7u:Nat:=145
abbrev j7v:Nat:=146
abbrev j7b:Nat:=147
abbrev j7w:Nat:=148
abbrev j9e:Nat:=149
abbrev k4s:Nat:=150
abbrev k4t:Nat:=151
abbrev k3g:Nat:=152
abbrev k3i:Nat:=153
abbrev j9y:Nat:=154
abbrev j7n:Nat:=155
abbrev j6h:Nat:=156
abbrev j6w:Nat:=157
abbrev j6x:Nat:=158
abbrev k4u:Nat:=159
abbrev k0o:Nat:=160
abbrev j8a:Nat:=161
abbrev j7f:Nat:=162
abbrev j5q:Nat:=163
abbrev j7h:Nat:=164
abbrev k3h:Nat:=165
abbrev j8l:Nat:=166
abbrev j8s:Nat:=167
abbrev j8t:Nat:=168
abbrev k1n:Nat:=169
abbrev j8z:Nat:=170
abbrev j5u:Nat:=171
abbrev j7d:Nat:=172
abbrev j9f:Nat:=173
abbrev j9n:Nat:=174
abbrev j9o:Nat:=175
abbrev k4v:Nat:=176
abbrev j9g:Nat:=177
abbrev j9s:Nat:=178
abbrev k4w:Nat:=179
abbrev j8m:Nat:=180
abbrev j8r:Nat:=181
abbrev j8u:Nat:=182
abbrev j8y:Nat:=183
abbrev j9b:Nat:=184
abbrev j7z:Nat:=185
abbrev j9m:Nat:=186
abbrev k2h:Nat:=189
abbrev j7e:Nat:=190
abbrev k2z:Nat:=191
abbrev k3a:Nat:=192
abbrev k1l:Nat:=193
abbrev k1m:Nat:=194
abbrev k1s:Nat:=195
abbrev j8x:Nat:=196
abbrev j6n:Nat:=197
abbrev j9a:Nat:=198
abbrev k2n:Nat:=199
abbrev j9l:Nat:=200
abbrev k2u:Nat:=202
abbrev j9r:Nat:=203
abbrev j6d:Nat:=204
abbrev k1j:Nat:=205
abbrev k1k:Nat:=206
abbrev j8p:Nat:=207
abbrev j8q:Nat:=208
abbrev j7q:Nat:=209
abbrev k1r:Nat:=210
abbrev j7r:Nat:=211
abbrev k1t:Nat:=212
abbrev k1v:Nat:=213
abbrev k1x:Nat:=214
abbrev j8n:Nat:=215
abbrev j8o:Nat:=216
abbrev k2l:Nat:=217
abbrev k2m:Nat:=218
abbrev j9k:Nat:=219
abbrev j8c:Nat:=221
abbrev k2t:Nat:=222
abbrev j7g:Nat:=223
abbrev k2v:Nat:=224
abbrev k2x:Nat:=225
abbrev k2y:Nat:=226
abbrev j9i:Nat:=227
abbrev j9h:Nat:=228
abbrev k1i:Nat:=229
abbrev j8v:Nat:=230
abbrev j7p:Nat:=231
abbrev k1p:Nat:=232
abbrev j8w:Nat:=233
abbrev k1u:Nat:=234
abbrev k1w:Nat:=235
abbrev k2k:Nat:=236
abbrev j9j:Nat:=237
abbrev j9p:Nat:=238
abbrev j8b:Nat:=239
abbrev k2q:Nat:=240
abbrev k2o:Nat:=241
abbrev j9q:Nat:=242
abbrev k2w:Nat:=243
abbrev k1h:Nat:=244
abbrev k1o:Nat:=245
abbrev k1q:Nat:=246
abbrev k2j:Nat:=247
abbrev k2p:Nat:=248
abbrev k2s:Nat:=249
abbrev j5w:Nat:=250
abbrev k2i:Nat:=251
abbrev k2r:Nat:=252
end N
namespace TN
abbrev j5e:Nat:=2
abbrev Int:Nat:=3
abbrev Bool:Nat:=4
abbrev j5f:Nat:=5
abbrev j4m:Nat:=9
abbrev j3x:Nat:=12
abbrev j5g:Nat:=21
abbrev j2r:Nat:=23
abbrev j1b:Nat:=24
abbrev j1c:Nat:=25
abbrev j2s:Nat:=27
abbrev j1d:Nat:=28
abbrev j1e:Nat:=29
abbrev j1f:Nat:=30
abbrev j0f:Nat:=31
abbrev j2t:Nat:=33
abbrev j2u:Nat:=35
abbrev j1g:Nat:=36
abbrev j1h:Nat:=37
abbrev j2v:Nat:=39
abbrev j1i:Nat:=40
abbrev j1j:Nat:=41
abbrev j1k:Nat:=42
abbrev j0g:Nat:=43
abbrev j2w:Nat:=45
abbrev IntS:Nat:=79
abbrev laws_Cmd:Nat:=81
abbrev laws_Job:Nat:=84
abbrev laws_Ans:Nat:=87
abbrev laws_Turn:Nat:=90
abbrev j2x:Nat:=92
abbrev j2y:Nat:=95
abbrev j2z:Nat:=96
abbrev j1l:Nat:=99
abbrev j5h:Nat:=125
abbrev j3a:Nat:=126
abbrev laws_Mem:Nat:=128
abbrev laws_Ent:Nat:=131
abbrev j3b:Nat:=132
abbrev j3c:Nat:=134
abbrev j3d:Nat:=136
abbrev j3y:Nat:=157
abbrev laws_Wr:Nat:=176
abbrev j3e:Nat:=203
abbrev j0h:Nat:=221
abbrev j4n:Nat:=237
end TN
noncomputable def fnTab:Tr Func:=(.node (.node (.node (.node (.node (.node (.node (.node .nil 3 Tryz.f3 .nil) 4 Tryz.f4 (.node .nil 5 Tryz.f5 .nil)) 6 Tryz.f6 (.node (.node .nil 7 Tryz.f7 .nil) 8 Tryz.f8 (.node .nil 9 Tryz.f9 .nil))) 10 Tryz.f10 (.node (.node (.node .nil 11 Tryz.f11 .nil) 12 Tryz.f12 (.node .nil 13 Tryz.f13 .nil)) 14 Tryz.f14 (.node (.node .nil 15 Tryz.f15 .nil) 16 Tryz.f16 (.node .nil 17 Tryz.f17 .nil)))) 18 Tryz.f18 (.node (.node (.node (.node .nil 19 Tryz.f19 .nil) 20 Tryz.f20 (.node .nil 21 Tryz.f21 .nil)) 22 Tryz.f22 (.node (.node .nil 23 Tryz.f23 .nil) 24 Tryz.f24 (.node .nil 25 Tryz.f25 .nil))) 26 Tryz.f26 (.node (.node (.node .nil 27 Tryz.f27 .nil) 28 Tryz.f28 (.node .nil 29 Tryz.f29 .nil)) 30 Tryz.f30 (.node (.node .nil 31 Tryz.f31 .nil) 32 Tryz.f32 .nil)))) 33 Tryz.f33 (.node (.node (.node (.node (.node .nil 34 Tryz.f34 .nil) 35 Tryz.f35 (.node .nil 36 Tryz.f36 .nil)) 37 Tryz.f37 (.node (.node .nil 38 Tryz.f38 .nil) 39 Tryz.f39 (.node .nil 40 Tryz.f40 .nil))) 41 Tryz.f41 (.node (.node (.node .nil 42 Tryz.f42 .nil) 43 Tryz.f43 (.node .nil 44 Tryz.f44 .nil)) 45 Tryz.f45 (.node (.node .nil 46 Tryz.f46 .nil) 47 Tryz.f47 (.node .nil 48 Tryz.f48 .nil)))) 49 Tryz.f49 (.node (.node (.node (.node .nil 50 Tryz.f50 .nil) 51 Tryz.f51 (.node .nil 52 Tryz.f52 .nil)) 53 Tryz.f53 (.node (.node .nil 54 Tryz.f54 .nil) 55 Tryz.f55 (.node .nil 56 Tryz.f56 .nil))) 57 Tryz.f57 (.node (.node (.node .nil 58 Tryz.f58 .nil) 59 Tryz.f59 (.node .nil 60 Tryz.f60 .nil)) 61 Tryz.f61 (.node (.node .nil 62 Tryz.f62 .nil) 63 Tryz.f63 .nil))))) 64 Tryz.f64 (.node (.node (.node (.node (.node (.node .nil 65 Tryz.f65 .nil) 66 Tryz.f66 (.node .nil 67 Tryz.f67 .nil)) 68 Tryz.f68 (.node (.node .nil 69 Tryz.f69 .nil) 70 Tryz.f70 (.node .nil 71 Tryz.f71 .nil))) 72 Tryz.f72 (.node (.node (.node .nil 73 Tryz.f73 .nil) 74 Tryz.f74 (.node .nil 75 Tryz.f75 .nil)) 76 Tryz.f76 (.node (.node .nil 77 Tryz.f77 .nil) 78 Tryz.f78 (.node .nil 79 Tryz.f79 .nil)))) 80 Tryz.f80 (.node (.node (.node (.node .nil 81 Tryz.f81 .nil) 82 Tryz.f82 (.node .nil 83 Tryz.f83 .nil)) 84 Tryz.f84 (.node (.node .nil 85 Tryz.f85 .nil) 86 Tryz.f86 (.node .nil 87 Tryz.f87 .nil))) 88 Tryz.f88 (.node (.node (.node .nil 89 Tryz.f89 .nil) 90 Tryz.f90 (.node .nil 91 Tryz.f91 .nil)) 92 Tryz.f92 (.node (.node .nil 93 Tryz.f93 .nil) 94 Tryz.f94 .nil)))) 95 Tryz.f95 (.node (.node (.node (.node (.node .nil 96 Tryz.f96 .nil) 97 Tryz.f97 (.node .nil 98 Tryz.f98 .nil)) 99 Tryz.f99 (.node (.node .nil 100 Tryz.f100 .nil) 101 Tryz.f101 (.node .nil 102 Tryz.f102 .nil))) 103 Tryz.f103 (.node (.node (.node .nil 104 Tryz.f104 .nil) 105 Tryz.f105 (.node .nil 106 Tryz.f106 .nil)) 107 Tryz.f107 (.node (.node .nil 108 Tryz.f108 .nil) 109 Tryz.f109 (.node .nil 110 Tryz.f110 .nil)))) 111 Tryz.f111 (.node (.node (.node (.node .nil 112 Tryz.f112 .nil) 113 Tryz.f113 (.node .nil 114 Tryz.f114 .nil)) 115 Tryz.f115 (.node (.node .nil 116 Tryz.f116 .nil) 117 Tryz.f117 (.node .nil 118 Tryz.f118 .nil))) 119 Tryz.f119 (.node (.node (.node .nil 120 Tryz.f120 .nil) 121 Tryz.f121 (.node .nil 122 Tryz.f122 .nil)) 123 Tryz.f123 (.node (.node .nil 124 Tryz.f124 .nil) 125 Tryz.f125 .nil)))))) 126 Tryz.f126 (.node (.node (.node (.node (.node (.node (.node .nil 127 Tryz.f127 .nil) 128 Tryz.f128 (.node .nil 129 Tryz.f129 .nil)) 130 Tryz.f130 (.node (.node .nil 131 Tryz.f131 .nil) 132 Tryz.f132 (.node .nil 133 Tryz.f133 .nil))) 134 Tryz.f134 (.node (.node (.node .nil 135 Tryz.f135 .nil) 136 Tryz.f136 (.node .nil 137 Tryz.f137 .nil)) 138 Tryz.f138 (.node (.node .nil 139 Tryz.f139 .nil) 140 Tryz.f140 (.node .nil 141 Tryz.f141 .nil)))) 142 Tryz.f142 (.node (.node (.node (.node .nil 143 Tryz.f143 .nil) 144 Tryz.f144 (.node .nil 145 Tryz.f145 .nil)) 146 Tryz.f146 (.node (.node .nil 147 Tryz.f147 .nil) 148 Tryz.f148 (.node .nil 149 Tryz.f149 .nil))) 150 Tryz.f150 (.node (.node (.node .nil 151 Tryz.f151 .nil) 152 Tryz.f152 (.node .nil 153 Tryz.f153 .nil)) 154 Tryz.f154 (.node (.node .nil 155 Tryz.f155 .nil) 156 Tryz.f156 .nil)))) 157 Tryz.f157 (.node (.node (.node (.node (.node .nil 158 Tryz.f158 .nil) 159 Tryz.f159 (.node .nil 160 Tryz.f160 .nil)) 161 Tryz.f161 (.node (.node .nil 162 Tryz.f162 .nil) 163 Tryz.f163 (.node .nil 164 Tryz.f164 .nil))) 165 Tryz.f165 (.node (.node (.node .nil 166 Tryz.f166 .nil) 167 Tryz.f167 (.node .nil 168 Tryz.f168 .nil)) 169 Tryz.f169 (.node (.node .nil 170 Tryz.f170 .nil) 171 Tryz.f171 (.node .nil 172 Tryz.f172 .nil)))) 173 Tryz.f173 (.node (.node (.node (.node .nil 174 Tryz.f174 .nil) 175 Tryz.f175 (.node .nil 176 Tryz.f176 .nil)) 177 Tryz.f177 (.node (.node .nil 178 Tryz.f178 .nil) 179 Tryz.f179 (.node .nil 180 Tryz.f180 .nil))) 181 Tryz.f181 (.node (.node (.node .nil 182 Tryz.f182 .nil) 183 Tryz.f183 (.node .nil 184 Tryz.f184 .nil)) 185 Tryz.f185 (.node (.node .nil 186 Tryz.f186 .nil) 189 Tryz.f189 .nil))))) 190 Tryz.f190 (.node (.node (.node (.node (.node (.node .nil 191 Tryz.f191 .nil) 192 Tryz.f192 (.node .nil 193 Tryz.f193 .nil)) 194 Tryz.f194 (.node (.node .nil 195 Tryz.f195 .nil) 196 Tryz.f196 (.node .nil 197 Tryz.f197 .nil))) 198 Tryz.f198 (.node (.node (.node .nil 199 Tryz.f199 .nil) 200 Tryz.f200 (.node .nil 202 Tryz.f202 .nil)) 203 Tryz.f203 (.node (.node .nil 204 Tryz.f204 .nil) 205 Tryz.f205 (.node .nil 206 Tryz.f206 .nil)))) 207 Tryz.f207 (.node (.node (.node (.node .nil 208 Tryz.f208 .nil) 209 Tryz.f209 (.node .nil 210 Tryz.f210 .nil)) 211 Tryz.f211 (.node (.node .nil 212 Tryz.f212 .nil) 213 Tryz.f213 (.node .nil 214 Tryz.f214 .nil))) 215 Tryz.f215 (.node (.node (.node .nil 216 Tryz.f216 .nil) 217 Tryz.f217 (.node .nil 218 Tryz.f218 .nil)) 219 Tryz.f219 (.node (.node .nil 221 Tryz.f221 .nil) 222 Tryz.f222 .nil)))) 223 Tryz.f223 (.node (.node (.node (.node (.node .nil 224 Tryz.f224 .nil) 225 Tryz.f225 (.node .nil 226 Tryz.f226 .nil)) 227 Tryz.f227 (.node (.node .nil 228 Tryz.f228 .nil) 229 Tryz.f229 (.node .nil 230 Tryz.f230 .nil))) 231 Tryz.f231 (.node (.node (.node .nil 232 Tryz.f232 .nil) 233 Tryz.f233 (.node .nil 234 Tryz.f234 .nil)) 235 Tryz.f235 (.node (.node .nil 236 Tryz.f236 .nil) 237 Tryz.f237 .nil))) 238 Tryz.f238 (.node (.node (.node (.node .nil 239 Tryz.f239 .nil) 240 Tryz.f240 (.node .nil 241 Tryz.f241 .nil)) 242 Tryz.f242 (.node (.node .nil 243 Tryz.f243 .nil) 244 Tryz.f244 (.node .nil 245 Tryz.f245 .nil))) 246 Tryz.f246 (.node (.node (.node .nil 247 Tryz.f247 .nil) 248 Tryz.f248 (.node .nil 249 Tryz.f249 .nil)) 250 Tryz.f250 (.node (.node .nil 251 Tryz.f251 .nil) 252 Tryz.f252 .nil)))))))
def j1m:Tr Sig:=(.node (.node (.node (.node (.node (.node (.node .nil 6 ⟨[],[false,false,false,true,false,false,false,false,false,true,false,false,false,true,true,true,true,false,false,false,true,false,false,false,false,false,true,false,false,false,true,true,true,true],[],true⟩ .nil) 7 ⟨[],[false,false,false,true,false,false,false,false,false,true,false,false,false,true,true,true,true,false,false,false,true,false,false,false,false,false,true,false,false,false,true,true,true,true],[],true⟩ .nil) 9 ⟨[[false,false,false,true,false,false,false,false,false,true,false,false,false,true,true,true,true,false,false,false,true,false,false,false,false,false,true,false,false,false,true,true,true,true,true],[false]],[],[],true⟩ (.node (.node .nil 16 ⟨[],[false,false,false,true,false,false,false,false,false,true,false,false,false,true,true,true,true,false,false,false,false,false,false,false,false,false,false,false,false,false,true,true,true,true],[],true⟩ .nil) 19 ⟨[],[false,false,false,true,false,false,false,false,false,true,false,false,false,true,true,true,true,false],[],false⟩ .nil)) 21 ⟨[],[false,false,false,true,false,false,false,false,false,true,false,false,false,false,false,false,true,false,false,false,false,false,true,false,false,false],[],true⟩ (.node (.node (.node .nil 22 ⟨[],[true,true,true],[],true⟩ .nil) 23 ⟨[],[true,true,true],[],true⟩ .nil) 24 ⟨[],[true,true,true],[],true⟩ (.node (.node .nil 25 ⟨[],[true,true,true],[],true⟩ .nil) 26 ⟨[],[false,false,false,true,false,false,false,false,false,true,false,false,false,true,true,true,true,false,false,false,true,false,false,false,false,false,true,false,false,false,true,true,true,true],[],true⟩ .nil))) 28 ⟨[],[false,false,false,true,false,false,false,false,false,true,false,false,false,true,true,true,true,false,false,false,true,false,false,false,false,false,true,false,false,false,true,true,true,true],[],true⟩ (.node (.node (.node (.node .nil 34 ⟨[[false,false,false,true,false,false,false,false,false,true,false,false,false,false,false,false,true,false,false,false,false,false,true,false,false,false,true],[false]],[],[],true⟩ .nil) 35 ⟨[[true,true],[false]],[],[],true⟩ .nil) 36 ⟨[[true,true],[false]],[],[],true⟩ (.node (.node .nil 37 ⟨[[true,true],[false]],[],[],true⟩ .nil) 38 ⟨[[true,true],[false]],[],[],true⟩ .nil)) 50 ⟨[],[false,false,false,true,false,false,false,false,false,true,false,false,false],[],false⟩ (.node (.node (.node .nil 51 ⟨[],[false,false,false,false,true],[],false⟩ .nil) 52 ⟨[],[false,false,true],[],false⟩ .nil) 58 ⟨[],[false,false,false,true,false,false,false,false,false,true,false,false,false,true,true,true,true,false,false,false,false,false,false,false,false,false,false,false,false,false,false,true,false,true,false,false],[],true⟩ (.node (.node .nil 60 ⟨[],[true,true,true],[],true⟩ .nil) 61 ⟨[],[true,true,true],[],true⟩ .nil)))) 62 ⟨[],[false,false,false,false,true],[],false⟩ (.node (.node (.node (.node (.node .nil 63 ⟨[],[false,false,false,false,true,false,true,false],[],false⟩ .nil) 64 ⟨[],[false,false,true],[],false⟩ .nil) 65 ⟨[],[false,false,false,false,true,false,false,true],[],false⟩ (.node (.node .nil 66 ⟨[],[false,false,false,true,false,false,false,false,false,true,false,false,false,false,false,false,true,false,false,false,false,false,true,false,false,false],[],true⟩ .nil) 67 ⟨[],[false,false,false,false,true],[],false⟩ .nil)) 68 ⟨[],[true],[],false⟩ (.node (.node (.node .nil 69 ⟨[],[false,false,true],[],false⟩ .nil) 74 ⟨[],[false,false,false,true,false,false,false,false,false,true,false,false,false,true,true,true,true,false,false,false,true,false,false,false,false,false,true,false,false,false,true,true,true,true],[],true⟩ .nil) 75 ⟨[],[false,false,false,true,false,false,false,false,false,true,false,false,false,true,true,true,true,false,false,false,false,true,false,false,false,false,false,true,false,false,false,true,true,true,true,false],[],true⟩ (.node (.node .nil 83 ⟨[[true,true],[false]],[],[],true⟩ .nil) 84 ⟨[[true,true],[false]],[],[],true⟩ .nil))) 85 ⟨[[false,true],[false]],[],[],false⟩ (.node (.node (.node (.node .nil 92 ⟨[],[true,true,false,true],[],false⟩ .nil) 102 ⟨[],[true,true,false,true,true,true,false,false],[],true⟩ .nil) 103 ⟨[],[false,true],[],false⟩ (.node (.node .nil 104 ⟨[],[true],[],false⟩ .nil) 105 ⟨[],[true,true,true],[],true⟩ .nil)) 116 ⟨[],[false,false,false,true,false,false,false,false,false,true,false,false,false,true,true,true,true,false,false,false,false,true,false,false,false,false,false,true,false,false,false,true,true,true,true,false],[],true⟩ (.node (.node (.node .nil 118 ⟨[[false,false,false,true,false,false,false,false,false,true,false,false,false,true,true,true,true,false,false,false,true,false,false,false,false,false,true,false,false,false,true,true,true,true],[false,false,false,false,true],[false,false,true]],[],[],true⟩ .nil) 122 ⟨[[true,true],[false]],[],[],true⟩ .nil) 123 ⟨[[true,true],[false]],[],[],true⟩ (.node (.node .nil 137 ⟨[],[true,true,true],[],true⟩ .nil) 138 ⟨[],[true,true,true],[],true⟩ .nil))))) 139 ⟨[],[true,true,false,true,true,true,false,false],[],true⟩ (.node (.node (.node (.node (.node (.node .nil 158 ⟨[],[false,false,false,true,false,false,false,false,false,true,false,false,false,false],[],false⟩ .nil) 160 ⟨[],[false,true],[],false⟩ .nil) 163 ⟨[],[false,false,false,true,false,false,false,false,false,true,false,false,false,false,false,false,false,true,false,false,false,false,false,true,false,false,false,false],[],true⟩ (.node (.node .nil 164 ⟨[],[false,false,false,true,false,false,false,false,false,true,false,false,false,false,false,false,false,true,false,false,false,false,false,true,false,false,false,false],[],true⟩ .nil) 167 ⟨[],[true,false],[],false⟩ .nil)) 170 ⟨[[false,false,false,true,false,false,false,false,false,true,false,false,false],[false]],[],[],false⟩ (.node (.node (.node .nil 171 ⟨[],[false,false,false,true,false,false,false,false,false,true,false,false,false,false],[],false⟩ .nil) 174 ⟨[],[true,false],[],false⟩ .nil) 176 ⟨[[false],[false],[true]],[],[],false⟩ (.node (.node .nil 178 ⟨[],[false,false,false,true,false,false,false,false,false,true,false,false,false,false,false,false,false,true,false,false,false,false,false,true,false,false,false,false],[],true⟩ .nil) 181 ⟨[],[true,false],[],false⟩ .nil))) 183 ⟨[[false,false,false,true,false,false,false,false,false,true,false,false,false],[false],[false]],[],[],false⟩ (.node (.node (.node (.node .nil 184 ⟨[[false,false,false,true,false,false,false,false,false,true,false,false,false],[false],[false]],[],[],false⟩ .nil) 186 ⟨[],[true,false],[],false⟩ .nil) 190 ⟨[],[],[3],false⟩ (.node (.node .nil 191 ⟨[[false,false,false,true,false,false,false,false,false,true,false,false,false,false,false,false,true,false,false,false,false,false,true,false,false,false],[false],[false]],[],[],true⟩ .nil) 193 ⟨[],[true,false],[],false⟩ .nil)) 195 ⟨[[false,false,false,true,false,false,false,false,false,true,false,false,false]],[],[],false⟩ (.node (.node (.node .nil 196 ⟨[[false,false,false,true,false,false,false,false,false,true,false,false,false],[false,false,false]],[],[],false⟩ .nil) 197 ⟨[[false,false,false,true,false,false,false,false,false,true,false,false,false],[false],[false]],[],[],false⟩ .nil) 198 ⟨[[false,false,false,true,false,false,false,false,false,true,false,false,false],[false,false]],[],[],false⟩ (.node (.node .nil 199 ⟨[],[true,false],[],false⟩ .nil) 202 ⟨[[false,false,false,true,false,false,false,false,false,true,false,false,false,false,false,false,true,false,false,false,false,false,true,false,false,false]],[],[],true⟩ .nil)))) 203 ⟨[[false,false,false,true,false,false,false,false,false,true,false,false,false,false,false,false,true,false,false,false,false,false,true,false,false,false],[false,false,false]],[],[],true⟩ (.node (.node (.node (.node (.node .nil 204 ⟨[[false,false,false,true,false,false,false,false,false,true,false,false,false,false,false,false,true,false,false,false,false,false,true,false,false,false],[false],[false]],[],[],true⟩ .nil) 209 ⟨[[false,false,false,true,false,false,false,false,false,true,false,false,false]],[],[],false⟩ .nil) 210 ⟨[[false,false,false,true,false,false,false,false,false,true,false,false,false]],[],[],false⟩ (.node (.node .nil 211 ⟨[[false,false,false,true,false,false,false,false,false,true,false,false,false],[false],[false],[false]],[],[],false⟩ .nil) 213 ⟨[],[true],[],false⟩ .nil)) 221 ⟨[[false,false,false,true,false,false,false,false,false,true,false,false,false,false,false,false,true,false,false,false,false,false,true,false,false,false]],[],[],true⟩ (.node (.node (.node .nil 222 ⟨[[false,false,false,true,false,false,false,false,false,true,false,false,false,false,false,false,true,false,false,false,false,false,true,false,false,false]],[],[],true⟩ .nil) 223 ⟨[[false,false,false,true,false,false,false,false,false,true,false,false,false,false,false,false,true,false,false,false,false,false,true,false,false,false],[false],[false],[false]],[],[],true⟩ .nil) 225 ⟨[],[true],[],false⟩ (.node (.node .nil 229 ⟨[],[true,false],[],false⟩ .nil) 230 ⟨[[false,false,false,true,false,false,false,false,false,true,false,false,false]],[],[],false⟩ .nil))) 231 ⟨[],[true,true,false,true],[],false⟩ (.node (.node (.node (.node .nil 232 ⟨[],[true],[],false⟩ .nil) 233 ⟨[],[true,true,false,true,false],[],false⟩ .nil) 236 ⟨[],[true,false],[],false⟩ (.node (.node .nil 238 ⟨[[false,false,false,true,false,false,false,false,false,true,false,false,false,false,false,false,true,false,false,false,false,false,true,false,false,false]],[],[],true⟩ .nil) 239 ⟨[],[true,true,false,true,true,true,false,false],[],true⟩ .nil)) 240 ⟨[],[true],[],false⟩ (.node (.node (.node .nil 242 ⟨[],[true,true,false,true,false,true,true,false,false,false],[],true⟩ .nil) 246 ⟨[],[true],[],false⟩ .nil) 249 ⟨[[true],[]],[true],[],false⟩ (.node .nil 250 ⟨[],[],[3],false⟩ .nil))))))
noncomputable def E:Env:={ tys:=tys,fn:=fnTab.get,sig:=j3w j1m,gl:=[],del:=[(117,92),(151,95),(176,1000136),(179,136)],inl:=[56,100,101,136,150,159],frz:=[[2,3,4,40]] }
def P0:FuncId→Option (List Arg→Option Outs):=fun _=>none
theorem c0k:a2d Tryz.prog E=true:=by kernel_rfl
theorem g9s:Tryz.prog.follows .mixedOrders=true:=by kernel_rfl
theorem j3z:j2q Tryz.prog fnTab:=⟨Tryz.func126,⟨Tryz.func64,⟨Tryz.func33,⟨Tryz.func18,⟨Tryz.func10,⟨Tryz.func6,⟨Tryz.func4,⟨Tryz.func3,trivial,trivial⟩,⟨Tryz.func5,trivial,trivial⟩⟩,⟨Tryz.func8,⟨Tryz.func7,trivial,trivial⟩,⟨Tryz.func9,trivial,trivial⟩⟩⟩,⟨Tryz.func14,⟨Tryz.func12,⟨Tryz.func11,trivial,trivial⟩,⟨Tryz.func13,trivial,trivial⟩⟩,⟨Tryz.func16,⟨Tryz.func15,trivial,trivial⟩,⟨Tryz.func17,trivial,trivial⟩⟩⟩⟩,⟨Tryz.func26,⟨Tryz.func22,⟨Tryz.func20,⟨Tryz.func19,trivial,trivial⟩,⟨Tryz.func21,trivial,trivial⟩⟩,⟨Tryz.func24,⟨Tryz.func23,trivial,trivial⟩,⟨Tryz.func25,trivial,trivial⟩⟩⟩,⟨Tryz.func30,⟨Tryz.func28,⟨Tryz.func27,trivial,trivial⟩,⟨Tryz.func29,trivial,trivial⟩⟩,⟨Tryz.func32,⟨Tryz.func31,trivial,trivial⟩,trivial⟩⟩⟩⟩,⟨Tryz.func49,⟨Tryz.func41,⟨Tryz.func37,⟨Tryz.func35,⟨Tryz.func34,trivial,trivial⟩,⟨Tryz.func36,trivial,trivial⟩⟩,⟨Tryz.func39,⟨Tryz.func38,trivial,trivial⟩,⟨Tryz.func40,trivial,trivial⟩⟩⟩,⟨Tryz.func45,⟨Tryz.func43,⟨Tryz.func42,trivial,trivial⟩,⟨Tryz.func44,trivial,trivial⟩⟩,⟨Tryz.func47,⟨Tryz.func46,trivial,trivial⟩,⟨Tryz.func48,trivial,trivial⟩⟩⟩⟩,⟨Tryz.func57,⟨Tryz.func53,⟨Tryz.func51,⟨Tryz.func50,trivial,trivial⟩,⟨Tryz.func52,trivial,trivial⟩⟩,⟨Tryz.func55,⟨Tryz.func54,trivial,trivial⟩,⟨Tryz.func56,trivial,trivial⟩⟩⟩,⟨Tryz.func61,⟨Tryz.func59,⟨Tryz.func58,trivial,trivial⟩,⟨Tryz.func60,trivial,trivial⟩⟩,⟨Tryz.func63,⟨Tryz.func62,trivial,trivial⟩,trivial⟩⟩⟩⟩⟩,⟨Tryz.func95,⟨Tryz.func80,⟨Tryz.func72,⟨Tryz.func68,⟨Tryz.func66,⟨Tryz.func65,trivial,trivial⟩,⟨Tryz.func67,trivial,trivial⟩⟩,⟨Tryz.func70,⟨Tryz.func69,trivial,trivial⟩,⟨Tryz.func71,trivial,trivial⟩⟩⟩,⟨Tryz.func76,⟨Tryz.func74,⟨Tryz.func73,trivial,trivial⟩,⟨Tryz.func75,trivial,trivial⟩⟩,⟨Tryz.func78,⟨Tryz.func77,trivial,trivial⟩,⟨Tryz.func79,trivial,trivial⟩⟩⟩⟩,⟨Tryz.func88,⟨Tryz.func84,⟨Tryz.func82,⟨Tryz.func81,trivial,trivial⟩,⟨Tryz.func83,trivial,trivial⟩⟩,⟨Tryz.func86,⟨Tryz.func85,trivial,trivial⟩,⟨Tryz.func87,trivial,trivial⟩⟩⟩,⟨Tryz.func92,⟨Tryz.func90,⟨Tryz.func89,trivial,trivial⟩,⟨Tryz.func91,trivial,trivial⟩⟩,⟨Tryz.func94,⟨Tryz.func93,trivial,trivial⟩,trivial⟩⟩⟩⟩,⟨Tryz.func111,⟨Tryz.func103,⟨Tryz.func99,⟨Tryz.func97,⟨Tryz.func96,trivial,trivial⟩,⟨Tryz.func98,trivial,trivial⟩⟩,⟨Tryz.func101,⟨Tryz.func100,trivial,trivial⟩,⟨Tryz.func102,trivial,trivial⟩⟩⟩,⟨Tryz.func107,⟨Tryz.func105,⟨Tryz.func104,trivial,trivial⟩,⟨Tryz.func106,trivial,trivial⟩⟩,⟨Tryz.func109,⟨Tryz.func108,trivial,trivial⟩,⟨Tryz.func110,trivial,trivial⟩⟩⟩⟩,⟨Tryz.func119,⟨Tryz.func115,⟨Tryz.func113,⟨Tryz.func112,trivial,trivial⟩,⟨Tryz.func114,trivial,trivial⟩⟩,⟨Tryz.func117,⟨Tryz.func116,trivial,trivial⟩,⟨Tryz.func118,trivial,trivial⟩⟩⟩,⟨Tryz.func123,⟨Tryz.func121,⟨Tryz.func120,trivial,trivial⟩,⟨Tryz.func122,trivial,trivial⟩⟩,⟨Tryz.func125,⟨Tryz.func124,trivial,trivial⟩,trivial⟩⟩⟩⟩⟩⟩,⟨Tryz.func190,⟨Tryz.func157,⟨Tryz.func142,⟨Tryz.func134,⟨Tryz.func130,⟨Tryz.func128,⟨Tryz.func127,trivial,trivial⟩,⟨Tryz.func129,trivial,trivial⟩⟩,⟨Tryz.func132,⟨Tryz.func131,trivial,trivial⟩,⟨Tryz.func133,trivial,trivial⟩⟩⟩,⟨Tryz.func138,⟨Tryz.func136,⟨Tryz.func135,trivial,trivial⟩,⟨Tryz.func137,trivial,trivial⟩⟩,⟨Tryz.func140,⟨Tryz.func139,trivial,trivial⟩,⟨Tryz.func141,trivial,trivial⟩⟩⟩⟩,⟨Tryz.func150,⟨Tryz.func146,⟨Tryz.func144,⟨Tryz.func143,trivial,trivial⟩,⟨Tryz.func145,trivial,trivial⟩⟩,⟨Tryz.func148,⟨Tryz.func147,trivial,trivial⟩,⟨Tryz.func149,trivial,trivial⟩⟩⟩,⟨Tryz.func154,⟨Tryz.func152,⟨Tryz.func151,trivial,trivial⟩,⟨Tryz.func153,trivial,trivial⟩⟩,⟨Tryz.func156,⟨Tryz.func155,trivial,trivial⟩,trivial⟩⟩⟩⟩,⟨Tryz.func173,⟨Tryz.func165,⟨Tryz.func161,⟨Tryz.func159,⟨Tryz.func158,trivial,trivial⟩,⟨Tryz.func160,trivial,trivial⟩⟩,⟨Tryz.func163,⟨Tryz.func162,trivial,trivial⟩,⟨Tryz.func164,trivial,trivial⟩⟩⟩,⟨Tryz.func169,⟨Tryz.func167,⟨Tryz.func166,trivial,trivial⟩,⟨Tryz.func168,trivial,trivial⟩⟩,⟨Tryz.func171,⟨Tryz.func170,trivial,trivial⟩,⟨Tryz.func172,trivial,trivial⟩⟩⟩⟩,⟨Tryz.func181,⟨Tryz.func177,⟨Tryz.func175,⟨Tryz.func174,trivial,trivial⟩,⟨Tryz.func176,trivial,trivial⟩⟩,⟨Tryz.func179,⟨Tryz.func178,trivial,trivial⟩,⟨Tryz.func180,trivial,trivial⟩⟩⟩,⟨Tryz.func185,⟨Tryz.func183,⟨Tryz.func182,trivial,trivial⟩,⟨Tryz.func184,trivial,trivial⟩⟩,⟨Tryz.func189,⟨Tryz.func186,trivial,trivial⟩,trivial⟩⟩⟩⟩⟩,⟨Tryz.func223,⟨Tryz.func207,⟨Tryz.func198,⟨Tryz.func194,⟨Tryz.func192,⟨Tryz.func191,trivial,trivial⟩,⟨Tryz.func193,trivial,trivial⟩⟩,⟨Tryz.func196,⟨Tryz.func195,trivial,trivial⟩,⟨Tryz.func197,trivial,trivial⟩⟩⟩,⟨Tryz.func203,⟨Tryz.func200,⟨Tryz.func199,trivial,trivial⟩,⟨Tryz.func202,trivial,trivial⟩⟩,⟨Tryz.func205,⟨Tryz.func204,trivial,trivial⟩,⟨Tryz.func206,trivial,trivial⟩⟩⟩⟩,⟨Tryz.func215,⟨Tryz.func211,⟨Tryz.func209,⟨Tryz.func208,trivial,trivial⟩,⟨Tryz.func210,trivial,trivial⟩⟩,⟨Tryz.func213,⟨Tryz.func212,trivial,trivial⟩,⟨Tryz.func214,trivial,trivial⟩⟩⟩,⟨Tryz.func219,⟨Tryz.func217,⟨Tryz.func216,trivial,trivial⟩,⟨Tryz.func218,trivial,trivial⟩⟩,⟨Tryz.func222,⟨Tryz.func221,trivial,trivial⟩,trivial⟩⟩⟩⟩,⟨Tryz.func238,⟨Tryz.func231,⟨Tryz.func227,⟨Tryz.func225,⟨Tryz.func224,trivial,trivial⟩,⟨Tryz.func226,trivial,trivial⟩⟩,⟨Tryz.func229,⟨Tryz.func228,trivial,trivial⟩,⟨Tryz.func230,trivial,trivial⟩⟩⟩,⟨Tryz.func235,⟨Tryz.func233,⟨Tryz.func232,trivial,trivial⟩,⟨Tryz.func234,trivial,trivial⟩⟩,⟨Tryz.func237,⟨Tryz.func236,trivial,trivial⟩,trivial⟩⟩⟩,⟨Tryz.func246,⟨Tryz.func242,⟨Tryz.func240,⟨Tryz.func239,trivial,trivial⟩,⟨Tryz.func241,trivial,trivial⟩⟩,⟨Tryz.func244,⟨Tryz.func243,trivial,trivial⟩,⟨Tryz.func245,trivial,trivial⟩⟩⟩,⟨Tryz.func250,⟨Tryz.func248,⟨Tryz.func247,trivial,trivial⟩,⟨Tryz.func249,trivial,trivial⟩⟩,⟨Tryz.func252,⟨Tryz.func251,trivial,trivial⟩,trivial⟩⟩⟩⟩⟩⟩⟩
theorem j4a:j0z Tryz.prog fnTab:=g9p j3z (by kernel_rfl)
theorem j1n:i7t Tryz.prog E:=fun f fn h=>g9q j4a f fn h
abbrev LL:=List (List T)
abbrev OO:=Option Outs
abbrev V0_:=Int×List (List T)
abbrev V1_:=Int×Int
abbrev V2_:=Int×Int×List (List T)
abbrev V3_:=Int×Int×Int×Int×Int×Int×Int×Int×Int×Int×Bool×Bool×List (List T)×List (List T)
abbrev V4_:=Int×Int×Int×Int×Int×Int×Int×Int×Int×Int×Bool×Bool×List (List T)×List (List T)×List (List T)×List (List T)×List (List T)×List (List T)
abbrev V5_:=List (List T)×Int
abbrev V6_:=Bool×Int×List (List T)
abbrev V7_:=Int×Int×Int×Int×List (List T)×Int×Int×Int×Int×Int×List (List T)×Int×Bool×Bool×List (List T)×List (List T)×List (List T)×List (List T)
abbrev V8_:=Int×Int×List (List T)×Int
abbrev W64 (n:Int):Int:=IntKind.wrap .i64 n
theorem B2_:(∀ (R:Type) (a d:R) l,(a::l).getD 0 d=a)∧(∀ (R:Type) (a d:R) l n,(a::l).getD (n+1) d=l.getD n d):=⟨fun _ _ _ _=>rfl,fun _ _ _ _ _=>rfl⟩
abbrev ck_ {R:Type} (a:Int) (c:LL) (x:Option R):Option R:=chk (decide (0≤a)&&decide (a<(c.length:Int))) x
noncomputable abbrev BK_ (k n:Nat) (l:List Arg) (f:Outs→OO):OO:=a0f (a0a E P0 k n l) f
abbrev so_ (l:List T):OO:=some ⟨l,[]⟩
abbrev vi_ (a:Int):Arg:=.v [.i a]
abbrev vr_ (a:LL):Arg:=.v [.r a]
abbrev A.w_ (a:Int):A:=.i .i64 a
abbrev ST_ (a:List (Nat×A)) (b:List (Nm×O)):St:=⟨a3k a,a1e b⟩
abbrev SD_ (a:List (Nat×A)) (b:List (Nm×O)):St:=⟨a3k a,Mem.put (a1e b) a3l .dead⟩
noncomputable abbrev IT_ (k n:Nat) (ar:List Arg) (pins:List Nat) (pt:List Stp) (keep js:List Nat) (j:Nat) (s:St):OO:=i2f E (LB E (a0a E P0 k) k pins n pt) pins keep (LK E (a0a E P0 k) k pins n ar pt js) j s
theorem a1y {k n:Nat} {ar:List Arg} {V:Type} (pins:List Nat) (pt:List Stp) (keep:List Nat) (U:(V→OO)→OO) (S:V→St) (b:(V→OO)→V→OO) (h0:a0a E P0 (k+1) n ar=U (fun v=>IT_ k n ar pins pt keep [] k (S v))) (h1:∀ j v,IT_ k n ar pins pt keep [] (j+1) (S v)=b (fun v=>IT_ k n ar pins pt keep [] j (S v)) v):a0a E P0 (k+1) n ar=U (fun v=>a1i b k v):=h0.trans (congrArg U (funext fun v=>a1p S b h1 k v))
abbrev S0_ (a b c:Int) (d:LL) (e f g h l:Int) (m:LL) (n:Int) (o p:Bool):List T:=[.i a,.i b,.i c,.r d,.i e,.i f,.i g,.i h,.i l,.r m,.i n,.b o,.b p]
abbrev S1_ (a b c:Int) (d:LL) (e f g h l:Int) (m:LL) (n:Int) (o p:Bool) (q r u w:LL):List T:=[.i a,.i b,.i c,.r d,.i e,.i f,.i g,.i h,.i l,.r m,.i n,.b o,.b p,.r q,.r r,.r u,.r w]
abbrev S2_ (a:Outs):List T:=[.i (a.vt 0 0).asI,.i (a.vt 0 1).asI,.i (a.vt 0 2).asI,.r (a.vt 0 3).asR,.i (a.vt 0 4).asI,.i (a.vt 0 5).asI,.i (a.vt 0 6).asI,.i (a.vt 0 7).asI,.i (a.vt 0 8).asI,.r (a.vt 0 9).asR,.i (a.vt 0 10).asI,.b (a.vt 0 11).asB,.b (a.vt 0 12).asB]
abbrev S3_ (a:Outs):List T:=[.i (a.t 0).asI,.i (a.t 1).asI,.r (a.t 2).asR]
abbrev S4_ (a b:Int) (c:LL):List T:=[.i a,.i b,.r c]
abbrev S5_ (a b c d:Int) (e:LL):List T:=[.i a,.i b,.i c,.i d,.r e]
abbrev S6_ (a:Outs):List T:=[.i (a.t 0).asI,.i (a.t 1).asI,.i (a.t 2).asI,.r (a.t 3).asR,.i (a.t 4).asI,.i (a.t 5).asI,.i (a.t 6).asI,.i (a.t 7).asI,.i (a.t 8).asI,.r (a.t 9).asR,.i (a.t 10).asI,.b (a.t 11).asB,.b (a.t 12).asB,.r (a.t 13).asR,.r (a.t 14).asR,.r (a.t 15).asR,.r (a.t 16).asR]
abbrev S7_ (a b:LL) (c:Bool) (d:LL):List T:=[.r a,.r b,.b c,.r d]
abbrev S8_ (a:Outs) (b:Int):List T:=[.i (a.t 0).asI,.i (a.t 1).asI,.i (a.t 2).asI,.r (a.t 3).asR,.i (a.t 4).asI,.i (a.t 5).asI,.i (a.t 6).asI,.i (a.t 7).asI,.i (a.t 8).asI,.r (a.t 9).asR,.i (a.t 10).asI,.b (a.t 11).asB,.b (a.t 12).asB,.i b]
abbrev S9_ (a b:Int):List T:=[.i a,.i b,.r []]
abbrev i6i (a b c d e f g h:Int):List T:=[.i a,.i b,.i c,.i d,.i e,.i f,.i g,.i h]
abbrev i8e (a:Outs):List T:=[.i (a.t 0).asI,.i (a.t 1).asI,.i (a.t 2).asI,.r (a.t 3).asR,.i (a.t 4).asI,.i (a.t 5).asI,.i (a.t 6).asI,.i (a.t 7).asI,.i (a.t 8).asI,.r (a.t 9).asR,.i (a.t 10).asI,.b (a.t 11).asB,.b (a.t 12).asB]
abbrev j1o (a:Outs):List T:=[.r (a.t 0).asR,.r (a.t 1).asR,.b (a.t 2).asB,.r (a.t 3).asR]
abbrev j3f (a:Outs):List T:=[.i (a.t 0).asI,.i (a.t 1).asI,.i (a.t 2).asI,.r (a.t 3).asR,.i (a.t 4).asI,.i (a.t 5).asI,.i (a.t 6).asI,.i (a.t 7).asI,.i (a.t 8).asI,.r (a.t 9).asR,.i (a.t 10).asI,.b (a.t 11).asB,.b (a.t 12).asB,.r (a.t 13).asR,.r (a.t 14).asR,.r (a.t 15).asR,.r (a.t 16).asR,.b false]
abbrev j3g (a:Outs):List T:=[.i (a.t 1).asI,.i (a.t 2).asI]
abbrev j3h (a:Outs) (b:Int):List T:=[.i (a.vt 0 0).asI,.i (a.vt 0 1).asI,.i (a.vt 0 2).asI,.r (a.vt 0 3).asR,.i (a.vt 0 4).asI,.i (a.vt 0 5).asI,.i b,.i (a.vt 0 7).asI,.i (a.vt 0 8).asI,.r (a.vt 0 9).asR,.i (a.vt 0 10).asI,.b (a.vt 0 11).asB,.b (a.vt 0 12).asB]
abbrev j3i (a:Outs):List T:=[.i (a.vt 0 0).asI,.i (a.vt 0 1).asI,.i (a.vt 0 2).asI,.r (a.vt 0 3).asR,.i (a.vt 0 4).asI,.i (a.vt 0 5).asI,.i (a.vt 0 6).asI,.i (a.vt 0 7).asI,.i (a.vt 0 8).asI,.r (a.vt 0 9).asR,.i (a.vt 0 10).asI,.b (a.vt 0 11).asB,.b (a.vt 0 12).asB,.i (a.t 0).asI]
abbrev j3j (a:Outs) (b:LL):List T:=[.i (a.t 0).asI,.i (a.t 1).asI,.i (a.t 2).asI,.r (a.t 3).asR,.i (a.t 4).asI,.i (a.t 5).asI,.i (a.t 6).asI,.i (a.t 7).asI,.i (a.t 8).asI,.r (a.t 9).asR,.i (a.t 10).asI,.b (a.t 11).asB,.b (a.t 12).asB,.r (a.t 13).asR,.r b,.r (a.t 15).asR,.r (a.t 16).asR]
abbrev j4b (a b:Outs) (c:LL):List T:=[.i (a.t 0).asI,.i (a.t 1).asI,.i (a.t 2).asI,.r (a.t 3).asR,.i (a.t 4).asI,.i (a.t 5).asI,.i (a.t 6).asI,.i (a.t 7).asI,.i (a.t 8).asI,.r (a.t 9).asR,.i (a.t 10).asI,.b (a.t 11).asB,.b (a.t 12).asB,.r (b.t 13).asR,.r c,.r (b.t 15).asR,.r (b.t 16).asR,.b true]
abbrev j4o (a:Outs):List T:=[.r (a.t 0).asR,.r (a.t 1).asR,.b (a.t 2).asB,.r (a.t 3).asR,.b false]
abbrev j4p (a:Outs):List T:=[.i (a.vt 0 0).asI,.i (a.vt 0 1).asI,.i (a.vt 0 2).asI,.r (a.vt 0 3).asR,.i (a.vt 0 4).asI,.i (a.vt 0 5).asI,.i (a.vt 0 6).asI,.i (a.vt 0 6).asI,.i (a.vt 0 8).asI,.r (a.vt 0 9).asR,.i (a.vt 0 10).asI,.b (a.vt 0 11).asB,.b (a.vt 0 12).asB]
abbrev j4q (a b:Outs):List T:=[.i (a.t 0).asI,.i (a.t 1).asI,.i (a.t 2).asI,.r (a.t 3).asR,.i (a.t 4).asI,.i (a.t 5).asI,.i (a.t 6).asI,.i (a.t 7).asI,.i (a.t 8).asI,.r (a.t 9).asR,.i (a.t 10).asI,.b (a.t 11).asB,.b (a.t 12).asB,.i (b.t 0).asI]
abbrev j4r (a:Outs) (b:LL):List T:=[.i (a.t 0).asI,.i (a.t 1).asI,.i (a.t 2).asI,.r (a.t 3).asR,.i (a.t 4).asI,.i (a.t 5).asI,.i (a.t 6).asI,.i (a.t 7).asI,.i (a.t 8).asI,.r (a.t 9).asR,.i (a.t 10).asI,.b (a.t 11).asB,.b (a.t 12).asB,.r (a.t 13).asR,.r b,.r (a.t 15).asR,.r (a.t 16).asR,.b true]
abbrev j4s (a:Outs) (b c d:LL):List T:=[.i (a.t 0).asI,.i (a.t 1).asI,.i (a.t 2).asI,.r (a.t 3).asR,.i (a.t 4).asI,.i (a.t 5).asI,.i (a.t 6).asI,.i (a.t 7).asI,.i (a.t 8).asI,.r (a.t 9).asR,.i (a.t 10).asI,.b (a.t 11).asB,.b (a.t 12).asB,.r (a.t 13).asR,.r b,.r c,.r d,.b true]
abbrev j4t (a b:Outs) (c d e:LL):List T:=[.i (a.t 0).asI,.i (a.t 1).asI,.i (a.t 2).asI,.r (a.t 3).asR,.i (a.t 4).asI,.i (a.t 5).asI,.i (a.t 6).asI,.i (a.t 7).asI,.i (a.t 8).asI,.r (a.t 9).asR,.i (a.t 10).asI,.b (a.t 11).asB,.b (a.t 12).asB,.r (b.t 13).asR,.r c,.r d,.r e,.b true]
abbrev j4u (a b:Outs):List T:=[.i (a.t 0).asI,.i (a.t 1).asI,.i (a.t 2).asI,.i (a.t 3).asI,.r (a.t 4).asR,.i (b.t 0).asI,.i (b.t 1).asI,.r (b.t 2).asR]
abbrev j4v (a:Outs):List T:=[.i (a.vt 0 0).asI,.i (a.vt 0 1).asI,.i (a.vt 0 2).asI,.r (a.vt 0 3).asR,.i (a.vt 0 4).asI,.i (a.vt 0 5).asI,.i (a.vt 0 6).asI,.i (a.vt 0 7).asI,.i (a.vt 0 8).asI,.r (a.vt 0 9).asR,.i (a.vt 0 10).asI,.b (a.vt 0 11).asB,.b (a.vt 0 12).asB,.r (a.vt 0 13).asR,.r (a.vt 0 14).asR,.r (a.vt 0 15).asR,.r (a.vt 0 16).asR,.b true]
abbrev j4w (a b:Outs) (c:LL):List T:=[.i (a.t 0).asI,.i (a.t 1).asI,.i (a.t 2).asI,.r (a.t 3).asR,.i (a.t 4).asI,.i (a.t 5).asI,.i (a.t 6).asI,.i (a.t 7).asI,.i (a.t 8).asI,.r (a.t 9).asR,.i (a.t 10).asI,.b (a.t 11).asB,.b (a.t 12).asB,.r (b.t 13).asR,.r c,.r (b.t 15).asR,.r (b.t 16).asR]
abbrev j4x (a b:Outs):List T:=[.i (a.t 0).asI,.i (a.t 1).asI,.i (a.t 2).asI,.r (b.vt 0 3).asR,.i (a.t 4).asI,.i (a.t 5).asI,.i (a.t 6).asI,.i (a.t 7).asI,.i (a.t 8).asI,.r (b.vt 0 9).asR,.i (a.t 10).asI,.b (a.t 11).asB,.b (a.t 12).asB,.r (b.vt 0 13).asR,.r (b.vt 0 14).asR,.r (b.vt 0 15).asR,.r (b.vt 0 16).asR]
end Go.Proofs.YtgilihjnmjgciaaGreat.Ev
