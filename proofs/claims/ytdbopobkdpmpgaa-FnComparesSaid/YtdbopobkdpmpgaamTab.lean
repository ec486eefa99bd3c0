/- The seat's types and functions, as the evaluator takes them. No condition. -/
import Derived.Test.YtdbopobkdpmpgaamEvYb
import Derived.Test.YtdbopobkdpmpgaaProg
namespace Go.Proofs.Ytdbopobkdpmpgaa.Ev
open Go Go.Proofs
set_option linter.unusedVariables false
set_option maxRecDepth 100000
def tys:List TI:=[⟨.other,[],0⟩,
 ⟨.other,[],0⟩,
 ⟨.int .i64,[.int .i64],8⟩,
 ⟨.int .i64,[.int .i64],8⟩,
 ⟨.bool,[.bool],1⟩,
 ⟨.int .u8,[.int .u8],1⟩,
 ⟨.int .u8,[.int .u8],1⟩,
 ⟨.struct [(0,2),(1,3),(2,4),(3,6)],[.int .i64,.int .i64,.bool,.int .u8],24⟩,
 ⟨.struct [(0,2),(1,3),(2,4),(3,6)],[.int .i64,.int .i64,.bool,.int .u8],24⟩,
 ⟨.str,[.str],16⟩,
 ⟨.str,[.str],16⟩,
 ⟨.str,[.str],16⟩,
 ⟨.int .u64,[.int .u64],8⟩,
 ⟨.struct [(0,9),(1,12)],[.str,.int .u64],24⟩,
 ⟨.struct [(0,9),(1,12)],[.str,.int .u64],24⟩,
 ⟨.ptr 141,[.ptr 141],8⟩,
 ⟨.ptr 144,[.ptr 144],8⟩,
 ⟨.ptr 154,[.ptr 154],8⟩,
 ⟨.struct [(0,17)],[.ptr 154],8⟩,
 ⟨.struct [(0,17)],[.ptr 154],8⟩,
 ⟨.other,[],0⟩,
 ⟨.int .i32,[.int .i32],4⟩,
 ⟨.slice 5,[.row 5],24⟩,
 ⟨.other,[],0⟩,
 ⟨.struct [(0,3),(1,3)],[.int .i64,.int .i64],16⟩,
 ⟨.struct [(0,3),(1,3)],[.int .i64,.int .i64],16⟩,
 ⟨.slice 62,[.row 62],24⟩,
 ⟨.slice 85,[.row 85],24⟩,
 ⟨.struct [(0,3),(1,25),(3,26),(4,3),(5,3),(6,3),(7,3),(8,3),(9,27),(10,3),(11,4),(12,4)],[.int .i64,.int .i64,.int .i64,.row 62,.int .i64,.int .i64,.int .i64,.int .i64,.int .i64,.row 85,.int .i64,.bool,.bool],128⟩,
 ⟨.struct [(0,3),(1,25),(3,26),(4,3),(5,3),(6,3),(7,3),(8,3),(9,27),(10,3),(11,4),(12,4)],[.int .i64,.int .i64,.int .i64,.row 62,.int .i64,.int .i64,.int .i64,.int .i64,.int .i64,.row 85,.int .i64,.bool,.bool],128⟩,
 ⟨.slice 42,[.row 42],24⟩,
 ⟨.slice 75,[.row 75],24⟩,
 ⟨.slice 47,[.row 47],24⟩,
 ⟨.slice 49,[.row 49],24⟩,
 ⟨.struct [(0,29),(13,30),(14,31),(15,32),(16,33)],[.int .i64,.int .i64,.int .i64,.row 62,.int .i64,.int .i64,.int .i64,.int .i64,.int .i64,.row 85,.int .i64,.bool,.bool,.row 42,.row 75,.row 47,.row 49],224⟩,
 ⟨.struct [(0,29),(13,30),(14,31),(15,32),(16,33)],[.int .i64,.int .i64,.int .i64,.row 62,.int .i64,.int .i64,.int .i64,.int .i64,.int .i64,.row 85,.int .i64,.bool,.bool,.row 42,.row 75,.row 47,.row 49],224⟩,
 ⟨.other,[],0⟩,
 ⟨.other,[],0⟩,
 ⟨.other,[],0⟩,
 ⟨.other,[],0⟩,
 ⟨.slice 3,[.row 3],24⟩,
 ⟨.struct [(0,3),(1,3),(2,3),(3,3),(4,40)],[.int .i64,.int .i64,.int .i64,.int .i64,.row 3],56⟩,
 ⟨.struct [(0,3),(1,3),(2,3),(3,3),(4,40)],[.int .i64,.int .i64,.int .i64,.int .i64,.row 3],56⟩,
 ⟨.other,[],0⟩,
 ⟨.other,[],0⟩,
 ⟨.other,[],0⟩,
 ⟨.struct [(0,3),(1,3),(2,40)],[.int .i64,.int .i64,.row 3],40⟩,
 ⟨.struct [(0,3),(1,3),(2,40)],[.int .i64,.int .i64,.row 3],40⟩,
 ⟨.struct [(0,42),(5,47)],[.int .i64,.int .i64,.int .i64,.int .i64,.row 3,.int .i64,.int .i64,.row 3],96⟩,
 ⟨.struct [(0,42),(5,47)],[.int .i64,.int .i64,.int .i64,.int .i64,.row 3,.int .i64,.int .i64,.row 3],96⟩,
 ⟨.other,[],0⟩,
 ⟨.other,[],0⟩,
 ⟨.other,[],0⟩,
 ⟨.other,[],0⟩,
 ⟨.other,[],0⟩,
 ⟨.other,[],0⟩,
 ⟨.other,[],0⟩,
 ⟨.other,[],0⟩,
 ⟨.other,[],0⟩,
 ⟨.slice 40,[.row 40],24⟩,
 ⟨.slice 92,[.row 92],24⟩,
 ⟨.struct [(0,59),(1,60),(2,4),(3,40)],[.row 40,.row 92,.bool,.row 3],80⟩,
 ⟨.struct [(0,59),(1,60),(2,4),(3,40)],[.row 40,.row 92,.bool,.row 3],80⟩,
 ⟨.other,[],0⟩,
 ⟨.other,[],0⟩,
 ⟨.other,[],0⟩,
 ⟨.struct [(0,3),(1,3),(2,3),(3,3),(4,3),(5,3),(6,3),(7,3)],[.int .i64,.int .i64,.int .i64,.int .i64,.int .i64,.int .i64,.int .i64,.int .i64],64⟩,
 ⟨.struct [(0,3),(1,3),(2,3),(3,3),(4,3),(5,3),(6,3),(7,3)],[.int .i64,.int .i64,.int .i64,.int .i64,.int .i64,.int .i64,.int .i64,.int .i64],64⟩,
 ⟨.other,[],0⟩,
 ⟨.other,[],0⟩,
 ⟨.other,[],0⟩,
 ⟨.other,[],0⟩,
 ⟨.other,[],0⟩,
 ⟨.other,[],0⟩,
 ⟨.struct [(0,42),(5,3),(6,40),(7,3)],[.int .i64,.int .i64,.int .i64,.int .i64,.row 3,.int .i64,.row 3,.int .i64],96⟩,
 ⟨.struct [(0,42),(5,3),(6,40),(7,3)],[.int .i64,.int .i64,.int .i64,.int .i64,.row 3,.int .i64,.row 3,.int .i64],96⟩,
 ⟨.other,[],0⟩,
 ⟨.other,[],0⟩,
 ⟨.other,[],0⟩,
 ⟨.other,[],0⟩,
 ⟨.other,[],0⟩,
 ⟨.other,[],0⟩,
 ⟨.other,[],0⟩,
 ⟨.other,[],0⟩,
 ⟨.struct [(0,3),(1,40)],[.int .i64,.row 3],32⟩,
 ⟨.struct [(0,3),(1,40)],[.int .i64,.row 3],32⟩,
 ⟨.other,[],0⟩,
 ⟨.other,[],0⟩,
 ⟨.other,[],0⟩,
 ⟨.other,[],0⟩,
 ⟨.other,[],0⟩,
 ⟨.struct [(0,3),(1,40)],[.int .i64,.row 3],32⟩,
 ⟨.struct [(0,3),(1,40)],[.int .i64,.row 3],32⟩,
 ⟨.other,[],0⟩,
 ⟨.other,[],0⟩,
 ⟨.other,[],0⟩,
 ⟨.other,[],0⟩,
 ⟨.other,[],0⟩,
 ⟨.other,[],0⟩,
 ⟨.other,[],0⟩,
 ⟨.other,[],0⟩,
 ⟨.other,[],0⟩,
 ⟨.other,[],0⟩,
 ⟨.other,[],0⟩,
 ⟨.other,[],0⟩,
 ⟨.other,[],0⟩,
 ⟨.other,[],0⟩,
 ⟨.other,[],0⟩,
 ⟨.other,[],0⟩,
 ⟨.other,[],0⟩,
 ⟨.ptr 75,[.ptr 75],8⟩,
 ⟨.other,[],0⟩,
 ⟨.other,[],0⟩,
 ⟨.ptr 35,[.ptr 35],8⟩,
 ⟨.other,[],0⟩,
 ⟨.other,[],0⟩,
 ⟨.other,[],0⟩,
 ⟨.other,[],0⟩,
 ⟨.other,[],0⟩,
 ⟨.other,[],0⟩,
 ⟨.other,[],0⟩,
 ⟨.other,[],0⟩,
 ⟨.other,[],0⟩,
 ⟨.other,[],0⟩,
 ⟨.other,[],0⟩,
 ⟨.other,[],0⟩,
 ⟨.other,[],0⟩,
 ⟨.other,[],0⟩,
 ⟨.other,[],0⟩,
 ⟨.other,[],0⟩,
 ⟨.other,[],0⟩,
 ⟨.ptr 29,[.ptr 29],8⟩,
 ⟨.other,[],0⟩,
 ⟨.other,[],0⟩,
 ⟨.struct [(0,3),(1,3),(2,40)],[.int .i64,.int .i64,.row 3],40⟩,
 ⟨.struct [(0,3),(1,3),(2,40)],[.int .i64,.int .i64,.row 3],40⟩,
 ⟨.other,[],0⟩,
 ⟨.other,[],0⟩,
 ⟨.other,[],0⟩,
 ⟨.other,[],0⟩,
 ⟨.struct [(0,17),(1,17),(2,17),(3,9)],[.ptr 154,.ptr 154,.ptr 154,.str],40⟩,
 ⟨.struct [(0,17),(1,17),(2,17),(3,9)],[.ptr 154,.ptr 154,.ptr 154,.str],40⟩,
 ⟨.other,[],0⟩,
 ⟨.other,[],0⟩,
 ⟨.other,[],0⟩,
 ⟨.other,[],0⟩,
 ⟨.int .u32,[.int .u32],4⟩,
 ⟨.int .u8,[.int .u8],1⟩,
 ⟨.int .u8,[.int .u8],1⟩,
 ⟨.other,[],0⟩,
 ⟨.ptr 5,[.ptr 5],8⟩,
 ⟨.int .i32,[.int .i32],4⟩,
 ⟨.int .i32,[.int .i32],4⟩,
 ⟨.other,[],0⟩,
 ⟨.other,[],0⟩,
 ⟨.other,[],0⟩]
namespace N
abbrev g5g:Nat:=3
abbrev g4b:Nat:=4
abbrev g4g:Nat:=5
abbrev g3m:Nat:=6
abbrev g3n:Nat:=7
abbrev g5f:Nat:=8
abbrev g2j:Nat:=9
abbrev g2n:Nat:=10
abbrev g1x:Nat:=11
abbrev g2r:Nat:=12
abbrev g2g:Nat:=13
abbrev g5e:Nat:=14
abbrev g3p:Nat:=15
abbrev g3w:Nat:=16
abbrev g2s:Nat:=17
abbrev g3x:Nat:=18
abbrev g2d:Nat:=19
abbrev g1t:Nat:=20
abbrev g4f:Nat:=21
abbrev g4c:Nat:=22
abbrev g2w:Nat:=23
abbrev g2x:Nat:=24
abbrev g2l:Nat:=25
abbrev g2z:Nat:=26
abbrev g2m:Nat:=27
abbrev g2b:Nat:=28
abbrev g1u:Nat:=29
abbrev g3a:Nat:=30
abbrev g4j:Nat:=31
abbrev g2h:Nat:=32
abbrev g2q:Nat:=33
abbrev g4l:Nat:=34
abbrev g5c:Nat:=35
abbrev g5d:Nat:=36
abbrev g3f:Nat:=37
abbrev g3q:Nat:=38
abbrev g3v:Nat:=39
abbrev g3j:Nat:=40
abbrev g2a:Nat:=41
abbrev g3k:Nat:=42
abbrev g1z:Nat:=43
abbrev g2k:Nat:=44
abbrev g2y:Nat:=45
abbrev g4e:Nat:=46
abbrev g1y:Nat:=47
abbrev g4h:Nat:=48
abbrev g2p:Nat:=49
abbrev g2e:Nat:=50
abbrev g3i:Nat:=51
abbrev g4k:Nat:=52
abbrev g3e:Nat:=53
abbrev g2i:Nat:=54
abbrev g5b:Nat:=55
abbrev g5h:Nat:=56
abbrev g1v:Nat:=57
abbrev g3b:Nat:=58
abbrev g4m:Nat:=59
abbrev g2t:Nat:=60
abbrev g4s:Nat:=61
abbrev g3u:Nat:=62
abbrev g4d:Nat:=63
abbrev g4i:Nat:=64
abbrev g2o:Nat:=65
abbrev g3l:Nat:=66
abbrev g2f:Nat:=67
abbrev g3c:Nat:=68
abbrev g3d:Nat:=69
abbrev g3o:Nat:=70
abbrev g5i:Nat:=71
abbrev g5j:Nat:=72
abbrev g4q:Nat:=73
abbrev g4r:Nat:=74
abbrev g3t:Nat:=75
abbrev g3g:Nat:=76
abbrev g1w:Nat:=77
abbrev g2v:Nat:=78
abbrev g4p:Nat:=79
abbrev g3r:Nat:=80
abbrev g3s:Nat:=81
abbrev g5k:Nat:=82
abbrev g4a:Nat:=83
abbrev g5l:Nat:=84
abbrev g4o:Nat:=85
abbrev g4z:Nat:=88
abbrev g5a:Nat:=89
abbrev g4n:Nat:=90
abbrev g4u:Nat:=92
abbrev g3z:Nat:=93
abbrev g2c:Nat:=94
abbrev g3h:Nat:=96
abbrev g4t:Nat:=97
abbrev g2u:Nat:=98
abbrev g4v:Nat:=99
abbrev g4x:Nat:=100
abbrev g4y:Nat:=101
abbrev g3y:Nat:=102
abbrev g4w:Nat:=103
end N
namespace TN
abbrev g1l:Nat:=2
abbrev Int:Nat:=3
abbrev Bool:Nat:=4
abbrev Uint8:Nat:=5
abbrev g0y:Nat:=9
abbrev g0h:Nat:=12
abbrev g1m:Nat:=21
abbrev g0z:Nat:=22
abbrev f9k:Nat:=25
abbrev f8b:Nat:=26
abbrev f8c:Nat:=27
abbrev f9l:Nat:=29
abbrev f8d:Nat:=30
abbrev f8e:Nat:=31
abbrev f8f:Nat:=32
abbrev f7f:Nat:=33
abbrev f9m:Nat:=35
abbrev g1s:Nat:=40
abbrev f9n:Nat:=42
abbrev f9o:Nat:=47
abbrev f8g:Nat:=49
abbrev g1n:Nat:=59
abbrev f9p:Nat:=60
abbrev f9q:Nat:=62
abbrev f7g:Nat:=67
abbrev f9r:Nat:=75
abbrev f9s:Nat:=85
abbrev g0i:Nat:=92
abbrev f9t:Nat:=135
abbrev g1a:Nat:=146
end TN
noncomputable def fnTab:Tr Func:=(.node (.node (.node (.node (.node (.node (.node .nil 3 Try.f3 .nil) 4 Try.f4 (.node .nil 5 Try.f5 .nil)) 6 Try.f6 (.node (.node .nil 7 Try.f7 .nil) 8 Try.f8 .nil)) 9 Try.f9 (.node (.node (.node .nil 10 Try.f10 .nil) 11 Try.f11 .nil) 12 Try.f12 (.node (.node .nil 13 Try.f13 .nil) 14 Try.f14 .nil))) 15 Try.f15 (.node (.node (.node (.node .nil 16 Try.f16 .nil) 17 Try.f17 .nil) 18 Try.f18 (.node (.node .nil 19 Try.f19 .nil) 20 Try.f20 .nil)) 21 Try.f21 (.node (.node (.node .nil 22 Try.f22 .nil) 23 Try.f23 .nil) 24 Try.f24 (.node (.node .nil 25 Try.f25 .nil) 26 Try.f26 .nil)))) 27 Try.f27 (.node (.node (.node (.node (.node .nil 28 Try.f28 .nil) 29 Try.f29 .nil) 30 Try.f30 (.node (.node .nil 31 Try.f31 .nil) 32 Try.f32 .nil)) 33 Try.f33 (.node (.node (.node .nil 34 Try.f34 .nil) 35 Try.f35 .nil) 36 Try.f36 (.node (.node .nil 37 Try.f37 .nil) 38 Try.f38 .nil))) 39 Try.f39 (.node (.node (.node (.node .nil 40 Try.f40 .nil) 41 Try.f41 .nil) 42 Try.f42 (.node (.node .nil 43 Try.f43 .nil) 44 Try.f44 .nil)) 45 Try.f45 (.node (.node (.node .nil 46 Try.f46 .nil) 47 Try.f47 .nil) 48 Try.f48 (.node (.node .nil 49 Try.f49 .nil) 50 Try.f50 .nil))))) 51 Try.f51 (.node (.node (.node (.node (.node (.node .nil 52 Try.f52 .nil) 53 Try.f53 (.node .nil 54 Try.f54 .nil)) 55 Try.f55 (.node (.node .nil 56 Try.f56 .nil) 57 Try.f57 .nil)) 58 Try.f58 (.node (.node (.node .nil 59 Try.f59 .nil) 60 Try.f60 .nil) 61 Try.f61 (.node (.node .nil 62 Try.f62 .nil) 63 Try.f63 .nil))) 64 Try.f64 (.node (.node (.node (.node .nil 65 Try.f65 .nil) 66 Try.f66 .nil) 67 Try.f67 (.node (.node .nil 68 Try.f68 .nil) 69 Try.f69 .nil)) 70 Try.f70 (.node (.node (.node .nil 71 Try.f71 .nil) 72 Try.f72 .nil) 73 Try.f73 (.node (.node .nil 74 Try.f74 .nil) 75 Try.f75 .nil)))) 76 Try.f76 (.node (.node (.node (.node (.node .nil 77 Try.f77 .nil) 78 Try.f78 .nil) 79 Try.f79 (.node (.node .nil 80 Try.f80 .nil) 81 Try.f81 .nil)) 82 Try.f82 (.node (.node (.node .nil 83 Try.f83 .nil) 84 Try.f84 .nil) 85 Try.f85 (.node (.node .nil 88 Try.f88 .nil) 89 Try.f89 .nil))) 90 Try.f90 (.node (.node (.node (.node .nil 92 Try.f92 .nil) 93 Try.f93 .nil) 94 Try.f94 (.node (.node .nil 96 Try.f96 .nil) 97 Try.f97 .nil)) 98 Try.f98 (.node (.node (.node .nil 99 Try.f99 .nil) 100 Try.f100 .nil) 101 Try.f101 (.node (.node .nil 102 Try.f102 .nil) 103 Try.f103 .nil))))))
def f8h:Tr Sig:=(.node (.node (.node (.node (.node (.node .nil 5 ⟨[],[false,false,false,true,false,false,false,false,false,true,false,false,false,true,true,true,true],[],false⟩ .nil) 7 ⟨[],[false,false,false,true,false,false,false,false,false,true,false,false,false,true,true,true,true,false],[],false⟩ .nil) 8 ⟨[],[false,false,false,true,false,false,false,false,false,true,false,false,false,true,true,true,true],[],false⟩ (.node (.node .nil 10 ⟨[],[false,false,false,true,false,false,false,false,false,true,false,false,false],[],false⟩ .nil) 11 ⟨[],[false,false,false,true,false,false,false,false,false,true,false,false,false,true,true,true,true,false,false,false,true,false,false,false,false,false,true,false,false,false,true,true,true,true],[],true⟩ .nil)) 13 ⟨[],[false,false,false,false,true],[],false⟩ (.node (.node (.node .nil 14 ⟨[],[false,false,false,true,false,false,false,false,false,true,false,false,false,true,true,true,true],[],false⟩ .nil) 16 ⟨[],[true,false],[],false⟩ .nil) 21 ⟨[],[true,true,false,true],[],false⟩ (.node .nil 22 ⟨[],[true,true,false,true],[],false⟩ .nil))) 25 ⟨[],[true,true,false,true,false,true,true,false,false,false],[],true⟩ (.node (.node (.node (.node .nil 27 ⟨[],[true,true,false,true,true,true,false,false],[],true⟩ .nil) 28 ⟨[],[false,false,false,true,false,false,false,false,false,true,false,false,false,false,false,false,true,false,false,false,false,false,true,false,false,false],[],true⟩ .nil) 29 ⟨[],[true],[],false⟩ (.node .nil 30 ⟨[],[false,false,true],[],false⟩ .nil)) 35 ⟨[],[false,false,false,true,false,false,false,false,false,true,false,false,false,true,true,true,true],[],false⟩ (.node (.node (.node .nil 36 ⟨[],[false,false,false,true,false,false,false,false,false,true,false,false,false,true,true,true,true,false,false,false,false,true,false,false,false,false,false,true,false,false,false,true,true,true,true,false],[],true⟩ .nil) 39 ⟨[],[true,false],[],false⟩ .nil) 41 ⟨[],[true,true,false,true,true,true,false,false],[],true⟩ (.node .nil 42 ⟨[],[true],[],false⟩ .nil)))) 46 ⟨[[true],[]],[true],[],false⟩ (.node (.node (.node (.node (.node .nil 47 ⟨[],[],[3],false⟩ .nil) 48 ⟨[],[true,true,true],[],true⟩ .nil) 55 ⟨[],[false,false,false,true,false,false,false,false,false,true,false,false,false,true,true,true,true,false,false,false,false,true,false,false,false,false,false,true,false,false,false,true,true,true,true,false],[],true⟩ (.node (.node .nil 57 ⟨[[false,false,false,true,false,false,false,false,false,true,false,false,false,true,true,true,true,false,false,false,true,false,false,false,false,false,true,false,false,false,true,true,true,true],[false,false,false,false,true],[false,false,true]],[],[],true⟩ .nil) 60 ⟨[],[],[3],false⟩ .nil)) 61 ⟨[],[true,false],[],false⟩ (.node (.node (.node .nil 77 ⟨[],[false,false,false,true,false,false,false,false,false,true,false,false,false,false,false,false,false,true,false,false,false,false,false,true,false,false,false,false],[],true⟩ .nil) 78 ⟨[],[false,false,false,true,false,false,false,false,false,true,false,false,false,false,false,false,false,true,false,false,false,false,false,true,false,false,false,false],[],true⟩ .nil) 79 ⟨[],[true,false],[],false⟩ (.node .nil 82 ⟨[[false],[false],[true]],[],[],false⟩ .nil))) 83 ⟨[],[false,false,false,true,false,false,false,false,false,true,false,false,false,false,false,false,false,true,false,false,false,false,false,true,false,false,false,false],[],true⟩ (.node (.node (.node (.node .nil 88 ⟨[[false,false,false,true,false,false,false,false,false,true,false,false,false,false,false,false,true,false,false,false,false,false,true,false,false,false],[false],[false]],[],[],true⟩ .nil) 92 ⟨[[false,false,false,true,false,false,false,false,false,true,false,false,false,false,false,false,true,false,false,false,false,false,true,false,false,false]],[],[],true⟩ .nil) 93 ⟨[[false,false,false,true,false,false,false,false,false,true,false,false,false,false,false,false,true,false,false,false,false,false,true,false,false,false],[false,false,false]],[],[],true⟩ (.node .nil 94 ⟨[[false,false,false,true,false,false,false,false,false,true,false,false,false,false,false,false,true,false,false,false,false,false,true,false,false,false],[false],[false]],[],[],true⟩ .nil)) 96 ⟨[[false,false,false,true,false,false,false,false,false,true,false,false,false,false,false,false,true,false,false,false,false,false,true,false,false,false]],[],[],true⟩ (.node (.node (.node .nil 97 ⟨[[false,false,false,true,false,false,false,false,false,true,false,false,false,false,false,false,true,false,false,false,false,false,true,false,false,false]],[],[],true⟩ .nil) 98 ⟨[[false,false,false,true,false,false,false,false,false,true,false,false,false,false,false,false,true,false,false,false,false,false,true,false,false,false],[false],[false],[false]],[],[],true⟩ .nil) 100 ⟨[],[true],[],false⟩ (.node .nil 102 ⟨[[false,false,false,true,false,false,false,false,false,true,false,false,false,false,false,false,true,false,false,false,false,false,true,false,false,false]],[],[],true⟩ .nil)))))
noncomputable def E:Env:={ tys:=tys,fn:=fnTab.get,sig:=g0g f8h,gl:=[],del:=[(56,42),(72,75),(82,1000085),(84,85)],inl:=[71],frz:=[] }
def P0:FuncId→Option (List Arg→Option Outs):=fun _=>none
theorem b2i:a1e Try.prog E=true:=by kernel_rfl
theorem e1m:Try.prog.follows .mixedOrders=true:=by kernel_rfl
theorem g0j:f9j Try.prog fnTab:=⟨Try.func51,⟨Try.func27,⟨Try.func15,⟨Try.func9,⟨Try.func6,⟨Try.func4,⟨Try.func3,trivial,trivial⟩,⟨Try.func5,trivial,trivial⟩⟩,⟨Try.func8,⟨Try.func7,trivial,trivial⟩,trivial⟩⟩,⟨Try.func12,⟨Try.func11,⟨Try.func10,trivial,trivial⟩,trivial⟩,⟨Try.func14,⟨Try.func13,trivial,trivial⟩,trivial⟩⟩⟩,⟨Try.func21,⟨Try.func18,⟨Try.func17,⟨Try.func16,trivial,trivial⟩,trivial⟩,⟨Try.func20,⟨Try.func19,trivial,trivial⟩,trivial⟩⟩,⟨Try.func24,⟨Try.func23,⟨Try.func22,trivial,trivial⟩,trivial⟩,⟨Try.func26,⟨Try.func25,trivial,trivial⟩,trivial⟩⟩⟩⟩,⟨Try.func39,⟨Try.func33,⟨Try.func30,⟨Try.func29,⟨Try.func28,trivial,trivial⟩,trivial⟩,⟨Try.func32,⟨Try.func31,trivial,trivial⟩,trivial⟩⟩,⟨Try.func36,⟨Try.func35,⟨Try.func34,trivial,trivial⟩,trivial⟩,⟨Try.func38,⟨Try.func37,trivial,trivial⟩,trivial⟩⟩⟩,⟨Try.func45,⟨Try.func42,⟨Try.func41,⟨Try.func40,trivial,trivial⟩,trivial⟩,⟨Try.func44,⟨Try.func43,trivial,trivial⟩,trivial⟩⟩,⟨Try.func48,⟨Try.func47,⟨Try.func46,trivial,trivial⟩,trivial⟩,⟨Try.func50,⟨Try.func49,trivial,trivial⟩,trivial⟩⟩⟩⟩⟩,⟨Try.func76,⟨Try.func64,⟨Try.func58,⟨Try.func55,⟨Try.func53,⟨Try.func52,trivial,trivial⟩,⟨Try.func54,trivial,trivial⟩⟩,⟨Try.func57,⟨Try.func56,trivial,trivial⟩,trivial⟩⟩,⟨Try.func61,⟨Try.func60,⟨Try.func59,trivial,trivial⟩,trivial⟩,⟨Try.func63,⟨Try.func62,trivial,trivial⟩,trivial⟩⟩⟩,⟨Try.func70,⟨Try.func67,⟨Try.func66,⟨Try.func65,trivial,trivial⟩,trivial⟩,⟨Try.func69,⟨Try.func68,trivial,trivial⟩,trivial⟩⟩,⟨Try.func73,⟨Try.func72,⟨Try.func71,trivial,trivial⟩,trivial⟩,⟨Try.func75,⟨Try.func74,trivial,trivial⟩,trivial⟩⟩⟩⟩,⟨Try.func90,⟨Try.func82,⟨Try.func79,⟨Try.func78,⟨Try.func77,trivial,trivial⟩,trivial⟩,⟨Try.func81,⟨Try.func80,trivial,trivial⟩,trivial⟩⟩,⟨Try.func85,⟨Try.func84,⟨Try.func83,trivial,trivial⟩,trivial⟩,⟨Try.func89,⟨Try.func88,trivial,trivial⟩,trivial⟩⟩⟩,⟨Try.func98,⟨Try.func94,⟨Try.func93,⟨Try.func92,trivial,trivial⟩,trivial⟩,⟨Try.func97,⟨Try.func96,trivial,trivial⟩,trivial⟩⟩,⟨Try.func101,⟨Try.func100,⟨Try.func99,trivial,trivial⟩,trivial⟩,⟨Try.func103,⟨Try.func102,trivial,trivial⟩,trivial⟩⟩⟩⟩⟩⟩
theorem g0k:f7z Try.prog fnTab:=e1j g0j (by kernel_rfl)
theorem f8i:f5t Try.prog E:=fun f fn h=>e1k g0k f fn h
abbrev LL:=List (List T)
abbrev OO:=Option Outs
abbrev V0_:=Int×List (List T)
abbrev V1_:=Int×Int×Int×Int×Int×Int×Int×Int×Int×Int×Bool×Bool×List (List T)×List (List T)
abbrev V2_:=Int×Int
abbrev V3_:=Int×Int×Int×Int×Int×Int×Int×Int×Int×Int×Bool×Bool×List (List T)×List (List T)×List (List T)×List (List T)×List (List T)×List (List T)
abbrev V4_:=Int×Bool×List (List T)×List (List T)×List (List T)
abbrev V5_:=Int×Int×List (List T)
abbrev V6_:=List (List T)×Int
abbrev V7_:=Int×Int×List (List T)×Int
abbrev W64 (n:Int):Int:=IntKind.wrap .i64 n
theorem B2_:(∀ (R:Type) (a d:R) l,(a::l).getD 0 d=a)∧(∀ (R:Type) (a d:R) l n,(a::l).getD (n+1) d=l.getD n d):=⟨fun _ _ _ _=>rfl,fun _ _ _ _ _=>rfl⟩
abbrev ck_ {R:Type} (a:Int) (c:LL) (x:Option R):Option R:=chk (decide (0≤a)&&decide (a<(c.length:Int))) x
noncomputable abbrev BK_ (k n:Nat) (l:List Arg) (f:Outs→OO):OO:=a0i (a0d E P0 k n l) f
abbrev so_ (l:List T):OO:=some ⟨l,[]⟩
abbrev vi_ (a:Int):Arg:=.v [.i a]
abbrev vr_ (a:LL):Arg:=.v [.r a]
abbrev A.w_ (a:Int):A:=.i .i64 a
abbrev ST_ (a:List (Nat×A)) (b:List (Nm×O)):St:=⟨b2c a,a2m b⟩
abbrev SD_ (a:List (Nat×A)) (b:List (Nm×O)):St:=⟨b2c a,Mem.put (a2m b) a6e .dead⟩
noncomputable abbrev IT_ (k n:Nat) (ar:List Arg) (pins:List Nat) (pt:List Stp) (keep js:List Nat) (j:Nat) (s:St):OO:=f1f E (LB E (a0d E P0 k) k pins n pt) pins keep (LK E (a0d E P0 k) k pins n ar pt js) j s
theorem b4n {k n:Nat} {ar:List Arg} {V:Type} (pins:List Nat) (pt:List Stp) (keep:List Nat) (U:(V→OO)→OO) (S:V→St) (b:(V→OO)→V→OO) (h0:a0d E P0 (k+1) n ar=U (fun v=>IT_ k n ar pins pt keep [] k (S v))) (h1:∀ j v,IT_ k n ar pins pt keep [] (j+1) (S v)=b (fun v=>IT_ k n ar pins pt keep [] j (S v)) v):a0d E P0 (k+1) n ar=U (fun v=>a2z b k v):=h0.trans (congrArg U (funext fun v=>a2d S b h1 k v))
abbrev S0_ (a b c:Int) (d:LL) (e f g h l:Int) (m:LL) (n:Int) (o p:Bool):List T:=[.i a,.i b,.i c,.r d,.i e,.i f,.i g,.i h,.i l,.r m,.i n,.b o,.b p]
abbrev S1_ (a b c:Int) (d:LL) (e f g h l:Int) (m:LL) (n:Int) (o p:Bool) (q r u w:LL):List T:=[.i a,.i b,.i c,.r d,.i e,.i f,.i g,.i h,.i l,.r m,.i n,.b o,.b p,.r q,.r r,.r u,.r w]
abbrev S2_ (a:Outs):List T:=[.i (a.vt 0 0).asI,.i (a.vt 0 1).asI,.i (a.vt 0 2).asI,.r (a.vt 0 3).asR,.i (a.vt 0 4).asI,.i (a.vt 0 5).asI,.i (a.vt 0 6).asI,.i (a.vt 0 7).asI,.i (a.vt 0 8).asI,.r (a.vt 0 9).asR,.i (a.vt 0 10).asI,.b (a.vt 0 11).asB,.b (a.vt 0 12).asB]
abbrev S3_ (a b c d:Int) (e:LL):List T:=[.i a,.i b,.i c,.i d,.r e]
abbrev S4_ (a b:LL) (c:Bool) (d:LL):List T:=[.r a,.r b,.b c,.r d]
abbrev S5_ (a:Outs) (b:Int):List T:=[.i (a.t 0).asI,.i (a.t 1).asI,.i (a.t 2).asI,.r (a.t 3).asR,.i (a.t 4).asI,.i (a.t 5).asI,.i (a.t 6).asI,.i (a.t 7).asI,.i (a.t 8).asI,.r (a.t 9).asR,.i (a.t 10).asI,.b (a.t 11).asB,.b (a.t 12).asB,.i b]
abbrev S6_ (a b c d e f g h:Int):List T:=[.i a,.i b,.i c,.i d,.i e,.i f,.i g,.i h]
abbrev S7_ (a:Outs):List T:=[.r (a.t 0).asR,.r (a.t 1).asR,.b (a.t 2).asB,.r (a.t 3).asR]
abbrev S8_ (a:Outs):List T:=[.i (a.t 0).asI,.i (a.t 1).asI,.i (a.t 2).asI,.r (a.t 3).asR,.i (a.t 4).asI,.i (a.t 5).asI,.i (a.t 6).asI,.i (a.t 7).asI,.i (a.t 8).asI,.r (a.t 9).asR,.i (a.t 10).asI,.b (a.t 11).asB,.b (a.t 12).asB,.r (a.t 13).asR,.r (a.t 14).asR,.r (a.t 15).asR,.r (a.t 16).asR]
abbrev S9_ (a:Outs) (b:LL):List T:=[.i (a.t 0).asI,.i (a.t 1).asI,.i (a.t 2).asI,.r (a.t 3).asR,.i (a.t 4).asI,.i (a.t 5).asI,.i (a.t 6).asI,.i (a.t 7).asI,.i (a.t 8).asI,.r (a.t 9).asR,.i (a.t 10).asI,.b (a.t 11).asB,.b (a.t 12).asB,.r (a.t 13).asR,.r b,.r (a.t 15).asR,.r (a.t 16).asR]
abbrev g0l (a:Outs):List T:=[.i (a.t 0).asI,.i (a.t 1).asI,.i (a.t 2).asI,.r (a.t 3).asR,.i (a.t 4).asI,.i (a.t 5).asI,.i (a.t 6).asI,.i (a.t 7).asI,.i (a.t 8).asI,.r (a.t 9).asR,.i (a.t 10).asI,.b (a.t 11).asB,.b (a.t 12).asB,.r (a.t 13).asR,.r (a.t 14).asR,.r (a.t 15).asR,.r (a.t 16).asR,.b false]
abbrev g0m (a:Outs):List T:=[.i (a.t 0).asI,.i (a.t 1).asI,.i (a.t 2).asI,.r (a.t 3).asR,.i (a.t 4).asI,.i (a.t 5).asI,.i (a.t 6).asI,.i (a.t 7).asI,.i (a.t 8).asI,.r (a.t 9).asR,.i (a.t 10).asI,.b (a.t 11).asB,.b (a.t 12).asB]
abbrev g1b (a:Outs):List T:=[.i (a.t 0).asI,.i (a.t 1).asI,.i (a.t 2).asI,.i (a.t 3).asI,.i (a.t 4).asI,.i (a.t 5).asI,.i (a.t 6).asI,.i (a.t 7).asI]
abbrev g1c (a:Outs):List T:=[.i (a.t 0).asI,.i (a.t 1).asI,.i (a.t 2).asI,.i (a.t 3).asI,.r (a.t 4).asR]
abbrev g1d (a:Outs) (b:Int):List T:=[.i (a.vt 0 0).asI,.i (a.vt 0 1).asI,.i (a.vt 0 2).asI,.r (a.vt 0 3).asR,.i (a.vt 0 4).asI,.i (a.vt 0 5).asI,.i b,.i (a.vt 0 7).asI,.i (a.vt 0 8).asI,.r (a.vt 0 9).asR,.i (a.vt 0 10).asI,.b (a.vt 0 11).asB,.b (a.vt 0 12).asB]
abbrev g1e (a b:Outs):List T:=[.i (a.t 0).asI,.i (a.t 1).asI,.i (a.t 2).asI,.i (a.t 3).asI,.r (a.t 4).asR,.i (b.t 0).asI,.i (b.t 1).asI,.r (b.t 2).asR]
abbrev g1f (a:Outs):List T:=[.i (a.vt 0 0).asI,.i (a.vt 0 1).asI,.i (a.vt 0 2).asI,.r (a.vt 0 3).asR,.i (a.vt 0 4).asI,.i (a.vt 0 5).asI,.i (a.vt 0 6).asI,.i (a.vt 0 7).asI,.i (a.vt 0 8).asI,.r (a.vt 0 9).asR,.i (a.vt 0 10).asI,.b (a.vt 0 11).asB,.b (a.vt 0 12).asB,.r (a.vt 0 13).asR,.r (a.vt 0 14).asR,.r (a.vt 0 15).asR,.r (a.vt 0 16).asR,.b true]
abbrev g1g (a b:Outs) (c:LL):List T:=[.i (a.t 0).asI,.i (a.t 1).asI,.i (a.t 2).asI,.r (a.t 3).asR,.i (a.t 4).asI,.i (a.t 5).asI,.i (a.t 6).asI,.i (a.t 7).asI,.i (a.t 8).asI,.r (a.t 9).asR,.i (a.t 10).asI,.b (a.t 11).asB,.b (a.t 12).asB,.r (b.t 13).asR,.r c,.r (b.t 15).asR,.r (b.t 16).asR]
end Go.Proofs.Ytdbopobkdpmpgaa.Ev
