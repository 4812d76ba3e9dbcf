/- The engine's instructions for the functions, part 0. -/
import Derived.Test.YtpibjnnbploadaaGreatEngAll2
namespace Go.EnvOf
open Go Go.Eng
set_option maxRecDepth 100000
abbrev zm0 (d n : Nat) : GIns := ⟨some d, none, .mov (.t n)⟩
abbrev zT0 : Arg := .c (.p (.bool true))
abbrev zF0 : Arg := .c (.p (.bool false))
abbrev zg0 (d : Nat) (i : Ins) : GIns := ⟨some d, none, i⟩
abbrev zf0 (d k : Nat) (i : Ins) : GIns := ⟨some d, some (k, false), i⟩
abbrev zt0 (d k : Nat) (i : Ins) : GIns := ⟨some d, some (k, true), i⟩
abbrev zn0 (i : Ins) : GIns := ⟨none, none, i⟩
abbrev zi0 (n : Int) : Arg := .c (.p (.int .i64 n))
abbrev zo0 : V := .p (.int .i64 0)
def ir7 : IFn :=
⟨(.seq (.reg false [zg0 2 (.bx (.t 0) 22 true),
 zg0 3 (.bx (.t 1) 7 true),
 zg0 4 (.mov zF0)] [2, 3] [2, 3])
 (.seq (.seq (.reg false [zg0 9 (.ld (.t 2) 22 true),
 zg0 10 (.call 15 [(.t 9)] false)] [2, 3, 10] [2, 3])
 (.cond (.t 10)
 (.seq (.reg false [zg0 11 (.call 34 [] false),
 zm0 4 11] [4] [])
 .ret)
 .skip))
 (.seq (.reg false [zg0 13 (.ld (.t 2) 22 true),
 zg0 14 (.callz 17 [(.t 13)]),
 zm0 12 14,
 zg0 15 (.ext (.t 12) 0),
 zg0 16 (.ext (.t 12) 1),
 zm0 5 15,
 zm0 6 16] [3, 5, 6] [3])
 (.seq (.seq (.reg false [zm0 17 6,
 zg0 18 (.un .not (.t 17))] [3, 5, 18] [3])
 (.cond (.t 18)
 (.seq (.reg false [zg0 19 (.call 34 [] false),
 zm0 4 19] [4] [])
 .ret)
 .skip))
 (.seq (.reg false [zm0 21 5,
 zg0 22 (.ld (.t 3) 7 true),
 zg0 23 (.call 32 [(.t 21), (.t 22)] false),
 zm0 20 23,
 zg0 24 (.ext (.t 20) 0),
 zg0 25 (.ext (.t 20) 1),
 zg0 7 (.al [zo0, zo0, zo0, .nils, .nils, .nils] true),
 zn0 (.st (.t 7) (.t 24) 6),
 zm0 8 25] [3, 5, 7, 8] [3, 7])
 (.seq (.seq (.reg false [zm0 26 8,
 zg0 27 (.un .not (.t 26))] [3, 5, 7, 27] [3, 7])
 (.cond (.t 27)
 (.seq (.reg false [zm0 28 5,
 zg0 29 (.ld (.t 3) 7 true),
 zg0 30 (.call 38 [(.t 28), (.t 29)] false),
 zg0 31 (.un .not (.t 30)),
 zm0 32 31,
 zf0 33 32 (.mov (.t 5)),
 zf0 34 32 (.ld (.t 3) 7 true),
 zf0 35 32 (.call 31 [(.t 33), (.t 34)] false),
 zg0 36 (.pick (.t 32) zT0 (.t 35)),
 zm0 37 36,
 zt0 38 37 (.call 34 [] false),
 zg0 39 (.pick (.t 37) (.t 38) zF0),
 zm0 4 39] [4] [])
 .ret)
 .skip))
 (.seq (.reg false [zm0 40 5,
 zg0 41 (.ld (.t 3) 7 true),
 zg0 42 (.ld (.t 7) 6 true),
 zg0 43 (.call 37 [(.t 40), (.t 41), (.t 42)] false),
 zm0 44 43,
 zt0 45 44 (.call 34 [] false),
 zg0 46 (.pick (.t 44) (.t 45) zF0),
 zm0 4 46] [4] [])
 .ret))))))),
 [.tmp 4], false⟩
def lp15_0 : IC :=
 (.loop [1, 3] [1] (.seq (.seq (.reg false [zm0 4 3,
 zg0 5 (.off (.t 1) 20),
 zg0 6 (.ld (.t 5) 1 false),
 zg0 7 (.len (.t 6)),
 zg0 8 (.bin .lss (.t 4) (.t 7)),
 zm0 9 8,
 zt0 10 9 (.mov (.t 3)),
 zt0 11 9 (.bin .lss (.t 10) (zi0 100)),
 zg0 12 (.pick (.t 9) (.t 11) zF0)] [1, 3, 12] [1])
 (.cond (.t 12)
 .skip
 (.exit 0)))
 (.seq (.block 1 (.seq (.reg false [zg0 15 (.off (.t 1) 20),
 zg0 16 (.ld (.t 15) 1 false),
 zm0 17 3,
 zg0 18 (.ixs (.t 16) (.t 17) 2),
 zg0 19 (.off (.t 18) 0),
 zg0 20 (.ld (.t 19) 1 false),
 zg0 21 (.len (.t 20)),
 zg0 22 (.bin .gtr (.t 21) (zi0 100)),
 zm0 23 22,
 zf0 24 23 (.off (.t 1) 20),
 zf0 25 23 (.ld (.t 24) 1 false),
 zf0 26 23 (.mov (.t 3)),
 zf0 27 23 (.ixs (.t 25) (.t 26) 2),
 zf0 28 23 (.off (.t 27) 1),
 zf0 29 23 (.ld (.t 28) 1 false),
 zf0 30 23 (.len (.t 29)),
 zf0 31 23 (.bin .gtr (.t 30) (zi0 100)),
 zg0 32 (.pick (.t 23) zT0 (.t 31))] [1, 3, 32] [1])
 (.cond (.t 32)
 (.seq (.reg false [zg0 2 (.mov zT0)] [2] [])
 .ret)
 .skip)))
 (.reg false [zm0 13 3,
 zg0 14 (.bin .add (.t 13) (zi0 1)),
 zm0 3 14] [1, 3] [1]))))
def ir15 : IFn :=
⟨(.seq (.reg false [zg0 1 (.bx (.t 0) 22 true),
 zg0 2 (.mov zF0)] [1] [1])
 (.seq (.seq (.reg false [zg0 3 (.mov (zi0 0))] [1, 3] [1])
 (.block 0 lp15_0))
 (.seq (.reg false [zg0 33 (.off (.t 1) 19),
 zg0 34 (.ld (.t 33) 1 false),
 zg0 35 (.len (.t 34)),
 zg0 36 (.bin .gtr (.t 35) (zi0 100)),
 zm0 37 36,
 zf0 38 37 (.off (.t 1) 20),
 zf0 39 37 (.ld (.t 38) 1 false),
 zf0 40 37 (.len (.t 39)),
 zf0 41 37 (.bin .gtr (.t 40) (zi0 100)),
 zg0 42 (.pick (.t 37) zT0 (.t 41)),
 zm0 43 42,
 zf0 44 43 (.off (.t 1) 21),
 zf0 45 43 (.ld (.t 44) 1 false),
 zf0 46 43 (.len (.t 45)),
 zf0 47 43 (.bin .gtr (.t 46) (zi0 100)),
 zg0 48 (.pick (.t 43) zT0 (.t 47)),
 zm0 2 48] [2] [])
 .ret))),
 [.tmp 2], false⟩
def lp17_0 : IC :=
 (.loop [1, 6, 53, 54] [1, 35] (.seq (.reg false [zg0 55 (.bin .lss (.t 54) (.t 53))] [1, 6, 53, 54, 55] [1, 35])
 (.seq (.cond (.t 55)
 .skip
 (.exit 0))
 (.seq (.block 1 (.seq (.reg false [zm0 56 54,
 zm0 7 56] [1, 6, 7, 53, 54] [1, 35])
 (.reg true [zm0 57 6,
 zm0 58 6,
 zg0 59 (.nck (.t 58)),
 zg0 60 (.off (.t 59) 23),
 zg0 61 (.ldl 35 (.t 60) 1 false),
 zg0 62 (.off (.t 1) 20),
 zg0 63 (.ldl 1 (.t 62) 1 false),
 zm0 64 7,
 zg0 65 (.slc (.t 63) none (some (.t 64)) 2),
 zg0 66 (.call 78 [(.t 65)] false),
 zg0 67 (.bsl 1 1 [zo0] [(0, (.t 66))]),
 zg0 68 (.app (.t 61) (.t 67) 1),
 zg0 69 (.nck (.t 57)),
 zg0 70 (.off (.t 69) 23),
 zn0 (.stl 35 (.t 70) (.t 68) 1)] [1, 6, 53, 54] [1, 35])))
 (.reg false [zg0 71 (.bin .add (.t 54) (zi0 1)),
 zm0 54 71] [1, 6, 53, 54] [1, 35])))))
def ir17 : IFn :=
⟨(.seq (.reg false [zg0 1 (.bx (.t 0) 22 true),
 zg0 2 (.mov (.c (.p .nilp))),
 zg0 3 (.mov zF0)] [1] [1])
 (.seq (.seq (.reg false [zg0 8 (.ld (.t 1) 22 true),
 zg0 9 (.call 71 [(.t 8)] false),
 zg0 10 (.un .not (.t 9))] [1, 10] [1])
 (.cond (.t 10)
 (.seq (.reg false [zg0 2 (.mov (.c (.p .nilp))),
 zg0 3 (.mov zF0)] [2, 3] [35])
 .ret)
 .skip))
 (.seq (.reg false [zg0 11 (.ld (.t 1) 22 true),
 zg0 12 (.call 73 [(.t 11)] false),
 zg0 13 (.call 72 [(.t 12)] false),
 zn0 (.st (.t 1) (.t 13) 22)] [1] [1])
 (.seq (.reg false [zg0 15 (.off (.t 1) 19),
 zg0 16 (.ld (.t 15) 1 false),
 zg0 17 (.callz 74 [(.t 16)]),
 zm0 14 17,
 zg0 18 (.ext (.t 14) 0),
 zg0 19 (.ext (.t 14) 1),
 zm0 4 18,
 zm0 5 19] [1, 4, 5] [1])
 (.seq (.seq (.reg false [zm0 20 5,
 zg0 21 (.un .not (.t 20))] [1, 4, 21] [1])
 (.cond (.t 21)
 (.seq (.reg false [zg0 2 (.mov (.c (.p .nilp))),
 zg0 3 (.mov zF0)] [2, 3] [35])
 .ret)
 .skip))
 (.seq (.prep [35] (.reg true [zg0 22 (.off (.t 1) 19),
 zg0 23 (.ldl 1 (.t 22) 1 false),
 zg0 24 (.callz 75 [(.t 23)]),
 zm0 25 4,
 zg0 26 (.off (.t 1) 19),
 zg0 27 (.ldl 1 (.t 26) 1 false),
 zg0 28 (.off (.t 1) 21),
 zg0 29 (.ldl 1 (.t 28) 1 false),
 zg0 30 (.callz 76 [(.t 27), (.t 29)]),
 zg0 31 (.bld [.p .nilp, .p .nilp, .p .nilp] [(0, 1, (.t 24)), (1, 1, (.t 25)), (2, 1, (.t 30))]),
 zg0 32 (.bx (.t 31) 3 false),
 zg0 33 (.ldl 1 (.t 1) 22 true),
 zg0 34 (.bld [.p .nilp, zo0, zo0, zo0, zo0, zo0, zo0, zo0, zo0, zo0, zo0, zo0, zo0, zo0, zo0, zo0, zo0, zo0, zo0, .p (.bool false), .nils, .nils, .nils, .nils, zo0, zo0, zo0] [(0, 1, (.t 32)), (1, 22, (.t 33))]),
 zg0 35 (.bxp (.t 34) 27),
 zm0 6 35] [1, 6] [1, 35]))
 (.seq (.reg true [zm0 36 6,
 zm0 37 6,
 zg0 38 (.nck (.t 37)),
 zg0 39 (.off (.t 38) 0),
 zg0 40 (.ldl 35 (.t 39) 1 false),
 zg0 41 (.nck (.t 40)),
 zg0 42 (.off (.t 41) 2),
 zg0 43 (.ld (.t 42) 1 false),
 zg0 44 (.off (.t 1) 19),
 zg0 45 (.ldl 1 (.t 44) 1 false),
 zg0 46 (.len (.t 45)),
 zg0 47 (.call 77 [(.t 43), (.t 46)] false),
 zg0 48 (.nck (.t 36)),
 zg0 49 (.off (.t 48) 24),
 zn0 (.stl 35 (.t 49) (.t 47) 3)] [1, 6] [1, 35])
 (.seq (.seq (.reg false [zg0 50 (.off (.t 1) 20),
 zg0 51 (.ld (.t 50) 1 false),
 zg0 52 (.len (.t 51)),
 zg0 53 (.bin .add (.t 52) (zi0 1)),
 zg0 54 (.mov (zi0 0))] [1, 6, 53, 54] [1, 35])
 (.block 0 lp17_0))
 (.seq (.esc [35] (.reg false [zm0 72 6,
 zm0 2 72,
 zg0 3 (.mov zT0)] [2, 3] [35]))
 .ret))))))))),
 [.tmp 2, .tmp 3], false⟩
def ir30 : IFn :=
⟨(.seq (.reg false [zg0 2 (.al [zo0, zo0, zo0, zo0, zo0, zo0, zo0] true)] [0, 2] [2])
 (.seq (.reg false [zm0 3 0,
 zg0 4 (.call 81 [(.t 3)] false),
 zg0 5 (.call 87 [(.t 4), (zi0 0)] false),
 zg0 6 (.bld [zo0, zo0, zo0, zo0, zo0, zo0, zo0] [(0, 1, (.t 5))]),
 zn0 (.st (.t 2) (.t 6) 7)] [2] [2])
 .ret)),
 [.cell 2 7 true], false⟩
def ir31 : IFn :=
⟨(.seq (.reg false [zg0 3 (.bx (.t 1) 7 true),
 zg0 4 (.mov zF0)] [0, 3] [3])
 (.seq (.reg true [zm0 5 0,
 zg0 6 (.ldl 3 (.t 3) 7 true),
 zg0 7 (.call 38 [(.t 5), (.t 6)] false),
 zm0 8 7,
 zt0 9 8 (.off (.t 3) 0),
 zt0 10 8 (.ldl 3 (.t 9) 1 false),
 zt0 11 8 (.mov (.t 0)),
 zt0 12 8 (.nck (.t 11)),
 zt0 13 8 (.off (.t 12) 0),
 zt0 14 8 (.ld (.t 13) 1 false),
 zt0 15 8 (.nck (.t 14)),
 zt0 16 8 (.off (.t 15) 0),
 zt0 17 8 (.ld (.t 16) 1 false),
 zt0 18 8 (.call 82 [(.t 17)] false),
 zt0 19 8 (.bin .eql (.t 10) (.t 18)),
 zg0 20 (.pick (.t 8) (.t 19) zF0),
 zm0 21 20,
 zt0 22 21 (.off (.t 3) 3),
 zt0 23 21 (.ldl 3 (.t 22) 1 false),
 zt0 24 21 (.bin .eql (.t 23) (zi0 0)),
 zg0 25 (.pick (.t 21) (.t 24) zF0),
 zm0 26 25,
 zt0 27 26 (.off (.t 3) 2),
 zt0 28 26 (.ldl 3 (.t 27) 1 false),
 zt0 29 26 (.mov (.t 0)),
 zt0 30 26 (.nck (.t 29)),
 zt0 31 26 (.off (.t 30) 1),
 zt0 32 26 (.off (.t 31) 20),
 zt0 33 26 (.ld (.t 32) 1 false),
 zt0 34 26 (.len (.t 33)),
 zt0 35 26 (.bin .eql (.t 28) (.t 34)),
 zg0 36 (.pick (.t 26) (.t 35) zF0),
 zm0 37 36,
 zt0 38 37 (.off (.t 3) 4),
 zt0 39 37 (.ldl 3 (.t 38) 3 true),
 zt0 40 37 (.mov (.t 0)),
 zt0 41 37 (.nck (.t 40)),
 zt0 42 37 (.off (.t 41) 24),
 zt0 43 37 (.ld (.t 42) 3 true),
 zt0 44 37 (.eqa false [true, true, true] (.t 39) (.t 43)),
 zg0 45 (.pick (.t 37) (.t 44) zF0),
 zm0 4 45] [4] [])
 .ret)),
 [.tmp 4], false⟩
def lp32_0 : IC :=
 (.loop [0, 3, 4, 14, 15, 16] [3, 4] (.seq (.reg false [zg0 17 (.bin .lss (.t 16) (.t 15))] [0, 3, 4, 14, 15, 16, 17] [3, 4])
 (.seq (.cond (.t 17)
 .skip
 (.exit 0))
 (.seq (.block 1 (.seq (.reg false [zg0 18 (.ixs (.t 14) (.t 16) 1),
 zg0 19 (.ld (.t 18) 1 true),
 zg0 7 (.al [.p .nilf] true),
 zn0 (.st (.t 7) (.t 19) 1)] [0, 3, 4, 7, 14, 15, 16] [3, 4, 7])
 (.seq (.reg false [zg0 21 (.off (.t 7) 0),
 zg0 22 (.ld (.t 21) 1 false),
 zm0 23 0,
 zg0 24 (.ld (.t 3) 7 true),
 zg0 25 (.callv (.t 22) [(.t 23), (.t 24)] false),
 zm0 20 25,
 zg0 26 (.ext (.t 20) 0),
 zg0 27 (.ext (.t 20) 1),
 zg0 8 (.al [zo0, zo0, zo0, .nils, .nils, .nils] true),
 zn0 (.st (.t 8) (.t 26) 6),
 zm0 9 27] [0, 3, 4, 8, 9, 14, 15, 16] [3, 4, 8])
 (.seq (.reg false [zm0 28 9] [0, 3, 4, 8, 14, 15, 16, 28] [3, 4, 8])
 (.cond (.t 28)
 (.seq (.reg false [zg0 29 (.ld (.t 8) 6 true),
 zn0 (.st (.t 4) (.t 29) 6),
 zg0 5 (.mov zT0)] [4, 5] [4])
 .ret)
 .skip)))))
 (.reg false [zg0 30 (.bin .add (.t 16) (zi0 1)),
 zm0 16 30] [0, 3, 4, 14, 15, 16] [3, 4])))))
def ir32 : IFn :=
⟨(.seq (.reg false [zg0 3 (.bx (.t 1) 7 true),
 zg0 4 (.al [zo0, zo0, zo0, .nils, .nils, .nils] true),
 zg0 5 (.mov zF0)] [0, 3, 4] [3, 4])
 (.seq (.seq (.reg false [zg0 10 (.bld [.p .nilf] [(0, 1, (.c (.p (.fn 116))))]),
 zg0 11 (.bld [.p .nilf] [(0, 1, (.c (.p (.fn 117))))]),
 zg0 12 (.bld [.p .nilf] [(0, 1, (.c (.p (.fn 118))))]),
 zg0 13 (.bld [.p .nilf] [(0, 1, (.c (.p (.fn 119))))]),
 zg0 14 (.bsl 1 4 [.p .nilf] [(0, (.t 10)), (1, (.t 11)), (2, (.t 12)), (3, (.t 13))]),
 zg0 15 (.len (.t 14)),
 zg0 16 (.mov (zi0 0))] [0, 3, 4, 14, 15, 16] [3, 4])
 (.block 0 lp32_0))
 (.seq (.reg false [zg0 31 (.bld [zo0, zo0, zo0, .nils, .nils, .nils] []),
 zn0 (.st (.t 4) (.t 31) 6),
 zg0 5 (.mov zF0)] [4, 5] [4])
 .ret))),
 [.cell 4 6 true, .tmp 5], false⟩
def ir34 : IFn :=
⟨(.seq (.reg false [zg0 0 (.mov zF0)] [] [])
 (.seq (.reg false [zg0 5 (.bld [zo0, zo0, zo0, zo0, zo0, zo0, zo0, zo0, zo0, zo0, zo0, zo0, zo0, zo0, zo0, zo0, zo0, zo0, .p (.bool false)] [(0, 1, (zi0 1)), (1, 1, (zi0 1)), (3, 1, (zi0 9)), (4, 1, (zi0 9))]),
 zg0 6 (.bld [zo0, zo0, zo0, zo0, zo0, zo0, zo0] [(0, 1, (zi0 1)), (1, 1, (zi0 3))]),
 zg0 7 (.bld [zo0, zo0, zo0, zo0, zo0, zo0, zo0] [(0, 1, (zi0 1)), (1, 1, (zi0 3))]),
 zg0 8 (.bld [zo0, zo0, zo0, zo0, zo0, zo0, zo0] [(0, 1, (zi0 2))]),
 zg0 9 (.bld [zo0, zo0, zo0, zo0, zo0, zo0, zo0] [(0, 1, (zi0 1)), (1, 1, (zi0 30))]),
 zg0 10 (.bsl 7 4 [zo0, zo0, zo0, zo0, zo0, zo0, zo0] [(0, (.t 6)), (1, (.t 7)), (2, (.t 8)), (3, (.t 9))]),
 zg0 11 (.bld [zo0, zo0, zo0, zo0, zo0, zo0, zo0, zo0, zo0, zo0, zo0, zo0, zo0, zo0, zo0, zo0, zo0, zo0, .p (.bool false), .nils, .nils, .nils] [(0, 19, (.t 5)), (19, 1, (.t 10))]),
 zg0 12 (.callz 17 [(.t 11)]),
 zm0 4 12,
 zg0 13 (.ext (.t 4) 0),
 zg0 14 (.ext (.t 4) 1),
 zm0 1 13,
 zm0 2 14] [1, 2] [])
 (.seq (.reg false [zm0 15 1,
 zg0 16 (.call 30 [(.t 15)] false),
 zg0 3 (.al [zo0, zo0, zo0, zo0, zo0, zo0, zo0] true),
 zn0 (.st (.t 3) (.t 16) 7)] [1, 2, 3] [3])
 (.seq (.reg false [zm0 17 2,
 zm0 18 17,
 zt0 19 18 (.mov (.t 1)),
 zt0 20 18 (.ld (.t 3) 7 true),
 zt0 21 18 (.bld [zo0, zo0, zo0, .nils, .nils, .nils] [(0, 1, (zi0 1)), (2, 1, (zi0 2))]),
 zt0 22 18 (.call 37 [(.t 19), (.t 20), (.t 21)] false),
 zg0 23 (.pick (.t 18) (.t 22) zF0),
 zm0 24 23,
 zt0 25 24 (.mov (.t 1)),
 zt0 26 24 (.ld (.t 3) 7 true),
 zt0 27 24 (.bld [zo0, zo0, zo0, .nils, .nils, .nils] [(0, 1, (zi0 1)), (2, 1, (zi0 1))]),
 zt0 28 24 (.call 35 [(.t 25), (.t 26), (.t 27)] false),
 zt0 29 24 (.bin .eql (.t 28) (zi0 14)),
 zg0 30 (.pick (.t 24) (.t 29) zF0),
 zm0 31 30,
 zt0 32 31 (.mov (.t 1)),
 zt0 33 31 (.ld (.t 3) 7 true),
 zt0 34 31 (.bld [zo0, zo0, zo0, .nils, .nils, .nils] [(0, 1, (zi0 1)), (2, 1, (zi0 4))]),
 zt0 35 31 (.call 35 [(.t 32), (.t 33), (.t 34)] false),
 zt0 36 31 (.bin .eql (.t 35) (zi0 17)),
 zg0 37 (.pick (.t 31) (.t 36) zF0),
 zm0 38 37,
 zt0 39 38 (.mov (.t 1)),
 zt0 40 38 (.bld [zo0, zo0, zo0, zo0, zo0, zo0, zo0] [(0, 1, (zi0 3)), (1, 1, (zi0 1))]),
 zt0 41 38 (.bld [zo0, zo0, zo0, .nils, .nils, .nils] [(0, 1, (zi0 1)), (1, 1, (zi0 3)), (2, 1, (zi0 4))]),
 zt0 42 38 (.call 37 [(.t 39), (.t 40), (.t 41)] false),
 zg0 43 (.pick (.t 38) (.t 42) zF0),
 zm0 0 43] [0] [])
 .ret)))),
 [.tmp 0], false⟩
def lp35_0 : IC :=
 (.loop [0, 4, 5, 9, 47, 48, 49] [4, 5, 9] (.seq (.reg false [zg0 50 (.bin .lss (.t 49) (.t 48))] [0, 4, 5, 9, 47, 48, 49, 50] [4, 5, 9])
 (.seq (.cond (.t 50)
 .skip
 (.exit 0))
 (.seq (.block 1 (.seq (.reg false [zg0 51 (.ixs (.t 47) (.t 49) 2),
 zg0 52 (.ld (.t 51) 2 true),
 zg0 11 (.al [zo0, .p .nilf] true),
 zn0 (.st (.t 11) (.t 52) 2)] [0, 4, 5, 9, 11, 47, 48, 49] [4, 5, 9, 11])
 (.seq (.reg false [zg0 53 (.off (.t 11) 1),
 zg0 54 (.ld (.t 53) 1 false),
 zg0 55 (.ld (.t 9) 36 true),
 zg0 56 (.callv (.t 54) [(.t 55)] false)] [0, 4, 5, 9, 11, 47, 48, 49, 56] [4, 5, 9, 11])
 (.cond (.t 56)
 (.seq (.reg false [zg0 57 (.off (.t 11) 0),
 zg0 58 (.ld (.t 57) 1 false),
 zm0 6 58] [6] [])
 .ret)
 .skip))))
 (.reg false [zg0 59 (.bin .add (.t 49) (zi0 1)),
 zm0 49 59] [0, 4, 5, 9, 47, 48, 49] [4, 5, 9])))))
def ir35 : IFn :=
⟨(.seq (.reg false [zg0 4 (.bx (.t 1) 7 true),
 zg0 5 (.bx (.t 2) 6 true),
 zg0 6 (.mov (zi0 0))] [0, 4, 5] [4, 5])
 (.seq (.reg true [zg0 15 (.call 124 [] false),
 zg0 16 (.off (.t 5) 0),
 zg0 17 (.ldl 5 (.t 16) 1 false),
 zg0 18 (.mp (.lk none (.nils) true) [(.t 15), (.t 17)]),
 zm0 14 18,
 zg0 19 (.ext (.t 14) 0),
 zg0 20 (.ext (.t 14) 1),
 zm0 7 19,
 zm0 8 20] [0, 4, 5, 7, 8] [4, 5])
 (.seq (.seq (.reg false [zm0 21 8,
 zg0 22 (.un .not (.t 21)),
 zm0 23 22,
 zf0 24 23 (.mov (.t 0)),
 zf0 25 23 (.ld (.t 4) 7 true),
 zf0 26 23 (.call 38 [(.t 24), (.t 25)] false),
 zf0 27 23 (.un .not (.t 26)),
 zg0 28 (.pick (.t 23) zT0 (.t 27)),
 zm0 29 28,
 zf0 30 29 (.mov (.t 0)),
 zf0 31 29 (.ld (.t 4) 7 true),
 zf0 32 29 (.call 31 [(.t 30), (.t 31)] false),
 zg0 33 (.pick (.t 29) zT0 (.t 32)),
 zm0 34 33,
 zf0 35 34 (.off (.t 5) 1),
 zf0 36 34 (.ld (.t 35) 1 false),
 zf0 37 34 (.off (.t 4) 0),
 zf0 38 34 (.ld (.t 37) 1 false),
 zf0 39 34 (.bin .neq (.t 36) (.t 38)),
 zg0 40 (.pick (.t 34) zT0 (.t 39))] [0, 4, 5, 7, 40] [4, 5])
 (.cond (.t 40)
 (.seq (.reg false [zg0 6 (.mov (zi0 19))] [6] [])
 .ret)
 .skip))
 (.seq (.prep [9] (.reg true [zm0 41 0,
 zg0 42 (.ldl 4 (.t 4) 7 true),
 zg0 43 (.ldl 5 (.t 5) 6 true),
 zm0 44 0,
 zg0 45 (.call 100 [(.t 44)] false),
 zg0 46 (.bld [.p .nilp, zo0, zo0, zo0, zo0, zo0, zo0, zo0, zo0, zo0, zo0, .nils, .nils, .nils, zo0, zo0, zo0, zo0, zo0, zo0, zo0, zo0, zo0, zo0, zo0, zo0, zo0, zo0, zo0, zo0, zo0, zo0, .p (.bool false), .nils, .nils, .nils] [(0, 1, (.t 41)), (1, 7, (.t 42)), (8, 6, (.t 43)), (14, 22, (.t 45))]),
 zg0 9 (.alp [.p .nilp, zo0, zo0, zo0, zo0, zo0, zo0, zo0, zo0, zo0, zo0, .nils, .nils, .nils, zo0, zo0, zo0, zo0, zo0, zo0, zo0, zo0, zo0, zo0, zo0, zo0, zo0, zo0, zo0, zo0, zo0, zo0, .p (.bool false), .nils, .nils, .nils]),
 zn0 (.stl 9 (.t 9) (.t 46) 36)] [0, 4, 5, 7, 9] [4, 5, 9]))
 (.seq (.seq (.reg false [zm0 47 7,
 zg0 48 (.len (.t 47)),
 zg0 49 (.mov (zi0 0))] [0, 4, 5, 9, 47, 48, 49] [4, 5, 9])
 (.block 0 lp35_0))
 (.seq (.seq (.reg false [zg0 60 (.ld (.t 9) 36 true),
 zg0 61 (.call 125 [(.t 60)] false)] [0, 4, 5, 61] [4, 5])
 (.cond (.t 61)
 (.seq (.reg false [zm0 63 0,
 zg0 64 (.ld (.t 4) 7 true),
 zg0 65 (.call 32 [(.t 63), (.t 64)] false),
 zm0 62 65,
 zg0 66 (.ext (.t 62) 0),
 zg0 67 (.ext (.t 62) 1),
 zg0 12 (.al [zo0, zo0, zo0, .nils, .nils, .nils] true),
 zn0 (.st (.t 12) (.t 66) 6),
 zm0 13 67] [5, 12] [5, 12])
 (.seq (.reg false [zg0 68 (.ld (.t 5) 6 true),
 zg0 69 (.ld (.t 12) 6 true),
 zg0 70 (.call 126 [(.t 68), (.t 69)] false),
 zg0 71 (.un .not (.t 70))] [71] [])
 (.cond (.t 71)
 (.seq (.reg false [zg0 6 (.mov (zi0 17))] [6] [])
 .ret)
 .skip)))
 .skip))
 (.seq (.reg false [zg0 6 (.mov (zi0 0))] [6] [])
 .ret))))))),
 [.tmp 6], false⟩
def ir37 : IFn :=
⟨(.seq (.reg false [zg0 4 (.bx (.t 1) 7 true),
 zg0 5 (.bx (.t 2) 6 true),
 zg0 6 (.mov zF0)] [0, 4, 5] [4, 5])
 (.seq (.reg false [zm0 7 0,
 zg0 8 (.ld (.t 4) 7 true),
 zg0 9 (.ld (.t 5) 6 true),
 zg0 10 (.call 35 [(.t 7), (.t 8), (.t 9)] false),
 zg0 11 (.bin .eql (.t 10) (zi0 0)),
 zm0 6 11] [6] [])
 .ret)),
 [.tmp 6], false⟩
def ir38 : IFn :=
⟨(.seq (.reg false [zg0 3 (.bx (.t 1) 7 true),
 zg0 4 (.mov zF0)] [0, 3] [3])
 (.seq (.seq (.reg true [zm0 6 0,
 zg0 7 (.eqn .ptr false (.t 6)),
 zm0 8 7,
 zf0 9 8 (.off (.t 3) 0),
 zf0 10 8 (.ldl 3 (.t 9) 1 false),
 zf0 11 8 (.bin .lss (.t 10) (zi0 0)),
 zg0 12 (.pick (.t 8) zT0 (.t 11)),
 zm0 13 12,
 zf0 14 13 (.off (.t 3) 0),
 zf0 15 13 (.ldl 3 (.t 14) 1 false),
 zf0 16 13 (.mov (.t 0)),
 zf0 17 13 (.nck (.t 16)),
 zf0 18 13 (.off (.t 17) 0),
 zf0 19 13 (.ld (.t 18) 1 false),
 zf0 20 13 (.nck (.t 19)),
 zf0 21 13 (.off (.t 20) 0),
 zf0 22 13 (.ld (.t 21) 1 false),
 zf0 23 13 (.call 82 [(.t 22)] false),
 zf0 24 13 (.bin .gtr (.t 15) (.t 23)),
 zg0 25 (.pick (.t 13) zT0 (.t 24)),
 zm0 26 25,
 zf0 27 26 (.mov (.t 0)),
 zf0 28 26 (.nck (.t 27)),
 zf0 29 26 (.off (.t 28) 0),
 zf0 30 26 (.ld (.t 29) 1 false),
 zf0 31 26 (.nck (.t 30)),
 zf0 32 26 (.off (.t 31) 0),
 zf0 33 26 (.ld (.t 32) 1 false),
 zf0 34 26 (.off (.t 3) 0),
 zf0 35 26 (.ldl 3 (.t 34) 1 false),
 zf0 36 26 (.call 87 [(.t 33), (.t 35)] false),
 zf0 37 26 (.off (.t 3) 0),
 zf0 38 26 (.ldl 3 (.t 37) 1 false),
 zf0 39 26 (.bin .neq (.t 36) (.t 38)),
 zg0 40 (.pick (.t 26) zT0 (.t 39)),
 zm0 41 40,
 zf0 42 41 (.off (.t 3) 1),
 zf0 43 41 (.ldl 3 (.t 42) 1 false),
 zf0 44 41 (.bin .lss (.t 43) (zi0 0)),
 zg0 45 (.pick (.t 41) zT0 (.t 44)),
 zm0 46 45,
 zf0 47 46 (.off (.t 3) 1),
 zf0 48 46 (.ldl 3 (.t 47) 1 false),
 zf0 49 46 (.mov (.t 0)),
 zf0 50 46 (.nck (.t 49)),
 zf0 51 46 (.off (.t 50) 1),
 zf0 52 46 (.off (.t 51) 0),
 zf0 53 46 (.off (.t 52) 0),
 zf0 54 46 (.ld (.t 53) 1 false),
 zf0 55 46 (.bin .gtr (.t 48) (.t 54)),
 zg0 56 (.pick (.t 46) zT0 (.t 55))] [0, 3, 56] [3])
 (.cond (.t 56)
 (.seq (.reg false [zg0 4 (.mov zF0)] [4] [])
 .ret)
 .skip))
 (.seq (.reg false [zg0 57 (.off (.t 3) 4),
 zg0 58 (.ld (.t 57) 3 true),
 zg0 5 (.al [zo0, zo0, zo0] true),
 zn0 (.st (.t 5) (.t 58) 3)] [0, 3, 5] [3, 5])
 (.seq (.reg true [zm0 59 0,
 zg0 60 (.ldl 3 (.t 3) 7 true),
 zg0 61 (.call 132 [(.t 59), (.t 60)] false),
 zm0 62 61,
 zt0 63 62 (.bld [zo0, zo0, zo0] []),
 zt0 64 62 (.ldl 5 (.t 5) 3 true),
 zt0 65 62 (.call 133 [(.t 63), (.t 64)] false),
 zg0 66 (.pick (.t 62) (.t 65) zF0),
 zm0 67 66,
 zt0 68 67 (.ldl 5 (.t 5) 3 true),
 zt0 69 67 (.mov (.t 0)),
 zt0 70 67 (.nck (.t 69)),
 zt0 71 67 (.off (.t 70) 0),
 zt0 72 67 (.ld (.t 71) 1 false),
 zt0 73 67 (.nck (.t 72)),
 zt0 74 67 (.off (.t 73) 2),
 zt0 75 67 (.ld (.t 74) 1 false),
 zt0 76 67 (.off (.t 3) 0),
 zt0 77 67 (.ldl 3 (.t 76) 1 false),
 zt0 78 67 (.call 77 [(.t 75), (.t 77)] false),
 zt0 79 67 (.call 133 [(.t 68), (.t 78)] false),
 zg0 80 (.pick (.t 67) (.t 79) zF0),
 zm0 4 80] [4] [])
 .ret)))),
 [.tmp 4], false⟩
def ir39 : IFn :=
⟨(.seq (.reg false [zg0 4 (.bx (.t 1) 7 true),
 zg0 5 (.bx (.t 2) 6 true),
 zg0 6 (.al [zo0, zo0, zo0, .p (.bool false), .p (.bool false), zo0, zo0, zo0, zo0, zo0] true)] [0, 4, 5, 6] [4, 5, 6])
 (.seq (.reg false [zg0 7 (.al [zo0, zo0, zo0, .p (.bool false), .p (.bool false), zo0, zo0, zo0, zo0, zo0] true)] [0, 4, 5, 6, 7] [4, 5, 6, 7])
 (.seq (.seq (.reg false [zm0 10 0,
 zg0 11 (.ld (.t 4) 7 true),
 zg0 12 (.call 38 [(.t 10), (.t 11)] false),
 zg0 13 (.un .not (.t 12))] [0, 4, 5, 6, 7, 13] [4, 5, 6, 7])
 (.cond (.t 13)
 (.seq (.reg false [zg0 14 (.ld (.t 7) 10 true),
 zn0 (.st (.t 6) (.t 14) 10)] [6] [6])
 .ret)
 .skip))
 (.seq (.reg false [zm0 15 0,
 zg0 16 (.call 100 [(.t 15)] false),
 zg0 8 (.al [zo0, zo0, zo0, zo0, zo0, zo0, zo0, zo0, zo0, zo0, zo0, zo0, zo0, zo0, zo0, zo0, zo0, zo0, .p (.bool false), .nils, .nils, .nils] true),
 zn0 (.st (.t 8) (.t 16) 22)] [0, 4, 5, 6, 7, 8] [4, 5, 6, 7, 8])
 (.seq (.reg false [zg0 17 (.off (.t 8) 20),
 zg0 18 (.ld (.t 17) 1 false),
 zg0 19 (.off (.t 5) 3),
 zg0 20 (.ld (.t 19) 1 false),
 zg0 21 (.off (.t 8) 0),
 zg0 22 (.off (.t 21) 6),
 zg0 23 (.ld (.t 22) 1 false),
 zg0 24 (.call 134 [(.t 18), (.t 20), (.t 23)] false),
 zg0 25 (.off (.t 7) 0),
 zn0 (.st (.t 25) (.t 24) 1)] [0, 4, 5, 6, 7, 8] [4, 5, 6, 7, 8])
 (.seq (.seq (.reg false [zg0 26 (.off (.t 5) 0),
 zg0 27 (.ld (.t 26) 1 false)] [0, 4, 5, 6, 7, 8, 27] [4, 5, 6, 7, 8])
 (.block 0 (.seq (.reg false [zg0 29 (.bin .eql (.t 27) (zi0 1)),
 zm0 28 29] [0, 4, 5, 6, 7, 8, 27, 28] [4, 5, 6, 7, 8])
 (.cond (.t 28)
 (.reg false [zg0 30 (.off (.t 8) 0),
 zg0 31 (.ld (.t 30) 19 true),
 zg0 32 (.off (.t 8) 21),
 zg0 33 (.ld (.t 32) 1 false),
 zg0 34 (.off (.t 5) 4),
 zg0 35 (.ld (.t 34) 1 false),
 zg0 36 (.off (.t 5) 5),
 zg0 37 (.ld (.t 36) 1 false),
 zg0 38 (.bld [.nils, .nils] [(0, 1, (.t 35)), (1, 1, (.t 37))]),
 zg0 39 (.call 135 [(.t 31), (.t 33), (.t 38)] false),
 zg0 40 (.off (.t 7) 1),
 zn0 (.st (.t 40) (.t 39) 1)] [0, 4, 5, 6, 7, 8] [4, 5, 6, 7, 8])
 (.seq (.reg false [zg0 42 (.bin .eql (.t 27) (zi0 2)),
 zm0 41 42] [0, 4, 5, 6, 7, 8, 41] [4, 5, 6, 7, 8])
 (.cond (.t 41)
 (.reg false [zg0 43 (.off (.t 8) 0),
 zg0 44 (.ld (.t 43) 19 true),
 zg0 45 (.off (.t 8) 21),
 zg0 46 (.ld (.t 45) 1 false),
 zg0 47 (.off (.t 5) 4),
 zg0 48 (.ld (.t 47) 1 false),
 zg0 49 (.call 136 [(.t 44), (.t 46), (.t 48)] false),
 zg0 50 (.off (.t 7) 1),
 zn0 (.st (.t 50) (.t 49) 1)] [0, 4, 5, 6, 7, 8] [4, 5, 6, 7, 8])
 .skip))))))
 (.seq (.reg true [zm0 51 0,
 zg0 52 (.ldl 4 (.t 4) 7 true),
 zg0 53 (.call 101 [(.t 51), (.t 52)] false),
 zg0 54 (.off (.t 7) 0),
 zg0 55 (.ldl 7 (.t 54) 1 false),
 zg0 56 (.bin .sub (.t 53) (.t 55)),
 zg0 57 (.off (.t 7) 1),
 zg0 58 (.ldl 7 (.t 57) 1 false),
 zg0 59 (.bin .sub (.t 56) (.t 58)),
 zg0 60 (.off (.t 7) 2),
 zn0 (.stl 7 (.t 60) (.t 59) 1)] [0, 4, 5, 6, 7, 8] [4, 5, 6, 7, 8])
 (.seq (.reg false [zm0 61 0,
 zg0 62 (.ld (.t 5) 6 true),
 zg0 63 (.call 137 [(.t 61), (.t 62)] false),
 zg0 64 (.off (.t 7) 3),
 zn0 (.st (.t 64) (.t 63) 1)] [0, 4, 5, 6, 7, 8] [4, 5, 6, 7, 8])
 (.seq (.reg false [zg0 65 (.off (.t 5) 3),
 zg0 66 (.ld (.t 65) 1 false),
 zg0 67 (.len (.t 66)),
 zg0 68 (.bin .gtr (.t 67) (zi0 0)),
 zm0 69 68,
 zt0 70 69 (.off (.t 7) 0),
 zt0 71 69 (.ld (.t 70) 1 false),
 zt0 72 69 (.off (.t 8) 0),
 zt0 73 69 (.off (.t 72) 8),
 zt0 74 69 (.ld (.t 73) 1 false),
 zt0 75 69 (.bin .gtr (.t 71) (.t 74)),
 zg0 76 (.pick (.t 69) (.t 75) zF0),
 zm0 9 76] [0, 4, 5, 6, 7, 9] [4, 5, 6, 7])
 (.seq (.seq (.reg false [zg0 77 (.off (.t 5) 0),
 zg0 78 (.ld (.t 77) 1 false),
 zg0 79 (.bin .neq (.t 78) (zi0 1))] [0, 4, 5, 6, 7, 9, 79] [4, 5, 6, 7])
 (.cond (.t 79)
 (.seq (.reg false [zm0 80 9,
 zm0 81 80,
 zf0 82 81 (.off (.t 7) 2),
 zf0 83 81 (.ld (.t 82) 1 false),
 zf0 84 81 (.bin .lss (.t 83) (zi0 0)),
 zg0 85 (.pick (.t 81) zT0 (.t 84)),
 zg0 86 (.off (.t 7) 4),
 zn0 (.st (.t 86) (.t 85) 1)] [6, 7] [6, 7])
 (.seq (.reg false [zg0 87 (.ld (.t 7) 10 true),
 zn0 (.st (.t 6) (.t 87) 10)] [6] [6])
 .ret))
 .skip))
 (.seq (.reg true [zm0 88 0,
 zg0 89 (.call 105 [(.t 88)] false),
 zg0 90 (.off (.t 4) 0),
 zg0 91 (.ldl 4 (.t 90) 1 false),
 zg0 92 (.off (.t 5) 2),
 zg0 93 (.ldl 5 (.t 92) 1 false),
 zg0 94 (.call 139 [(.t 89), (.t 91), (.t 93)] false),
 zg0 95 (.off (.t 7) 2),
 zg0 96 (.ldl 7 (.t 95) 1 false),
 zg0 97 (.off (.t 7) 3),
 zg0 98 (.ldl 7 (.t 97) 1 false),
 zg0 99 (.call 138 [(.t 94), (.t 96), (.t 98)] false),
 zg0 100 (.off (.t 7) 5),
 zn0 (.stl 7 (.t 100) (.t 99) 5)] [6, 7, 9] [6, 7])
 (.seq (.reg false [zm0 101 9,
 zm0 102 101,
 zf0 103 102 (.off (.t 7) 5),
 zf0 104 102 (.off (.t 103) 0),
 zf0 105 102 (.ld (.t 104) 1 false),
 zf0 106 102 (.bin .eql (.t 105) (zi0 3)),
 zg0 107 (.pick (.t 102) zT0 (.t 106)),
 zg0 108 (.off (.t 7) 4),
 zn0 (.st (.t 108) (.t 107) 1)] [6, 7] [6, 7])
 (.seq (.reg false [zg0 109 (.ld (.t 7) 10 true),
 zn0 (.st (.t 6) (.t 109) 10)] [6] [6])
 .ret))))))))))))),
 [.cell 6 10 true], false⟩
def ir71 : IFn :=
⟨(.seq (.reg false [zg0 1 (.bx (.t 0) 22 true),
 zg0 2 (.mov zF0)] [1] [1])
 (.seq (.reg false [zg0 6 (.ld (.t 1) 22 true),
 zg0 7 (.call 188 [(.t 6)] false),
 zm0 5 7,
 zg0 8 (.ext (.t 5) 0),
 zg0 9 (.ext (.t 5) 1),
 zm0 3 8,
 zm0 4 9] [3] [])
 (.seq (.reg false [zm0 10 3,
 zg0 11 (.bin .eql (.t 10) (zi0 0)),
 zm0 2 11] [2] [])
 .ret))),
 [.tmp 2], false⟩
def lp72_0 : IC :=
 (.loop [2, 3, 16, 17, 18] [2, 3] (.seq (.reg false [zg0 19 (.bin .lss (.t 18) (.t 17))] [2, 3, 16, 17, 18, 19] [2, 3])
 (.seq (.cond (.t 19)
 .skip
 (.exit 0))
 (.seq (.block 1 (.seq (.reg false [zg0 20 (.ixs (.t 16) (.t 18) 2),
 zg0 21 (.ld (.t 20) 2 true),
 zg0 5 (.al [.nils, .nils] true),
 zn0 (.st (.t 5) (.t 21) 2)] [2, 3, 5, 16, 17, 18] [2, 3, 5])
 (.reg true [zg0 22 (.off (.t 3) 20),
 zg0 23 (.ldl 3 (.t 22) 1 false),
 zg0 24 (.off (.t 5) 0),
 zg0 25 (.ldl 5 (.t 24) 1 false),
 zg0 26 (.callz 191 [(.t 25)]),
 zg0 27 (.off (.t 5) 1),
 zg0 28 (.ldl 5 (.t 27) 1 false),
 zg0 29 (.callz 192 [(.t 28)]),
 zg0 30 (.bld [.nils, .nils] [(0, 1, (.t 26)), (1, 1, (.t 29))]),
 zg0 31 (.bsl 2 1 [.nils, .nils] [(0, (.t 30))]),
 zg0 32 (.app (.t 23) (.t 31) 2),
 zg0 33 (.off (.t 3) 20),
 zn0 (.stl 3 (.t 33) (.t 32) 1)] [2, 3, 16, 17, 18] [2, 3])))
 (.reg false [zg0 34 (.bin .add (.t 18) (zi0 1)),
 zm0 18 34] [2, 3, 16, 17, 18] [2, 3])))))
def ir72 : IFn :=
⟨(.seq (.reg false [zg0 1 (.bx (.t 0) 22 true),
 zg0 2 (.al [zo0, zo0, zo0, zo0, zo0, zo0, zo0, zo0, zo0, zo0, zo0, zo0, zo0, zo0, zo0, zo0, zo0, zo0, .p (.bool false), .nils, .nils, .nils] true)] [1, 2] [1, 2])
 (.seq (.prep [3] (.reg true [zg0 6 (.off (.t 1) 0),
 zg0 7 (.ldl 1 (.t 6) 19 true),
 zg0 8 (.off (.t 1) 19),
 zg0 9 (.ldl 1 (.t 8) 1 false),
 zg0 10 (.callz 189 [(.t 9)]),
 zg0 11 (.off (.t 1) 21),
 zg0 12 (.ldl 1 (.t 11) 1 false),
 zg0 13 (.callz 190 [(.t 12)]),
 zg0 14 (.bld [zo0, zo0, zo0, zo0, zo0, zo0, zo0, zo0, zo0, zo0, zo0, zo0, zo0, zo0, zo0, zo0, zo0, zo0, .p (.bool false), .nils, .nils, .nils] [(0, 19, (.t 7)), (19, 1, (.t 10)), (21, 1, (.t 13))]),
 zg0 3 (.alp [zo0, zo0, zo0, zo0, zo0, zo0, zo0, zo0, zo0, zo0, zo0, zo0, zo0, zo0, zo0, zo0, zo0, zo0, .p (.bool false), .nils, .nils, .nils]),
 zn0 (.stl 3 (.t 3) (.t 14) 22)] [1, 2, 3] [1, 2, 3]))
 (.seq (.seq (.reg false [zg0 15 (.off (.t 1) 20),
 zg0 16 (.ld (.t 15) 1 false),
 zg0 17 (.len (.t 16)),
 zg0 18 (.mov (zi0 0))] [2, 3, 16, 17, 18] [2, 3])
 (.block 0 lp72_0))
 (.seq (.reg false [zg0 35 (.ld (.t 3) 22 true),
 zn0 (.st (.t 2) (.t 35) 22)] [2] [2])
 .ret)))),
 [.cell 2 22 true], false⟩
def lp73_0 : IC :=
 (.loop [2, 3, 4, 44, 45] [2, 3] (.seq (.reg false [zg0 46 (.bin .lss (.t 45) (.t 44))] [2, 3, 4, 44, 45, 46] [2, 3])
 (.seq (.cond (.t 46)
 .skip
 (.exit 0))
 (.seq (.block 1 (.seq (.reg false [zm0 47 45,
 zm0 5 47] [2, 3, 4, 5, 44, 45] [2, 3])
 (.reg true [zg0 48 (.ldl 3 (.t 3) 1 true),
 zg0 49 (.off (.t 4) 21),
 zg0 50 (.ld (.t 49) 1 false),
 zm0 51 5,
 zg0 52 (.ixs (.t 50) (.t 51) 3),
 zg0 53 (.off (.t 52) 1),
 zg0 54 (.bsl 1 1 [.p .nilp] [(0, (.t 53))]),
 zg0 55 (.call 195 [(.t 48), (.c (.p (.fn 197))), (.t 54)] false)] [2, 3, 4, 44, 45] [2, 3])))
 (.reg false [zg0 56 (.bin .add (.t 45) (zi0 1)),
 zm0 45 56] [2, 3, 4, 44, 45] [2, 3])))))
def ir73 : IFn :=
⟨(.seq (.reg false [zg0 1 (.bx (.t 0) 22 true),
 zg0 2 (.al [zo0, zo0, zo0, zo0, zo0, zo0, zo0, zo0, zo0, zo0, zo0, zo0, zo0, zo0, zo0, zo0, zo0, zo0, .p (.bool false), .nils, .nils, .nils] true)] [1, 2] [1, 2])
 (.seq (.reg false [zg0 6 (.off (.t 1) 0),
 zg0 7 (.off (.t 6) 5),
 zg0 8 (.ld (.t 7) 1 false),
 zg0 9 (.bld [zo0] [(0, 1, (.t 8))]),
 zg0 3 (.al [zo0] true),
 zn0 (.st (.t 3) (.t 9) 1)] [1, 2, 3] [1, 2, 3])
 (.seq (.seq (.reg false [zg0 10 (.off (.t 3) 0),
 zg0 11 (.ld (.t 10) 1 false),
 zg0 12 (.bin .lss (.t 11) (zi0 1))] [1, 2, 3, 12] [1, 2, 3])
 (.cond (.t 12)
 (.seq (.reg false [zg0 13 (.ld (.t 1) 22 true),
 zn0 (.st (.t 2) (.t 13) 22)] [2] [2])
 .ret)
 .skip))
 (.seq (.prep [4] (.reg true [zg0 14 (.off (.t 1) 0),
 zg0 15 (.ldl 1 (.t 14) 19 true),
 zg0 16 (.ldl 3 (.t 3) 1 true),
 zg0 17 (.off (.t 1) 19),
 zg0 18 (.ldl 1 (.t 17) 1 false),
 zg0 19 (.call 193 [(.t 16), (.t 18)] false),
 zg0 20 (.ldl 3 (.t 3) 1 true),
 zg0 21 (.off (.t 1) 20),
 zg0 22 (.ldl 1 (.t 21) 1 false),
 zg0 23 (.call 194 [(.t 20), (.t 22)] false),
 zg0 24 (.off (.t 1) 21),
 zg0 25 (.ldl 1 (.t 24) 1 false),
 zg0 26 (.call 190 [(.t 25)] false),
 zg0 27 (.bld [zo0, zo0, zo0, zo0, zo0, zo0, zo0, zo0, zo0, zo0, zo0, zo0, zo0, zo0, zo0, zo0, zo0, zo0, .p (.bool false), .nils, .nils, .nils] [(0, 19, (.t 15)), (19, 1, (.t 19)), (20, 1, (.t 23)), (21, 1, (.t 26))]),
 zg0 4 (.alp [zo0, zo0, zo0, zo0, zo0, zo0, zo0, zo0, zo0, zo0, zo0, zo0, zo0, zo0, zo0, zo0, zo0, zo0, .p (.bool false), .nils, .nils, .nils]),
 zn0 (.stl 4 (.t 4) (.t 27) 22)] [2, 3, 4] [2, 3, 4]))
 (.esc [4] (.seq (.reg false [zg0 28 (.ld (.t 3) 1 true),
 zg0 29 (.off (.t 4) 0),
 zg0 30 (.off (.t 29) 3),
 zg0 31 (.off (.t 4) 0),
 zg0 32 (.off (.t 31) 4),
 zg0 33 (.bsl 1 2 [.p .nilp] [(0, (.t 30)), (1, (.t 32))]),
 zg0 34 (.call 195 [(.t 28), (.c (.p (.fn 196))), (.t 33)] false)] [2, 3, 4] [2, 3])
 (.seq (.reg false [zg0 35 (.ld (.t 3) 1 true),
 zg0 36 (.off (.t 4) 0),
 zg0 37 (.off (.t 36) 6),
 zg0 38 (.off (.t 4) 0),
 zg0 39 (.off (.t 38) 7),
 zg0 40 (.bsl 1 2 [.p .nilp] [(0, (.t 37)), (1, (.t 39))]),
 zg0 41 (.call 195 [(.t 35), (.c (.p (.fn 197))), (.t 40)] false)] [2, 3, 4] [2, 3])
 (.seq (.seq (.reg false [zg0 42 (.off (.t 4) 21),
 zg0 43 (.ld (.t 42) 1 false),
 zg0 44 (.len (.t 43)),
 zg0 45 (.mov (zi0 0))] [2, 3, 4, 44, 45] [2, 3])
 (.block 0 lp73_0))
 (.seq (.reg false [zg0 57 (.ld (.t 4) 22 true),
 zn0 (.st (.t 2) (.t 57) 22)] [2] [2])
 .ret))))))))),
 [.cell 2 22 true], false⟩
def lp74_0 : IC :=
 (.loop [0, 4, 23, 24] [21] (.seq (.reg false [zg0 25 (.bin .lss (.t 24) (.t 23))] [0, 4, 23, 24, 25] [21])
 (.seq (.cond (.t 25)
 .skip
 (.exit 0))
 (.seq (.block 1 (.seq (.reg false [zm0 26 24,
 zm0 5 26] [0, 4, 5, 23, 24] [21])
 (.seq (.reg false [zm0 27 0,
 zm0 28 5,
 zg0 29 (.ixs (.t 27) (.t 28) 7),
 zg0 30 (.ld (.t 29) 7 true),
 zg0 31 (.call 198 [(.t 30)] false),
 zg0 6 (.al [zo0, zo0, zo0, zo0, zo0, zo0] true),
 zn0 (.st (.t 6) (.t 31) 6)] [0, 4, 5, 6, 23, 24] [6, 21])
 (.seq (.seq (.reg false [zg0 32 (.ld (.t 6) 6 true),
 zg0 33 (.call 199 [(.t 32)] false),
 zg0 34 (.un .not (.t 33))] [0, 4, 5, 6, 23, 24, 34] [6, 21])
 (.cond (.t 34)
 (.seq (.reg false [zg0 2 (.mov (.c (.p .nilp))),
 zg0 3 (.mov zF0)] [2, 3] [21])
 .ret)
 .skip))
 (.seq (.reg true [zm0 36 4,
 zg0 37 (.nck (.t 36)),
 zg0 38 (.off (.t 37) 1),
 zg0 39 (.ldl 21 (.t 38) 1 false),
 zm0 40 5,
 zg0 41 (.bin .add (.t 40) (zi0 1)),
 zm0 42 4,
 zg0 43 (.nck (.t 42)),
 zg0 44 (.off (.t 43) 1),
 zg0 45 (.ldl 21 (.t 44) 1 false),
 zm0 46 5,
 zg0 47 (.ixs (.t 45) (.t 46) 6),
 zg0 48 (.ld (.t 47) 6 true),
 zg0 49 (.ldl 6 (.t 6) 6 true),
 zg0 50 (.call 200 [(.t 48), (.t 49)] false),
 zm0 35 50,
 zg0 51 (.ext (.t 35) 0),
 zg0 52 (.ext (.t 35) 1),
 zg0 53 (.ixs (.t 39) (.t 41) 6),
 zn0 (.st (.t 53) (.t 51) 6)] [0, 4, 5, 23, 24] [21])
 (.seq (.reg true [zm0 54 4,
 zg0 55 (.nck (.t 54)),
 zg0 56 (.off (.t 55) 2),
 zg0 57 (.ldl 21 (.t 56) 1 false),
 zm0 58 5,
 zg0 59 (.bin .add (.t 58) (zi0 1)),
 zm0 60 4,
 zg0 61 (.nck (.t 60)),
 zg0 62 (.off (.t 61) 2),
 zg0 63 (.ldl 21 (.t 62) 1 false),
 zm0 64 5,
 zg0 65 (.ixs (.t 63) (.t 64) 1),
 zg0 66 (.ld (.t 65) 1 false),
 zg0 67 (.ixs (.t 57) (.t 59) 1),
 zn0 (.st (.t 67) (.t 66) 1)] [0, 4, 5, 23, 24] [21])
 (.seq (.reg false [zm0 68 0,
 zm0 69 5,
 zg0 70 (.ixs (.t 68) (.t 69) 7),
 zg0 71 (.off (.t 70) 0),
 zg0 72 (.ld (.t 71) 1 false),
 zg0 73 (.bin .eql (.t 72) (zi0 1))] [0, 4, 5, 23, 24, 73] [21])
 (.cond (.t 73)
 (.reg true [zm0 74 4,
 zg0 75 (.nck (.t 74)),
 zg0 76 (.off (.t 75) 2),
 zg0 77 (.ldl 21 (.t 76) 1 false),
 zm0 78 5,
 zg0 79 (.bin .add (.t 78) (zi0 1)),
 zg0 80 (.ixs (.t 77) (.t 79) 1),
 zg0 81 (.ld (.t 80) 1 false),
 zm0 82 0,
 zm0 83 5,
 zg0 84 (.ixs (.t 82) (.t 83) 7),
 zg0 85 (.off (.t 84) 1),
 zg0 86 (.ld (.t 85) 1 false),
 zg0 87 (.bin .add (.t 81) (.t 86)),
 zg0 88 (.ixs (.t 77) (.t 79) 1),
 zn0 (.st (.t 88) (.t 87) 1)] [0, 4, 23, 24] [21])
 .skip))))))))
 (.reg false [zg0 89 (.bin .add (.t 24) (zi0 1)),
 zm0 24 89] [0, 4, 23, 24] [21])))))
def ir74 : IFn :=
⟨(.seq (.reg false [zg0 2 (.mov (.c (.p .nilp))),
 zg0 3 (.mov zF0)] [0] [])
 (.seq (.seq (.reg false [zm0 7 0,
 zg0 8 (.len (.t 7)),
 zg0 9 (.bin .gtr (.t 8) (zi0 4096))] [0, 9] [])
 (.cond (.t 9)
 (.seq (.reg false [zg0 2 (.mov (.c (.p .nilp))),
 zg0 3 (.mov zF0)] [2, 3] [21])
 .ret)
 .skip))
 (.seq (.rsv [6, 1] (.prep [21] (.reg true [zm0 10 0,
 zg0 11 (.callz 189 [(.t 10)]),
 zm0 12 0,
 zg0 13 (.len (.t 12)),
 zg0 14 (.bin .add (.t 13) (zi0 1)),
 zg0 15 (.mkh 2 6 [zo0, zo0, zo0, zo0, zo0, zo0] (.t 14)),
 zm0 16 0,
 zg0 17 (.len (.t 16)),
 zg0 18 (.bin .add (.t 17) (zi0 1)),
 zg0 19 (.mkh 1 1 [zo0] (.t 18)),
 zg0 20 (.bld [.nils, .nils, .nils] [(0, 1, (.t 11)), (1, 1, (.t 15)), (2, 1, (.t 19))]),
 zg0 21 (.bxp (.t 20) 3),
 zm0 4 21] [0, 4] [21])))
 (.seq (.seq (.reg false [zm0 22 0,
 zg0 23 (.len (.t 22)),
 zg0 24 (.mov (zi0 0))] [0, 4, 23, 24] [21])
 (.block 0 lp74_0))
 (.seq (.esc [21] (.reg false [zm0 90 4,
 zm0 2 90,
 zg0 3 (.mov zT0)] [2, 3] [21]))
 .ret))))),
 [.tmp 2, .tmp 3], false⟩
def ir75 : IFn :=
⟨(.seq (.reg false [zg0 2 (.mov (.c (.p .nilp)))] [0] [])
 (.seq (.reg false [zm0 3 0,
 zg0 4 (.callz 189 [(.t 3)]),
 zg0 5 (.bld [.nils] [(0, 1, (.t 4))]),
 zg0 6 (.bx (.t 5) 1 false),
 zm0 2 6] [2] [])
 .ret)),
 [.tmp 2], false⟩
def lp76_0 : IC :=
 (.loop [1, 5, 22, 23, 24] [21] (.seq (.reg false [zg0 25 (.bin .lss (.t 24) (.t 23))] [1, 5, 22, 23, 24, 25] [21])
 (.seq (.cond (.t 25)
 .skip
 (.exit 0))
 (.seq (.block 1 (.seq (.reg false [zm0 26 24,
 zg0 27 (.ixs (.t 22) (.t 24) 7),
 zg0 28 (.ld (.t 27) 7 true),
 zg0 7 (.al [zo0, zo0, zo0, zo0, zo0, zo0, zo0] true),
 zm0 6 26,
 zn0 (.st (.t 7) (.t 28) 7)] [1, 5, 6, 7, 22, 23, 24] [7, 21])
 (.seq (.prep [9, 10] (.reg true [zm0 29 5,
 zg0 30 (.nck (.t 29)),
 zg0 31 (.off (.t 30) 1),
 zg0 32 (.ldl 21 (.t 31) 1 false),
 zm0 33 6,
 zg0 34 (.ixs (.t 32) (.t 33) 1),
 zg0 35 (.ldh (.t 34) 1 false),
 zm0 36 5,
 zg0 37 (.nck (.t 36)),
 zg0 38 (.off (.t 37) 2),
 zg0 39 (.ldl 21 (.t 38) 1 false),
 zm0 40 6,
 zg0 41 (.ixs (.t 39) (.t 40) 3),
 zg0 42 (.ldh (.t 41) 3 true),
 zm0 43 5,
 zg0 44 (.nck (.t 43)),
 zg0 45 (.off (.t 44) 3),
 zg0 46 (.ldl 21 (.t 45) 1 false),
 zm0 47 6,
 zg0 48 (.ixs (.t 46) (.t 47) 3),
 zg0 49 (.ldh (.t 48) 3 true),
 zg0 9 (.alp [zo0, zo0, zo0]),
 zg0 10 (.alp [zo0, zo0, zo0]),
 zm0 8 35,
 zn0 (.stl 9 (.t 9) (.t 42) 3),
 zn0 (.stl 10 (.t 10) (.t 49) 3)] [1, 5, 7, 8, 9, 10, 22, 23, 24] [7, 9, 10, 21]))
 (.seq (.seq (.reg false [zg0 50 (.off (.t 7) 0),
 zg0 51 (.ld (.t 50) 1 false)] [1, 5, 7, 8, 9, 10, 22, 23, 24, 51] [7, 9, 10, 21])
 (.block 2 (.seq (.reg false [zg0 53 (.bin .eql (.t 51) (zi0 5)),
 zm0 52 53] [1, 5, 7, 8, 9, 10, 22, 23, 24, 51, 52] [7, 9, 10, 21])
 (.cond (.t 52)
 (.reg false [zm0 54 8,
 zg0 55 (.bin .add (.t 54) (zi0 1)),
 zm0 8 55] [1, 5, 8, 9, 10, 22, 23, 24] [9, 10, 21])
 (.seq (.reg false [zg0 57 (.bin .eql (.t 51) (zi0 6)),
 zm0 56 57] [1, 5, 7, 8, 9, 10, 22, 23, 24, 51, 56] [7, 9, 10, 21])
 (.cond (.t 56)
 (.seq (.reg false [zm0 59 1,
 zg0 60 (.off (.t 7) 6),
 zg0 61 (.ld (.t 60) 1 false),
 zg0 62 (.call 201 [(.t 59), (.t 61)] false),
 zm0 58 62,
 zg0 63 (.ext (.t 58) 0),
 zg0 64 (.ext (.t 58) 1),
 zg0 11 (.al [zo0, zo0, zo0] true),
 zn0 (.st (.t 11) (.t 63) 3),
 zm0 12 64] [1, 5, 8, 9, 10, 11, 12, 22, 23, 24] [9, 10, 11, 21])
 (.seq (.reg false [zm0 65 12,
 zm0 66 65,
 zt0 67 66 (.off (.t 11) 0),
 zt0 68 66 (.ld (.t 67) 1 false),
 zt0 69 66 (.bin .geq (.t 68) (zi0 0)),
 zg0 70 (.pick (.t 66) (.t 69) zF0),
 zm0 71 70,
 zt0 72 71 (.off (.t 11) 0),
 zt0 73 71 (.ld (.t 72) 1 false),
 zt0 74 71 (.bin .lss (.t 73) (zi0 3)),
 zg0 75 (.pick (.t 71) (.t 74) zF0)] [1, 5, 8, 9, 10, 11, 22, 23, 24, 75] [9, 10, 11, 21])
 (.cond (.t 75)
 (.reg false [zg0 76 (.off (.t 11) 0),
 zg0 77 (.ld (.t 76) 1 false),
 zg0 78 (.ixa (.t 9) (.t 77) 1 3),
 zg0 79 (.ld (.t 78) 1 false),
 zg0 80 (.bin .add (.t 79) (zi0 1)),
 zg0 81 (.ixa (.t 9) (.t 77) 1 3),
 zn0 (.st (.t 81) (.t 80) 1)] [1, 5, 8, 9, 10, 22, 23, 24] [9, 10, 21])
 .skip)))
 (.seq (.reg false [zg0 83 (.bin .eql (.t 51) (zi0 7)),
 zm0 82 83] [1, 5, 8, 9, 10, 22, 23, 24, 82] [9, 10, 21])
 (.cond (.t 82)
 (.seq (.reg false [zg0 84 (.ld (.t 10) 3 true),
 zg0 85 (.ld (.t 9) 3 true),
 zg0 86 (.eqa true [true, true, true] (.t 84) (.t 85))] [1, 5, 8, 9, 10, 22, 23, 24, 86] [9, 10, 21])
 (.cond (.t 86)
 (.reg false [zg0 87 (.ld (.t 9) 3 true),
 zn0 (.st (.t 10) (.t 87) 3)] [1, 5, 8, 9, 10, 22, 23, 24] [9, 10, 21])
 .skip))
 .skip))))))))
 (.reg true [zm0 88 5,
 zm0 89 5,
 zm0 90 5,
 zm0 91 5,
 zg0 92 (.nck (.t 91)),
 zg0 93 (.off (.t 92) 1),
 zg0 94 (.ldl 21 (.t 93) 1 false),
 zm0 95 8,
 zg0 96 (.bsl 1 1 [zo0] [(0, (.t 95))]),
 zg0 97 (.apo (.t 94) (.t 96) 1 (.t 24) 1),
 zm0 98 5,
 zg0 99 (.nck (.t 98)),
 zg0 100 (.off (.t 99) 2),
 zg0 101 (.ldl 21 (.t 100) 1 false),
 zg0 102 (.ldl 9 (.t 9) 3 true),
 zg0 103 (.bsl 3 1 [zo0, zo0, zo0] [(0, (.t 102))]),
 zg0 104 (.apo (.t 101) (.t 103) 3 (.t 24) 1),
 zm0 105 5,
 zg0 106 (.nck (.t 105)),
 zg0 107 (.off (.t 106) 3),
 zg0 108 (.ldl 21 (.t 107) 1 false),
 zg0 109 (.ldl 10 (.t 10) 3 true),
 zg0 110 (.bsl 3 1 [zo0, zo0, zo0] [(0, (.t 109))]),
 zg0 111 (.apo (.t 108) (.t 110) 3 (.t 24) 1),
 zg0 112 (.nck (.t 88)),
 zg0 113 (.off (.t 112) 1),
 zn0 (.stl 21 (.t 113) (.t 97) 1),
 zg0 114 (.nck (.t 89)),
 zg0 115 (.off (.t 114) 2),
 zn0 (.stl 21 (.t 115) (.t 104) 1),
 zg0 116 (.nck (.t 90)),
 zg0 117 (.off (.t 116) 3),
 zn0 (.stl 21 (.t 117) (.t 111) 1)] [1, 5, 22, 23, 24] [21])))))
 (.reg false [zg0 118 (.bin .add (.t 24) (zi0 1)),
 zm0 24 118] [1, 5, 22, 23, 24] [21])))))
def ir76 : IFn :=
⟨(.seq (.reg false [zg0 4 (.mov (.c (.p .nilp)))] [0, 1] [])
 (.seq (.reg false [zm0 13 0,
 zg0 14 (.callz 189 [(.t 13)]),
 zg0 15 (.bsr 1 1 [zo0] [(0, (zi0 0))]),
 zg0 16 (.bld [zo0, zo0, zo0] []),
 zg0 17 (.bsr 3 1 [zo0, zo0, zo0] [(0, (.t 16))]),
 zg0 18 (.bld [zo0, zo0, zo0] []),
 zg0 19 (.bsr 3 1 [zo0, zo0, zo0] [(0, (.t 18))]),
 zg0 20 (.bld [.nils, .nils, .nils, .nils] [(0, 1, (.t 14)), (1, 1, (.t 15)), (2, 1, (.t 17)), (3, 1, (.t 19))]),
 zg0 21 (.bx (.t 20) 4 true),
 zm0 5 21] [0, 1, 5] [21])
 (.seq (.seq (.reg false [zm0 22 0,
 zg0 23 (.len (.t 22)),
 zg0 24 (.mov (zi0 0))] [1, 5, 22, 23, 24] [21])
 (.block 0 lp76_0))
 (.seq (.esc [21] (.reg false [zm0 119 5,
 zm0 4 119] [4] [21]))
 .ret)))),
 [.tmp 4], false⟩
def ir77 : IFn :=
⟨(.seq (.reg false [zg0 4 (.al [zo0, zo0, zo0] true)] [0, 1, 4] [4])
 (.seq (.reg false [zm0 7 0,
 zm0 8 1,
 zg0 9 (.call 202 [(.t 7), (.t 8)] false),
 zm0 6 9,
 zg0 10 (.ext (.t 6) 0),
 zg0 11 (.ext (.t 6) 1),
 zm0 1 10,
 zm0 5 11] [0, 1, 4, 5] [4])
 (.seq (.seq (.reg false [zm0 12 5,
 zg0 13 (.un .not (.t 12))] [0, 1, 4, 13] [4])
 (.cond (.t 13)
 (.seq (.reg false [zg0 14 (.bld [zo0, zo0, zo0] []),
 zn0 (.st (.t 4) (.t 14) 3)] [4] [4])
 .ret)
 .skip))
 (.seq (.reg false [zm0 15 0,
 zg0 16 (.nck (.t 15)),
 zg0 17 (.off (.t 16) 2),
 zg0 18 (.ld (.t 17) 1 false),
 zm0 19 1,
 zg0 20 (.ixs (.t 18) (.t 19) 3),
 zg0 21 (.ld (.t 20) 3 true),
 zn0 (.st (.t 4) (.t 21) 3)] [4] [4])
 .ret)))),
 [.cell 4 3 true], false⟩
def lp78_0 : IC :=
 (.loop [3, 6, 7, 8] [] (.seq (.reg false [zg0 9 (.bin .lss (.t 8) (.t 7))] [3, 6, 7, 8, 9] [])
 (.seq (.cond (.t 9)
 .skip
 (.exit 0))
 (.seq (.block 1 (.seq (.reg false [zg0 10 (.ixs (.t 6) (.t 8) 2),
 zg0 11 (.ld (.t 10) 2 true),
 zg0 5 (.al [.nils, .nils] true),
 zn0 (.st (.t 5) (.t 11) 2)] [3, 5, 6, 7, 8] [5])
 (.reg false [zm0 12 3,
 zg0 13 (.off (.t 5) 0),
 zg0 14 (.ld (.t 13) 1 false),
 zg0 15 (.len (.t 14)),
 zg0 16 (.bin .add (.t 12) (.t 15)),
 zm0 3 16] [3, 6, 7, 8] [])))
 (.reg false [zg0 17 (.bin .add (.t 8) (zi0 1)),
 zm0 8 17] [3, 6, 7, 8] [])))))
def ir78 : IFn :=
⟨(.seq (.reg false [zg0 2 (.mov (zi0 0))] [0] [])
 (.seq (.reg false [zg0 3 (.mov (zi0 0))] [0, 3] [])
 (.seq (.seq (.reg false [zm0 6 0,
 zg0 7 (.len (.t 6)),
 zg0 8 (.mov (zi0 0))] [3, 6, 7, 8] [])
 (.block 0 lp78_0))
 (.seq (.reg false [zm0 18 3,
 zm0 2 18] [2] [])
 .ret)))),
 [.tmp 2], false⟩
def ir81 : IFn :=
⟨(.seq (.reg false [zg0 2 (.mov (.c (.p .nilp)))] [0] [])
 (.seq (.reg false [zm0 3 0,
 zg0 4 (.call 211 [(.t 3)] false),
 zg0 5 (.call 212 [(.t 4)] false),
 zm0 2 5] [2] [])
 .ret)),
 [.tmp 2], false⟩
def ir82 : IFn :=
⟨(.seq (.reg false [zg0 2 (.mov (zi0 0))] [0] [])
 (.seq (.seq (.reg false [zm0 3 0,
 zg0 4 (.eqn .ptr false (.t 3))] [0, 4] [])
 (.cond (.t 4)
 (.seq (.reg false [zg0 2 (.mov (zi0 0))] [2] [])
 .ret)
 .skip))
 (.seq (.reg false [zm0 5 0,
 zg0 6 (.nck (.t 5)),
 zg0 7 (.off (.t 6) 0),
 zg0 8 (.ld (.t 7) 1 false),
 zg0 9 (.len (.t 8)),
 zm0 2 9] [2] [])
 .ret))),
 [.tmp 2], false⟩
def lp84_0 : IC :=
 (.loop [0, 5, 6, 7] [] (.seq (.seq (.reg false [zm0 14 7,
 zg0 15 (.bin .gtr (.t 14) (zi0 0)),
 zm0 16 15,
 zt0 17 16 (.mov (.t 7)),
 zt0 18 16 (.mov (.t 6)),
 zt0 19 16 (.bin .leq (.t 17) (.t 18)),
 zg0 20 (.pick (.t 16) (.t 19) zF0)] [0, 5, 6, 7, 20] [])
 (.cond (.t 20)
 .skip
 (.exit 0)))
 (.seq (.block 1 (.reg false [zm0 24 5,
 zm0 25 7,
 zg0 26 (.bsl 1 1 [zo0] [(0, (.t 25))]),
 zg0 27 (.app (.t 24) (.t 26) 1),
 zm0 5 27] [0, 5, 6, 7] []))
 (.reg false [zm0 21 0,
 zm0 22 7,
 zg0 23 (.call 214 [(.t 21), (.t 22)] false),
 zm0 7 23] [0, 5, 6, 7] []))))
def ir84 : IFn :=
⟨(.seq (.reg false [zg0 4 (.mov (.c (.nils)))] [0, 1] [])
 (.seq (.reg false [zg0 5 (.nrow 1)] [0, 1, 5] [])
 (.seq (.reg false [zm0 8 0,
 zm0 9 1,
 zg0 10 (.call 213 [(.t 8), (.t 9)] false),
 zm0 6 10] [0, 1, 5, 6] [])
 (.seq (.seq (.reg false [zm0 11 0,
 zm0 12 1,
 zg0 13 (.call 214 [(.t 11), (.t 12)] false),
 zm0 7 13] [0, 5, 6, 7] [])
 (.block 0 lp84_0))
 (.seq (.reg false [zm0 28 5,
 zm0 4 28] [4] [])
 .ret))))),
 [.tmp 4], false⟩
def ir86 : IFn :=
⟨(.seq (.reg false [zg0 2 (.bx (.t 0) 2 true),
 zg0 3 (.bx (.t 1) 2 true),
 zg0 4 (.al [zo0, zo0] true)] [2, 3, 4] [2, 3, 4])
 (.seq (.reg true [zg0 5 (.off (.t 2) 0),
 zg0 6 (.ldl 2 (.t 5) 1 false),
 zg0 7 (.off (.t 3) 0),
 zg0 8 (.ldl 3 (.t 7) 1 false),
 zg0 9 (.call 215 [(.t 6), (.t 8)] false),
 zg0 10 (.off (.t 2) 1),
 zg0 11 (.ldl 2 (.t 10) 1 false),
 zg0 12 (.off (.t 3) 1),
 zg0 13 (.ldl 3 (.t 12) 1 false),
 zg0 14 (.call 216 [(.t 11), (.t 13)] false),
 zg0 15 (.bld [zo0, zo0] [(0, 1, (.t 9)), (1, 1, (.t 14))]),
 zn0 (.stl 4 (.t 4) (.t 15) 2)] [4] [4])
 .ret)),
 [.cell 4 2 true], false⟩
def ir87 : IFn :=
⟨(.seq (.reg false [zg0 4 (.mov (zi0 0))] [0, 1] [])
 (.seq (.seq (.reg false [zm0 5 0,
 zg0 6 (.eqn .ptr false (.t 5))] [0, 1, 6] [])
 (.cond (.t 6)
 (.seq (.reg false [zg0 4 (.mov (zi0 0))] [4] [])
 .ret)
 .skip))
 (.seq (.reg false [zm0 7 0,
 zm0 8 1,
 zg0 9 (.mnmx true (.t 8) (zi0 0)),
 zm0 10 0,
 zg0 11 (.call 82 [(.t 10)] false),
 zg0 12 (.mnmx false (.t 9) (.t 11)),
 zm0 13 0,
 zg0 14 (.mkf (.func 218) [(.t 13)] []),
 zg0 15 (.call 217 [(.t 7), (.t 12), (.t 14)] false),
 zm0 4 15] [4] [])
 .ret))),
 [.tmp 4], false⟩
def ir89 : IFn :=
⟨(.seq (.reg false [zg0 4 (.mov zF0)] [0, 1] [])
 (.seq (.reg false [zm0 5 0,
 zm0 6 1,
 zg0 7 (.call 221 [(.t 5), (.t 6)] false),
 zg0 8 (.bin .geq (.t 7) (zi0 0)),
 zm0 4 8] [4] [])
 .ret)),
 [.tmp 4], false⟩
def ir100 : IFn :=
⟨(.seq (.reg false [zg0 2 (.al [zo0, zo0, zo0, zo0, zo0, zo0, zo0, zo0, zo0, zo0, zo0, zo0, zo0, zo0, zo0, zo0, zo0, zo0, .p (.bool false), .nils, .nils, .nils] true)] [0, 2] [2])
 (.seq (.seq (.reg false [zm0 3 0,
 zg0 4 (.eqn .ptr false (.t 3))] [0, 2, 4] [2])
 (.cond (.t 4)
 (.seq (.reg false [zg0 5 (.bld [zo0, zo0, zo0, zo0, zo0, zo0, zo0, zo0, zo0, zo0, zo0, zo0, zo0, zo0, zo0, zo0, zo0, zo0, .p (.bool false), .nils, .nils, .nils] []),
 zn0 (.st (.t 2) (.t 5) 22)] [2] [2])
 .ret)
 .skip))
 (.seq (.reg false [zm0 6 0,
 zg0 7 (.nck (.t 6)),
 zg0 8 (.off (.t 7) 1),
 zg0 9 (.ld (.t 8) 22 true),
 zn0 (.st (.t 2) (.t 9) 22)] [2] [2])
 .ret))),
 [.cell 2 22 true], false⟩
def ir101 : IFn :=
⟨(.seq (.reg false [zg0 3 (.bx (.t 1) 7 true),
 zg0 4 (.mov (zi0 0))] [0, 3] [3])
 (.seq (.block 0 (.seq (.reg false [zm0 6 0,
 zg0 7 (.ld (.t 3) 7 true),
 zg0 8 (.call 38 [(.t 6), (.t 7)] false),
 zg0 9 (.un .not (.t 8)),
 zm0 5 9] [0, 3, 5] [3])
 (.cond (.t 5)
 (.seq (.reg false [zg0 4 (.mov (zi0 0))] [4] [])
 .ret)
 (.seq (.reg true [zg0 11 (.off (.t 3) 1),
 zg0 12 (.ldl 3 (.t 11) 1 false),
 zm0 13 0,
 zg0 14 (.nck (.t 13)),
 zg0 15 (.off (.t 14) 1),
 zg0 16 (.off (.t 15) 0),
 zg0 17 (.off (.t 16) 0),
 zg0 18 (.ld (.t 17) 1 false),
 zg0 19 (.bin .lss (.t 12) (.t 18)),
 zm0 10 19] [0, 10] [])
 (.cond (.t 10)
 (.seq (.reg false [zm0 20 0,
 zg0 21 (.nck (.t 20)),
 zg0 22 (.off (.t 21) 1),
 zg0 23 (.off (.t 22) 0),
 zg0 24 (.off (.t 23) 4),
 zg0 25 (.ld (.t 24) 1 false),
 zm0 4 25] [4] [])
 .ret)
 .skip)))))
 (.seq (.reg false [zm0 26 0,
 zg0 27 (.nck (.t 26)),
 zg0 28 (.off (.t 27) 1),
 zg0 29 (.off (.t 28) 0),
 zg0 30 (.off (.t 29) 3),
 zg0 31 (.ld (.t 30) 1 false),
 zm0 4 31] [4] [])
 .ret))),
 [.tmp 4], false⟩
def ir105 : IFn :=
⟨(.seq (.reg false [zg0 2 (.mov (.c (.p .nilp)))] [0] [])
 (.seq (.reg false [zm0 3 0,
 zg0 4 (.call 211 [(.t 3)] false),
 zg0 5 (.call 235 [(.t 4)] false),
 zm0 2 5] [2] [])
 .ret)),
 [.tmp 2], false⟩
def lp107_0 : IC :=
 (.loop [0, 2, 7, 8, 13, 14, 15] [] (.seq (.reg false [zg0 16 (.bin .lss (.t 15) (.t 14))] [0, 2, 7, 8, 13, 14, 15, 16] [])
 (.seq (.cond (.t 16)
 .skip
 (.exit 0))
 (.seq (.block 1 (.seq (.reg false [zg0 17 (.ixs (.t 13) (.t 15) 1),
 zg0 18 (.ld (.t 17) 1 false),
 zm0 10 18] [0, 2, 7, 8, 10, 13, 14, 15] [])
 (.seq (.reg false [zm0 20 0,
 zm0 21 10,
 zg0 22 (.call 201 [(.t 20), (.t 21)] false),
 zm0 19 22,
 zg0 23 (.ext (.t 19) 0),
 zg0 24 (.ext (.t 19) 1),
 zg0 11 (.al [zo0, zo0, zo0] true),
 zn0 (.st (.t 11) (.t 23) 3),
 zm0 12 24] [0, 2, 7, 8, 11, 12, 13, 14, 15] [11])
 (.seq (.reg false [zm0 25 12] [0, 2, 7, 8, 11, 13, 14, 15, 25] [11])
 (.cond (.t 25)
 (.reg false [zm0 26 7,
 zm0 27 8,
 zm0 28 7,
 zg0 29 (.off (.t 11) 1),
 zg0 30 (.ld (.t 29) 1 false),
 zg0 31 (.callv (.t 28) [(.t 30)] false),
 zg0 32 (.bin .add (.t 27) (.t 31)),
 zm0 33 7,
 zm0 34 2,
 zg0 35 (.callv (.t 33) [(.t 34)] false),
 zg0 36 (.bin .add (.t 32) (.t 35)),
 zg0 37 (.callv (.t 26) [(.t 36)] false),
 zm0 8 37] [0, 2, 7, 8, 13, 14, 15] [])
 .skip)))))
 (.reg false [zg0 38 (.bin .add (.t 15) (zi0 1)),
 zm0 15 38] [0, 2, 7, 8, 13, 14, 15] [])))))
def ir107 : IFn :=
⟨(.seq (.reg false [zg0 6 (.mov (zi0 0))] [0, 1, 2] [])
 (.seq (.reg false [zg0 7 (.mov (.c (.p (.fn 237))))] [0, 1, 2, 7] [])
 (.seq (.reg false [zg0 8 (.mov (zi0 0))] [0, 1, 2, 7, 8] [])
 (.seq (.seq (.reg false [zm0 13 1,
 zg0 14 (.len (.t 13)),
 zg0 15 (.mov (zi0 0))] [0, 2, 7, 8, 13, 14, 15] [])
 (.block 0 lp107_0))
 (.seq (.reg false [zm0 39 8,
 zm0 6 39] [6] [])
 .ret))))),
 [.tmp 6], false⟩
def ir116 : IFn :=
⟨(.seq (.reg false [zg0 3 (.bx (.t 1) 7 true),
 zg0 4 (.al [zo0, zo0, zo0, .nils, .nils, .nils] true),
 zg0 5 (.mov zF0)] [0, 3, 4] [3, 4])
 (.seq (.seq (.reg false [zm0 7 0,
 zg0 8 (.ld (.t 3) 7 true),
 zg0 9 (.call 248 [(.t 7), (.t 8)] false),
 zg0 10 (.un .not (.t 9)),
 zm0 11 10,
 zf0 12 11 (.mov (.t 0)),
 zf0 13 11 (.ld (.t 3) 7 true),
 zf0 14 11 (.call 249 [(.t 12), (.t 13)] false),
 zf0 15 11 (.un .not (.t 14)),
 zg0 16 (.pick (.t 11) zT0 (.t 15))] [0, 3, 4, 16] [3, 4])
 (.cond (.t 16)
 (.seq (.reg false [zg0 17 (.bld [zo0, zo0, zo0, .nils, .nils, .nils] []),
 zn0 (.st (.t 4) (.t 17) 6),
 zg0 5 (.mov zF0)] [4, 5] [4])
 .ret)
 .skip))
 (.seq (.reg true [zm0 18 0,
 zg0 19 (.call 81 [(.t 18)] false),
 zg0 20 (.off (.t 3) 0),
 zg0 21 (.ldl 3 (.t 20) 1 false),
 zg0 22 (.call 214 [(.t 19), (.t 21)] false),
 zm0 6 22] [0, 3, 4, 6] [3, 4])
 (.seq (.seq (.reg false [zm0 23 6,
 zg0 24 (.bin .lss (.t 23) (zi0 0))] [0, 3, 4, 6, 24] [3, 4])
 (.cond (.t 24)
 (.seq (.reg false [zg0 25 (.bld [zo0, zo0, zo0, .nils, .nils, .nils] []),
 zn0 (.st (.t 4) (.t 25) 6),
 zg0 5 (.mov zF0)] [4, 5] [4])
 .ret)
 .skip))
 (.seq (.reg true [zg0 26 (.off (.t 3) 0),
 zg0 27 (.ldl 3 (.t 26) 1 false),
 zm0 28 6,
 zm0 29 0,
 zg0 30 (.call 100 [(.t 29)] false),
 zg0 31 (.fldv (.t 30) 20 1 false),
 zm0 32 0,
 zg0 33 (.ldl 3 (.t 3) 7 true),
 zm0 34 6,
 zg0 35 (.call 121 [(.t 32), (.t 33), (.t 34)] false),
 zg0 36 (.call 250 [(.t 31), (.t 35)] false),
 zg0 37 (.bld [zo0, zo0, zo0, .nils, .nils, .nils] [(0, 1, (zi0 1)), (1, 1, (.t 27)), (2, 1, (.t 28)), (3, 1, (.t 36))]),
 zn0 (.stl 4 (.t 4) (.t 37) 6),
 zg0 5 (.mov zT0)] [4, 5] [4])
 .ret))))),
 [.cell 4 6 true, .tmp 5], false⟩
def ir117 : IFn :=
⟨(.seq (.reg false [zg0 3 (.bx (.t 1) 7 true),
 zg0 4 (.al [zo0, zo0, zo0, .nils, .nils, .nils] true),
 zg0 5 (.mov zF0)] [0, 3, 4] [3, 4])
 (.seq (.seq (.reg false [zm0 6 0,
 zg0 7 (.ld (.t 3) 7 true),
 zg0 8 (.call 248 [(.t 6), (.t 7)] false),
 zg0 9 (.un .not (.t 8))] [0, 3, 4, 9] [3, 4])
 (.cond (.t 9)
 (.seq (.reg false [zg0 10 (.bld [zo0, zo0, zo0, .nils, .nils, .nils] []),
 zn0 (.st (.t 4) (.t 10) 6),
 zg0 5 (.mov zF0)] [4, 5] [4])
 .ret)
 .skip))
 (.seq (.reg true [zm0 11 0,
 zg0 12 (.ldl 3 (.t 3) 7 true),
 zm0 13 0,
 zg0 14 (.call 252 [(.t 13)] false),
 zg0 15 (.off (.t 3) 0),
 zg0 16 (.ldl 3 (.t 15) 1 false),
 zg0 17 (.call 253 [(.t 14), (.t 16)] false),
 zg0 18 (.call 251 [(.t 11), (.t 12), (.t 17)] false),
 zg0 19 (.ext (.t 18) 0),
 zg0 20 (.ext (.t 18) 1),
 zn0 (.stl 4 (.t 4) (.t 19) 6),
 zm0 5 20] [4, 5] [4])
 .ret))),
 [.cell 4 6 true, .tmp 5], false⟩
def ir118 : IFn :=
⟨(.seq (.reg false [zg0 3 (.bx (.t 1) 7 true),
 zg0 4 (.al [zo0, zo0, zo0, .nils, .nils, .nils] true),
 zg0 5 (.mov zF0)] [0, 3, 4] [3, 4])
 (.seq (.reg false [zm0 8 0,
 zg0 9 (.call 100 [(.t 8)] false),
 zg0 10 (.fldv (.t 9) 20 1 false),
 zm0 6 10] [0, 3, 4, 6] [3, 4])
 (.seq (.seq (.reg true [zm0 11 0,
 zg0 12 (.ldl 3 (.t 3) 7 true),
 zg0 13 (.call 248 [(.t 11), (.t 12)] false),
 zg0 14 (.un .not (.t 13)),
 zm0 15 14,
 zf0 16 15 (.off (.t 3) 0),
 zf0 17 15 (.ldl 3 (.t 16) 1 false),
 zf0 18 15 (.mov (.t 0)),
 zf0 19 15 (.call 81 [(.t 18)] false),
 zf0 20 15 (.call 82 [(.t 19)] false),
 zf0 21 15 (.bin .lss (.t 17) (.t 20)),
 zg0 22 (.pick (.t 15) zT0 (.t 21)),
 zm0 23 22,
 zf0 24 23 (.off (.t 3) 2),
 zf0 25 23 (.ldl 3 (.t 24) 1 false),
 zf0 26 23 (.mov (.t 6)),
 zf0 27 23 (.len (.t 26)),
 zf0 28 23 (.bin .eql (.t 25) (.t 27)),
 zg0 29 (.pick (.t 23) zT0 (.t 28))] [0, 3, 4, 6, 29] [3, 4])
 (.cond (.t 29)
 (.seq (.reg false [zg0 30 (.bld [zo0, zo0, zo0, .nils, .nils, .nils] []),
 zn0 (.st (.t 4) (.t 30) 6),
 zg0 5 (.mov zF0)] [4, 5] [4])
 .ret)
 .skip))
 (.seq (.reg false [zm0 31 0,
 zg0 32 (.ld (.t 3) 7 true),
 zg0 33 (.off (.t 3) 0),
 zg0 34 (.ld (.t 33) 1 false),
 zg0 35 (.call 121 [(.t 31), (.t 32), (.t 34)] false),
 zg0 7 (.al [zo0, zo0, zo0, .p (.bool false)] true),
 zn0 (.st (.t 7) (.t 35) 4)] [3, 4, 6, 7] [3, 4, 7])
 (.seq (.reg false [zg0 36 (.off (.t 7) 3),
 zn0 (.st (.t 36) zT0 1)] [3, 4, 6, 7] [3, 4, 7])
 (.seq (.reg true [zg0 37 (.off (.t 3) 0),
 zg0 38 (.ldl 3 (.t 37) 1 false),
 zg0 39 (.off (.t 3) 0),
 zg0 40 (.ldl 3 (.t 39) 1 false),
 zm0 41 6,
 zg0 42 (.ldl 7 (.t 7) 4 true),
 zg0 43 (.call 250 [(.t 41), (.t 42)] false),
 zg0 44 (.bld [zo0, zo0, zo0, .nils, .nils, .nils] [(0, 1, (zi0 3)), (1, 1, (.t 38)), (2, 1, (.t 40)), (3, 1, (.t 43))]),
 zn0 (.stl 4 (.t 4) (.t 44) 6),
 zg0 5 (.mov zT0)] [4, 5] [4])
 .ret)))))),
 [.cell 4 6 true, .tmp 5], false⟩
def ir119 : IFn :=
⟨(.seq (.reg false [zg0 3 (.bx (.t 1) 7 true),
 zg0 4 (.al [zo0, zo0, zo0, .nils, .nils, .nils] true),
 zg0 5 (.mov zF0)] [0, 3, 4] [3, 4])
 (.seq (.seq (.reg false [zm0 6 0,
 zg0 7 (.ld (.t 3) 7 true),
 zg0 8 (.call 248 [(.t 6), (.t 7)] false),
 zg0 9 (.un .not (.t 8))] [0, 3, 4, 9] [3, 4])
 (.cond (.t 9)
 (.seq (.reg false [zg0 10 (.bld [zo0, zo0, zo0, .nils, .nils, .nils] []),
 zn0 (.st (.t 4) (.t 10) 6),
 zg0 5 (.mov zF0)] [4, 5] [4])
 .ret)
 .skip))
 (.seq (.reg true [zm0 11 0,
 zg0 12 (.ldl 3 (.t 3) 7 true),
 zm0 13 0,
 zg0 14 (.call 252 [(.t 13)] false),
 zg0 15 (.off (.t 3) 0),
 zg0 16 (.ldl 3 (.t 15) 1 false),
 zg0 17 (.call 77 [(.t 14), (.t 16)] false),
 zg0 18 (.call 251 [(.t 11), (.t 12), (.t 17)] false),
 zg0 19 (.ext (.t 18) 0),
 zg0 20 (.ext (.t 18) 1),
 zn0 (.stl 4 (.t 4) (.t 19) 6),
 zm0 5 20] [4, 5] [4])
 .ret))),
 [.cell 4 6 true, .tmp 5], false⟩
def ir121 : IFn :=
⟨(.seq (.reg false [zg0 4 (.bx (.t 1) 7 true),
 zg0 6 (.al [zo0, zo0, zo0, .p (.bool false)] true)] [0, 2, 4, 6] [4, 6])
 (.seq (.seq (.reg false [zm0 8 0,
 zg0 9 (.ld (.t 4) 7 true),
 zg0 10 (.call 38 [(.t 8), (.t 9)] false),
 zg0 11 (.un .not (.t 10))] [0, 2, 4, 6, 11] [4, 6])
 (.cond (.t 11)
 (.seq (.reg false [zg0 12 (.bld [zo0, zo0, zo0, .p (.bool false)] []),
 zn0 (.st (.t 6) (.t 12) 4)] [6] [6])
 .ret)
 .skip))
 (.seq (.reg false [zm0 13 0,
 zg0 14 (.nck (.t 13)),
 zg0 15 (.off (.t 14) 0),
 zg0 16 (.ld (.t 15) 1 false),
 zg0 17 (.nck (.t 16)),
 zg0 18 (.off (.t 17) 2),
 zg0 19 (.ld (.t 18) 1 false),
 zm0 20 2,
 zg0 21 (.call 254 [(.t 19), (.t 20)] false),
 zm0 7 21] [0, 4, 6, 7] [4, 6])
 (.seq (.reg true [zg0 22 (.off (.t 4) 2),
 zg0 23 (.ldl 4 (.t 22) 1 false),
 zg0 24 (.off (.t 4) 3),
 zg0 25 (.ldl 4 (.t 24) 1 false),
 zm0 26 7,
 zm0 27 7,
 zm0 28 0,
 zg0 29 (.nck (.t 28)),
 zg0 30 (.off (.t 29) 0),
 zg0 31 (.ld (.t 30) 1 false),
 zg0 32 (.nck (.t 31)),
 zg0 33 (.off (.t 32) 2),
 zg0 34 (.ld (.t 33) 1 false),
 zg0 35 (.off (.t 4) 0),
 zg0 36 (.ldl 4 (.t 35) 1 false),
 zg0 37 (.call 254 [(.t 34), (.t 36)] false),
 zg0 38 (.bin .gtr (.t 27) (.t 37)),
 zg0 39 (.bld [zo0, zo0, zo0, .p (.bool false)] [(0, 1, (.t 23)), (1, 1, (.t 25)), (2, 1, (.t 26)), (3, 1, (.t 38))]),
 zn0 (.stl 6 (.t 6) (.t 39) 4)] [6] [6])
 .ret)))),
 [.cell 6 4 true], false⟩
def ir122 : IFn :=
⟨(.seq (.reg false [zg0 2 (.bx (.t 0) 3 true),
 zg0 3 (.bx (.t 1) 3 true),
 zg0 4 (.al [zo0, zo0, zo0] true)] [2, 3, 4] [2, 3, 4])
 (.seq (.reg false [zg0 5 (.ld (.t 2) 3 true),
 zg0 6 (.ld (.t 3) 3 true),
 zg0 7 (.call 255 [(.t 5), (.t 6), (zi0 (-1073741824)), (.c (.p (.fn 256)))] false),
 zn0 (.st (.t 4) (.t 7) 3)] [4] [4])
 .ret)),
 [.cell 4 3 true], false⟩
def lp123_0 : IC :=
 (.loop [0, 4, 5, 10, 11, 12] [4, 5] (.seq (.reg false [zg0 13 (.bin .lss (.t 12) (.t 11))] [0, 4, 5, 10, 11, 12, 13] [4, 5])
 (.seq (.cond (.t 13)
 .skip
 (.exit 0))
 (.seq (.block 1 (.seq (.reg false [zg0 14 (.ixs (.t 10) (.t 12) 1),
 zg0 15 (.ld (.t 14) 1 false),
 zm0 7 15] [0, 4, 5, 7, 10, 11, 12] [4, 5])
 (.seq (.reg false [zm0 17 0,
 zm0 18 7,
 zg0 19 (.call 201 [(.t 17), (.t 18)] false),
 zm0 16 19,
 zg0 20 (.ext (.t 16) 0),
 zg0 21 (.ext (.t 16) 1),
 zg0 8 (.al [zo0, zo0, zo0] true),
 zn0 (.st (.t 8) (.t 20) 3),
 zm0 9 21] [0, 4, 5, 8, 9, 10, 11, 12] [4, 5, 8])
 (.seq (.reg false [zm0 22 9,
 zm0 23 22,
 zt0 24 23 (.off (.t 8) 0),
 zt0 25 23 (.ld (.t 24) 1 false),
 zt0 26 23 (.bin .geq (.t 25) (zi0 0)),
 zg0 27 (.pick (.t 23) (.t 26) zF0),
 zm0 28 27,
 zt0 29 28 (.off (.t 8) 0),
 zt0 30 28 (.ld (.t 29) 1 false),
 zt0 31 28 (.bin .lss (.t 30) (zi0 3)),
 zg0 32 (.pick (.t 28) (.t 31) zF0)] [0, 4, 5, 8, 10, 11, 12, 32] [4, 5, 8])
 (.cond (.t 32)
 (.reg false [zg0 33 (.off (.t 8) 0),
 zg0 34 (.ld (.t 33) 1 false),
 zg0 35 (.ixa (.t 5) (.t 34) 1 3),
 zg0 36 (.ld (.t 35) 1 false),
 zg0 37 (.bin .add (.t 36) (zi0 1)),
 zg0 38 (.ixa (.t 5) (.t 34) 1 3),
 zn0 (.st (.t 38) (.t 37) 1)] [0, 4, 5, 10, 11, 12] [4, 5])
 .skip)))))
 (.reg false [zg0 39 (.bin .add (.t 12) (zi0 1)),
 zm0 12 39] [0, 4, 5, 10, 11, 12] [4, 5])))))
def ir123 : IFn :=
⟨(.seq (.reg false [zg0 4 (.al [zo0, zo0, zo0] true)] [0, 1, 4] [4])
 (.seq (.reg false [zg0 5 (.al [zo0, zo0, zo0] true)] [0, 1, 4, 5] [4, 5])
 (.seq (.seq (.reg false [zm0 10 1,
 zg0 11 (.len (.t 10)),
 zg0 12 (.mov (zi0 0))] [0, 4, 5, 10, 11, 12] [4, 5])
 (.block 0 lp123_0))
 (.seq (.reg false [zg0 40 (.ld (.t 5) 3 true),
 zn0 (.st (.t 4) (.t 40) 3)] [4] [4])
 .ret)))),
 [.cell 4 3 true], false⟩
def ir124 : IFn :=
⟨(.seq (.reg false [zg0 0 (.mov (.c (.p .nilm)))] [] [])
 (.seq (.reg false [zg0 1 (.mov (.c (.p (.fn 257))))] [1] [])
 (.seq (.reg false [zg0 2 (.mp .mkm []),
 zg0 3 (.bld [zo0, .p .nilf] [(0, 1, (zi0 19)), (1, 1, (.c (.p (.fn 258))))]),
 zg0 4 (.bld [zo0, .p .nilf] [(0, 1, (zi0 18)), (1, 1, (.c (.p (.fn 259))))]),
 zg0 5 (.bld [zo0, .p .nilf] [(0, 1, (zi0 14)), (1, 1, (.c (.p (.fn 260))))]),
 zg0 6 (.bld [zo0, .p .nilf] [(0, 1, (zi0 15)), (1, 1, (.c (.p (.fn 261))))]),
 zg0 7 (.bld [zo0, .p .nilf] [(0, 1, (zi0 16)), (1, 1, (.c (.p (.fn 263))))]),
 zg0 8 (.bsl 2 5 [zo0, .p .nilf] [(0, (.t 3)), (1, (.t 4)), (2, (.t 5)), (3, (.t 6)), (4, (.t 7))]),
 zn0 (.mp (.st none 1) [(.t 2), (zi0 1), (.t 8)]),
 zg0 9 (.bld [zo0, .p .nilf] [(0, 1, (zi0 19)), (1, 1, (.c (.p (.fn 266))))]),
 zm0 10 1,
 zg0 11 (.bld [zo0, .p .nilf] [(0, 1, (zi0 15)), (1, 1, (.t 10))]),
 zg0 12 (.bld [zo0, .p .nilf] [(0, 1, (zi0 16)), (1, 1, (.c (.p (.fn 267))))]),
 zg0 13 (.bsl 2 3 [zo0, .p .nilf] [(0, (.t 9)), (1, (.t 11)), (2, (.t 12))]),
 zn0 (.mp (.st none 1) [(.t 2), (zi0 2), (.t 13)]),
 zg0 14 (.bld [zo0, .p .nilf] [(0, 1, (zi0 19)), (1, 1, (.c (.p (.fn 268))))]),
 zg0 15 (.bld [zo0, .p .nilf] [(0, 1, (zi0 15)), (1, 1, (.c (.p (.fn 269))))]),
 zg0 16 (.bld [zo0, .p .nilf] [(0, 1, (zi0 16)), (1, 1, (.c (.p (.fn 271))))]),
 zg0 17 (.bsl 2 3 [zo0, .p .nilf] [(0, (.t 14)), (1, (.t 15)), (2, (.t 16))]),
 zn0 (.mp (.st none 1) [(.t 2), (zi0 3), (.t 17)]),
 zm0 18 2,
 zm0 0 18] [0] [])
 .ret))),
 [.tmp 0], false⟩
def ir125 : IFn :=
⟨(.seq (.reg false [zg0 1 (.bx (.t 0) 36 true),
 zg0 2 (.mov zF0)] [1] [1])
 (.seq (.reg false [zg0 3 (.off (.t 1) 0),
 zg0 4 (.ld (.t 3) 1 false),
 zg0 5 (.off (.t 1) 1),
 zg0 6 (.ld (.t 5) 7 true),
 zg0 7 (.off (.t 1) 8),
 zg0 8 (.ld (.t 7) 6 true),
 zg0 9 (.call 39 [(.t 4), (.t 6), (.t 8)] false),
 zg0 10 (.fldv (.t 9) 4 1 false),
 zm0 2 10] [2] [])
 .ret)),
 [.tmp 2], false⟩
def ir126 : IFn :=
⟨(.seq (.reg false [zg0 2 (.bx (.t 0) 6 true),
 zg0 3 (.bx (.t 1) 6 true),
 zg0 4 (.mov zF0)] [2, 3] [2, 3])
 (.seq (.reg false [zg0 5 (.off (.t 2) 0),
 zg0 6 (.ld (.t 5) 1 false),
 zg0 7 (.off (.t 3) 0),
 zg0 8 (.ld (.t 7) 1 false),
 zg0 9 (.bin .eql (.t 6) (.t 8)),
 zm0 10 9,
 zt0 11 10 (.off (.t 2) 1),
 zt0 12 10 (.ld (.t 11) 1 false),
 zt0 13 10 (.off (.t 3) 1),
 zt0 14 10 (.ld (.t 13) 1 false),
 zt0 15 10 (.bin .eql (.t 12) (.t 14)),
 zg0 16 (.pick (.t 10) (.t 15) zF0),
 zm0 17 16,
 zt0 18 17 (.off (.t 2) 2),
 zt0 19 17 (.ld (.t 18) 1 false),
 zt0 20 17 (.off (.t 3) 2),
 zt0 21 17 (.ld (.t 20) 1 false),
 zt0 22 17 (.bin .eql (.t 19) (.t 21)),
 zg0 23 (.pick (.t 17) (.t 22) zF0),
 zm0 24 23,
 zt0 25 24 (.off (.t 2) 3),
 zt0 26 24 (.ld (.t 25) 1 false),
 zt0 27 24 (.off (.t 3) 3),
 zt0 28 24 (.ld (.t 27) 1 false),
 zt0 29 24 (.call 272 [(.t 26), (.t 28)] false),
 zg0 30 (.pick (.t 24) (.t 29) zF0),
 zm0 31 30,
 zt0 32 31 (.off (.t 2) 4),
 zt0 33 31 (.ld (.t 32) 1 false),
 zt0 34 31 (.off (.t 3) 4),
 zt0 35 31 (.ld (.t 34) 1 false),
 zt0 36 31 (.call 273 [(.t 33), (.t 35)] false),
 zg0 37 (.pick (.t 31) (.t 36) zF0),
 zm0 38 37,
 zt0 39 38 (.off (.t 2) 5),
 zt0 40 38 (.ld (.t 39) 1 false),
 zt0 41 38 (.off (.t 3) 5),
 zt0 42 38 (.ld (.t 41) 1 false),
 zt0 43 38 (.call 273 [(.t 40), (.t 42)] false),
 zg0 44 (.pick (.t 38) (.t 43) zF0),
 zm0 4 44] [4] [])
 .ret)),
 [.tmp 4], false⟩
def ir132 : IFn :=
⟨(.seq (.reg false [zg0 3 (.bx (.t 1) 7 true),
 zg0 4 (.mov zF0)] [0, 3] [3])
 (.seq (.reg true [zm0 7 0,
 zg0 8 (.nck (.t 7)),
 zg0 9 (.off (.t 8) 0),
 zg0 10 (.ld (.t 9) 1 false),
 zg0 11 (.nck (.t 10)),
 zg0 12 (.off (.t 11) 2),
 zg0 13 (.ld (.t 12) 1 false),
 zg0 14 (.off (.t 3) 0),
 zg0 15 (.ldl 3 (.t 14) 1 false),
 zg0 16 (.call 254 [(.t 13), (.t 15)] false),
 zm0 5 16] [0, 3, 5] [3])
 (.seq (.seq (.reg false [zg0 17 (.off (.t 3) 3),
 zg0 18 (.ld (.t 17) 1 false),
 zg0 19 (.bin .eql (.t 18) (zi0 0))] [0, 3, 5, 19] [3])
 (.cond (.t 19)
 (.seq (.reg false [zg0 20 (.off (.t 3) 2),
 zg0 21 (.ld (.t 20) 1 false),
 zm0 22 5,
 zg0 23 (.bin .eql (.t 21) (.t 22)),
 zm0 4 23] [4] [])
 .ret)
 .skip))
 (.seq (.seq (.reg false [zg0 24 (.off (.t 3) 2),
 zg0 25 (.ld (.t 24) 1 false),
 zm0 26 5,
 zg0 27 (.bin .sub (.t 26) (zi0 1)),
 zg0 28 (.bin .neq (.t 25) (.t 27)),
 zm0 29 28,
 zf0 30 29 (.off (.t 3) 2),
 zf0 31 29 (.ld (.t 30) 1 false),
 zf0 32 29 (.bin .lss (.t 31) (zi0 0)),
 zg0 33 (.pick (.t 29) zT0 (.t 32)),
 zm0 34 33,
 zf0 35 34 (.off (.t 3) 3),
 zf0 36 34 (.ld (.t 35) 1 false),
 zf0 37 34 (.bin .lss (.t 36) (zi0 1)),
 zg0 38 (.pick (.t 34) zT0 (.t 37))] [0, 3, 38] [3])
 (.cond (.t 38)
 (.seq (.reg false [zg0 4 (.mov zF0)] [4] [])
 .ret)
 .skip))
 (.seq (.prep [6] (.reg true [zm0 39 0,
 zg0 40 (.nck (.t 39)),
 zg0 41 (.off (.t 40) 1),
 zg0 42 (.off (.t 41) 20),
 zg0 43 (.ld (.t 42) 1 false),
 zg0 44 (.off (.t 3) 2),
 zg0 45 (.ldl 3 (.t 44) 1 false),
 zg0 46 (.ixs (.t 43) (.t 45) 2),
 zg0 47 (.ld (.t 46) 2 true),
 zg0 6 (.alp [.nils, .nils]),
 zn0 (.stl 6 (.t 6) (.t 47) 2)] [3, 6] [3, 6]))
 (.seq (.reg false [zg0 48 (.off (.t 3) 3),
 zg0 49 (.ld (.t 48) 1 false),
 zg0 50 (.off (.t 6) 0),
 zg0 51 (.ld (.t 50) 1 false),
 zg0 52 (.len (.t 51)),
 zg0 53 (.bin .lss (.t 49) (.t 52)),
 zm0 54 53,
 zt0 55 54 (.ld (.t 6) 2 true),
 zt0 56 54 (.off (.t 3) 3),
 zt0 57 54 (.ld (.t 56) 1 false),
 zt0 58 54 (.call 284 [(.t 55), (.t 57)] false),
 zg0 59 (.pick (.t 54) (.t 58) zF0),
 zm0 4 59] [4] [])
 .ret)))))),
 [.tmp 4], false⟩
def lp133_0 : IC :=
 (.loop [3, 7, 8] [3] (.seq (.reg false [zg0 9 (.bin .lss (.t 8) (zi0 3))] [3, 7, 8, 9] [3])
 (.seq (.cond (.t 9)
 .skip
 (.exit 0))
 (.seq (.block 1 (.seq (.reg false [zm0 10 8,
 zg0 11 (.ixv (.t 7) (.t 8) 1 3 false),
 zm0 5 10,
 zm0 6 11] [3, 5, 6, 7, 8] [3])
 (.seq (.reg false [zm0 12 6,
 zm0 13 5,
 zg0 14 (.ixa (.t 3) (.t 13) 1 3),
 zg0 15 (.ld (.t 14) 1 false),
 zg0 16 (.bin .gtr (.t 12) (.t 15))] [3, 7, 8, 16] [3])
 (.cond (.t 16)
 (.seq (.reg false [zg0 4 (.mov zF0)] [4] [])
 .ret)
 .skip))))
 (.reg false [zg0 17 (.bin .add (.t 8) (zi0 1)),
 zm0 8 17] [3, 7, 8] [3])))))
def ir133 : IFn :=
⟨(.seq (.reg false [zg0 2 (.bx (.t 0) 3 true),
 zg0 3 (.bx (.t 1) 3 true),
 zg0 4 (.mov zF0)] [2, 3] [2, 3])
 (.seq (.seq (.reg false [zg0 7 (.ld (.t 2) 3 true),
 zg0 8 (.mov (zi0 0))] [3, 7, 8] [3])
 (.block 0 lp133_0))
 (.seq (.reg false [zg0 4 (.mov zT0)] [4] [])
 .ret))),
 [.tmp 4], false⟩
def lp134_0 : IC :=
 (.loop [0, 7, 16, 17, 18] [] (.seq (.reg false [zg0 19 (.bin .lss (.t 18) (.t 17))] [0, 7, 16, 17, 18, 19] [])
 (.seq (.cond (.t 19)
 .skip
 (.exit 0))
 (.seq (.block 1 (.seq (.reg false [zg0 20 (.ixs (.t 16) (.t 18) 3),
 zg0 21 (.ld (.t 20) 3 true),
 zg0 9 (.al [zo0, zo0, zo0] true),
 zn0 (.st (.t 9) (.t 21) 3)] [0, 7, 9, 16, 17, 18] [9])
 (.seq (.reg false [zg0 22 (.off (.t 9) 0),
 zg0 23 (.ld (.t 22) 1 false),
 zg0 24 (.bin .geq (.t 23) (zi0 0)),
 zm0 25 24,
 zt0 26 25 (.off (.t 9) 0),
 zt0 27 25 (.ld (.t 26) 1 false),
 zt0 28 25 (.mov (.t 0)),
 zt0 29 25 (.len (.t 28)),
 zt0 30 25 (.bin .lss (.t 27) (.t 29)),
 zg0 31 (.pick (.t 25) (.t 30) zF0)] [0, 7, 9, 16, 17, 18, 31] [9])
 (.cond (.t 31)
 (.reg true [zm0 32 7,
 zm0 33 0,
 zg0 34 (.off (.t 9) 0),
 zg0 35 (.ldl 9 (.t 34) 1 false),
 zg0 36 (.ixs (.t 33) (.t 35) 2),
 zg0 37 (.ld (.t 36) 2 true),
 zg0 38 (.off (.t 9) 1),
 zg0 39 (.ldl 9 (.t 38) 1 false),
 zg0 40 (.off (.t 9) 2),
 zg0 41 (.ldl 9 (.t 40) 1 false),
 zg0 42 (.call 285 [(.t 37), (.t 39), (.t 41)] false),
 zg0 43 (.bin .add (.t 32) (.t 42)),
 zg0 44 (.mnmx false (.t 43) (zi0 1125899906842624)),
 zm0 7 44] [0, 7, 16, 17, 18] [])
 .skip))))
 (.reg false [zg0 45 (.bin .add (.t 18) (zi0 1)),
 zm0 18 45] [0, 7, 16, 17, 18] [])))))
def ir134 : IFn :=
⟨(.seq (.reg false [zg0 6 (.mov (zi0 0))] [0, 1, 2] [])
 (.seq (.seq (.reg false [zm0 10 1,
 zg0 11 (.len (.t 10)),
 zg0 12 (.bin .eql (.t 11) (zi0 0))] [0, 1, 2, 12] [])
 (.cond (.t 12)
 (.seq (.reg false [zg0 6 (.mov (zi0 0))] [6] [])
 .ret)
 .skip))
 (.seq (.reg false [zm0 13 2,
 zg0 14 (.mnmx true (.t 13) (zi0 0)),
 zg0 15 (.mnmx false (.t 14) (zi0 1125899906842624)),
 zm0 7 15] [0, 1, 7] [])
 (.seq (.seq (.reg false [zm0 16 1,
 zg0 17 (.len (.t 16)),
 zg0 18 (.mov (zi0 0))] [0, 7, 16, 17, 18] [])
 (.block 0 lp134_0))
 (.seq (.reg false [zm0 46 7,
 zm0 6 46] [6] [])
 .ret))))),
 [.tmp 6], false⟩
def ir135 : IFn :=
⟨(.seq (.reg false [zg0 3 (.bx (.t 0) 19 true),
 zg0 5 (.bx (.t 2) 2 true),
 zg0 6 (.mov (zi0 0))] [1, 3, 5] [3, 5])
 (.seq (.reg true [zm0 7 1,
 zg0 8 (.off (.t 5) 0),
 zg0 9 (.ldl 5 (.t 8) 1 false),
 zg0 10 (.off (.t 3) 7),
 zg0 11 (.ldl 3 (.t 10) 1 false),
 zg0 12 (.call 107 [(.t 7), (.t 9), (.t 11)] false),
 zm0 13 1,
 zg0 14 (.off (.t 5) 1),
 zg0 15 (.ldl 5 (.t 14) 1 false),
 zg0 16 (.off (.t 3) 7),
 zg0 17 (.ldl 3 (.t 16) 1 false),
 zg0 18 (.call 107 [(.t 13), (.t 15), (.t 17)] false),
 zg0 19 (.bin .add (.t 12) (.t 18)),
 zm0 6 19] [6] [])
 .ret)),
 [.tmp 6], false⟩
def ir136 : IFn :=
⟨(.seq (.reg false [zg0 3 (.bx (.t 0) 19 true),
 zg0 6 (.mov (zi0 0))] [1, 2, 3] [3])
 (.seq (.reg false [zm0 8 1,
 zm0 9 2,
 zg0 10 (.off (.t 3) 7),
 zg0 11 (.ld (.t 10) 1 false),
 zg0 12 (.call 107 [(.t 8), (.t 9), (.t 11)] false),
 zm0 7 12] [3, 7] [3])
 (.seq (.seq (.reg false [zm0 13 7,
 zg0 14 (.bin .eql (.t 13) (zi0 0))] [3, 7, 14] [3])
 (.cond (.t 14)
 (.seq (.reg false [zg0 6 (.mov (zi0 0))] [6] [])
 .ret)
 .skip))
 (.seq (.reg false [zm0 15 7,
 zg0 16 (.off (.t 3) 7),
 zg0 17 (.ld (.t 16) 1 false),
 zg0 18 (.mnmx true (.t 17) (zi0 0)),
 zg0 19 (.mnmx false (.t 18) (zi0 1125899906842624)),
 zg0 20 (.bin .sub (.t 15) (.t 19)),
 zm0 6 20] [6] [])
 .ret)))),
 [.tmp 6], false⟩
def ir137 : IFn :=
⟨(.seq (.reg false [zg0 3 (.bx (.t 1) 6 true),
 zg0 4 (.mov zF0)] [0, 3] [3])
 (.seq (.seq (.reg false [zg0 7 (.off (.t 3) 0),
 zg0 8 (.ld (.t 7) 1 false),
 zg0 9 (.bin .neq (.t 8) (zi0 1))] [0, 3, 9] [3])
 (.cond (.t 9)
 (.seq (.reg false [zg0 4 (.mov zF0)] [4] [])
 .ret)
 .skip))
 (.seq (.prep [5] (.reg true [zm0 11 0,
 zg0 12 (.call 81 [(.t 11)] false),
 zg0 13 (.off (.t 3) 2),
 zg0 14 (.ldl 3 (.t 13) 1 false),
 zg0 15 (.call 286 [(.t 12), (.t 14)] false),
 zm0 10 15,
 zg0 16 (.ext (.t 10) 0),
 zg0 17 (.ext (.t 10) 1),
 zg0 5 (.alp [zo0, zo0, zo0, zo0, zo0, zo0, zo0]),
 zn0 (.stl 5 (.t 5) (.t 16) 7),
 zm0 6 17] [0, 3, 5, 6] [3, 5]))
 (.seq (.reg true [zg0 18 (.off (.t 3) 2),
 zg0 19 (.ldl 3 (.t 18) 1 false),
 zm0 20 0,
 zg0 21 (.call 81 [(.t 20)] false),
 zg0 22 (.call 82 [(.t 21)] false),
 zg0 23 (.bin .eql (.t 19) (.t 22)),
 zm0 24 23,
 zf0 25 24 (.mov (.t 6)),
 zf0 26 24 (.mov (.t 25)),
 zt0 27 26 (.off (.t 3) 2),
 zt0 28 26 (.ldl 3 (.t 27) 1 false),
 zt0 29 26 (.bin .gtr (.t 28) (zi0 0)),
 zf0 30 24 (.pick (.t 26) (.t 29) zF0),
 zf0 31 24 (.mov (.t 30)),
 zt0 32 31 (.ldl 5 (.t 5) 7 true),
 zt0 33 31 (.call 287 [(.t 32)] false),
 zf0 34 24 (.pick (.t 31) (.t 33) zF0),
 zg0 35 (.pick (.t 24) zT0 (.t 34)),
 zm0 4 35] [4] [])
 .ret)))),
 [.tmp 4], false⟩
def ir138 : IFn :=
⟨(.seq (.reg false [zg0 3 (.bx (.t 0) 6 true),
 zg0 6 (.al [zo0, zo0, zo0, zo0, zo0] true)] [1, 2, 3, 6] [3, 6])
 (.seq (.seq (.reg false [zg0 9 (.ld (.t 3) 6 true),
 zm0 10 1,
 zg0 11 (.call 288 [(.t 9), (.t 10)] false),
 zg0 12 (.un .not (.t 11))] [1, 2, 3, 6, 12] [3, 6])
 (.cond (.t 12)
 (.seq (.reg false [zg0 13 (.bld [zo0, zo0, zo0, zo0, zo0] []),
 zn0 (.st (.t 6) (.t 13) 5)] [6] [6])
 .ret)
 .skip))
 (.seq (.reg true [zm0 14 1,
 zg0 15 (.off (.t 3) 0),
 zg0 16 (.ldl 3 (.t 15) 1 false),
 zg0 17 (.bin .sub (.t 14) (.t 16)),
 zg0 18 (.ldl 3 (.t 3) 6 true),
 zg0 19 (.call 289 [(.t 18)] false),
 zm0 7 17,
 zm0 8 19] [2, 3, 6, 7, 8] [3, 6])
 (.seq (.block 0 (.seq (.reg false [zm0 21 7,
 zg0 22 (.bin .eql (.t 21) (zi0 0)),
 zm0 20 22] [2, 3, 6, 7, 8, 20] [3, 6])
 (.cond (.t 20)
 (.seq (.reg false [zg0 23 (.bld [zo0, zo0, zo0, zo0, zo0] []),
 zn0 (.st (.t 6) (.t 23) 5)] [6] [6])
 .ret)
 (.seq (.reg false [zm0 25 7,
 zg0 26 (.bin .gtr (.t 25) (zi0 0)),
 zm0 27 26,
 zt0 28 27 (.mov (.t 8)),
 zt0 29 27 (.off (.t 3) 1),
 zt0 30 27 (.ixa (.t 29) (.t 28) 1 4),
 zt0 31 27 (.ld (.t 30) 1 false),
 zt0 32 27 (.bin .gtr (.t 31) (zi0 0)),
 zg0 33 (.pick (.t 27) (.t 32) zF0),
 zm0 34 33,
 zt0 35 34 (.mov (.t 2)),
 zt0 36 34 (.mov (.t 35)),
 zt0 37 36 (.mov (.t 8)),
 zt0 38 36 (.bin .eql (.t 37) (zi0 0)),
 zt0 39 34 (.pick (.t 36) (.t 38) zF0),
 zt0 40 34 (.un .not (.t 39)),
 zg0 41 (.pick (.t 34) (.t 40) zF0),
 zm0 24 41] [3, 6, 7, 8, 24] [3, 6])
 (.cond (.t 24)
 (.seq (.reg false [zm0 42 8,
 zm0 43 7,
 zm0 44 8,
 zg0 45 (.off (.t 3) 1),
 zg0 46 (.ixa (.t 45) (.t 44) 1 4),
 zg0 47 (.ld (.t 46) 1 false),
 zg0 48 (.bld [zo0, zo0, zo0, zo0, zo0] [(0, 1, (zi0 1)), (1, 1, (.t 42)), (2, 1, (.t 43)), (3, 1, (.t 47))]),
 zn0 (.st (.t 6) (.t 48) 5)] [6] [6])
 .ret)
 (.seq (.reg false [zm0 50 7,
 zg0 51 (.bin .gtr (.t 50) (zi0 0)),
 zm0 49 51] [3, 6, 7, 49] [3, 6])
 (.cond (.t 49)
 (.seq (.reg false [zm0 52 7,
 zg0 53 (.bld [zo0, zo0, zo0, zo0, zo0] [(4, 1, (.t 52))]),
 zn0 (.st (.t 6) (.t 53) 5)] [6] [6])
 .ret)
 (.seq (.reg false [zg0 55 (.off (.t 3) 5),
 zg0 56 (.ld (.t 55) 1 false),
 zm0 57 7,
 zg0 58 (.bin .add (.t 56) (.t 57)),
 zg0 59 (.bin .geq (.t 58) (zi0 0)),
 zm0 54 59] [3, 6, 7, 54] [3, 6])
 (.cond (.t 54)
 (.seq (.reg false [zm0 60 7,
 zg0 61 (.un .neg (.t 60)),
 zg0 62 (.off (.t 3) 5),
 zg0 63 (.ld (.t 62) 1 false),
 zg0 64 (.bld [zo0, zo0, zo0, zo0, zo0] [(0, 1, (zi0 2)), (2, 1, (.t 61)), (3, 1, (.t 63))]),
 zn0 (.st (.t 6) (.t 64) 5)] [6] [6])
 .ret)
 .skip)))))))))
 (.seq (.reg false [zg0 65 (.off (.t 3) 5),
 zg0 66 (.ld (.t 65) 1 false),
 zg0 67 (.off (.t 3) 5),
 zg0 68 (.ld (.t 67) 1 false),
 zg0 69 (.off (.t 3) 5),
 zg0 70 (.ld (.t 69) 1 false),
 zm0 71 7,
 zg0 72 (.bin .add (.t 70) (.t 71)),
 zg0 73 (.bld [zo0, zo0, zo0, zo0, zo0] [(0, 1, (zi0 3)), (2, 1, (.t 66)), (3, 1, (.t 68)), (4, 1, (.t 72))]),
 zn0 (.st (.t 6) (.t 73) 5)] [6] [6])
 .ret))))),
 [.cell 6 5 true], false⟩
def ir139 : IFn :=
⟨(.seq (.reg false [zg0 6 (.al [zo0, zo0, zo0, zo0, zo0, zo0] true)] [0, 1, 2, 6] [6])
 (.seq (.reg false [zm0 11 0,
 zm0 12 1,
 zm0 13 2,
 zg0 14 (.call 236 [(.t 11), (.t 12), (.t 13)] false),
 zm0 10 14,
 zg0 15 (.ext (.t 10) 0),
 zg0 16 (.ext (.t 10) 1),
 zg0 17 (.ext (.t 10) 2),
 zm0 1 15,
 zm0 2 16,
 zm0 7 17] [0, 1, 2, 6, 7] [6])
 (.seq (.seq (.reg false [zm0 18 7,
 zg0 19 (.un .not (.t 18))] [0, 1, 2, 6, 19] [6])
 (.cond (.t 19)
 (.seq (.reg false [zg0 20 (.bld [zo0, zo0, zo0, zo0, zo0, zo0] []),
 zn0 (.st (.t 6) (.t 20) 6)] [6] [6])
 .ret)
 .skip))
 (.seq (.prep [8] (.reg true [zm0 22 0,
 zg0 23 (.nck (.t 22)),
 zg0 24 (.off (.t 23) 1),
 zg0 25 (.ld (.t 24) 1 false),
 zm0 26 2,
 zg0 27 (.ixs (.t 25) (.t 26) 6),
 zg0 28 (.ld (.t 27) 6 true),
 zm0 29 0,
 zg0 30 (.nck (.t 29)),
 zg0 31 (.off (.t 30) 1),
 zg0 32 (.ld (.t 31) 1 false),
 zm0 33 1,
 zg0 34 (.ixs (.t 32) (.t 33) 6),
 zg0 35 (.ld (.t 34) 6 true),
 zg0 36 (.call 290 [(.t 28), (.t 35)] false),
 zm0 21 36,
 zg0 37 (.ext (.t 21) 0),
 zg0 38 (.ext (.t 21) 1),
 zg0 8 (.alp [zo0, zo0, zo0, zo0, zo0, zo0]),
 zn0 (.stl 8 (.t 8) (.t 37) 6),
 zm0 9 38] [6, 8] [6, 8]))
 (.seq (.reg false [zg0 39 (.ld (.t 8) 6 true),
 zn0 (.st (.t 6) (.t 39) 6)] [6] [6])
 .ret))))),
 [.cell 6 6 true], false⟩
def ir175 : IFn :=
⟨(.seq (.reg false [zg0 3 (.bx (.t 1) 2 true)] [0, 3] [3])
 (.seq (.reg false [zm0 4 0,
 zg0 5 (.eqn .ptr true (.t 4))] [0, 3, 5] [3])
 (.cond (.t 5)
 (.reg true [zm0 6 0,
 zm0 7 0,
 zg0 8 (.nck (.t 7)),
 zg0 9 (.off (.t 8) 0),
 zg0 10 (.ld (.t 9) 2 true),
 zg0 11 (.ldl 3 (.t 3) 2 true),
 zg0 12 (.call 86 [(.t 10), (.t 11)] false),
 zg0 13 (.nck (.t 6)),
 zg0 14 (.off (.t 13) 0),
 zn0 (.st (.t 14) (.t 12) 2)] [] [])
 .skip))),
 [], false⟩
def lp188_0 : IC :=
 (.loop [1, 7, 8, 9] [1] (.seq (.reg false [zg0 10 (.bin .lss (.t 9) (.t 8))] [1, 7, 8, 9, 10] [1])
 (.seq (.cond (.t 10)
 .skip
 (.exit 0))
 (.seq (.block 1 (.seq (.reg false [zg0 11 (.ixs (.t 7) (.t 9) 2),
 zg0 12 (.ld (.t 11) 2 true),
 zg0 5 (.al [zo0, .p .nilf] true),
 zn0 (.st (.t 5) (.t 12) 2)] [1, 5, 7, 8, 9] [1, 5])
 (.seq (.reg false [zg0 13 (.off (.t 5) 1),
 zg0 14 (.ld (.t 13) 1 false),
 zg0 15 (.ld (.t 1) 22 true),
 zg0 16 (.callv (.t 14) [(.t 15)] false),
 zm0 6 16] [1, 5, 6, 7, 8, 9] [1, 5])
 (.seq (.reg false [zm0 17 6,
 zg0 18 (.bin .geq (.t 17) (zi0 0))] [1, 5, 6, 7, 8, 9, 18] [1, 5])
 (.cond (.t 18)
 (.seq (.reg false [zg0 19 (.off (.t 5) 0),
 zg0 20 (.ld (.t 19) 1 false),
 zm0 21 6,
 zm0 2 20,
 zm0 3 21] [2, 3] [])
 .ret)
 .skip)))))
 (.reg false [zg0 22 (.bin .add (.t 9) (zi0 1)),
 zm0 9 22] [1, 7, 8, 9] [1])))))
def ir188 : IFn :=
⟨(.seq (.reg false [zg0 1 (.bx (.t 0) 22 true),
 zg0 2 (.mov (zi0 0)),
 zg0 3 (.mov (zi0 0))] [1] [1])
 (.seq (.seq (.reg false [zg0 7 (.call 329 [] false),
 zg0 8 (.len (.t 7)),
 zg0 9 (.mov (zi0 0))] [1, 7, 8, 9] [1])
 (.block 0 lp188_0))
 (.seq (.reg false [zg0 2 (.mov (zi0 0)),
 zg0 3 (.mov (zi0 0))] [2, 3] [])
 .ret))),
 [.tmp 2, .tmp 3], false⟩
def ir189 : IFn :=
⟨(.seq (.reg false [zg0 2 (.mov (.c (.nils)))] [0] [])
 (.seq (.seq (.reg false [zm0 3 0,
 zg0 4 (.eqn .sl false (.t 3))] [0, 4] [])
 (.cond (.t 4)
 (.seq (.reg false [zg0 2 (.mov (.c (.nils)))] [2] [])
 .ret)
 .skip))
 (.seq (.reg false [zg0 5 (.bsl 7 0 [zo0, zo0, zo0, zo0, zo0, zo0, zo0] []),
 zm0 6 0,
 zg0 7 (.app (.t 5) (.t 6) 7),
 zm0 2 7] [2] [])
 .ret))),
 [.tmp 2], true⟩
def ir190 : IFn :=
⟨(.seq (.reg false [zg0 2 (.mov (.c (.nils)))] [0] [])
 (.seq (.seq (.reg false [zm0 3 0,
 zg0 4 (.eqn .sl false (.t 3))] [0, 4] [])
 (.cond (.t 4)
 (.seq (.reg false [zg0 2 (.mov (.c (.nils)))] [2] [])
 .ret)
 .skip))
 (.seq (.reg false [zg0 5 (.bsl 3 0 [zo0, zo0, zo0] []),
 zm0 6 0,
 zg0 7 (.app (.t 5) (.t 6) 3),
 zm0 2 7] [2] [])
 .ret))),
 [.tmp 2], true⟩
def ir191 : IFn :=
⟨(.seq (.reg false [zg0 2 (.mov (.c (.nils)))] [0] [])
 (.seq (.seq (.reg false [zm0 3 0,
 zg0 4 (.eqn .sl false (.t 3))] [0, 4] [])
 (.cond (.t 4)
 (.seq (.reg false [zg0 2 (.mov (.c (.nils)))] [2] [])
 .ret)
 .skip))
 (.seq (.reg false [zg0 5 (.bsl 1 0 [zo0] []),
 zm0 6 0,
 zg0 7 (.app (.t 5) (.t 6) 1),
 zm0 2 7] [2] [])
 .ret))),
 [.tmp 2], true⟩
def ir192 : IFn :=
⟨(.seq (.reg false [zg0 2 (.mov (.c (.nils)))] [0] [])
 (.seq (.seq (.reg false [zm0 3 0,
 zg0 4 (.eqn .sl false (.t 3))] [0, 4] [])
 (.cond (.t 4)
 (.seq (.reg false [zg0 2 (.mov (.c (.nils)))] [2] [])
 .ret)
 .skip))
 (.seq (.reg false [zg0 5 (.bsl 1 0 [zo0] []),
 zm0 6 0,
 zg0 7 (.app (.t 5) (.t 6) 1),
 zm0 2 7] [2] [])
 .ret))),
 [.tmp 2], true⟩
def lp193_0 : IC :=
 (.loop [2, 5, 11, 12] [2] (.seq (.reg false [zg0 13 (.bin .lss (.t 12) (.t 11))] [2, 5, 11, 12, 13] [2])
 (.seq (.cond (.t 13)
 .skip
 (.exit 0))
 (.seq (.block 1 (.seq (.reg false [zm0 14 12,
 zm0 6 14] [2, 5, 6, 11, 12] [2])
 (.seq (.reg false [zm0 15 5,
 zm0 16 6,
 zg0 17 (.ixs (.t 15) (.t 16) 7),
 zm0 7 17] [2, 5, 7, 11, 12] [2])
 (.seq (.reg false [zm0 18 7,
 zg0 19 (.nck (.t 18)),
 zg0 20 (.off (.t 19) 0),
 zg0 21 (.ld (.t 20) 1 false)] [2, 5, 7, 11, 12, 21] [2])
 (.block 2 (.seq (.reg false [zg0 23 (.bin .eql (.t 21) (zi0 1)),
 zm0 22 23] [2, 5, 7, 11, 12, 21, 22] [2])
 (.cond (.t 22)
 (.reg true [zg0 24 (.ldl 2 (.t 2) 1 true),
 zm0 25 7,
 zg0 26 (.nck (.t 25)),
 zg0 27 (.off (.t 26) 1),
 zg0 28 (.bsl 1 1 [.p .nilp] [(0, (.t 27))]),
 zg0 29 (.call 195 [(.t 24), (.c (.p (.fn 197))), (.t 28)] false)] [2, 5, 11, 12] [2])
 (.seq (.reg false [zg0 31 (.bin .eql (.t 21) (zi0 2)),
 zm0 30 31] [2, 5, 7, 11, 12, 30] [2])
 (.cond (.t 30)
 (.seq (.reg true [zg0 32 (.ldl 2 (.t 2) 1 true),
 zm0 33 7,
 zg0 34 (.nck (.t 33)),
 zg0 35 (.off (.t 34) 1),
 zg0 36 (.bsl 1 1 [.p .nilp] [(0, (.t 35))]),
 zg0 37 (.call 195 [(.t 32), (.c (.p (.fn 330))), (.t 36)] false)] [2, 5, 7, 11, 12] [2])
 (.reg false [zm0 38 7,
 zm0 39 7,
 zm0 40 7,
 zg0 41 (.nck (.t 38)),
 zg0 42 (.off (.t 41) 3),
 zn0 (.st (.t 42) (zi0 0) 1),
 zg0 43 (.nck (.t 39)),
 zg0 44 (.off (.t 43) 4),
 zn0 (.st (.t 44) (zi0 0) 1),
 zg0 45 (.nck (.t 40)),
 zg0 46 (.off (.t 45) 5),
 zn0 (.st (.t 46) (zi0 0) 1)] [2, 5, 11, 12] [2]))
 .skip)))))))))
 (.reg false [zg0 47 (.bin .add (.t 12) (zi0 1)),
 zm0 12 47] [2, 5, 11, 12] [2])))))
def ir193 : IFn :=
⟨(.seq (.reg false [zg0 2 (.bx (.t 0) 1 true),
 zg0 4 (.mov (.c (.nils)))] [1, 2] [2])
 (.seq (.reg false [zm0 8 1,
 zg0 9 (.call 189 [(.t 8)] false),
 zm0 5 9] [2, 5] [2])
 (.seq (.seq (.reg false [zm0 10 5,
 zg0 11 (.len (.t 10)),
 zg0 12 (.mov (zi0 0))] [2, 5, 11, 12] [2])
 (.block 0 lp193_0))
 (.seq (.reg false [zm0 48 5,
 zm0 4 48] [4] [])
 .ret)))),
 [.tmp 4], false⟩
def lp194_0 : IC :=
 (.loop [2, 5, 6, 12, 13, 14, 34, 35] [2] (.seq (.reg false [zg0 36 (.bin .lss (.t 35) (.t 34))] [2, 5, 6, 12, 13, 14, 34, 35, 36] [2])
 (.seq (.cond (.t 36)
 .skip
 (.exit 2))
 (.seq (.block 3 (.seq (.reg false [zm0 37 35,
 zm0 8 37] [2, 5, 6, 8, 12, 13, 14, 34, 35] [2])
 (.reg true [zg0 38 (.ldl 2 (.t 2) 1 true),
 zm0 39 5,
 zm0 40 6,
 zg0 41 (.ixs (.t 39) (.t 40) 2),
 zg0 42 (.off (.t 41) 0),
 zg0 43 (.ld (.t 42) 1 false),
 zm0 44 8,
 zg0 45 (.ixs (.t 43) (.t 44) 1),
 zg0 46 (.bsl 1 1 [.p .nilp] [(0, (.t 45))]),
 zg0 47 (.call 195 [(.t 38), (.c (.p (.fn 197))), (.t 46)] false)] [2, 5, 6, 12, 13, 14, 34, 35] [2])))
 (.reg false [zg0 48 (.bin .add (.t 35) (zi0 1)),
 zm0 35 48] [2, 5, 6, 12, 13, 14, 34, 35] [2])))))
def lp194_1 : IC :=
 (.loop [2, 5, 12, 13, 14] [2] (.seq (.reg false [zg0 15 (.bin .lss (.t 14) (.t 13))] [2, 5, 12, 13, 14, 15] [2])
 (.seq (.cond (.t 15)
 .skip
 (.exit 0))
 (.seq (.block 1 (.seq (.reg false [zm0 16 14,
 zg0 17 (.ixs (.t 12) (.t 14) 2),
 zg0 18 (.ld (.t 17) 2 true),
 zg0 7 (.al [.nils, .nils] true),
 zm0 6 16,
 zn0 (.st (.t 7) (.t 18) 2)] [2, 5, 6, 7, 12, 13, 14] [2, 7])
 (.seq (.reg true [zm0 19 5,
 zm0 20 6,
 zg0 21 (.off (.t 7) 0),
 zg0 22 (.ldl 7 (.t 21) 1 false),
 zg0 23 (.call 191 [(.t 22)] false),
 zg0 24 (.off (.t 7) 1),
 zg0 25 (.ldl 7 (.t 24) 1 false),
 zg0 26 (.call 192 [(.t 25)] false),
 zg0 27 (.bld [.nils, .nils] [(0, 1, (.t 23)), (1, 1, (.t 26))]),
 zg0 28 (.ixs (.t 19) (.t 20) 2),
 zn0 (.st (.t 28) (.t 27) 2)] [2, 5, 6, 12, 13, 14] [2])
 (.seq (.reg false [zm0 29 5,
 zm0 30 6,
 zg0 31 (.ixs (.t 29) (.t 30) 2),
 zg0 32 (.off (.t 31) 0),
 zg0 33 (.ld (.t 32) 1 false),
 zg0 34 (.len (.t 33)),
 zg0 35 (.mov (zi0 0))] [2, 5, 6, 12, 13, 14, 34, 35] [2])
 (.block 2 lp194_0)))))
 (.reg false [zg0 49 (.bin .add (.t 14) (zi0 1)),
 zm0 14 49] [2, 5, 12, 13, 14] [2])))))
def ir194 : IFn :=
⟨(.seq (.reg false [zg0 2 (.bx (.t 0) 1 true),
 zg0 4 (.mov (.c (.nils)))] [1, 2] [2])
 (.seq (.reg false [zm0 9 1,
 zg0 10 (.len (.t 9)),
 zg0 11 (.mks 2 [.nils, .nils] (.t 10)),
 zm0 5 11] [1, 2, 5] [2])
 (.seq (.seq (.reg false [zm0 12 1,
 zg0 13 (.len (.t 12)),
 zg0 14 (.mov (zi0 0))] [2, 5, 12, 13, 14] [2])
 (.block 0 lp194_1))
 (.seq (.reg false [zm0 50 5,
 zm0 4 50] [4] [])
 .ret)))),
 [.tmp 4], false⟩
def lp195_0 : IC :=
 (.loop [1, 3, 8, 9, 10] [3] (.seq (.reg false [zg0 11 (.bin .lss (.t 10) (.t 9))] [1, 3, 8, 9, 10, 11] [3])
 (.seq (.cond (.t 11)
 .skip
 (.exit 0))
 (.seq (.block 1 (.seq (.reg false [zg0 12 (.ixs (.t 8) (.t 10) 1),
 zg0 13 (.ld (.t 12) 1 false),
 zm0 7 13] [1, 3, 7, 8, 9, 10] [3])
 (.reg true [zm0 14 7,
 zm0 15 1,
 zm0 16 7,
 zg0 17 (.nck (.t 16)),
 zg0 18 (.ld (.t 17) 1 false),
 zg0 19 (.off (.t 3) 0),
 zg0 20 (.ldl 3 (.t 19) 1 false),
 zg0 21 (.callv (.t 15) [(.t 18), (.t 20)] false),
 zg0 22 (.nck (.t 14)),
 zn0 (.st (.t 22) (.t 21) 1)] [1, 3, 8, 9, 10] [3])))
 (.reg false [zg0 23 (.bin .add (.t 10) (zi0 1)),
 zm0 10 23] [1, 3, 8, 9, 10] [3])))))
def ir195 : IFn :=
⟨(.seq (.reg false [zg0 3 (.bx (.t 0) 1 true)] [1, 2, 3] [3])
 (.seq (.reg false [zm0 8 2,
 zg0 9 (.len (.t 8)),
 zg0 10 (.mov (zi0 0))] [1, 3, 8, 9, 10] [3])
 (.block 0 lp195_0))),
 [], false⟩
def ir196 : IFn :=
⟨(.seq (.reg false [zg0 4 (.mov (zi0 0))] [0, 1] [])
 (.seq (.reg false [zm0 5 0,
 zm0 6 1,
 zg0 7 (.call 331 [(.t 5), (.t 6), (.c (.p (.fn 332)))] false),
 zm0 4 7] [4] [])
 .ret)),
 [.tmp 4], false⟩
def ir197 : IFn :=
⟨(.seq (.reg false [zg0 4 (.mov (zi0 0))] [0, 1] [])
 (.seq (.reg false [zm0 5 0,
 zm0 6 1,
 zg0 7 (.call 331 [(.t 5), (.t 6), (.c (.p (.fn 333)))] false),
 zm0 4 7] [4] [])
 .ret)),
 [.tmp 4], false⟩
def ir198 : IFn :=
⟨(.seq (.reg false [zg0 1 (.bx (.t 0) 7 true),
 zg0 2 (.al [zo0, zo0, zo0, zo0, zo0, zo0] true)] [1, 2] [1, 2])
 (.seq (.seq (.reg false [zg0 3 (.off (.t 1) 0),
 zg0 4 (.ld (.t 3) 1 false)] [1, 2, 4] [1, 2])
 (.block 0 (.seq (.reg false [zg0 6 (.bin .eql (.t 4) (zi0 1)),
 zm0 5 6] [1, 2, 4, 5] [1, 2])
 (.cond (.t 5)
 (.seq (.reg false [zg0 7 (.off (.t 1) 1),
 zg0 8 (.ld (.t 7) 1 false),
 zg0 9 (.call 334 [(.t 8)] false),
 zn0 (.st (.t 2) (.t 9) 6)] [2] [2])
 .ret)
 (.seq (.reg false [zg0 11 (.bin .eql (.t 4) (zi0 2)),
 zm0 10 11] [1, 2, 10] [1, 2])
 (.cond (.t 10)
 (.seq (.reg false [zg0 12 (.off (.t 1) 1),
 zg0 13 (.ld (.t 12) 1 false),
 zg0 14 (.off (.t 1) 3),
 zg0 15 (.ld (.t 14) 1 false),
 zg0 16 (.off (.t 1) 4),
 zg0 17 (.ld (.t 16) 1 false),
 zg0 18 (.off (.t 1) 5),
 zg0 19 (.ld (.t 18) 1 false),
 zg0 20 (.call 335 [(.t 13), (.t 15), (.t 17), (.t 19)] false),
 zn0 (.st (.t 2) (.t 20) 6)] [2] [2])
 .ret)
 .skip))))))
 (.seq (.reg false [zg0 21 (.bld [zo0, zo0, zo0, zo0, zo0, zo0] []),
 zn0 (.st (.t 2) (.t 21) 6)] [2] [2])
 .ret))),
 [.cell 2 6 true], false⟩
def lp199_0 : IC :=
 (.loop [1, 3, 5] [1] (.seq (.reg false [zg0 6 (.bin .lss (.t 5) (zi0 4))] [1, 3, 5, 6] [1])
 (.seq (.cond (.t 6)
 .skip
 (.exit 0))
 (.seq (.block 1 (.seq (.reg false [zm0 7 5,
 zm0 4 7] [1, 3, 4, 5] [1])
 (.seq (.reg false [zm0 8 3,
 zm0 9 4,
 zg0 10 (.off (.t 1) 1),
 zg0 11 (.ixa (.t 10) (.t 9) 1 4),
 zg0 12 (.ld (.t 11) 1 false),
 zg0 13 (.callv (.t 8) [(.t 12)] false),
 zg0 14 (.un .not (.t 13))] [1, 3, 5, 14] [1])
 (.cond (.t 14)
 (.seq (.reg false [zg0 2 (.mov zF0)] [2] [])
 .ret)
 .skip))))
 (.reg false [zg0 15 (.bin .add (.t 5) (zi0 1)),
 zm0 5 15] [1, 3, 5] [1])))))
def ir199 : IFn :=
⟨(.seq (.reg false [zg0 1 (.bx (.t 0) 6 true),
 zg0 2 (.mov zF0)] [1] [1])
 (.seq (.reg false [zg0 3 (.mov (.c (.p (.fn 336))))] [1, 3] [1])
 (.seq (.seq (.reg false [zg0 5 (.mov (zi0 0))] [1, 3, 5] [1])
 (.block 0 lp199_0))
 (.seq (.reg false [zm0 16 3,
 zg0 17 (.off (.t 1) 0),
 zg0 18 (.ld (.t 17) 1 false),
 zg0 19 (.callv (.t 16) [(.t 18)] false),
 zm0 20 19,
 zt0 21 20 (.mov (.t 3)),
 zt0 22 20 (.off (.t 1) 5),
 zt0 23 20 (.ld (.t 22) 1 false),
 zt0 24 20 (.callv (.t 21) [(.t 23)] false),
 zg0 25 (.pick (.t 20) (.t 24) zF0),
 zm0 2 25] [2] [])
 .ret)))),
 [.tmp 2], false⟩
def ir200 : IFn :=
⟨(.seq (.reg false [zg0 2 (.bx (.t 0) 6 true),
 zg0 3 (.bx (.t 1) 6 true),
 zg0 4 (.al [zo0, zo0, zo0, zo0, zo0, zo0] true),
 zg0 5 (.mov zF0)] [2, 3, 4] [2, 3, 4])
 (.seq (.reg false [zg0 6 (.ld (.t 2) 6 true),
 zg0 7 (.ld (.t 3) 6 true),
 zg0 8 (.call 337 [(.t 6), (.t 7), (.c (.p (.fn 338)))] false),
 zg0 9 (.ext (.t 8) 0),
 zg0 10 (.ext (.t 8) 1),
 zn0 (.st (.t 4) (.t 9) 6),
 zm0 5 10] [4, 5] [4])
 .ret)),
 [.cell 4 6 true, .tmp 5], false⟩
def ir201 : IFn :=
⟨(.seq (.reg false [zg0 4 (.al [zo0, zo0, zo0] true),
 zg0 5 (.mov zF0)] [0, 1, 4] [4])
 (.seq (.seq (.reg false [zm0 6 1,
 zg0 7 (.bin .lss (.t 6) (zi0 0)),
 zm0 8 7,
 zf0 9 8 (.mov (.t 1)),
 zf0 10 8 (.mov (.t 0)),
 zf0 11 8 (.len (.t 10)),
 zf0 12 8 (.bin .geq (.t 9) (.t 11)),
 zg0 13 (.pick (.t 8) zT0 (.t 12))] [0, 1, 4, 13] [4])
 (.cond (.t 13)
 (.seq (.reg false [zg0 14 (.bld [zo0, zo0, zo0] []),
 zn0 (.st (.t 4) (.t 14) 3),
 zg0 5 (.mov zF0)] [4, 5] [4])
 .ret)
 .skip))
 (.seq (.reg false [zm0 15 0,
 zm0 16 1,
 zg0 17 (.ixs (.t 15) (.t 16) 3),
 zg0 18 (.ld (.t 17) 3 true),
 zn0 (.st (.t 4) (.t 18) 3),
 zg0 5 (.mov zT0)] [4, 5] [4])
 .ret))),
 [.cell 4 3 true, .tmp 5], false⟩
def ir202 : IFn :=
⟨(.seq (.reg false [zg0 4 (.mov (zi0 0)),
 zg0 5 (.mov zF0)] [0, 1] [])
 (.seq (.seq (.reg false [zm0 6 0,
 zg0 7 (.eqn .ptr false (.t 6))] [0, 1, 7] [])
 (.cond (.t 7)
 (.seq (.reg false [zg0 4 (.mov (zi0 0)),
 zg0 5 (.mov zF0)] [4, 5] [])
 .ret)
 .skip))
 (.seq (.reg false [zm0 8 1,
 zg0 9 (.mnmx true (.t 8) (zi0 0)),
 zm0 10 0,
 zg0 11 (.nck (.t 10)),
 zg0 12 (.off (.t 11) 0),
 zg0 13 (.ld (.t 12) 1 false),
 zg0 14 (.len (.t 13)),
 zg0 15 (.mnmx false (.t 9) (.t 14)),
 zm0 4 15,
 zg0 5 (.mov zT0)] [4, 5] [])
 .ret))),
 [.tmp 4, .tmp 5], false⟩
def ir211 : IFn :=
⟨(.seq (.reg false [zg0 2 (.mov (.c (.p .nilp)))] [0] [])
 (.seq (.seq (.reg false [zm0 3 0,
 zg0 4 (.eqn .ptr false (.t 3))] [0, 4] [])
 (.cond (.t 4)
 (.seq (.reg false [zg0 2 (.mov (.c (.p .nilp)))] [2] [])
 .ret)
 .skip))
 (.seq (.reg false [zm0 5 0,
 zg0 6 (.nck (.t 5)),
 zg0 7 (.off (.t 6) 0),
 zg0 8 (.ld (.t 7) 1 false),
 zm0 2 8] [2] [])
 .ret))),
 [.tmp 2], false⟩
def ir212 : IFn :=
⟨(.seq (.reg false [zg0 2 (.mov (.c (.p .nilp)))] [0] [])
 (.seq (.seq (.reg false [zm0 3 0,
 zg0 4 (.eqn .ptr false (.t 3))] [0, 4] [])
 (.cond (.t 4)
 (.seq (.reg false [zg0 2 (.mov (.c (.p .nilp)))] [2] [])
 .ret)
 .skip))
 (.seq (.reg false [zm0 5 0,
 zg0 6 (.nck (.t 5)),
 zg0 7 (.off (.t 6) 0),
 zg0 8 (.ld (.t 7) 1 false),
 zm0 2 8] [2] [])
 .ret))),
 [.tmp 2], false⟩
def ir213 : IFn :=
⟨(.seq (.reg false [zg0 4 (.mov (zi0 0))] [0, 1] [])
 (.seq (.seq (.reg false [zm0 5 1,
 zm0 6 0,
 zg0 7 (.call 82 [(.t 6)] false),
 zg0 8 (.bin .geq (.t 5) (.t 7))] [0, 1, 8] [])
 (.cond (.t 8)
 (.seq (.reg false [zg0 4 (.mov (zi0 (-1)))] [4] [])
 .ret)
 .skip))
 (.seq (.reg false [zm0 9 0,
 zm0 10 1,
 zg0 11 (.mnmx true (.t 10) (zi0 0)),
 zg0 12 (.bin .add (.t 11) (zi0 1)),
 zm0 13 0,
 zg0 14 (.mkf (.func 344) [(.t 13)] []),
 zg0 15 (.call 217 [(.t 9), (.t 12), (.t 14)] false),
 zm0 4 15] [4] [])
 .ret))),
 [.tmp 4], false⟩
def ir214 : IFn :=
⟨(.seq (.reg false [zg0 4 (.mov (zi0 0))] [0, 1] [])
 (.seq (.seq (.reg false [zm0 5 1,
 zm0 6 0,
 zg0 7 (.call 82 [(.t 6)] false),
 zg0 8 (.bin .geq (.t 5) (.t 7))] [0, 1, 8] [])
 (.cond (.t 8)
 (.seq (.reg false [zg0 4 (.mov (zi0 (-1)))] [4] [])
 .ret)
 .skip))
 (.seq (.reg false [zm0 9 0,
 zm0 10 1,
 zg0 11 (.mnmx true (.t 10) (zi0 0)),
 zg0 12 (.bin .add (.t 11) (zi0 1)),
 zm0 13 0,
 zg0 14 (.mkf (.func 316) [(.t 13)] []),
 zg0 15 (.call 217 [(.t 9), (.t 12), (.t 14)] false),
 zm0 4 15] [4] [])
 .ret))),
 [.tmp 4], false⟩
def ir215 : IFn :=
⟨(.seq (.reg false [zg0 4 (.mov (zi0 0))] [0, 1] [])
 (.seq (.reg false [zg0 5 (.mov (.c (.p (.fn 345))))] [0, 1, 5] [])
 (.seq (.reg false [zm0 6 5,
 zm0 7 5,
 zm0 8 0,
 zg0 9 (.callv (.t 7) [(.t 8)] false),
 zm0 10 5,
 zm0 11 1,
 zg0 12 (.callv (.t 10) [(.t 11)] false),
 zg0 13 (.bin .add (.t 9) (.t 12)),
 zg0 14 (.callv (.t 6) [(.t 13)] false),
 zm0 4 14] [4] [])
 .ret))),
 [.tmp 4], false⟩
def ir216 : IFn :=
⟨(.seq (.reg false [zg0 4 (.mov (zi0 0))] [0, 1] [])
 (.seq (.reg false [zg0 5 (.mov (.c (.p (.fn 346))))] [0, 1, 5] [])
 (.seq (.reg false [zm0 6 5,
 zm0 7 5,
 zm0 8 0,
 zg0 9 (.callv (.t 7) [(.t 8)] false),
 zm0 10 5,
 zm0 11 1,
 zg0 12 (.callv (.t 10) [(.t 11)] false),
 zg0 13 (.bin .add (.t 9) (.t 12)),
 zg0 14 (.callv (.t 6) [(.t 13)] false),
 zm0 4 14] [4] [])
 .ret))),
 [.tmp 4], false⟩
def lp217_0 : IC :=
 (.loop [0, 2, 7] [] (.seq (.seq (.reg false [zm0 9 7,
 zm0 10 0,
 zg0 11 (.call 82 [(.t 10)] false),
 zg0 12 (.bin .leq (.t 9) (.t 11))] [0, 2, 7, 12] [])
 (.cond (.t 12)
 .skip
 (.exit 0)))
 (.seq (.block 1 (.seq (.reg false [zm0 15 2,
 zm0 16 7,
 zg0 17 (.callv (.t 15) [(.t 16)] false)] [0, 2, 7, 17] [])
 (.cond (.t 17)
 (.seq (.reg false [zm0 18 7,
 zm0 6 18] [6] [])
 .ret)
 .skip)))
 (.reg false [zm0 13 7,
 zg0 14 (.bin .add (.t 13) (zi0 1)),
 zm0 7 14] [0, 2, 7] []))))
def ir217 : IFn :=
⟨(.seq (.reg false [zg0 6 (.mov (zi0 0))] [0, 1, 2] [])
 (.seq (.seq (.reg false [zm0 8 1,
 zm0 7 8] [0, 2, 7] [])
 (.block 0 lp217_0))
 (.seq (.reg false [zg0 6 (.mov (zi0 (-1)))] [6] [])
 .ret))),
 [.tmp 6], false⟩
def ir218 : IFn :=
⟨(.seq (.reg false [zg0 4 (.mov zF0)] [0, 1] [])
 (.seq (.reg false [zm0 8 0,
 zm0 9 1,
 zg0 10 (.call 286 [(.t 8), (.t 9)] false),
 zm0 7 10,
 zg0 11 (.ext (.t 7) 0),
 zg0 12 (.ext (.t 7) 1),
 zg0 5 (.al [zo0, zo0, zo0, zo0, zo0, zo0, zo0] true),
 zn0 (.st (.t 5) (.t 11) 7),
 zm0 6 12] [5, 6] [5])
 (.seq (.reg false [zm0 13 6,
 zg0 14 (.un .not (.t 13)),
 zm0 15 14,
 zf0 16 15 (.ld (.t 5) 7 true),
 zf0 17 15 (.call 347 [(.t 16)] false),
 zf0 18 15 (.un .not (.t 17)),
 zg0 19 (.pick (.t 15) zT0 (.t 18)),
 zm0 4 19] [4] [])
 .ret))),
 [.tmp 4], false⟩
def lp221_0 : IC :=
 (.loop [0, 1, 7, 8] [] (.seq (.reg false [zg0 9 (.bin .lss (.t 8) (.t 7))] [0, 1, 7, 8, 9] [])
 (.seq (.cond (.t 9)
 .skip
 (.exit 0))
 (.seq (.block 1 (.seq (.reg false [zm0 10 8,
 zm0 5 10] [0, 1, 5, 7, 8] [])
 (.seq (.reg false [zm0 11 1,
 zm0 12 0,
 zm0 13 5,
 zg0 14 (.ixs (.t 12) (.t 13) 1),
 zg0 15 (.ld (.t 14) 1 false),
 zg0 16 (.bin .eql (.t 11) (.t 15))] [0, 1, 5, 7, 8, 16] [])
 (.cond (.t 16)
 (.seq (.reg false [zm0 17 5,
 zm0 4 17] [4] [])
 .ret)
 .skip))))
 (.reg false [zg0 18 (.bin .add (.t 8) (zi0 1)),
 zm0 8 18] [0, 1, 7, 8] [])))))
def ir221 : IFn :=
⟨(.seq (.reg false [zg0 4 (.mov (zi0 0))] [0, 1] [])
 (.seq (.seq (.reg false [zm0 6 0,
 zg0 7 (.len (.t 6)),
 zg0 8 (.mov (zi0 0))] [0, 1, 7, 8] [])
 (.block 0 lp221_0))
 (.seq (.reg false [zg0 4 (.mov (zi0 (-1)))] [4] [])
 .ret))),
 [.tmp 4], false⟩
def ir231 : IFn :=
⟨(.seq (.reg false [zg0 2 (.mov zF0)] [0] [])
 (.seq (.reg false [zm0 3 0,
 zg0 4 (.bin .geq (.t 3) (zi0 0)),
 zm0 5 4,
 zt0 6 5 (.mov (.t 0)),
 zt0 7 5 (.bin .leq (.t 6) (zi0 1125899906842624)),
 zg0 8 (.pick (.t 5) (.t 7) zF0),
 zm0 2 8] [2] [])
 .ret)),
 [.tmp 2], false⟩
def lp232_0 : IC :=
 (.loop [1, 6, 7] [1] (.seq (.reg false [zg0 8 (.bin .lss (.t 7) (zi0 4))] [1, 6, 7, 8] [1])
 (.seq (.cond (.t 8)
 .skip
 (.exit 0))
 (.seq (.block 1 (.seq (.reg false [zg0 9 (.ixv (.t 6) (.t 7) 1 4 false),
 zm0 4 9] [1, 4, 6, 7] [1])
 (.seq (.reg false [zm0 10 4,
 zg0 11 (.call 231 [(.t 10)] false),
 zg0 12 (.un .not (.t 11))] [1, 6, 7, 12] [1])
 (.cond (.t 12)
 (.seq (.reg false [zg0 2 (.mov zF0)] [2] [])
 .ret)
 .skip))))
 (.reg false [zg0 13 (.bin .add (.t 7) (zi0 1)),
 zm0 7 13] [1, 6, 7] [1])))))
def ir232 : IFn :=
⟨(.seq (.reg false [zg0 1 (.bx (.t 0) 6 true),
 zg0 2 (.mov zF0)] [1] [1])
 (.seq (.seq (.reg false [zg0 5 (.off (.t 1) 1),
 zg0 6 (.ld (.t 5) 4 true),
 zg0 7 (.mov (zi0 0))] [1, 6, 7] [1])
 (.block 0 lp232_0))
 (.seq (.reg false [zg0 14 (.off (.t 1) 0),
 zg0 15 (.ld (.t 14) 1 false),
 zg0 16 (.call 231 [(.t 15)] false),
 zm0 17 16,
 zt0 18 17 (.off (.t 1) 5),
 zt0 19 17 (.ld (.t 18) 1 false),
 zt0 20 17 (.call 231 [(.t 19)] false),
 zg0 21 (.pick (.t 17) (.t 20) zF0),
 zm0 2 21] [2] [])
 .ret))),
 [.tmp 2], false⟩
def ir235 : IFn :=
⟨(.seq (.reg false [zg0 2 (.mov (.c (.p .nilp)))] [0] [])
 (.seq (.seq (.reg false [zm0 3 0,
 zg0 4 (.eqn .ptr false (.t 3))] [0, 4] [])
 (.cond (.t 4)
 (.seq (.reg false [zg0 2 (.mov (.c (.p .nilp)))] [2] [])
 .ret)
 .skip))
 (.seq (.reg false [zm0 5 0,
 zg0 6 (.nck (.t 5)),
 zg0 7 (.off (.t 6) 1),
 zg0 8 (.ld (.t 7) 1 false),
 zm0 2 8] [2] [])
 .ret))),
 [.tmp 2], false⟩
def ir236 : IFn :=
⟨(.seq (.reg false [zg0 6 (.mov (zi0 0)),
 zg0 7 (.mov (zi0 0)),
 zg0 8 (.mov zF0)] [0, 1, 2] [])
 (.seq (.reg false [zm0 9 1,
 zg0 10 (.mnmx true (.t 9) (zi0 0)),
 zm0 11 2,
 zm0 12 0,
 zg0 13 (.call 359 [(.t 12)] false),
 zg0 14 (.mnmx false (.t 11) (.t 13)),
 zm0 1 10,
 zm0 2 14] [1, 2] [])
 (.seq (.reg false [zm0 15 1,
 zm0 16 2,
 zm0 17 1,
 zm0 18 2,
 zg0 19 (.bin .lss (.t 17) (.t 18)),
 zm0 6 15,
 zm0 7 16,
 zm0 8 19] [6, 7, 8] [])
 .ret))),
 [.tmp 6, .tmp 7, .tmp 8], false⟩
def ir237 : IFn :=
⟨(.seq (.reg false [zg0 2 (.mov (zi0 0))] [0] [])
 (.seq (.reg false [zm0 3 0,
 zg0 4 (.mnmx true (.t 3) (zi0 0)),
 zg0 5 (.mnmx false (.t 4) (zi0 1125899906842624)),
 zm0 2 5] [2] [])
 .ret)),
 [.tmp 2], false⟩
def ir248 : IFn :=
⟨(.seq (.reg false [zg0 3 (.bx (.t 1) 7 true),
 zg0 4 (.mov zF0)] [0, 3] [3])
 (.seq (.reg false [zm0 5 0,
 zg0 6 (.ld (.t 3) 7 true),
 zg0 7 (.call 38 [(.t 5), (.t 6)] false),
 zm0 8 7,
 zt0 9 8 (.mov (.t 0)),
 zt0 10 8 (.ld (.t 3) 7 true),
 zt0 11 8 (.call 31 [(.t 9), (.t 10)] false),
 zt0 12 8 (.un .not (.t 11)),
 zg0 13 (.pick (.t 8) (.t 12) zF0),
 zm0 4 13] [4] [])
 .ret)),
 [.tmp 4], false⟩
def ir249 : IFn :=
⟨(.seq (.reg false [zg0 3 (.bx (.t 1) 7 true),
 zg0 4 (.mov zF0)] [0, 3] [3])
 (.seq (.reg true [zm0 5 0,
 zg0 6 (.ldl 3 (.t 3) 7 true),
 zg0 7 (.call 38 [(.t 5), (.t 6)] false),
 zm0 8 7,
 zt0 9 8 (.mov (.t 0)),
 zt0 10 8 (.nck (.t 9)),
 zt0 11 8 (.off (.t 10) 0),
 zt0 12 8 (.ld (.t 11) 1 false),
 zt0 13 8 (.nck (.t 12)),
 zt0 14 8 (.off (.t 13) 2),
 zt0 15 8 (.ld (.t 14) 1 false),
 zt0 16 8 (.off (.t 3) 0),
 zt0 17 8 (.ldl 3 (.t 16) 1 false),
 zt0 18 8 (.call 253 [(.t 15), (.t 17)] false),
 zt0 19 8 (.off (.t 3) 4),
 zt0 20 8 (.ldl 3 (.t 19) 3 true),
 zt0 21 8 (.call 133 [(.t 18), (.t 20)] false),
 zg0 22 (.pick (.t 8) (.t 21) zF0),
 zm0 4 22] [4] [])
 .ret)),
 [.tmp 4], false⟩
end Go.EnvOf
