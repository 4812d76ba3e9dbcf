/- The engine's instructions for the functions, part 0. -/
import Derived.Test.YtddnebpblclpfaaGreatEngAll2
namespace Go.EnvOf
open Go Go.Eng
set_option maxRecDepth 100000
abbrev zm0 (d n : Nat) : GIns := ⟨some d, none, .mov (.t n)⟩
abbrev zT0 : Arg := .c (.p (.bool true))
abbrev zF0 : Arg := .c (.p (.bool false))
abbrev zg0 (d : Nat) (i : Ins) : GIns := ⟨some d, none, i⟩
abbrev zf0 (d k : Nat) (i : Ins) : GIns := ⟨some d, some (k, false), i⟩
abbrev zt0 (d k : Nat) (i : Ins) : GIns := ⟨some d, some (k, true), i⟩
abbrev zn0 (i : Ins) : GIns := ⟨none, none, i⟩
abbrev zi0 (n : Int) : Arg := .c (.p (.int .i64 n))
abbrev zo0 : V := .p (.int .i64 0)
def lp9_0 : IC :=
 (.loop [0, 2, 4, 7] [4] (.seq (.seq (.reg false [zm0 21 7,
 zm0 22 0,
 zg0 23 (.len (.t 22)),
 zg0 24 (.bin .lss (.t 21) (.t 23))] [0, 2, 4, 7, 24] [4])
 (.cond (.t 24)
 .skip
 (.exit 0)))
 (.seq (.block 1 (.seq (.reg false [zm0 27 0,
 zm0 28 7,
 zg0 29 (.ixs (.t 27) (.t 28) 7),
 zg0 30 (.off (.t 29) 1),
 zg0 31 (.ld (.t 30) 1 false),
 zg0 32 (.bin .lss (.t 31) (zi0 (-1099511627776))),
 zm0 33 32,
 zf0 34 33 (.mov (.t 0)),
 zf0 35 33 (.mov (.t 7)),
 zf0 36 33 (.ixs (.t 34) (.t 35) 7),
 zf0 37 33 (.off (.t 36) 1),
 zf0 38 33 (.ld (.t 37) 1 false),
 zf0 39 33 (.bin .gtr (.t 38) (zi0 1099511627776)),
 zg0 40 (.pick (.t 33) zT0 (.t 39))] [0, 2, 4, 7, 40] [4])
 (.cond (.t 40)
 (.seq (.reg false [zg0 41 (.call 44 [] false),
 zm0 6 41] [6] [])
 .ret)
 .skip)))
 (.reg false [zm0 25 7,
 zg0 26 (.bin .add (.t 25) (zi0 1)),
 zm0 7 26] [0, 2, 4, 7] [4]))))
def lp9_1 : IC :=
 (.loop [0, 2, 4, 8] [4] (.seq (.seq (.reg false [zm0 42 8,
 zm0 43 2,
 zg0 44 (.len (.t 43)),
 zg0 45 (.bin .lss (.t 42) (.t 44))] [0, 2, 4, 8, 45] [4])
 (.cond (.t 45)
 .skip
 (.exit 2)))
 (.seq (.block 3 (.seq (.reg false [zm0 48 2,
 zm0 49 8,
 zg0 50 (.ixs (.t 48) (.t 49) 1),
 zg0 51 (.ld (.t 50) 1 false),
 zg0 52 (.bin .lss (.t 51) (zi0 (-1099511627776))),
 zm0 53 52,
 zf0 54 53 (.mov (.t 2)),
 zf0 55 53 (.mov (.t 8)),
 zf0 56 53 (.ixs (.t 54) (.t 55) 1),
 zf0 57 53 (.ld (.t 56) 1 false),
 zf0 58 53 (.bin .gtr (.t 57) (zi0 1099511627776)),
 zg0 59 (.pick (.t 53) zT0 (.t 58))] [0, 2, 4, 8, 59] [4])
 (.cond (.t 59)
 (.seq (.reg false [zg0 60 (.call 44 [] false),
 zm0 6 60] [6] [])
 .ret)
 .skip)))
 (.reg false [zm0 46 8,
 zg0 47 (.bin .add (.t 46) (zi0 1)),
 zm0 8 47] [0, 2, 4, 8] [4]))))
def ir9 : IFn :=   -- tympan/tympanlaw37.PlaceText
⟨(.seq (.reg false [zg0 4 (.bx (.t 1) 2 true),
 zg0 6 (.mov zF0)] [0, 2, 4] [4])
 (.seq (.seq (.reg false [zm0 12 0,
 zg0 13 (.len (.t 12)),
 zg0 14 (.bin .gtr (.t 13) (zi0 100)),
 zm0 15 14,
 zf0 16 15 (.mov (.t 2)),
 zf0 17 15 (.len (.t 16)),
 zf0 18 15 (.bin .gtr (.t 17) (zi0 100)),
 zg0 19 (.pick (.t 15) zT0 (.t 18))] [0, 2, 4, 19] [4])
 (.cond (.t 19)
 (.seq (.reg false [zg0 20 (.call 44 [] false),
 zm0 6 20] [6] [])
 .ret)
 .skip))
 (.seq (.seq (.reg false [zg0 7 (.mov (zi0 0))] [0, 2, 4, 7] [4])
 (.block 0 lp9_0))
 (.seq (.seq (.reg false [zg0 8 (.mov (zi0 0))] [0, 2, 4, 8] [4])
 (.block 2 lp9_1))
 (.seq (.reg false [zm0 62 0,
 zg0 63 (.ixa (.t 4) (zi0 0) 1 2),
 zg0 64 (.ld (.t 63) 1 false),
 zg0 65 (.ixa (.t 4) (zi0 1) 1 2),
 zg0 66 (.ld (.t 65) 1 false),
 zm0 67 2,
 zg0 68 (.call 48 [(.t 62), (.t 64), (.t 66), (zi0 7), (.t 67)] false),
 zm0 61 68,
 zg0 69 (.ext (.t 61) 0),
 zg0 70 (.ext (.t 61) 1),
 zm0 9 69,
 zm0 10 70] [0, 2, 4, 9, 10] [4])
 (.seq (.reg false [zm0 71 0,
 zg0 72 (.ixa (.t 4) (zi0 0) 1 2),
 zg0 73 (.ld (.t 72) 1 false),
 zg0 74 (.ixa (.t 4) (zi0 1) 1 2),
 zg0 75 (.ld (.t 74) 1 false),
 zm0 76 2,
 zg0 77 (.call 49 [(.t 71), (.t 73), (.t 75), (zi0 7), (.t 76)] false),
 zg0 11 (.al [.nils, zo0] true),
 zn0 (.st (.t 11) (.t 77) 2)] [9, 10, 11] [11])
 (.seq (.reg true [zm0 78 9,
 zg0 79 (.off (.t 11) 0),
 zg0 80 (.ldl 11 (.t 79) 1 false),
 zg0 81 (.call 46 [(.t 78), (.t 80)] false),
 zm0 82 81,
 zt0 83 82 (.mov (.t 10)),
 zt0 84 82 (.off (.t 11) 1),
 zt0 85 82 (.ldl 11 (.t 84) 1 false),
 zt0 86 82 (.bin .eql (.t 83) (.t 85)),
 zg0 87 (.pick (.t 82) (.t 86) zF0),
 zm0 88 87,
 zt0 89 88 (.mov (.t 9)),
 zt0 90 88 (.call 50 [(.t 89)] false),
 zt0 91 88 (.off (.t 11) 0),
 zt0 92 88 (.ldl 11 (.t 91) 1 false),
 zt0 93 88 (.call 51 [(.t 92)] false),
 zt0 94 88 (.bin .eql (.t 90) (.t 93)),
 zg0 95 (.pick (.t 88) (.t 94) zF0),
 zm0 96 95,
 zt0 97 96 (.call 44 [] false),
 zg0 98 (.pick (.t 96) (.t 97) zF0),
 zm0 6 98] [6] [])
 .ret))))))),
 [.tmp 6], false⟩
def lp13_0 : IC :=
 (.loop [1, 6, 53, 54] [1, 35] (.seq (.reg false [zg0 55 (.bin .lss (.t 54) (.t 53))] [1, 6, 53, 54, 55] [1, 35])
 (.seq (.cond (.t 55)
 .skip
 (.exit 0))
 (.seq (.block 1 (.seq (.reg false [zm0 56 54,
 zm0 7 56] [1, 6, 7, 53, 54] [1, 35])
 (.reg true [zm0 57 6,
 zm0 58 6,
 zg0 59 (.nck (.t 58)),
 zg0 60 (.off (.t 59) 23),
 zg0 61 (.ldl 35 (.t 60) 1 false),
 zg0 62 (.off (.t 1) 20),
 zg0 63 (.ldl 1 (.t 62) 1 false),
 zm0 64 7,
 zg0 65 (.slc (.t 63) none (some (.t 64)) 2),
 zg0 66 (.call 63 [(.t 65)] false),
 zg0 67 (.bsl 1 1 [zo0] [(0, (.t 66))]),
 zg0 68 (.app (.t 61) (.t 67) 1),
 zg0 69 (.nck (.t 57)),
 zg0 70 (.off (.t 69) 23),
 zn0 (.stl 35 (.t 70) (.t 68) 1)] [1, 6, 53, 54] [1, 35])))
 (.reg false [zg0 71 (.bin .add (.t 54) (zi0 1)),
 zm0 54 71] [1, 6, 53, 54] [1, 35])))))
def ir13 : IFn :=   -- tympan/state.New
⟨(.seq (.reg false [zg0 1 (.bx (.t 0) 22 true),
 zg0 2 (.mov (.c (.p .nilp))),
 zg0 3 (.mov zF0)] [1] [1])
 (.seq (.seq (.reg false [zg0 8 (.ld (.t 1) 22 true),
 zg0 9 (.call 56 [(.t 8)] false),
 zg0 10 (.un .not (.t 9))] [1, 10] [1])
 (.cond (.t 10)
 (.seq (.reg false [zg0 2 (.mov (.c (.p .nilp))),
 zg0 3 (.mov zF0)] [2, 3] [35])
 .ret)
 .skip))
 (.seq (.reg false [zg0 11 (.ld (.t 1) 22 true),
 zg0 12 (.call 58 [(.t 11)] false),
 zg0 13 (.call 57 [(.t 12)] false),
 zn0 (.st (.t 1) (.t 13) 22)] [1] [1])
 (.seq (.reg false [zg0 15 (.off (.t 1) 19),
 zg0 16 (.ld (.t 15) 1 false),
 zg0 17 (.callz 59 [(.t 16)]),
 zm0 14 17,
 zg0 18 (.ext (.t 14) 0),
 zg0 19 (.ext (.t 14) 1),
 zm0 4 18,
 zm0 5 19] [1, 4, 5] [1])
 (.seq (.seq (.reg false [zm0 20 5,
 zg0 21 (.un .not (.t 20))] [1, 4, 21] [1])
 (.cond (.t 21)
 (.seq (.reg false [zg0 2 (.mov (.c (.p .nilp))),
 zg0 3 (.mov zF0)] [2, 3] [35])
 .ret)
 .skip))
 (.seq (.prep [35] (.reg true [zg0 22 (.off (.t 1) 19),
 zg0 23 (.ldl 1 (.t 22) 1 false),
 zg0 24 (.callz 60 [(.t 23)]),
 zm0 25 4,
 zg0 26 (.off (.t 1) 19),
 zg0 27 (.ldl 1 (.t 26) 1 false),
 zg0 28 (.off (.t 1) 21),
 zg0 29 (.ldl 1 (.t 28) 1 false),
 zg0 30 (.callz 61 [(.t 27), (.t 29)]),
 zg0 31 (.bld [.p .nilp, .p .nilp, .p .nilp] [(0, 1, (.t 24)), (1, 1, (.t 25)), (2, 1, (.t 30))]),
 zg0 32 (.bx (.t 31) 3 false),
 zg0 33 (.ldl 1 (.t 1) 22 true),
 zg0 34 (.bld [.p .nilp, zo0, zo0, zo0, zo0, zo0, zo0, zo0, zo0, zo0, zo0, zo0, zo0, zo0, zo0, zo0, zo0, zo0, zo0, .p (.bool false), .nils, .nils, .nils, .nils, zo0, zo0, zo0] [(0, 1, (.t 32)), (1, 22, (.t 33))]),
 zg0 35 (.bxp (.t 34) 27),
 zm0 6 35] [1, 6] [1, 35]))
 (.seq (.reg true [zm0 36 6,
 zm0 37 6,
 zg0 38 (.nck (.t 37)),
 zg0 39 (.off (.t 38) 0),
 zg0 40 (.ldl 35 (.t 39) 1 false),
 zg0 41 (.nck (.t 40)),
 zg0 42 (.off (.t 41) 2),
 zg0 43 (.ld (.t 42) 1 false),
 zg0 44 (.off (.t 1) 19),
 zg0 45 (.ldl 1 (.t 44) 1 false),
 zg0 46 (.len (.t 45)),
 zg0 47 (.call 62 [(.t 43), (.t 46)] false),
 zg0 48 (.nck (.t 36)),
 zg0 49 (.off (.t 48) 24),
 zn0 (.stl 35 (.t 49) (.t 47) 3)] [1, 6] [1, 35])
 (.seq (.seq (.reg false [zg0 50 (.off (.t 1) 20),
 zg0 51 (.ld (.t 50) 1 false),
 zg0 52 (.len (.t 51)),
 zg0 53 (.bin .add (.t 52) (zi0 1)),
 zg0 54 (.mov (zi0 0))] [1, 6, 53, 54] [1, 35])
 (.block 0 lp13_0))
 (.seq (.esc [35] (.reg false [zm0 72 6,
 zm0 2 72,
 zg0 3 (.mov zT0)] [2, 3] [35]))
 .ret))))))))),
 [.tmp 2, .tmp 3], false⟩
def ir19 : IFn :=   -- (*tympan/state.World).Right
⟨(.seq (.reg false [zg0 3 (.bx (.t 1) 7 true),
 zg0 4 (.mov zF0)] [0, 3] [3])
 (.seq (.seq (.reg true [zm0 6 0,
 zg0 7 (.eqn .ptr false (.t 6)),
 zm0 8 7,
 zf0 9 8 (.off (.t 3) 0),
 zf0 10 8 (.ldl 3 (.t 9) 1 false),
 zf0 11 8 (.bin .lss (.t 10) (zi0 0)),
 zg0 12 (.pick (.t 8) zT0 (.t 11)),
 zm0 13 12,
 zf0 14 13 (.off (.t 3) 0),
 zf0 15 13 (.ldl 3 (.t 14) 1 false),
 zf0 16 13 (.mov (.t 0)),
 zf0 17 13 (.nck (.t 16)),
 zf0 18 13 (.off (.t 17) 0),
 zf0 19 13 (.ld (.t 18) 1 false),
 zf0 20 13 (.nck (.t 19)),
 zf0 21 13 (.off (.t 20) 0),
 zf0 22 13 (.ld (.t 21) 1 false),
 zf0 23 13 (.call 78 [(.t 22)] false),
 zf0 24 13 (.bin .gtr (.t 15) (.t 23)),
 zg0 25 (.pick (.t 13) zT0 (.t 24)),
 zm0 26 25,
 zf0 27 26 (.mov (.t 0)),
 zf0 28 26 (.nck (.t 27)),
 zf0 29 26 (.off (.t 28) 0),
 zf0 30 26 (.ld (.t 29) 1 false),
 zf0 31 26 (.nck (.t 30)),
 zf0 32 26 (.off (.t 31) 0),
 zf0 33 26 (.ld (.t 32) 1 false),
 zf0 34 26 (.off (.t 3) 0),
 zf0 35 26 (.ldl 3 (.t 34) 1 false),
 zf0 36 26 (.call 65 [(.t 33), (.t 35)] false),
 zf0 37 26 (.off (.t 3) 0),
 zf0 38 26 (.ldl 3 (.t 37) 1 false),
 zf0 39 26 (.bin .neq (.t 36) (.t 38)),
 zg0 40 (.pick (.t 26) zT0 (.t 39)),
 zm0 41 40,
 zf0 42 41 (.off (.t 3) 1),
 zf0 43 41 (.ldl 3 (.t 42) 1 false),
 zf0 44 41 (.bin .lss (.t 43) (zi0 0)),
 zg0 45 (.pick (.t 41) zT0 (.t 44)),
 zm0 46 45,
 zf0 47 46 (.off (.t 3) 1),
 zf0 48 46 (.ldl 3 (.t 47) 1 false),
 zf0 49 46 (.mov (.t 0)),
 zf0 50 46 (.nck (.t 49)),
 zf0 51 46 (.off (.t 50) 1),
 zf0 52 46 (.off (.t 51) 0),
 zf0 53 46 (.off (.t 52) 0),
 zf0 54 46 (.ld (.t 53) 1 false),
 zf0 55 46 (.bin .gtr (.t 48) (.t 54)),
 zg0 56 (.pick (.t 46) zT0 (.t 55))] [0, 3, 56] [3])
 (.cond (.t 56)
 (.seq (.reg false [zg0 4 (.mov zF0)] [4] [])
 .ret)
 .skip))
 (.seq (.reg false [zg0 57 (.off (.t 3) 4),
 zg0 58 (.ld (.t 57) 3 true),
 zg0 5 (.al [zo0, zo0, zo0] true),
 zn0 (.st (.t 5) (.t 58) 3)] [0, 3, 5] [3, 5])
 (.seq (.reg true [zm0 59 0,
 zg0 60 (.ldl 3 (.t 3) 7 true),
 zg0 61 (.call 79 [(.t 59), (.t 60)] false),
 zm0 62 61,
 zt0 63 62 (.bld [zo0, zo0, zo0] []),
 zt0 64 62 (.ldl 5 (.t 5) 3 true),
 zt0 65 62 (.call 80 [(.t 63), (.t 64)] false),
 zg0 66 (.pick (.t 62) (.t 65) zF0),
 zm0 67 66,
 zt0 68 67 (.ldl 5 (.t 5) 3 true),
 zt0 69 67 (.mov (.t 0)),
 zt0 70 67 (.nck (.t 69)),
 zt0 71 67 (.off (.t 70) 0),
 zt0 72 67 (.ld (.t 71) 1 false),
 zt0 73 67 (.nck (.t 72)),
 zt0 74 67 (.off (.t 73) 2),
 zt0 75 67 (.ld (.t 74) 1 false),
 zt0 76 67 (.off (.t 3) 0),
 zt0 77 67 (.ldl 3 (.t 76) 1 false),
 zt0 78 67 (.call 62 [(.t 75), (.t 77)] false),
 zt0 79 67 (.call 80 [(.t 68), (.t 78)] false),
 zg0 80 (.pick (.t 67) (.t 79) zF0),
 zm0 4 80] [4] [])
 .ret)))),
 [.tmp 4], false⟩
def ir22 : IFn :=   -- (*tympan/state.World).High
⟨(.seq (.reg false [zg0 3 (.bx (.t 1) 7 true),
 zg0 4 (.mov (zi0 0))] [0, 3] [3])
 (.seq (.block 0 (.seq (.reg false [zm0 6 0,
 zg0 7 (.ld (.t 3) 7 true),
 zg0 8 (.call 19 [(.t 6), (.t 7)] false),
 zg0 9 (.un .not (.t 8)),
 zm0 5 9] [0, 3, 5] [3])
 (.cond (.t 5)
 (.seq (.reg false [zg0 4 (.mov (zi0 0))] [4] [])
 .ret)
 (.seq (.reg true [zg0 11 (.off (.t 3) 1),
 zg0 12 (.ldl 3 (.t 11) 1 false),
 zm0 13 0,
 zg0 14 (.nck (.t 13)),
 zg0 15 (.off (.t 14) 1),
 zg0 16 (.off (.t 15) 0),
 zg0 17 (.off (.t 16) 0),
 zg0 18 (.ld (.t 17) 1 false),
 zg0 19 (.bin .lss (.t 12) (.t 18)),
 zm0 10 19] [0, 10] [])
 (.cond (.t 10)
 (.seq (.reg false [zm0 20 0,
 zg0 21 (.nck (.t 20)),
 zg0 22 (.off (.t 21) 1),
 zg0 23 (.off (.t 22) 0),
 zg0 24 (.off (.t 23) 4),
 zg0 25 (.ld (.t 24) 1 false),
 zm0 4 25] [4] [])
 .ret)
 .skip)))))
 (.seq (.reg false [zm0 26 0,
 zg0 27 (.nck (.t 26)),
 zg0 28 (.off (.t 27) 1),
 zg0 29 (.off (.t 28) 0),
 zg0 30 (.off (.t 29) 3),
 zg0 31 (.ld (.t 30) 1 false),
 zm0 4 31] [4] [])
 .ret))),
 [.tmp 4], false⟩
def ir23 : IFn :=   -- (*tympan/state.World).Start
⟨(.seq (.reg false [zg0 2 (.al [zo0, zo0, zo0, zo0, zo0, zo0, zo0] true)] [0, 2] [2])
 (.seq (.reg false [zm0 3 0,
 zg0 4 (.call 26 [(.t 3)] false),
 zg0 5 (.call 65 [(.t 4), (zi0 0)] false),
 zg0 6 (.bld [zo0, zo0, zo0, zo0, zo0, zo0, zo0] [(0, 1, (.t 5))]),
 zn0 (.st (.t 2) (.t 6) 7)] [2] [2])
 .ret)),
 [.cell 2 7 true], false⟩
def ir26 : IFn :=   -- (*tympan/state.World).List
⟨(.seq (.reg false [zg0 2 (.mov (.c (.p .nilp)))] [0] [])
 (.seq (.reg false [zm0 3 0,
 zg0 4 (.call 84 [(.t 3)] false),
 zg0 5 (.call 85 [(.t 4)] false),
 zm0 2 5] [2] [])
 .ret)),
 [.tmp 2], false⟩
def ir27 : IFn :=   -- (*tympan/state.World).Sums
⟨(.seq (.reg false [zg0 2 (.mov (.c (.p .nilp)))] [0] [])
 (.seq (.reg false [zm0 3 0,
 zg0 4 (.call 84 [(.t 3)] false),
 zg0 5 (.call 86 [(.t 4)] false),
 zm0 2 5] [2] [])
 .ret)),
 [.tmp 2], false⟩
def ir30 : IFn :=   -- (*tympan/state.World).Plain
⟨(.seq (.reg false [zg0 2 (.al [zo0, zo0, zo0, zo0, zo0, zo0, zo0, zo0, zo0, zo0, zo0, zo0, zo0, zo0, zo0, zo0, zo0, zo0, .p (.bool false), .nils, .nils, .nils] true)] [0, 2] [2])
 (.seq (.seq (.reg false [zm0 3 0,
 zg0 4 (.eqn .ptr false (.t 3))] [0, 2, 4] [2])
 (.cond (.t 4)
 (.seq (.reg false [zg0 5 (.bld [zo0, zo0, zo0, zo0, zo0, zo0, zo0, zo0, zo0, zo0, zo0, zo0, zo0, zo0, zo0, zo0, zo0, zo0, .p (.bool false), .nils, .nils, .nils] []),
 zn0 (.st (.t 2) (.t 5) 22)] [2] [2])
 .ret)
 .skip))
 (.seq (.reg false [zm0 6 0,
 zg0 7 (.nck (.t 6)),
 zg0 8 (.off (.t 7) 1),
 zg0 9 (.ld (.t 8) 22 true),
 zn0 (.st (.t 2) (.t 9) 22)] [2] [2])
 .ret))),
 [.cell 2 22 true], false⟩
def ir42 : IFn :=   -- tympan/column.Of
⟨(.seq (.reg false [zg0 4 (.bx (.t 1) 7 true),
 zg0 5 (.bx (.t 2) 6 true),
 zg0 6 (.al [zo0, zo0, zo0, .p (.bool false), .p (.bool false), zo0, zo0, zo0, zo0, zo0] true)] [0, 4, 5, 6] [4, 5, 6])
 (.seq (.reg false [zg0 7 (.al [zo0, zo0, zo0, .p (.bool false), .p (.bool false), zo0, zo0, zo0, zo0, zo0] true)] [0, 4, 5, 6, 7] [4, 5, 6, 7])
 (.seq (.seq (.reg false [zm0 10 0,
 zg0 11 (.ld (.t 4) 7 true),
 zg0 12 (.call 19 [(.t 10), (.t 11)] false),
 zg0 13 (.un .not (.t 12))] [0, 4, 5, 6, 7, 13] [4, 5, 6, 7])
 (.cond (.t 13)
 (.seq (.reg false [zg0 14 (.ld (.t 7) 10 true),
 zn0 (.st (.t 6) (.t 14) 10)] [6] [6])
 .ret)
 .skip))
 (.seq (.reg false [zm0 15 0,
 zg0 16 (.call 30 [(.t 15)] false),
 zg0 8 (.al [zo0, zo0, zo0, zo0, zo0, zo0, zo0, zo0, zo0, zo0, zo0, zo0, zo0, zo0, zo0, zo0, zo0, zo0, .p (.bool false), .nils, .nils, .nils] true),
 zn0 (.st (.t 8) (.t 16) 22)] [0, 4, 5, 6, 7, 8] [4, 5, 6, 7, 8])
 (.seq (.reg false [zg0 17 (.off (.t 8) 20),
 zg0 18 (.ld (.t 17) 1 false),
 zg0 19 (.off (.t 5) 3),
 zg0 20 (.ld (.t 19) 1 false),
 zg0 21 (.off (.t 8) 0),
 zg0 22 (.off (.t 21) 6),
 zg0 23 (.ld (.t 22) 1 false),
 zg0 24 (.call 118 [(.t 18), (.t 20), (.t 23)] false),
 zg0 25 (.off (.t 7) 0),
 zn0 (.st (.t 25) (.t 24) 1)] [0, 4, 5, 6, 7, 8] [4, 5, 6, 7, 8])
 (.seq (.seq (.reg false [zg0 26 (.off (.t 5) 0),
 zg0 27 (.ld (.t 26) 1 false)] [0, 4, 5, 6, 7, 8, 27] [4, 5, 6, 7, 8])
 (.block 0 (.seq (.reg false [zg0 29 (.bin .eql (.t 27) (zi0 1)),
 zm0 28 29] [0, 4, 5, 6, 7, 8, 27, 28] [4, 5, 6, 7, 8])
 (.cond (.t 28)
 (.reg false [zg0 30 (.off (.t 8) 0),
 zg0 31 (.ld (.t 30) 19 true),
 zg0 32 (.off (.t 8) 21),
 zg0 33 (.ld (.t 32) 1 false),
 zg0 34 (.off (.t 5) 4),
 zg0 35 (.ld (.t 34) 1 false),
 zg0 36 (.off (.t 5) 5),
 zg0 37 (.ld (.t 36) 1 false),
 zg0 38 (.bld [.nils, .nils] [(0, 1, (.t 35)), (1, 1, (.t 37))]),
 zg0 39 (.call 119 [(.t 31), (.t 33), (.t 38)] false),
 zg0 40 (.off (.t 7) 1),
 zn0 (.st (.t 40) (.t 39) 1)] [0, 4, 5, 6, 7, 8] [4, 5, 6, 7, 8])
 (.seq (.reg false [zg0 42 (.bin .eql (.t 27) (zi0 2)),
 zm0 41 42] [0, 4, 5, 6, 7, 8, 41] [4, 5, 6, 7, 8])
 (.cond (.t 41)
 (.reg false [zg0 43 (.off (.t 8) 0),
 zg0 44 (.ld (.t 43) 19 true),
 zg0 45 (.off (.t 8) 21),
 zg0 46 (.ld (.t 45) 1 false),
 zg0 47 (.off (.t 5) 4),
 zg0 48 (.ld (.t 47) 1 false),
 zg0 49 (.call 120 [(.t 44), (.t 46), (.t 48)] false),
 zg0 50 (.off (.t 7) 1),
 zn0 (.st (.t 50) (.t 49) 1)] [0, 4, 5, 6, 7, 8] [4, 5, 6, 7, 8])
 .skip))))))
 (.seq (.reg true [zm0 51 0,
 zg0 52 (.ldl 4 (.t 4) 7 true),
 zg0 53 (.call 22 [(.t 51), (.t 52)] false),
 zg0 54 (.off (.t 7) 0),
 zg0 55 (.ldl 7 (.t 54) 1 false),
 zg0 56 (.bin .sub (.t 53) (.t 55)),
 zg0 57 (.off (.t 7) 1),
 zg0 58 (.ldl 7 (.t 57) 1 false),
 zg0 59 (.bin .sub (.t 56) (.t 58)),
 zg0 60 (.off (.t 7) 2),
 zn0 (.stl 7 (.t 60) (.t 59) 1)] [0, 4, 5, 6, 7, 8] [4, 5, 6, 7, 8])
 (.seq (.reg false [zm0 61 0,
 zg0 62 (.ld (.t 5) 6 true),
 zg0 63 (.call 121 [(.t 61), (.t 62)] false),
 zg0 64 (.off (.t 7) 3),
 zn0 (.st (.t 64) (.t 63) 1)] [0, 4, 5, 6, 7, 8] [4, 5, 6, 7, 8])
 (.seq (.reg false [zg0 65 (.off (.t 5) 3),
 zg0 66 (.ld (.t 65) 1 false),
 zg0 67 (.len (.t 66)),
 zg0 68 (.bin .gtr (.t 67) (zi0 0)),
 zm0 69 68,
 zt0 70 69 (.off (.t 7) 0),
 zt0 71 69 (.ld (.t 70) 1 false),
 zt0 72 69 (.off (.t 8) 0),
 zt0 73 69 (.off (.t 72) 8),
 zt0 74 69 (.ld (.t 73) 1 false),
 zt0 75 69 (.bin .gtr (.t 71) (.t 74)),
 zg0 76 (.pick (.t 69) (.t 75) zF0),
 zm0 9 76] [0, 4, 5, 6, 7, 9] [4, 5, 6, 7])
 (.seq (.seq (.reg false [zg0 77 (.off (.t 5) 0),
 zg0 78 (.ld (.t 77) 1 false),
 zg0 79 (.bin .neq (.t 78) (zi0 1))] [0, 4, 5, 6, 7, 9, 79] [4, 5, 6, 7])
 (.cond (.t 79)
 (.seq (.reg false [zm0 80 9,
 zm0 81 80,
 zf0 82 81 (.off (.t 7) 2),
 zf0 83 81 (.ld (.t 82) 1 false),
 zf0 84 81 (.bin .lss (.t 83) (zi0 0)),
 zg0 85 (.pick (.t 81) zT0 (.t 84)),
 zg0 86 (.off (.t 7) 4),
 zn0 (.st (.t 86) (.t 85) 1)] [6, 7] [6, 7])
 (.seq (.reg false [zg0 87 (.ld (.t 7) 10 true),
 zn0 (.st (.t 6) (.t 87) 10)] [6] [6])
 .ret))
 .skip))
 (.seq (.reg true [zm0 88 0,
 zg0 89 (.call 27 [(.t 88)] false),
 zg0 90 (.off (.t 4) 0),
 zg0 91 (.ldl 4 (.t 90) 1 false),
 zg0 92 (.off (.t 5) 2),
 zg0 93 (.ldl 5 (.t 92) 1 false),
 zg0 94 (.call 123 [(.t 89), (.t 91), (.t 93)] false),
 zg0 95 (.off (.t 7) 2),
 zg0 96 (.ldl 7 (.t 95) 1 false),
 zg0 97 (.off (.t 7) 3),
 zg0 98 (.ldl 7 (.t 97) 1 false),
 zg0 99 (.call 122 [(.t 94), (.t 96), (.t 98)] false),
 zg0 100 (.off (.t 7) 5),
 zn0 (.stl 7 (.t 100) (.t 99) 5)] [6, 7, 9] [6, 7])
 (.seq (.reg false [zm0 101 9,
 zm0 102 101,
 zf0 103 102 (.off (.t 7) 5),
 zf0 104 102 (.off (.t 103) 0),
 zf0 105 102 (.ld (.t 104) 1 false),
 zf0 106 102 (.bin .eql (.t 105) (zi0 3)),
 zg0 107 (.pick (.t 102) zT0 (.t 106)),
 zg0 108 (.off (.t 7) 4),
 zn0 (.st (.t 108) (.t 107) 1)] [6, 7] [6, 7])
 (.seq (.reg false [zg0 109 (.ld (.t 7) 10 true),
 zn0 (.st (.t 6) (.t 109) 10)] [6] [6])
 .ret))))))))))))),
 [.cell 6 10 true], false⟩
def ir44 : IFn :=   -- tympan/tympanlaw37.awake
⟨(.seq (.reg false [zg0 0 (.mov zF0)] [] [])
 (.seq (.reg false [zg0 7 (.bld [zo0, zo0, zo0, zo0, zo0, zo0, zo0] [(0, 1, (zi0 1)), (1, 1, (zi0 3))]),
 zg0 8 (.bld [zo0, zo0, zo0, zo0, zo0, zo0, zo0] [(0, 1, (zi0 2)), (1, 1, (zi0 2))]),
 zg0 9 (.bld [zo0, zo0, zo0, zo0, zo0, zo0, zo0] [(0, 1, (zi0 1)), (1, 1, (zi0 4))]),
 zg0 10 (.bsl 7 3 [zo0, zo0, zo0, zo0, zo0, zo0, zo0] [(0, (.t 7)), (1, (.t 8)), (2, (.t 9))]),
 zm0 1 10] [1] [])
 (.seq (.reg false [zm0 12 1,
 zg0 13 (.call 48 [(.t 12), (zi0 0), (zi0 3), (zi0 0), (.c (.nils))] false),
 zm0 11 13,
 zg0 14 (.ext (.t 11) 0),
 zg0 15 (.ext (.t 11) 1),
 zm0 2 14,
 zm0 3 15] [1, 2, 3] [])
 (.seq (.reg false [zg0 17 (.bld [zo0, zo0, zo0, zo0, zo0, zo0, zo0, zo0, zo0, zo0, zo0, zo0, zo0, zo0, zo0, zo0, zo0, zo0, .p (.bool false)] [(0, 1, (zi0 1)), (1, 1, (zi0 1)), (3, 1, (zi0 20)), (4, 1, (zi0 20))]),
 zm0 18 1,
 zg0 19 (.bld [zo0, zo0, zo0, zo0, zo0, zo0, zo0, zo0, zo0, zo0, zo0, zo0, zo0, zo0, zo0, zo0, zo0, zo0, .p (.bool false), .nils, .nils, .nils] [(0, 19, (.t 17)), (19, 1, (.t 18))]),
 zg0 20 (.callz 13 [(.t 19)]),
 zm0 16 20,
 zg0 21 (.ext (.t 16) 0),
 zg0 22 (.ext (.t 16) 1),
 zm0 4 21,
 zm0 5 22] [2, 3, 4, 5] [])
 (.seq (.reg false [zm0 23 4,
 zm0 24 4,
 zg0 25 (.call 23 [(.t 24)] false),
 zg0 26 (.bld [zo0, zo0, zo0, .nils, .nils, .nils] [(0, 1, (zi0 1)), (2, 1, (zi0 3))]),
 zg0 27 (.call 45 [(.t 23), (.t 25), (.t 26)] false),
 zm0 6 27] [2, 3, 5, 6] [])
 (.seq (.reg false [zm0 28 5,
 zm0 29 28,
 zt0 30 29 (.mov (.t 2)),
 zt0 31 29 (.len (.t 30)),
 zt0 32 29 (.bin .eql (.t 31) (zi0 2)),
 zg0 33 (.pick (.t 29) (.t 32) zF0),
 zm0 34 33,
 zt0 35 34 (.mov (.t 2)),
 zt0 36 34 (.ixs (.t 35) (zi0 1) 5),
 zt0 37 34 (.off (.t 36) 3),
 zt0 38 34 (.ld (.t 37) 1 false),
 zt0 39 34 (.bin .eql (.t 38) (zi0 5)),
 zg0 40 (.pick (.t 34) (.t 39) zF0),
 zm0 41 40,
 zt0 42 41 (.mov (.t 3)),
 zt0 43 41 (.bin .eql (.t 42) (zi0 9)),
 zg0 44 (.pick (.t 41) (.t 43) zF0),
 zm0 45 44,
 zt0 46 45 (.mov (.t 2)),
 zt0 47 45 (.mov (.t 6)),
 zt0 48 45 (.call 46 [(.t 46), (.t 47)] false),
 zg0 49 (.pick (.t 45) (.t 48) zF0),
 zm0 50 49,
 zt0 51 50 (.mov (.t 6)),
 zt0 52 50 (.call 50 [(.t 51)] false),
 zt0 53 50 (.bin .eql (.t 52) (zi0 9)),
 zg0 54 (.pick (.t 50) (.t 53) zF0),
 zm0 0 54] [0] [])
 .ret)))))),
 [.tmp 0], false⟩
def ir45 : IFn :=   -- tympan/place.Of
⟨(.seq (.reg false [zg0 4 (.bx (.t 1) 7 true),
 zg0 5 (.bx (.t 2) 6 true),
 zg0 6 (.mov (.c (.nils)))] [0, 4, 5] [4, 5])
 (.seq (.seq (.reg false [zm0 11 0,
 zg0 12 (.ld (.t 4) 7 true),
 zg0 13 (.call 19 [(.t 11), (.t 12)] false),
 zg0 14 (.un .not (.t 13))] [0, 4, 5, 14] [4, 5])
 (.cond (.t 14)
 (.seq (.reg false [zg0 6 (.mov (.c (.nils)))] [6] [])
 .ret)
 .skip))
 (.seq (.prep [7, 8, 22] (.reg true [zm0 15 0,
 zg0 16 (.call 30 [(.t 15)] false),
 zm0 17 0,
 zg0 18 (.ldl 4 (.t 4) 7 true),
 zg0 19 (.ldl 5 (.t 5) 6 true),
 zg0 20 (.call 42 [(.t 17), (.t 18), (.t 19)] false),
 zg0 21 (.bld [zo0, .nils] []),
 zg0 22 (.bxp (.t 21) 2),
 zg0 7 (.alp [zo0, zo0, zo0, zo0, zo0, zo0, zo0, zo0, zo0, zo0, zo0, zo0, zo0, zo0, zo0, zo0, zo0, zo0, .p (.bool false), .nils, .nils, .nils]),
 zg0 8 (.alp [zo0, zo0, zo0, .p (.bool false), .p (.bool false), zo0, zo0, zo0, zo0, zo0]),
 zn0 (.stl 7 (.t 7) (.t 16) 22),
 zn0 (.stl 8 (.t 8) (.t 20) 10),
 zm0 9 22] [0, 4, 5, 7, 8, 9] [4, 5, 7, 8, 22]))
 (.esc [22] (.seq (.reg true [zm0 23 0,
 zg0 24 (.ldl 4 (.t 4) 7 true),
 zg0 25 (.call 22 [(.t 23), (.t 24)] false),
 zg0 26 (.off (.t 8) 0),
 zg0 27 (.ldl 8 (.t 26) 1 false),
 zg0 28 (.bin .sub (.t 25) (.t 27)),
 zm0 10 28] [0, 4, 5, 7, 8, 9, 10] [4, 5, 7, 8])
 (.seq (.seq (.reg false [zg0 29 (.off (.t 5) 0),
 zg0 30 (.ld (.t 29) 1 false)] [0, 4, 5, 7, 8, 9, 10, 30] [4, 5, 7, 8])
 (.block 0 (.seq (.reg false [zg0 32 (.bin .eql (.t 30) (zi0 1)),
 zm0 31 32] [0, 4, 5, 7, 8, 9, 10, 30, 31] [4, 5, 7, 8])
 (.cond (.t 31)
 (.seq (.reg false [zm0 33 9,
 zg0 34 (.off (.t 7) 21),
 zg0 35 (.ld (.t 34) 1 false),
 zg0 36 (.off (.t 5) 4),
 zg0 37 (.ld (.t 36) 1 false),
 zg0 38 (.off (.t 7) 0),
 zg0 39 (.off (.t 38) 7),
 zg0 40 (.ld (.t 39) 1 false),
 zg0 41 (.call 124 [(.t 33), (.t 35), (.t 37), (zi0 0), (.t 40)] false)] [0, 4, 5, 7, 8, 9, 10] [4, 5, 7, 8])
 (.seq (.reg true [zm0 42 9,
 zg0 43 (.off (.t 7) 19),
 zg0 44 (.ldl 7 (.t 43) 1 false),
 zg0 45 (.off (.t 4) 0),
 zg0 46 (.ldl 4 (.t 45) 1 false),
 zg0 47 (.off (.t 5) 2),
 zg0 48 (.ldl 5 (.t 47) 1 false),
 zg0 49 (.off (.t 8) 5),
 zg0 50 (.ldl 8 (.t 49) 5 true),
 zm0 51 0,
 zg0 52 (.call 27 [(.t 51)] false),
 zg0 53 (.off (.t 4) 0),
 zg0 54 (.ldl 4 (.t 53) 1 false),
 zg0 55 (.off (.t 5) 2),
 zg0 56 (.ldl 5 (.t 55) 1 false),
 zg0 57 (.call 127 [(.t 52), (.t 54), (.t 56)] false),
 zg0 58 (.call 126 [(.t 50), (.t 57)] false),
 zg0 59 (.call 125 [(.t 42), (.t 44), (.t 46), (.t 48), (.t 58)] false)] [5, 7, 9, 10] [5, 7])
 (.reg false [zm0 60 10,
 zg0 61 (.off (.t 7) 21),
 zg0 62 (.ld (.t 61) 1 false),
 zg0 63 (.off (.t 5) 5),
 zg0 64 (.ld (.t 63) 1 false),
 zg0 65 (.off (.t 7) 0),
 zg0 66 (.off (.t 65) 7),
 zg0 67 (.ld (.t 66) 1 false),
 zg0 68 (.call 128 [(.t 62), (.t 64), (.t 67)] false),
 zg0 69 (.bin .sub (.t 60) (.t 68)),
 zm0 10 69] [5, 7, 9, 10] [5, 7])))
 (.seq (.reg false [zg0 71 (.bin .eql (.t 30) (zi0 2)),
 zm0 70 71] [5, 7, 9, 10, 70] [5, 7])
 (.cond (.t 70)
 (.reg false [zm0 72 9,
 zg0 73 (.off (.t 7) 21),
 zg0 74 (.ld (.t 73) 1 false),
 zg0 75 (.off (.t 5) 4),
 zg0 76 (.ld (.t 75) 1 false),
 zg0 77 (.off (.t 7) 0),
 zg0 78 (.off (.t 77) 7),
 zg0 79 (.ld (.t 78) 1 false),
 zg0 80 (.call 124 [(.t 72), (.t 74), (.t 76), (zi0 0), (.t 79)] false)] [5, 7, 9, 10] [5, 7])
 .skip))))))
 (.seq (.reg false [zm0 81 9,
 zm0 82 9,
 zg0 83 (.nck (.t 82)),
 zg0 84 (.off (.t 83) 0),
 zg0 85 (.off (.t 84) 0),
 zg0 86 (.ld (.t 85) 1 false),
 zm0 87 10,
 zg0 88 (.mnmx true (.t 86) (.t 87)),
 zg0 89 (.nck (.t 81)),
 zg0 90 (.off (.t 89) 0),
 zg0 91 (.off (.t 90) 0),
 zn0 (.st (.t 91) (.t 88) 1)] [5, 7, 9] [5, 7])
 (.seq (.seq (.reg false [zg0 92 (.off (.t 5) 0),
 zg0 93 (.ld (.t 92) 1 false),
 zg0 94 (.bin .eql (.t 93) (zi0 1))] [5, 7, 9, 94] [5, 7])
 (.cond (.t 94)
 (.reg false [zm0 95 9,
 zg0 96 (.off (.t 7) 21),
 zg0 97 (.ld (.t 96) 1 false),
 zg0 98 (.off (.t 5) 5),
 zg0 99 (.ld (.t 98) 1 false),
 zg0 100 (.off (.t 7) 0),
 zg0 101 (.off (.t 100) 7),
 zg0 102 (.ld (.t 101) 1 false),
 zg0 103 (.call 124 [(.t 95), (.t 97), (.t 99), (.t 102), (zi0 0)] false)] [5, 7, 9] [5, 7])
 .skip))
 (.seq (.reg false [zm0 104 9,
 zg0 105 (.ld (.t 7) 22 true),
 zg0 106 (.off (.t 5) 3),
 zg0 107 (.ld (.t 106) 1 false),
 zg0 108 (.call 129 [(.t 104), (.t 105), (.t 107)] false)] [9] [])
 (.seq (.reg false [zm0 109 9,
 zg0 110 (.nck (.t 109)),
 zg0 111 (.off (.t 110) 1),
 zg0 112 (.ld (.t 111) 1 false),
 zm0 6 112] [6] [])
 .ret)))))))))),
 [.tmp 6], false⟩
def lp46_0 : IC :=
 (.loop [0, 1, 5] [] (.seq (.seq (.reg false [zm0 11 5,
 zm0 12 0,
 zg0 13 (.len (.t 12)),
 zg0 14 (.bin .lss (.t 11) (.t 13))] [0, 1, 5, 14] [])
 (.cond (.t 14)
 .skip
 (.exit 0)))
 (.seq (.block 1 (.seq (.reg true [zm0 17 0,
 zm0 18 5,
 zg0 19 (.ixs (.t 17) (.t 18) 5),
 zg0 20 (.ld (.t 19) 5 true),
 zm0 21 1,
 zm0 22 5,
 zg0 23 (.ixs (.t 21) (.t 22) 5),
 zg0 24 (.ld (.t 23) 5 true),
 zg0 25 (.eqa true [true, true, true, true, true] (.t 20) (.t 24))] [0, 1, 5, 25] [])
 (.cond (.t 25)
 (.seq (.reg false [zg0 4 (.mov zF0)] [4] [])
 .ret)
 .skip)))
 (.reg false [zm0 15 5,
 zg0 16 (.bin .add (.t 15) (zi0 1)),
 zm0 5 16] [0, 1, 5] []))))
def ir46 : IFn :=   -- tympan/tympanref37.Same
⟨(.seq (.reg false [zg0 4 (.mov zF0)] [0, 1] [])
 (.seq (.seq (.reg false [zm0 6 0,
 zg0 7 (.len (.t 6)),
 zm0 8 1,
 zg0 9 (.len (.t 8)),
 zg0 10 (.bin .neq (.t 7) (.t 9))] [0, 1, 10] [])
 (.cond (.t 10)
 (.seq (.reg false [zg0 4 (.mov zF0)] [4] [])
 .ret)
 .skip))
 (.seq (.seq (.reg false [zg0 5 (.mov (zi0 0))] [0, 1, 5] [])
 (.block 0 lp46_0))
 (.seq (.reg false [zg0 4 (.mov zT0)] [4] [])
 .ret)))),
 [.tmp 4], false⟩
def ir48 : IFn :=   -- tympan/place.Text
⟨(.seq (.reg false [zg0 10 (.mov (.c (.nils))),
 zg0 11 (.mov (zi0 0))] [0, 1, 2, 3, 4] [])
 (.seq (.reg false [zm0 13 3,
 zg0 14 (.bld [zo0] [(0, 1, (.t 13))]),
 zg0 15 (.bld [zo0, .nils] [(0, 1, (.t 14))]),
 zg0 16 (.bx (.t 15) 2 false),
 zm0 12 16] [0, 1, 2, 4, 12] [])
 (.seq (.reg false [zm0 17 12,
 zm0 18 0,
 zm0 19 1,
 zm0 20 2,
 zm0 21 4,
 zg0 22 (.call 125 [(.t 17), (.t 18), (.t 19), (.t 20), (.t 21)] false)] [12] [])
 (.seq (.reg true [zm0 23 12,
 zg0 24 (.nck (.t 23)),
 zg0 25 (.off (.t 24) 1),
 zg0 26 (.ld (.t 25) 1 false),
 zm0 27 12,
 zg0 28 (.nck (.t 27)),
 zg0 29 (.off (.t 28) 0),
 zg0 30 (.off (.t 29) 0),
 zg0 31 (.ld (.t 30) 1 false),
 zm0 10 26,
 zm0 11 31] [10, 11] [])
 .ret)))),
 [.tmp 10, .tmp 11], false⟩
def lp49_0 : IC :=
 (.loop [0, 1, 2, 4, 10, 11, 12, 13] [10, 11] (.seq (.seq (.reg false [zm0 16 13,
 zm0 17 0,
 zg0 18 (.len (.t 17)),
 zg0 19 (.bin .lss (.t 16) (.t 18))] [0, 1, 2, 4, 10, 11, 12, 13, 19] [10, 11])
 (.cond (.t 19)
 .skip
 (.exit 0)))
 (.seq (.block 1 (.seq (.seq (.reg false [zm0 22 13,
 zm0 23 1,
 zg0 24 (.bin .geq (.t 22) (.t 23)),
 zm0 25 24,
 zt0 26 25 (.mov (.t 13)),
 zt0 27 25 (.mov (.t 2)),
 zt0 28 25 (.bin .lss (.t 26) (.t 27)),
 zg0 29 (.pick (.t 25) (.t 28) zF0),
 zm0 30 29,
 zt0 31 30 (.mov (.t 0)),
 zt0 32 30 (.mov (.t 13)),
 zt0 33 30 (.ixs (.t 31) (.t 32) 7),
 zt0 34 30 (.off (.t 33) 0),
 zt0 35 30 (.ld (.t 34) 1 false),
 zt0 36 30 (.bin .eql (.t 35) (zi0 1)),
 zg0 37 (.pick (.t 30) (.t 36) zF0)] [0, 1, 2, 4, 10, 11, 12, 13, 37] [10, 11])
 (.cond (.t 37)
 (.seq (.reg true [zg0 38 (.off (.t 11) 0),
 zg0 39 (.ldl 11 (.t 38) 1 false),
 zm0 40 13,
 zg0 41 (.off (.t 11) 1),
 zg0 42 (.ldl 11 (.t 41) 1 false),
 zm0 43 0,
 zm0 44 13,
 zg0 45 (.ixs (.t 43) (.t 44) 7),
 zg0 46 (.off (.t 45) 1),
 zg0 47 (.ld (.t 46) 1 false),
 zg0 48 (.bld [zo0, zo0, zo0, zo0, zo0] [(0, 1, (zi0 1)), (1, 1, (.t 40)), (3, 1, (.t 42)), (4, 1, (.t 47))]),
 zg0 49 (.bsl 5 1 [zo0, zo0, zo0, zo0, zo0] [(0, (.t 48))]),
 zg0 50 (.app (.t 39) (.t 49) 5),
 zg0 51 (.off (.t 11) 0),
 zn0 (.stl 11 (.t 51) (.t 50) 1)] [0, 1, 2, 4, 10, 11, 12, 13] [10, 11])
 (.reg true [zg0 52 (.off (.t 11) 1),
 zg0 53 (.ldl 11 (.t 52) 1 false),
 zm0 54 0,
 zm0 55 13,
 zg0 56 (.ixs (.t 54) (.t 55) 7),
 zg0 57 (.off (.t 56) 1),
 zg0 58 (.ld (.t 57) 1 false),
 zg0 59 (.bin .add (.t 53) (.t 58)),
 zg0 60 (.off (.t 11) 1),
 zn0 (.stl 11 (.t 60) (.t 59) 1)] [0, 1, 2, 4, 10, 11, 12, 13] [10, 11]))
 .skip))
 (.seq (.reg false [zm0 61 13,
 zm0 62 1,
 zg0 63 (.bin .geq (.t 61) (.t 62)),
 zm0 64 63,
 zt0 65 64 (.mov (.t 13)),
 zt0 66 64 (.mov (.t 2)),
 zt0 67 64 (.bin .lss (.t 65) (.t 66)),
 zg0 68 (.pick (.t 64) (.t 67) zF0),
 zm0 69 68,
 zt0 70 69 (.mov (.t 0)),
 zt0 71 69 (.mov (.t 13)),
 zt0 72 69 (.ixs (.t 70) (.t 71) 7),
 zt0 73 69 (.off (.t 72) 0),
 zt0 74 69 (.ld (.t 73) 1 false),
 zt0 75 69 (.bin .eql (.t 74) (zi0 2)),
 zg0 76 (.pick (.t 69) (.t 75) zF0)] [0, 1, 2, 4, 10, 11, 12, 13, 76] [10, 11])
 (.cond (.t 76)
 (.seq (.seq (.reg false [zm0 77 12,
 zm0 78 4,
 zg0 79 (.len (.t 78)),
 zg0 80 (.bin .lss (.t 77) (.t 79))] [0, 1, 2, 4, 10, 11, 12, 13, 80] [10, 11])
 (.cond (.t 80)
 (.reg true [zg0 81 (.off (.t 11) 1),
 zg0 82 (.ldl 11 (.t 81) 1 false),
 zm0 83 4,
 zm0 84 12,
 zg0 85 (.ixs (.t 83) (.t 84) 1),
 zg0 86 (.ld (.t 85) 1 false),
 zg0 87 (.bin .add (.t 82) (.t 86)),
 zg0 88 (.off (.t 11) 1),
 zn0 (.stl 11 (.t 88) (.t 87) 1)] [0, 1, 2, 4, 10, 11, 12, 13] [10, 11])
 (.reg true [zg0 89 (.off (.t 11) 1),
 zg0 90 (.ldl 11 (.t 89) 1 false),
 zm0 91 0,
 zm0 92 13,
 zg0 93 (.ixs (.t 91) (.t 92) 7),
 zg0 94 (.off (.t 93) 1),
 zg0 95 (.ld (.t 94) 1 false),
 zg0 96 (.bin .add (.t 90) (.t 95)),
 zg0 97 (.off (.t 11) 1),
 zn0 (.stl 11 (.t 97) (.t 96) 1)] [0, 1, 2, 4, 10, 11, 12, 13] [10, 11])))
 (.reg false [zm0 98 12,
 zg0 99 (.bin .add (.t 98) (zi0 1)),
 zm0 12 99] [0, 1, 2, 4, 10, 11, 12, 13] [10, 11]))
 .skip))))
 (.reg false [zm0 20 13,
 zg0 21 (.bin .add (.t 20) (zi0 1)),
 zm0 13 21] [0, 1, 2, 4, 10, 11, 12, 13] [10, 11]))))
def ir49 : IFn :=   -- tympan/tympanref37.Text
⟨(.seq (.reg false [zg0 10 (.al [.nils, zo0] true)] [0, 1, 2, 3, 4, 10] [10])
 (.seq (.reg false [zm0 14 3,
 zg0 15 (.bld [.nils, zo0] [(1, 1, (.t 14))]),
 zg0 11 (.al [.nils, zo0] true),
 zn0 (.st (.t 11) (.t 15) 2)] [0, 1, 2, 4, 10, 11] [10, 11])
 (.seq (.reg false [zg0 12 (.mov (zi0 0))] [0, 1, 2, 4, 10, 11, 12] [10, 11])
 (.seq (.seq (.reg false [zg0 13 (.mov (zi0 0))] [0, 1, 2, 4, 10, 11, 12, 13] [10, 11])
 (.block 0 lp49_0))
 (.seq (.reg false [zg0 100 (.ld (.t 11) 2 true),
 zn0 (.st (.t 10) (.t 100) 2)] [10] [10])
 .ret))))),
 [.cell 10 2 true], false⟩
def lp50_0 : IC :=
 (.loop [3, 6, 7, 8] [] (.seq (.reg false [zg0 9 (.bin .lss (.t 8) (.t 7))] [3, 6, 7, 8, 9] [])
 (.seq (.cond (.t 9)
 .skip
 (.exit 0))
 (.seq (.block 1 (.seq (.reg false [zg0 10 (.ixs (.t 6) (.t 8) 5),
 zg0 11 (.ld (.t 10) 5 true),
 zg0 5 (.al [zo0, zo0, zo0, zo0, zo0] true),
 zn0 (.st (.t 5) (.t 11) 5)] [3, 5, 6, 7, 8] [5])
 (.reg false [zm0 12 3,
 zg0 13 (.off (.t 5) 3),
 zg0 14 (.ld (.t 13) 1 false),
 zg0 15 (.off (.t 5) 4),
 zg0 16 (.ld (.t 15) 1 false),
 zg0 17 (.bin .add (.t 14) (.t 16)),
 zg0 18 (.mnmx true (.t 12) (.t 17)),
 zm0 3 18] [3, 6, 7, 8] [])))
 (.reg false [zg0 19 (.bin .add (.t 8) (zi0 1)),
 zm0 8 19] [3, 6, 7, 8] [])))))
def ir50 : IFn :=   -- tympan/place.Foot
⟨(.seq (.reg false [zg0 2 (.mov (zi0 0))] [0] [])
 (.seq (.reg false [zg0 3 (.mov (zi0 0))] [0, 3] [])
 (.seq (.seq (.reg false [zm0 6 0,
 zg0 7 (.len (.t 6)),
 zg0 8 (.mov (zi0 0))] [3, 6, 7, 8] [])
 (.block 0 lp50_0))
 (.seq (.reg false [zm0 20 3,
 zm0 2 20] [2] [])
 .ret)))),
 [.tmp 2], false⟩
def lp51_0 : IC :=
 (.loop [0, 3, 4] [] (.seq (.seq (.reg false [zm0 5 4,
 zm0 6 0,
 zg0 7 (.len (.t 6)),
 zg0 8 (.bin .lss (.t 5) (.t 7))] [0, 3, 4, 8] [])
 (.cond (.t 8)
 .skip
 (.exit 0)))
 (.seq (.block 1 (.reg true [zm0 11 3,
 zm0 12 0,
 zm0 13 4,
 zg0 14 (.ixs (.t 12) (.t 13) 5),
 zg0 15 (.off (.t 14) 3),
 zg0 16 (.ld (.t 15) 1 false),
 zm0 17 0,
 zm0 18 4,
 zg0 19 (.ixs (.t 17) (.t 18) 5),
 zg0 20 (.off (.t 19) 4),
 zg0 21 (.ld (.t 20) 1 false),
 zg0 22 (.bin .add (.t 16) (.t 21)),
 zg0 23 (.mnmx true (.t 11) (.t 22)),
 zm0 3 23] [0, 3, 4] []))
 (.reg false [zm0 9 4,
 zg0 10 (.bin .add (.t 9) (zi0 1)),
 zm0 4 10] [0, 3, 4] []))))
def ir51 : IFn :=   -- tympan/tympanref37.Foot
⟨(.seq (.reg false [zg0 2 (.mov (zi0 0))] [0] [])
 (.seq (.reg false [zg0 3 (.mov (zi0 0))] [0, 3] [])
 (.seq (.seq (.reg false [zg0 4 (.mov (zi0 0))] [0, 3, 4] [])
 (.block 0 lp51_0))
 (.seq (.reg false [zm0 24 3,
 zm0 2 24] [2] [])
 .ret)))),
 [.tmp 2], false⟩
def ir56 : IFn :=   -- tympan/valid.Right
⟨(.seq (.reg false [zg0 1 (.bx (.t 0) 22 true),
 zg0 2 (.mov zF0)] [1] [1])
 (.seq (.reg false [zg0 6 (.ld (.t 1) 22 true),
 zg0 7 (.call 142 [(.t 6)] false),
 zm0 5 7,
 zg0 8 (.ext (.t 5) 0),
 zg0 9 (.ext (.t 5) 1),
 zm0 3 8,
 zm0 4 9] [3] [])
 (.seq (.reg false [zm0 10 3,
 zg0 11 (.bin .eql (.t 10) (zi0 0)),
 zm0 2 11] [2] [])
 .ret))),
 [.tmp 2], false⟩
def lp57_0 : IC :=
 (.loop [2, 3, 16, 17, 18] [2, 3] (.seq (.reg false [zg0 19 (.bin .lss (.t 18) (.t 17))] [2, 3, 16, 17, 18, 19] [2, 3])
 (.seq (.cond (.t 19)
 .skip
 (.exit 0))
 (.seq (.block 1 (.seq (.reg false [zg0 20 (.ixs (.t 16) (.t 18) 2),
 zg0 21 (.ld (.t 20) 2 true),
 zg0 5 (.al [.nils, .nils] true),
 zn0 (.st (.t 5) (.t 21) 2)] [2, 3, 5, 16, 17, 18] [2, 3, 5])
 (.reg true [zg0 22 (.off (.t 3) 20),
 zg0 23 (.ldl 3 (.t 22) 1 false),
 zg0 24 (.off (.t 5) 0),
 zg0 25 (.ldl 5 (.t 24) 1 false),
 zg0 26 (.callz 145 [(.t 25)]),
 zg0 27 (.off (.t 5) 1),
 zg0 28 (.ldl 5 (.t 27) 1 false),
 zg0 29 (.callz 146 [(.t 28)]),
 zg0 30 (.bld [.nils, .nils] [(0, 1, (.t 26)), (1, 1, (.t 29))]),
 zg0 31 (.bsl 2 1 [.nils, .nils] [(0, (.t 30))]),
 zg0 32 (.app (.t 23) (.t 31) 2),
 zg0 33 (.off (.t 3) 20),
 zn0 (.stl 3 (.t 33) (.t 32) 1)] [2, 3, 16, 17, 18] [2, 3])))
 (.reg false [zg0 34 (.bin .add (.t 18) (zi0 1)),
 zm0 18 34] [2, 3, 16, 17, 18] [2, 3])))))
def ir57 : IFn :=   -- tympan/state.copied
⟨(.seq (.reg false [zg0 1 (.bx (.t 0) 22 true),
 zg0 2 (.al [zo0, zo0, zo0, zo0, zo0, zo0, zo0, zo0, zo0, zo0, zo0, zo0, zo0, zo0, zo0, zo0, zo0, zo0, .p (.bool false), .nils, .nils, .nils] true)] [1, 2] [1, 2])
 (.seq (.prep [3] (.reg true [zg0 6 (.off (.t 1) 0),
 zg0 7 (.ldl 1 (.t 6) 19 true),
 zg0 8 (.off (.t 1) 19),
 zg0 9 (.ldl 1 (.t 8) 1 false),
 zg0 10 (.callz 143 [(.t 9)]),
 zg0 11 (.off (.t 1) 21),
 zg0 12 (.ldl 1 (.t 11) 1 false),
 zg0 13 (.callz 144 [(.t 12)]),
 zg0 14 (.bld [zo0, zo0, zo0, zo0, zo0, zo0, zo0, zo0, zo0, zo0, zo0, zo0, zo0, zo0, zo0, zo0, zo0, zo0, .p (.bool false), .nils, .nils, .nils] [(0, 19, (.t 7)), (19, 1, (.t 10)), (21, 1, (.t 13))]),
 zg0 3 (.alp [zo0, zo0, zo0, zo0, zo0, zo0, zo0, zo0, zo0, zo0, zo0, zo0, zo0, zo0, zo0, zo0, zo0, zo0, .p (.bool false), .nils, .nils, .nils]),
 zn0 (.stl 3 (.t 3) (.t 14) 22)] [1, 2, 3] [1, 2, 3]))
 (.seq (.seq (.reg false [zg0 15 (.off (.t 1) 20),
 zg0 16 (.ld (.t 15) 1 false),
 zg0 17 (.len (.t 16)),
 zg0 18 (.mov (zi0 0))] [2, 3, 16, 17, 18] [2, 3])
 (.block 0 lp57_0))
 (.seq (.reg false [zg0 35 (.ld (.t 3) 22 true),
 zn0 (.st (.t 2) (.t 35) 22)] [2] [2])
 .ret)))),
 [.cell 2 22 true], false⟩
def lp58_0 : IC :=
 (.loop [2, 3, 4, 44, 45] [2, 3] (.seq (.reg false [zg0 46 (.bin .lss (.t 45) (.t 44))] [2, 3, 4, 44, 45, 46] [2, 3])
 (.seq (.cond (.t 46)
 .skip
 (.exit 0))
 (.seq (.block 1 (.seq (.reg false [zm0 47 45,
 zm0 5 47] [2, 3, 4, 5, 44, 45] [2, 3])
 (.reg true [zg0 48 (.ldl 3 (.t 3) 1 true),
 zg0 49 (.off (.t 4) 21),
 zg0 50 (.ld (.t 49) 1 false),
 zm0 51 5,
 zg0 52 (.ixs (.t 50) (.t 51) 3),
 zg0 53 (.off (.t 52) 1),
 zg0 54 (.bsl 1 1 [.p .nilp] [(0, (.t 53))]),
 zg0 55 (.call 149 [(.t 48), (.c (.p (.fn 151))), (.t 54)] false)] [2, 3, 4, 44, 45] [2, 3])))
 (.reg false [zg0 56 (.bin .add (.t 45) (zi0 1)),
 zm0 45 56] [2, 3, 4, 44, 45] [2, 3])))))
def ir58 : IFn :=   -- tympan/grid.Snap
⟨(.seq (.reg false [zg0 1 (.bx (.t 0) 22 true),
 zg0 2 (.al [zo0, zo0, zo0, zo0, zo0, zo0, zo0, zo0, zo0, zo0, zo0, zo0, zo0, zo0, zo0, zo0, zo0, zo0, .p (.bool false), .nils, .nils, .nils] true)] [1, 2] [1, 2])
 (.seq (.reg false [zg0 6 (.off (.t 1) 0),
 zg0 7 (.off (.t 6) 5),
 zg0 8 (.ld (.t 7) 1 false),
 zg0 9 (.bld [zo0] [(0, 1, (.t 8))]),
 zg0 3 (.al [zo0] true),
 zn0 (.st (.t 3) (.t 9) 1)] [1, 2, 3] [1, 2, 3])
 (.seq (.seq (.reg false [zg0 10 (.off (.t 3) 0),
 zg0 11 (.ld (.t 10) 1 false),
 zg0 12 (.bin .lss (.t 11) (zi0 1))] [1, 2, 3, 12] [1, 2, 3])
 (.cond (.t 12)
 (.seq (.reg false [zg0 13 (.ld (.t 1) 22 true),
 zn0 (.st (.t 2) (.t 13) 22)] [2] [2])
 .ret)
 .skip))
 (.seq (.prep [4] (.reg true [zg0 14 (.off (.t 1) 0),
 zg0 15 (.ldl 1 (.t 14) 19 true),
 zg0 16 (.ldl 3 (.t 3) 1 true),
 zg0 17 (.off (.t 1) 19),
 zg0 18 (.ldl 1 (.t 17) 1 false),
 zg0 19 (.call 147 [(.t 16), (.t 18)] false),
 zg0 20 (.ldl 3 (.t 3) 1 true),
 zg0 21 (.off (.t 1) 20),
 zg0 22 (.ldl 1 (.t 21) 1 false),
 zg0 23 (.call 148 [(.t 20), (.t 22)] false),
 zg0 24 (.off (.t 1) 21),
 zg0 25 (.ldl 1 (.t 24) 1 false),
 zg0 26 (.call 144 [(.t 25)] false),
 zg0 27 (.bld [zo0, zo0, zo0, zo0, zo0, zo0, zo0, zo0, zo0, zo0, zo0, zo0, zo0, zo0, zo0, zo0, zo0, zo0, .p (.bool false), .nils, .nils, .nils] [(0, 19, (.t 15)), (19, 1, (.t 19)), (20, 1, (.t 23)), (21, 1, (.t 26))]),
 zg0 4 (.alp [zo0, zo0, zo0, zo0, zo0, zo0, zo0, zo0, zo0, zo0, zo0, zo0, zo0, zo0, zo0, zo0, zo0, zo0, .p (.bool false), .nils, .nils, .nils]),
 zn0 (.stl 4 (.t 4) (.t 27) 22)] [2, 3, 4] [2, 3, 4]))
 (.esc [4] (.seq (.reg false [zg0 28 (.ld (.t 3) 1 true),
 zg0 29 (.off (.t 4) 0),
 zg0 30 (.off (.t 29) 3),
 zg0 31 (.off (.t 4) 0),
 zg0 32 (.off (.t 31) 4),
 zg0 33 (.bsl 1 2 [.p .nilp] [(0, (.t 30)), (1, (.t 32))]),
 zg0 34 (.call 149 [(.t 28), (.c (.p (.fn 150))), (.t 33)] false)] [2, 3, 4] [2, 3])
 (.seq (.reg false [zg0 35 (.ld (.t 3) 1 true),
 zg0 36 (.off (.t 4) 0),
 zg0 37 (.off (.t 36) 6),
 zg0 38 (.off (.t 4) 0),
 zg0 39 (.off (.t 38) 7),
 zg0 40 (.bsl 1 2 [.p .nilp] [(0, (.t 37)), (1, (.t 39))]),
 zg0 41 (.call 149 [(.t 35), (.c (.p (.fn 151))), (.t 40)] false)] [2, 3, 4] [2, 3])
 (.seq (.seq (.reg false [zg0 42 (.off (.t 4) 21),
 zg0 43 (.ld (.t 42) 1 false),
 zg0 44 (.len (.t 43)),
 zg0 45 (.mov (zi0 0))] [2, 3, 4, 44, 45] [2, 3])
 (.block 0 lp58_0))
 (.seq (.reg false [zg0 57 (.ld (.t 4) 22 true),
 zn0 (.st (.t 2) (.t 57) 22)] [2] [2])
 .ret))))))))),
 [.cell 2 22 true], false⟩
def lp59_0 : IC :=
 (.loop [0, 4, 23, 24] [21] (.seq (.reg false [zg0 25 (.bin .lss (.t 24) (.t 23))] [0, 4, 23, 24, 25] [21])
 (.seq (.cond (.t 25)
 .skip
 (.exit 0))
 (.seq (.block 1 (.seq (.reg false [zm0 26 24,
 zm0 5 26] [0, 4, 5, 23, 24] [21])
 (.seq (.reg false [zm0 27 0,
 zm0 28 5,
 zg0 29 (.ixs (.t 27) (.t 28) 7),
 zg0 30 (.ld (.t 29) 7 true),
 zg0 31 (.call 152 [(.t 30)] false),
 zg0 6 (.al [zo0, zo0, zo0, zo0, zo0, zo0] true),
 zn0 (.st (.t 6) (.t 31) 6)] [0, 4, 5, 6, 23, 24] [6, 21])
 (.seq (.seq (.reg false [zg0 32 (.ld (.t 6) 6 true),
 zg0 33 (.call 153 [(.t 32)] false),
 zg0 34 (.un .not (.t 33))] [0, 4, 5, 6, 23, 24, 34] [6, 21])
 (.cond (.t 34)
 (.seq (.reg false [zg0 2 (.mov (.c (.p .nilp))),
 zg0 3 (.mov zF0)] [2, 3] [21])
 .ret)
 .skip))
 (.seq (.reg true [zm0 36 4,
 zg0 37 (.nck (.t 36)),
 zg0 38 (.off (.t 37) 1),
 zg0 39 (.ldl 21 (.t 38) 1 false),
 zm0 40 5,
 zg0 41 (.bin .add (.t 40) (zi0 1)),
 zm0 42 4,
 zg0 43 (.nck (.t 42)),
 zg0 44 (.off (.t 43) 1),
 zg0 45 (.ldl 21 (.t 44) 1 false),
 zm0 46 5,
 zg0 47 (.ixs (.t 45) (.t 46) 6),
 zg0 48 (.ld (.t 47) 6 true),
 zg0 49 (.ldl 6 (.t 6) 6 true),
 zg0 50 (.call 154 [(.t 48), (.t 49)] false),
 zm0 35 50,
 zg0 51 (.ext (.t 35) 0),
 zg0 52 (.ext (.t 35) 1),
 zg0 53 (.ixs (.t 39) (.t 41) 6),
 zn0 (.st (.t 53) (.t 51) 6)] [0, 4, 5, 23, 24] [21])
 (.seq (.reg true [zm0 54 4,
 zg0 55 (.nck (.t 54)),
 zg0 56 (.off (.t 55) 2),
 zg0 57 (.ldl 21 (.t 56) 1 false),
 zm0 58 5,
 zg0 59 (.bin .add (.t 58) (zi0 1)),
 zm0 60 4,
 zg0 61 (.nck (.t 60)),
 zg0 62 (.off (.t 61) 2),
 zg0 63 (.ldl 21 (.t 62) 1 false),
 zm0 64 5,
 zg0 65 (.ixs (.t 63) (.t 64) 1),
 zg0 66 (.ld (.t 65) 1 false),
 zg0 67 (.ixs (.t 57) (.t 59) 1),
 zn0 (.st (.t 67) (.t 66) 1)] [0, 4, 5, 23, 24] [21])
 (.seq (.reg false [zm0 68 0,
 zm0 69 5,
 zg0 70 (.ixs (.t 68) (.t 69) 7),
 zg0 71 (.off (.t 70) 0),
 zg0 72 (.ld (.t 71) 1 false),
 zg0 73 (.bin .eql (.t 72) (zi0 1))] [0, 4, 5, 23, 24, 73] [21])
 (.cond (.t 73)
 (.reg true [zm0 74 4,
 zg0 75 (.nck (.t 74)),
 zg0 76 (.off (.t 75) 2),
 zg0 77 (.ldl 21 (.t 76) 1 false),
 zm0 78 5,
 zg0 79 (.bin .add (.t 78) (zi0 1)),
 zg0 80 (.ixs (.t 77) (.t 79) 1),
 zg0 81 (.ld (.t 80) 1 false),
 zm0 82 0,
 zm0 83 5,
 zg0 84 (.ixs (.t 82) (.t 83) 7),
 zg0 85 (.off (.t 84) 1),
 zg0 86 (.ld (.t 85) 1 false),
 zg0 87 (.bin .add (.t 81) (.t 86)),
 zg0 88 (.ixs (.t 77) (.t 79) 1),
 zn0 (.st (.t 88) (.t 87) 1)] [0, 4, 23, 24] [21])
 .skip))))))))
 (.reg false [zg0 89 (.bin .add (.t 24) (zi0 1)),
 zm0 24 89] [0, 4, 23, 24] [21])))))
def ir59 : IFn :=   -- tympan/sums.New
⟨(.seq (.reg false [zg0 2 (.mov (.c (.p .nilp))),
 zg0 3 (.mov zF0)] [0] [])
 (.seq (.seq (.reg false [zm0 7 0,
 zg0 8 (.len (.t 7)),
 zg0 9 (.bin .gtr (.t 8) (zi0 4096))] [0, 9] [])
 (.cond (.t 9)
 (.seq (.reg false [zg0 2 (.mov (.c (.p .nilp))),
 zg0 3 (.mov zF0)] [2, 3] [21])
 .ret)
 .skip))
 (.seq (.rsv [6, 1] (.prep [21] (.reg true [zm0 10 0,
 zg0 11 (.callz 143 [(.t 10)]),
 zm0 12 0,
 zg0 13 (.len (.t 12)),
 zg0 14 (.bin .add (.t 13) (zi0 1)),
 zg0 15 (.mkh 2 6 [zo0, zo0, zo0, zo0, zo0, zo0] (.t 14)),
 zm0 16 0,
 zg0 17 (.len (.t 16)),
 zg0 18 (.bin .add (.t 17) (zi0 1)),
 zg0 19 (.mkh 1 1 [zo0] (.t 18)),
 zg0 20 (.bld [.nils, .nils, .nils] [(0, 1, (.t 11)), (1, 1, (.t 15)), (2, 1, (.t 19))]),
 zg0 21 (.bxp (.t 20) 3),
 zm0 4 21] [0, 4] [21])))
 (.seq (.seq (.reg false [zm0 22 0,
 zg0 23 (.len (.t 22)),
 zg0 24 (.mov (zi0 0))] [0, 4, 23, 24] [21])
 (.block 0 lp59_0))
 (.seq (.esc [21] (.reg false [zm0 90 4,
 zm0 2 90,
 zg0 3 (.mov zT0)] [2, 3] [21]))
 .ret))))),
 [.tmp 2, .tmp 3], false⟩
def ir60 : IFn :=   -- tympan/vlist.New
⟨(.seq (.reg false [zg0 2 (.mov (.c (.p .nilp)))] [0] [])
 (.seq (.reg false [zm0 3 0,
 zg0 4 (.callz 143 [(.t 3)]),
 zg0 5 (.bld [.nils] [(0, 1, (.t 4))]),
 zg0 6 (.bx (.t 5) 1 false),
 zm0 2 6] [2] [])
 .ret)),
 [.tmp 2], false⟩
def lp61_0 : IC :=
 (.loop [1, 5, 22, 23, 24] [21] (.seq (.reg false [zg0 25 (.bin .lss (.t 24) (.t 23))] [1, 5, 22, 23, 24, 25] [21])
 (.seq (.cond (.t 25)
 .skip
 (.exit 0))
 (.seq (.block 1 (.seq (.reg false [zm0 26 24,
 zg0 27 (.ixs (.t 22) (.t 24) 7),
 zg0 28 (.ld (.t 27) 7 true),
 zg0 7 (.al [zo0, zo0, zo0, zo0, zo0, zo0, zo0] true),
 zm0 6 26,
 zn0 (.st (.t 7) (.t 28) 7)] [1, 5, 6, 7, 22, 23, 24] [7, 21])
 (.seq (.prep [9, 10] (.reg true [zm0 29 5,
 zg0 30 (.nck (.t 29)),
 zg0 31 (.off (.t 30) 1),
 zg0 32 (.ldl 21 (.t 31) 1 false),
 zm0 33 6,
 zg0 34 (.ixs (.t 32) (.t 33) 1),
 zg0 35 (.ldh (.t 34) 1 false),
 zm0 36 5,
 zg0 37 (.nck (.t 36)),
 zg0 38 (.off (.t 37) 2),
 zg0 39 (.ldl 21 (.t 38) 1 false),
 zm0 40 6,
 zg0 41 (.ixs (.t 39) (.t 40) 3),
 zg0 42 (.ldh (.t 41) 3 true),
 zm0 43 5,
 zg0 44 (.nck (.t 43)),
 zg0 45 (.off (.t 44) 3),
 zg0 46 (.ldl 21 (.t 45) 1 false),
 zm0 47 6,
 zg0 48 (.ixs (.t 46) (.t 47) 3),
 zg0 49 (.ldh (.t 48) 3 true),
 zg0 9 (.alp [zo0, zo0, zo0]),
 zg0 10 (.alp [zo0, zo0, zo0]),
 zm0 8 35,
 zn0 (.stl 9 (.t 9) (.t 42) 3),
 zn0 (.stl 10 (.t 10) (.t 49) 3)] [1, 5, 7, 8, 9, 10, 22, 23, 24] [7, 9, 10, 21]))
 (.seq (.seq (.reg false [zg0 50 (.off (.t 7) 0),
 zg0 51 (.ld (.t 50) 1 false)] [1, 5, 7, 8, 9, 10, 22, 23, 24, 51] [7, 9, 10, 21])
 (.block 2 (.seq (.reg false [zg0 53 (.bin .eql (.t 51) (zi0 5)),
 zm0 52 53] [1, 5, 7, 8, 9, 10, 22, 23, 24, 51, 52] [7, 9, 10, 21])
 (.cond (.t 52)
 (.reg false [zm0 54 8,
 zg0 55 (.bin .add (.t 54) (zi0 1)),
 zm0 8 55] [1, 5, 8, 9, 10, 22, 23, 24] [9, 10, 21])
 (.seq (.reg false [zg0 57 (.bin .eql (.t 51) (zi0 6)),
 zm0 56 57] [1, 5, 7, 8, 9, 10, 22, 23, 24, 51, 56] [7, 9, 10, 21])
 (.cond (.t 56)
 (.seq (.reg false [zm0 59 1,
 zg0 60 (.off (.t 7) 6),
 zg0 61 (.ld (.t 60) 1 false),
 zg0 62 (.call 155 [(.t 59), (.t 61)] false),
 zm0 58 62,
 zg0 63 (.ext (.t 58) 0),
 zg0 64 (.ext (.t 58) 1),
 zg0 11 (.al [zo0, zo0, zo0] true),
 zn0 (.st (.t 11) (.t 63) 3),
 zm0 12 64] [1, 5, 8, 9, 10, 11, 12, 22, 23, 24] [9, 10, 11, 21])
 (.seq (.reg false [zm0 65 12,
 zm0 66 65,
 zt0 67 66 (.off (.t 11) 0),
 zt0 68 66 (.ld (.t 67) 1 false),
 zt0 69 66 (.bin .geq (.t 68) (zi0 0)),
 zg0 70 (.pick (.t 66) (.t 69) zF0),
 zm0 71 70,
 zt0 72 71 (.off (.t 11) 0),
 zt0 73 71 (.ld (.t 72) 1 false),
 zt0 74 71 (.bin .lss (.t 73) (zi0 3)),
 zg0 75 (.pick (.t 71) (.t 74) zF0)] [1, 5, 8, 9, 10, 11, 22, 23, 24, 75] [9, 10, 11, 21])
 (.cond (.t 75)
 (.reg false [zg0 76 (.off (.t 11) 0),
 zg0 77 (.ld (.t 76) 1 false),
 zg0 78 (.ixa (.t 9) (.t 77) 1 3),
 zg0 79 (.ld (.t 78) 1 false),
 zg0 80 (.bin .add (.t 79) (zi0 1)),
 zg0 81 (.ixa (.t 9) (.t 77) 1 3),
 zn0 (.st (.t 81) (.t 80) 1)] [1, 5, 8, 9, 10, 22, 23, 24] [9, 10, 21])
 .skip)))
 (.seq (.reg false [zg0 83 (.bin .eql (.t 51) (zi0 7)),
 zm0 82 83] [1, 5, 8, 9, 10, 22, 23, 24, 82] [9, 10, 21])
 (.cond (.t 82)
 (.seq (.reg false [zg0 84 (.ld (.t 10) 3 true),
 zg0 85 (.ld (.t 9) 3 true),
 zg0 86 (.eqa true [true, true, true] (.t 84) (.t 85))] [1, 5, 8, 9, 10, 22, 23, 24, 86] [9, 10, 21])
 (.cond (.t 86)
 (.reg false [zg0 87 (.ld (.t 9) 3 true),
 zn0 (.st (.t 10) (.t 87) 3)] [1, 5, 8, 9, 10, 22, 23, 24] [9, 10, 21])
 .skip))
 .skip))))))))
 (.reg true [zm0 88 5,
 zm0 89 5,
 zm0 90 5,
 zm0 91 5,
 zg0 92 (.nck (.t 91)),
 zg0 93 (.off (.t 92) 1),
 zg0 94 (.ldl 21 (.t 93) 1 false),
 zm0 95 8,
 zg0 96 (.bsl 1 1 [zo0] [(0, (.t 95))]),
 zg0 97 (.apo (.t 94) (.t 96) 1 (.t 24) 1),
 zm0 98 5,
 zg0 99 (.nck (.t 98)),
 zg0 100 (.off (.t 99) 2),
 zg0 101 (.ldl 21 (.t 100) 1 false),
 zg0 102 (.ldl 9 (.t 9) 3 true),
 zg0 103 (.bsl 3 1 [zo0, zo0, zo0] [(0, (.t 102))]),
 zg0 104 (.apo (.t 101) (.t 103) 3 (.t 24) 1),
 zm0 105 5,
 zg0 106 (.nck (.t 105)),
 zg0 107 (.off (.t 106) 3),
 zg0 108 (.ldl 21 (.t 107) 1 false),
 zg0 109 (.ldl 10 (.t 10) 3 true),
 zg0 110 (.bsl 3 1 [zo0, zo0, zo0] [(0, (.t 109))]),
 zg0 111 (.apo (.t 108) (.t 110) 3 (.t 24) 1),
 zg0 112 (.nck (.t 88)),
 zg0 113 (.off (.t 112) 1),
 zn0 (.stl 21 (.t 113) (.t 97) 1),
 zg0 114 (.nck (.t 89)),
 zg0 115 (.off (.t 114) 2),
 zn0 (.stl 21 (.t 115) (.t 104) 1),
 zg0 116 (.nck (.t 90)),
 zg0 117 (.off (.t 116) 3),
 zn0 (.stl 21 (.t 117) (.t 111) 1)] [1, 5, 22, 23, 24] [21])))))
 (.reg false [zg0 118 (.bin .add (.t 24) (zi0 1)),
 zm0 24 118] [1, 5, 22, 23, 24] [21])))))
def ir61 : IFn :=   -- tympan/anchor.New
⟨(.seq (.reg false [zg0 4 (.mov (.c (.p .nilp)))] [0, 1] [])
 (.seq (.reg false [zm0 13 0,
 zg0 14 (.callz 143 [(.t 13)]),
 zg0 15 (.bsr 1 1 [zo0] [(0, (zi0 0))]),
 zg0 16 (.bld [zo0, zo0, zo0] []),
 zg0 17 (.bsr 3 1 [zo0, zo0, zo0] [(0, (.t 16))]),
 zg0 18 (.bld [zo0, zo0, zo0] []),
 zg0 19 (.bsr 3 1 [zo0, zo0, zo0] [(0, (.t 18))]),
 zg0 20 (.bld [.nils, .nils, .nils, .nils] [(0, 1, (.t 14)), (1, 1, (.t 15)), (2, 1, (.t 17)), (3, 1, (.t 19))]),
 zg0 21 (.bx (.t 20) 4 true),
 zm0 5 21] [0, 1, 5] [21])
 (.seq (.seq (.reg false [zm0 22 0,
 zg0 23 (.len (.t 22)),
 zg0 24 (.mov (zi0 0))] [1, 5, 22, 23, 24] [21])
 (.block 0 lp61_0))
 (.seq (.esc [21] (.reg false [zm0 119 5,
 zm0 4 119] [4] [21]))
 .ret)))),
 [.tmp 4], false⟩
def ir62 : IFn :=   -- (*tympan/anchor.Map).Ahead
⟨(.seq (.reg false [zg0 4 (.al [zo0, zo0, zo0] true)] [0, 1, 4] [4])
 (.seq (.reg false [zm0 7 0,
 zm0 8 1,
 zg0 9 (.call 156 [(.t 7), (.t 8)] false),
 zm0 6 9,
 zg0 10 (.ext (.t 6) 0),
 zg0 11 (.ext (.t 6) 1),
 zm0 1 10,
 zm0 5 11] [0, 1, 4, 5] [4])
 (.seq (.seq (.reg false [zm0 12 5,
 zg0 13 (.un .not (.t 12))] [0, 1, 4, 13] [4])
 (.cond (.t 13)
 (.seq (.reg false [zg0 14 (.bld [zo0, zo0, zo0] []),
 zn0 (.st (.t 4) (.t 14) 3)] [4] [4])
 .ret)
 .skip))
 (.seq (.reg false [zm0 15 0,
 zg0 16 (.nck (.t 15)),
 zg0 17 (.off (.t 16) 2),
 zg0 18 (.ld (.t 17) 1 false),
 zm0 19 1,
 zg0 20 (.ixs (.t 18) (.t 19) 3),
 zg0 21 (.ld (.t 20) 3 true),
 zn0 (.st (.t 4) (.t 21) 3)] [4] [4])
 .ret)))),
 [.cell 4 3 true], false⟩
def lp63_0 : IC :=
 (.loop [3, 6, 7, 8] [] (.seq (.reg false [zg0 9 (.bin .lss (.t 8) (.t 7))] [3, 6, 7, 8, 9] [])
 (.seq (.cond (.t 9)
 .skip
 (.exit 0))
 (.seq (.block 1 (.seq (.reg false [zg0 10 (.ixs (.t 6) (.t 8) 2),
 zg0 11 (.ld (.t 10) 2 true),
 zg0 5 (.al [.nils, .nils] true),
 zn0 (.st (.t 5) (.t 11) 2)] [3, 5, 6, 7, 8] [5])
 (.reg false [zm0 12 3,
 zg0 13 (.off (.t 5) 0),
 zg0 14 (.ld (.t 13) 1 false),
 zg0 15 (.len (.t 14)),
 zg0 16 (.bin .add (.t 12) (.t 15)),
 zm0 3 16] [3, 6, 7, 8] [])))
 (.reg false [zg0 17 (.bin .add (.t 8) (zi0 1)),
 zm0 8 17] [3, 6, 7, 8] [])))))
def ir63 : IFn :=   -- tympan/note.Lines
⟨(.seq (.reg false [zg0 2 (.mov (zi0 0))] [0] [])
 (.seq (.reg false [zg0 3 (.mov (zi0 0))] [0, 3] [])
 (.seq (.seq (.reg false [zm0 6 0,
 zg0 7 (.len (.t 6)),
 zg0 8 (.mov (zi0 0))] [3, 6, 7, 8] [])
 (.block 0 lp63_0))
 (.seq (.reg false [zm0 18 3,
 zm0 2 18] [2] [])
 .ret)))),
 [.tmp 2], false⟩
def ir65 : IFn :=   -- (*tympan/vlist.List).Trim
⟨(.seq (.reg false [zg0 4 (.mov (zi0 0))] [0, 1] [])
 (.seq (.seq (.reg false [zm0 5 0,
 zg0 6 (.eqn .ptr false (.t 5))] [0, 1, 6] [])
 (.cond (.t 6)
 (.seq (.reg false [zg0 4 (.mov (zi0 0))] [4] [])
 .ret)
 .skip))
 (.seq (.reg false [zm0 7 0,
 zm0 8 1,
 zg0 9 (.mnmx true (.t 8) (zi0 0)),
 zm0 10 0,
 zg0 11 (.call 78 [(.t 10)] false),
 zg0 12 (.mnmx false (.t 9) (.t 11)),
 zm0 13 0,
 zg0 14 (.mkf (.func 161) [(.t 13)] []),
 zg0 15 (.call 160 [(.t 7), (.t 12), (.t 14)] false),
 zm0 4 15] [4] [])
 .ret))),
 [.tmp 4], false⟩
def ir67 : IFn :=   -- (tympan/queue.Counts).Add
⟨(.seq (.reg false [zg0 2 (.bx (.t 0) 3 true),
 zg0 3 (.bx (.t 1) 3 true),
 zg0 4 (.al [zo0, zo0, zo0] true)] [2, 3, 4] [2, 3, 4])
 (.seq (.reg false [zg0 5 (.ld (.t 2) 3 true),
 zg0 6 (.ld (.t 3) 3 true),
 zg0 7 (.call 162 [(.t 5), (.t 6), (zi0 (-1073741824)), (.c (.p (.fn 163)))] false),
 zn0 (.st (.t 4) (.t 7) 3)] [4] [4])
 .ret)),
 [.cell 4 3 true], false⟩
def lp68_0 : IC :=
 (.loop [0, 4, 5, 10, 11, 12] [4, 5] (.seq (.reg false [zg0 13 (.bin .lss (.t 12) (.t 11))] [0, 4, 5, 10, 11, 12, 13] [4, 5])
 (.seq (.cond (.t 13)
 .skip
 (.exit 0))
 (.seq (.block 1 (.seq (.reg false [zg0 14 (.ixs (.t 10) (.t 12) 1),
 zg0 15 (.ld (.t 14) 1 false),
 zm0 7 15] [0, 4, 5, 7, 10, 11, 12] [4, 5])
 (.seq (.reg false [zm0 17 0,
 zm0 18 7,
 zg0 19 (.call 155 [(.t 17), (.t 18)] false),
 zm0 16 19,
 zg0 20 (.ext (.t 16) 0),
 zg0 21 (.ext (.t 16) 1),
 zg0 8 (.al [zo0, zo0, zo0] true),
 zn0 (.st (.t 8) (.t 20) 3),
 zm0 9 21] [0, 4, 5, 8, 9, 10, 11, 12] [4, 5, 8])
 (.seq (.reg false [zm0 22 9,
 zm0 23 22,
 zt0 24 23 (.off (.t 8) 0),
 zt0 25 23 (.ld (.t 24) 1 false),
 zt0 26 23 (.bin .geq (.t 25) (zi0 0)),
 zg0 27 (.pick (.t 23) (.t 26) zF0),
 zm0 28 27,
 zt0 29 28 (.off (.t 8) 0),
 zt0 30 28 (.ld (.t 29) 1 false),
 zt0 31 28 (.bin .lss (.t 30) (zi0 3)),
 zg0 32 (.pick (.t 28) (.t 31) zF0)] [0, 4, 5, 8, 10, 11, 12, 32] [4, 5, 8])
 (.cond (.t 32)
 (.reg false [zg0 33 (.off (.t 8) 0),
 zg0 34 (.ld (.t 33) 1 false),
 zg0 35 (.ixa (.t 5) (.t 34) 1 3),
 zg0 36 (.ld (.t 35) 1 false),
 zg0 37 (.bin .add (.t 36) (zi0 1)),
 zg0 38 (.ixa (.t 5) (.t 34) 1 3),
 zn0 (.st (.t 38) (.t 37) 1)] [0, 4, 5, 10, 11, 12] [4, 5])
 .skip)))))
 (.reg false [zg0 39 (.bin .add (.t 12) (zi0 1)),
 zm0 12 39] [0, 4, 5, 10, 11, 12] [4, 5])))))
def ir68 : IFn :=   -- tympan/queue.Of
⟨(.seq (.reg false [zg0 4 (.al [zo0, zo0, zo0] true)] [0, 1, 4] [4])
 (.seq (.reg false [zg0 5 (.al [zo0, zo0, zo0] true)] [0, 1, 4, 5] [4, 5])
 (.seq (.seq (.reg false [zm0 10 1,
 zg0 11 (.len (.t 10)),
 zg0 12 (.mov (zi0 0))] [0, 4, 5, 10, 11, 12] [4, 5])
 (.block 0 lp68_0))
 (.seq (.reg false [zg0 40 (.ld (.t 5) 3 true),
 zn0 (.st (.t 4) (.t 40) 3)] [4] [4])
 .ret)))),
 [.cell 4 3 true], false⟩
def ir78 : IFn :=   -- (*tympan/vlist.List).Len
⟨(.seq (.reg false [zg0 2 (.mov (zi0 0))] [0] [])
 (.seq (.seq (.reg false [zm0 3 0,
 zg0 4 (.eqn .ptr false (.t 3))] [0, 4] [])
 (.cond (.t 4)
 (.seq (.reg false [zg0 2 (.mov (zi0 0))] [2] [])
 .ret)
 .skip))
 (.seq (.reg false [zm0 5 0,
 zg0 6 (.nck (.t 5)),
 zg0 7 (.off (.t 6) 0),
 zg0 8 (.ld (.t 7) 1 false),
 zg0 9 (.len (.t 8)),
 zm0 2 9] [2] [])
 .ret))),
 [.tmp 2], false⟩
def ir79 : IFn :=   -- (*tympan/state.World).carries
⟨(.seq (.reg false [zg0 3 (.bx (.t 1) 7 true),
 zg0 4 (.mov zF0)] [0, 3] [3])
 (.seq (.reg true [zm0 7 0,
 zg0 8 (.nck (.t 7)),
 zg0 9 (.off (.t 8) 0),
 zg0 10 (.ld (.t 9) 1 false),
 zg0 11 (.nck (.t 10)),
 zg0 12 (.off (.t 11) 2),
 zg0 13 (.ld (.t 12) 1 false),
 zg0 14 (.off (.t 3) 0),
 zg0 15 (.ldl 3 (.t 14) 1 false),
 zg0 16 (.call 88 [(.t 13), (.t 15)] false),
 zm0 5 16] [0, 3, 5] [3])
 (.seq (.seq (.reg false [zg0 17 (.off (.t 3) 3),
 zg0 18 (.ld (.t 17) 1 false),
 zg0 19 (.bin .eql (.t 18) (zi0 0))] [0, 3, 5, 19] [3])
 (.cond (.t 19)
 (.seq (.reg false [zg0 20 (.off (.t 3) 2),
 zg0 21 (.ld (.t 20) 1 false),
 zm0 22 5,
 zg0 23 (.bin .eql (.t 21) (.t 22)),
 zm0 4 23] [4] [])
 .ret)
 .skip))
 (.seq (.seq (.reg false [zg0 24 (.off (.t 3) 2),
 zg0 25 (.ld (.t 24) 1 false),
 zm0 26 5,
 zg0 27 (.bin .sub (.t 26) (zi0 1)),
 zg0 28 (.bin .neq (.t 25) (.t 27)),
 zm0 29 28,
 zf0 30 29 (.off (.t 3) 2),
 zf0 31 29 (.ld (.t 30) 1 false),
 zf0 32 29 (.bin .lss (.t 31) (zi0 0)),
 zg0 33 (.pick (.t 29) zT0 (.t 32)),
 zm0 34 33,
 zf0 35 34 (.off (.t 3) 3),
 zf0 36 34 (.ld (.t 35) 1 false),
 zf0 37 34 (.bin .lss (.t 36) (zi0 1)),
 zg0 38 (.pick (.t 34) zT0 (.t 37))] [0, 3, 38] [3])
 (.cond (.t 38)
 (.seq (.reg false [zg0 4 (.mov zF0)] [4] [])
 .ret)
 .skip))
 (.seq (.prep [6] (.reg true [zm0 39 0,
 zg0 40 (.nck (.t 39)),
 zg0 41 (.off (.t 40) 1),
 zg0 42 (.off (.t 41) 20),
 zg0 43 (.ld (.t 42) 1 false),
 zg0 44 (.off (.t 3) 2),
 zg0 45 (.ldl 3 (.t 44) 1 false),
 zg0 46 (.ixs (.t 43) (.t 45) 2),
 zg0 47 (.ld (.t 46) 2 true),
 zg0 6 (.alp [.nils, .nils]),
 zn0 (.stl 6 (.t 6) (.t 47) 2)] [3, 6] [3, 6]))
 (.seq (.reg false [zg0 48 (.off (.t 3) 3),
 zg0 49 (.ld (.t 48) 1 false),
 zg0 50 (.off (.t 6) 0),
 zg0 51 (.ld (.t 50) 1 false),
 zg0 52 (.len (.t 51)),
 zg0 53 (.bin .lss (.t 49) (.t 52)),
 zm0 54 53,
 zt0 55 54 (.ld (.t 6) 2 true),
 zt0 56 54 (.off (.t 3) 3),
 zt0 57 54 (.ld (.t 56) 1 false),
 zt0 58 54 (.call 171 [(.t 55), (.t 57)] false),
 zg0 59 (.pick (.t 54) (.t 58) zF0),
 zm0 4 59] [4] [])
 .ret)))))),
 [.tmp 4], false⟩
def lp80_0 : IC :=
 (.loop [3, 7, 8] [3] (.seq (.reg false [zg0 9 (.bin .lss (.t 8) (zi0 3))] [3, 7, 8, 9] [3])
 (.seq (.cond (.t 9)
 .skip
 (.exit 0))
 (.seq (.block 1 (.seq (.reg false [zm0 10 8,
 zg0 11 (.ixv (.t 7) (.t 8) 1 3 false),
 zm0 5 10,
 zm0 6 11] [3, 5, 6, 7, 8] [3])
 (.seq (.reg false [zm0 12 6,
 zm0 13 5,
 zg0 14 (.ixa (.t 3) (.t 13) 1 3),
 zg0 15 (.ld (.t 14) 1 false),
 zg0 16 (.bin .gtr (.t 12) (.t 15))] [3, 7, 8, 16] [3])
 (.cond (.t 16)
 (.seq (.reg false [zg0 4 (.mov zF0)] [4] [])
 .ret)
 .skip))))
 (.reg false [zg0 17 (.bin .add (.t 8) (zi0 1)),
 zm0 8 17] [3, 7, 8] [3])))))
def ir80 : IFn :=   -- (tympan/queue.Counts).Within
⟨(.seq (.reg false [zg0 2 (.bx (.t 0) 3 true),
 zg0 3 (.bx (.t 1) 3 true),
 zg0 4 (.mov zF0)] [2, 3] [2, 3])
 (.seq (.seq (.reg false [zg0 7 (.ld (.t 2) 3 true),
 zg0 8 (.mov (zi0 0))] [3, 7, 8] [3])
 (.block 0 lp80_0))
 (.seq (.reg false [zg0 4 (.mov zT0)] [4] [])
 .ret))),
 [.tmp 4], false⟩
def lp82_0 : IC :=
 (.loop [3, 6, 7] [] (.seq (.reg false [zg0 8 (.bin .lss (.t 7) (zi0 3))] [3, 6, 7, 8] [])
 (.seq (.cond (.t 8)
 .skip
 (.exit 0))
 (.seq (.block 1 (.seq (.reg false [zg0 9 (.ixv (.t 6) (.t 7) 1 3 false),
 zm0 5 9] [3, 5, 6, 7] [])
 (.reg false [zm0 10 3,
 zm0 11 5,
 zg0 12 (.call 172 [(.t 11), (zi0 (-1073741824)), (zi0 1073741824)] false),
 zg0 13 (.bin .add (.t 10) (.t 12)),
 zm0 3 13] [3, 6, 7] [])))
 (.reg false [zg0 14 (.bin .add (.t 7) (zi0 1)),
 zm0 7 14] [3, 6, 7] [])))))
def ir82 : IFn :=   -- (tympan/queue.Counts).Sum
⟨(.seq (.reg false [zg0 1 (.bx (.t 0) 3 true),
 zg0 2 (.mov (zi0 0))] [1] [1])
 (.seq (.reg false [zg0 3 (.mov (zi0 0))] [1, 3] [1])
 (.seq (.seq (.reg false [zg0 6 (.ld (.t 1) 3 true),
 zg0 7 (.mov (zi0 0))] [3, 6, 7] [])
 (.block 0 lp82_0))
 (.seq (.reg false [zm0 15 3,
 zm0 2 15] [2] [])
 .ret)))),
 [.tmp 2], false⟩
def ir83 : IFn :=   -- tympan/queue.Ready
⟨(.seq (.reg false [zg0 2 (.bx (.t 0) 3 true),
 zg0 3 (.bx (.t 1) 3 true),
 zg0 4 (.al [zo0, zo0, zo0] true)] [2, 3, 4] [2, 3, 4])
 (.seq (.reg false [zg0 5 (.ld (.t 2) 3 true),
 zg0 6 (.ld (.t 3) 3 true),
 zg0 7 (.call 162 [(.t 5), (.t 6), (zi0 0), (.c (.p (.fn 173)))] false),
 zn0 (.st (.t 4) (.t 7) 3)] [4] [4])
 .ret)),
 [.cell 4 3 true], false⟩
def ir84 : IFn :=   -- (*tympan/state.World).parts
⟨(.seq (.reg false [zg0 2 (.mov (.c (.p .nilp)))] [0] [])
 (.seq (.seq (.reg false [zm0 3 0,
 zg0 4 (.eqn .ptr false (.t 3))] [0, 4] [])
 (.cond (.t 4)
 (.seq (.reg false [zg0 2 (.mov (.c (.p .nilp)))] [2] [])
 .ret)
 .skip))
 (.seq (.reg false [zm0 5 0,
 zg0 6 (.nck (.t 5)),
 zg0 7 (.off (.t 6) 0),
 zg0 8 (.ld (.t 7) 1 false),
 zm0 2 8] [2] [])
 .ret))),
 [.tmp 2], false⟩
def ir85 : IFn :=   -- (*tympan/state.text).List
⟨(.seq (.reg false [zg0 2 (.mov (.c (.p .nilp)))] [0] [])
 (.seq (.seq (.reg false [zm0 3 0,
 zg0 4 (.eqn .ptr false (.t 3))] [0, 4] [])
 (.cond (.t 4)
 (.seq (.reg false [zg0 2 (.mov (.c (.p .nilp)))] [2] [])
 .ret)
 .skip))
 (.seq (.reg false [zm0 5 0,
 zg0 6 (.nck (.t 5)),
 zg0 7 (.off (.t 6) 0),
 zg0 8 (.ld (.t 7) 1 false),
 zm0 2 8] [2] [])
 .ret))),
 [.tmp 2], false⟩
def ir86 : IFn :=   -- (*tympan/state.text).Sums
⟨(.seq (.reg false [zg0 2 (.mov (.c (.p .nilp)))] [0] [])
 (.seq (.seq (.reg false [zm0 3 0,
 zg0 4 (.eqn .ptr false (.t 3))] [0, 4] [])
 (.cond (.t 4)
 (.seq (.reg false [zg0 2 (.mov (.c (.p .nilp)))] [2] [])
 .ret)
 .skip))
 (.seq (.reg false [zm0 5 0,
 zg0 6 (.nck (.t 5)),
 zg0 7 (.off (.t 6) 1),
 zg0 8 (.ld (.t 7) 1 false),
 zm0 2 8] [2] [])
 .ret))),
 [.tmp 2], false⟩
def ir88 : IFn :=   -- (*tympan/anchor.Map).Begun
⟨(.seq (.reg false [zg0 4 (.mov (zi0 0))] [0, 1] [])
 (.seq (.reg false [zm0 7 0,
 zm0 8 1,
 zg0 9 (.call 156 [(.t 7), (.t 8)] false),
 zm0 6 9,
 zg0 10 (.ext (.t 6) 0),
 zg0 11 (.ext (.t 6) 1),
 zm0 1 10,
 zm0 5 11] [0, 1, 5] [])
 (.seq (.seq (.reg false [zm0 12 5,
 zg0 13 (.un .not (.t 12))] [0, 1, 13] [])
 (.cond (.t 13)
 (.seq (.reg false [zg0 4 (.mov (zi0 0))] [4] [])
 .ret)
 .skip))
 (.seq (.reg false [zm0 14 0,
 zg0 15 (.nck (.t 14)),
 zg0 16 (.off (.t 15) 1),
 zg0 17 (.ld (.t 16) 1 false),
 zm0 18 1,
 zg0 19 (.ixs (.t 17) (.t 18) 1),
 zg0 20 (.ld (.t 19) 1 false),
 zm0 4 20] [4] [])
 .ret)))),
 [.tmp 4], false⟩
def lp91_0 : IC :=
 (.loop [1, 3] [1] (.seq (.seq (.reg false [zm0 25 3,
 zg0 26 (.off (.t 1) 0),
 zg0 27 (.ld (.t 26) 1 false),
 zg0 28 (.len (.t 27)),
 zg0 29 (.bin .lss (.t 25) (.t 28))] [1, 3, 29] [1])
 (.cond (.t 29)
 .skip
 (.exit 0)))
 (.seq (.block 1 (.seq (.reg false [zg0 32 (.off (.t 1) 0),
 zg0 33 (.ld (.t 32) 1 false),
 zm0 34 3,
 zg0 35 (.ixs (.t 33) (.t 34) 1),
 zg0 36 (.ld (.t 35) 1 false),
 zg0 37 (.bin .lss (.t 36) (zi0 1)),
 zm0 38 37,
 zf0 39 38 (.off (.t 1) 0),
 zf0 40 38 (.ld (.t 39) 1 false),
 zf0 41 38 (.mov (.t 3)),
 zf0 42 38 (.ixs (.t 40) (.t 41) 1),
 zf0 43 38 (.ld (.t 42) 1 false),
 zf0 44 38 (.bin .gtr (.t 43) (zi0 1073741823)),
 zg0 45 (.pick (.t 38) zT0 (.t 44))] [1, 3, 45] [1])
 (.cond (.t 45)
 (.seq (.reg false [zg0 2 (.mov zF0)] [2] [])
 .ret)
 .skip)))
 (.reg false [zm0 30 3,
 zg0 31 (.bin .add (.t 30) (zi0 1)),
 zm0 3 31] [1, 3] [1]))))
def lp91_1 : IC :=
 (.loop [1, 4] [1] (.seq (.seq (.reg false [zm0 46 4,
 zg0 47 (.off (.t 1) 1),
 zg0 48 (.ld (.t 47) 1 false),
 zg0 49 (.len (.t 48)),
 zg0 50 (.bin .lss (.t 46) (.t 49))] [1, 4, 50] [1])
 (.cond (.t 50)
 .skip
 (.exit 2)))
 (.seq (.block 3 (.seq (.reg false [zg0 53 (.off (.t 1) 1),
 zg0 54 (.ld (.t 53) 1 false),
 zm0 55 4,
 zg0 56 (.ixs (.t 54) (.t 55) 1),
 zg0 57 (.ld (.t 56) 1 false),
 zg0 58 (.bin .lss (.t 57) (zi0 0)),
 zm0 59 58,
 zf0 60 59 (.off (.t 1) 1),
 zf0 61 59 (.ld (.t 60) 1 false),
 zf0 62 59 (.mov (.t 4)),
 zf0 63 59 (.ixs (.t 61) (.t 62) 1),
 zf0 64 59 (.ld (.t 63) 1 false),
 zf0 65 59 (.bin .gtr (.t 64) (zi0 10000)),
 zg0 66 (.pick (.t 59) zT0 (.t 65))] [1, 4, 66] [1])
 (.cond (.t 66)
 (.seq (.reg false [zg0 2 (.mov zF0)] [2] [])
 .ret)
 .skip)))
 (.reg false [zm0 51 4,
 zg0 52 (.bin .add (.t 51) (zi0 1)),
 zm0 4 52] [1, 4] [1]))))
def ir91 : IFn :=   -- tympan/tympanref11.Check
⟨(.seq (.reg false [zg0 1 (.bx (.t 0) 2 true),
 zg0 2 (.mov zF0)] [1] [1])
 (.seq (.seq (.reg false [zg0 5 (.off (.t 1) 0),
 zg0 6 (.ld (.t 5) 1 false),
 zg0 7 (.len (.t 6)),
 zg0 8 (.bin .lss (.t 7) (zi0 1)),
 zm0 9 8,
 zf0 10 9 (.off (.t 1) 0),
 zf0 11 9 (.ld (.t 10) 1 false),
 zf0 12 9 (.len (.t 11)),
 zf0 13 9 (.bin .gtr (.t 12) (zi0 64)),
 zg0 14 (.pick (.t 9) zT0 (.t 13)),
 zm0 15 14,
 zf0 16 15 (.off (.t 1) 1),
 zf0 17 15 (.ld (.t 16) 1 false),
 zf0 18 15 (.len (.t 17)),
 zf0 19 15 (.off (.t 1) 0),
 zf0 20 15 (.ld (.t 19) 1 false),
 zf0 21 15 (.len (.t 20)),
 zf0 22 15 (.bin .sub (.t 21) (zi0 1)),
 zf0 23 15 (.bin .neq (.t 18) (.t 22)),
 zg0 24 (.pick (.t 15) zT0 (.t 23))] [1, 24] [1])
 (.cond (.t 24)
 (.seq (.reg false [zg0 2 (.mov zF0)] [2] [])
 .ret)
 .skip))
 (.seq (.seq (.reg false [zg0 3 (.mov (zi0 0))] [1, 3] [1])
 (.block 0 lp91_0))
 (.seq (.seq (.reg false [zg0 4 (.mov (zi0 0))] [1, 4] [1])
 (.block 2 lp91_1))
 (.seq (.reg false [zg0 2 (.mov zT0)] [2] [])
 .ret))))),
 [.tmp 2], false⟩
def lp118_0 : IC :=
 (.loop [0, 7, 16, 17, 18] [] (.seq (.reg false [zg0 19 (.bin .lss (.t 18) (.t 17))] [0, 7, 16, 17, 18, 19] [])
 (.seq (.cond (.t 19)
 .skip
 (.exit 0))
 (.seq (.block 1 (.seq (.reg false [zg0 20 (.ixs (.t 16) (.t 18) 3),
 zg0 21 (.ld (.t 20) 3 true),
 zg0 9 (.al [zo0, zo0, zo0] true),
 zn0 (.st (.t 9) (.t 21) 3)] [0, 7, 9, 16, 17, 18] [9])
 (.seq (.reg false [zg0 22 (.off (.t 9) 0),
 zg0 23 (.ld (.t 22) 1 false),
 zg0 24 (.bin .geq (.t 23) (zi0 0)),
 zm0 25 24,
 zt0 26 25 (.off (.t 9) 0),
 zt0 27 25 (.ld (.t 26) 1 false),
 zt0 28 25 (.mov (.t 0)),
 zt0 29 25 (.len (.t 28)),
 zt0 30 25 (.bin .lss (.t 27) (.t 29)),
 zg0 31 (.pick (.t 25) (.t 30) zF0)] [0, 7, 9, 16, 17, 18, 31] [9])
 (.cond (.t 31)
 (.reg true [zm0 32 7,
 zm0 33 0,
 zg0 34 (.off (.t 9) 0),
 zg0 35 (.ldl 9 (.t 34) 1 false),
 zg0 36 (.ixs (.t 33) (.t 35) 2),
 zg0 37 (.ld (.t 36) 2 true),
 zg0 38 (.off (.t 9) 1),
 zg0 39 (.ldl 9 (.t 38) 1 false),
 zg0 40 (.off (.t 9) 2),
 zg0 41 (.ldl 9 (.t 40) 1 false),
 zg0 42 (.call 201 [(.t 37), (.t 39), (.t 41)] false),
 zg0 43 (.bin .add (.t 32) (.t 42)),
 zg0 44 (.mnmx false (.t 43) (zi0 1125899906842624)),
 zm0 7 44] [0, 7, 16, 17, 18] [])
 .skip))))
 (.reg false [zg0 45 (.bin .add (.t 18) (zi0 1)),
 zm0 18 45] [0, 7, 16, 17, 18] [])))))
def ir118 : IFn :=   -- tympan/split.High
⟨(.seq (.reg false [zg0 6 (.mov (zi0 0))] [0, 1, 2] [])
 (.seq (.seq (.reg false [zm0 10 1,
 zg0 11 (.len (.t 10)),
 zg0 12 (.bin .eql (.t 11) (zi0 0))] [0, 1, 2, 12] [])
 (.cond (.t 12)
 (.seq (.reg false [zg0 6 (.mov (zi0 0))] [6] [])
 .ret)
 .skip))
 (.seq (.reg false [zm0 13 2,
 zg0 14 (.mnmx true (.t 13) (zi0 0)),
 zg0 15 (.mnmx false (.t 14) (zi0 1125899906842624)),
 zm0 7 15] [0, 1, 7] [])
 (.seq (.seq (.reg false [zm0 16 1,
 zg0 17 (.len (.t 16)),
 zg0 18 (.mov (zi0 0))] [0, 7, 16, 17, 18] [])
 (.block 0 lp118_0))
 (.seq (.reg false [zm0 46 7,
 zm0 6 46] [6] [])
 .ret))))),
 [.tmp 6], false⟩
def ir119 : IFn :=   -- tympan/area.High
⟨(.seq (.reg false [zg0 3 (.bx (.t 0) 19 true),
 zg0 5 (.bx (.t 2) 2 true),
 zg0 6 (.mov (zi0 0))] [1, 3, 5] [3, 5])
 (.seq (.reg true [zm0 7 1,
 zg0 8 (.off (.t 5) 0),
 zg0 9 (.ldl 5 (.t 8) 1 false),
 zg0 10 (.off (.t 3) 7),
 zg0 11 (.ldl 3 (.t 10) 1 false),
 zg0 12 (.call 128 [(.t 7), (.t 9), (.t 11)] false),
 zm0 13 1,
 zg0 14 (.off (.t 5) 1),
 zg0 15 (.ldl 5 (.t 14) 1 false),
 zg0 16 (.off (.t 3) 7),
 zg0 17 (.ldl 3 (.t 16) 1 false),
 zg0 18 (.call 128 [(.t 13), (.t 15), (.t 17)] false),
 zg0 19 (.bin .add (.t 12) (.t 18)),
 zm0 6 19] [6] [])
 .ret)),
 [.tmp 6], false⟩
def ir120 : IFn :=   -- tympan/area.Stack
⟨(.seq (.reg false [zg0 3 (.bx (.t 0) 19 true),
 zg0 6 (.mov (zi0 0))] [1, 2, 3] [3])
 (.seq (.reg false [zm0 8 1,
 zm0 9 2,
 zg0 10 (.off (.t 3) 7),
 zg0 11 (.ld (.t 10) 1 false),
 zg0 12 (.call 128 [(.t 8), (.t 9), (.t 11)] false),
 zm0 7 12] [3, 7] [3])
 (.seq (.seq (.reg false [zm0 13 7,
 zg0 14 (.bin .eql (.t 13) (zi0 0))] [3, 7, 14] [3])
 (.cond (.t 14)
 (.seq (.reg false [zg0 6 (.mov (zi0 0))] [6] [])
 .ret)
 .skip))
 (.seq (.reg false [zm0 15 7,
 zg0 16 (.off (.t 3) 7),
 zg0 17 (.ld (.t 16) 1 false),
 zg0 18 (.mnmx true (.t 17) (zi0 0)),
 zg0 19 (.mnmx false (.t 18) (zi0 1125899906842624)),
 zg0 20 (.bin .sub (.t 15) (.t 19)),
 zm0 6 20] [6] [])
 .ret)))),
 [.tmp 6], false⟩
def ir121 : IFn :=   -- tympan/column.last
⟨(.seq (.reg false [zg0 3 (.bx (.t 1) 6 true),
 zg0 4 (.mov zF0)] [0, 3] [3])
 (.seq (.seq (.reg false [zg0 7 (.off (.t 3) 0),
 zg0 8 (.ld (.t 7) 1 false),
 zg0 9 (.bin .neq (.t 8) (zi0 1))] [0, 3, 9] [3])
 (.cond (.t 9)
 (.seq (.reg false [zg0 4 (.mov zF0)] [4] [])
 .ret)
 .skip))
 (.seq (.prep [5] (.reg true [zm0 11 0,
 zg0 12 (.call 26 [(.t 11)] false),
 zg0 13 (.off (.t 3) 2),
 zg0 14 (.ldl 3 (.t 13) 1 false),
 zg0 15 (.call 193 [(.t 12), (.t 14)] false),
 zm0 10 15,
 zg0 16 (.ext (.t 10) 0),
 zg0 17 (.ext (.t 10) 1),
 zg0 5 (.alp [zo0, zo0, zo0, zo0, zo0, zo0, zo0]),
 zn0 (.stl 5 (.t 5) (.t 16) 7),
 zm0 6 17] [0, 3, 5, 6] [3, 5]))
 (.seq (.reg true [zg0 18 (.off (.t 3) 2),
 zg0 19 (.ldl 3 (.t 18) 1 false),
 zm0 20 0,
 zg0 21 (.call 26 [(.t 20)] false),
 zg0 22 (.call 78 [(.t 21)] false),
 zg0 23 (.bin .eql (.t 19) (.t 22)),
 zm0 24 23,
 zf0 25 24 (.mov (.t 6)),
 zf0 26 24 (.mov (.t 25)),
 zt0 27 26 (.off (.t 3) 2),
 zt0 28 26 (.ldl 3 (.t 27) 1 false),
 zt0 29 26 (.bin .gtr (.t 28) (zi0 0)),
 zf0 30 24 (.pick (.t 26) (.t 29) zF0),
 zf0 31 24 (.mov (.t 30)),
 zt0 32 31 (.ldl 5 (.t 5) 7 true),
 zt0 33 31 (.call 195 [(.t 32)] false),
 zf0 34 24 (.pick (.t 31) (.t 33) zF0),
 zg0 35 (.pick (.t 24) zT0 (.t 34)),
 zm0 4 35] [4] [])
 .ret)))),
 [.tmp 4], false⟩
def ir122 : IFn :=   -- tympan/gset.Of
⟨(.seq (.reg false [zg0 3 (.bx (.t 0) 6 true),
 zg0 6 (.al [zo0, zo0, zo0, zo0, zo0] true)] [1, 2, 3, 6] [3, 6])
 (.seq (.seq (.reg false [zg0 9 (.ld (.t 3) 6 true),
 zm0 10 1,
 zg0 11 (.call 202 [(.t 9), (.t 10)] false),
 zg0 12 (.un .not (.t 11))] [1, 2, 3, 6, 12] [3, 6])
 (.cond (.t 12)
 (.seq (.reg false [zg0 13 (.bld [zo0, zo0, zo0, zo0, zo0] []),
 zn0 (.st (.t 6) (.t 13) 5)] [6] [6])
 .ret)
 .skip))
 (.seq (.reg true [zm0 14 1,
 zg0 15 (.off (.t 3) 0),
 zg0 16 (.ldl 3 (.t 15) 1 false),
 zg0 17 (.bin .sub (.t 14) (.t 16)),
 zg0 18 (.ldl 3 (.t 3) 6 true),
 zg0 19 (.call 203 [(.t 18)] false),
 zm0 7 17,
 zm0 8 19] [2, 3, 6, 7, 8] [3, 6])
 (.seq (.block 0 (.seq (.reg false [zm0 21 7,
 zg0 22 (.bin .eql (.t 21) (zi0 0)),
 zm0 20 22] [2, 3, 6, 7, 8, 20] [3, 6])
 (.cond (.t 20)
 (.seq (.reg false [zg0 23 (.bld [zo0, zo0, zo0, zo0, zo0] []),
 zn0 (.st (.t 6) (.t 23) 5)] [6] [6])
 .ret)
 (.seq (.reg false [zm0 25 7,
 zg0 26 (.bin .gtr (.t 25) (zi0 0)),
 zm0 27 26,
 zt0 28 27 (.mov (.t 8)),
 zt0 29 27 (.off (.t 3) 1),
 zt0 30 27 (.ixa (.t 29) (.t 28) 1 4),
 zt0 31 27 (.ld (.t 30) 1 false),
 zt0 32 27 (.bin .gtr (.t 31) (zi0 0)),
 zg0 33 (.pick (.t 27) (.t 32) zF0),
 zm0 34 33,
 zt0 35 34 (.mov (.t 2)),
 zt0 36 34 (.mov (.t 35)),
 zt0 37 36 (.mov (.t 8)),
 zt0 38 36 (.bin .eql (.t 37) (zi0 0)),
 zt0 39 34 (.pick (.t 36) (.t 38) zF0),
 zt0 40 34 (.un .not (.t 39)),
 zg0 41 (.pick (.t 34) (.t 40) zF0),
 zm0 24 41] [3, 6, 7, 8, 24] [3, 6])
 (.cond (.t 24)
 (.seq (.reg false [zm0 42 8,
 zm0 43 7,
 zm0 44 8,
 zg0 45 (.off (.t 3) 1),
 zg0 46 (.ixa (.t 45) (.t 44) 1 4),
 zg0 47 (.ld (.t 46) 1 false),
 zg0 48 (.bld [zo0, zo0, zo0, zo0, zo0] [(0, 1, (zi0 1)), (1, 1, (.t 42)), (2, 1, (.t 43)), (3, 1, (.t 47))]),
 zn0 (.st (.t 6) (.t 48) 5)] [6] [6])
 .ret)
 (.seq (.reg false [zm0 50 7,
 zg0 51 (.bin .gtr (.t 50) (zi0 0)),
 zm0 49 51] [3, 6, 7, 49] [3, 6])
 (.cond (.t 49)
 (.seq (.reg false [zm0 52 7,
 zg0 53 (.bld [zo0, zo0, zo0, zo0, zo0] [(4, 1, (.t 52))]),
 zn0 (.st (.t 6) (.t 53) 5)] [6] [6])
 .ret)
 (.seq (.reg false [zg0 55 (.off (.t 3) 5),
 zg0 56 (.ld (.t 55) 1 false),
 zm0 57 7,
 zg0 58 (.bin .add (.t 56) (.t 57)),
 zg0 59 (.bin .geq (.t 58) (zi0 0)),
 zm0 54 59] [3, 6, 7, 54] [3, 6])
 (.cond (.t 54)
 (.seq (.reg false [zm0 60 7,
 zg0 61 (.un .neg (.t 60)),
 zg0 62 (.off (.t 3) 5),
 zg0 63 (.ld (.t 62) 1 false),
 zg0 64 (.bld [zo0, zo0, zo0, zo0, zo0] [(0, 1, (zi0 2)), (2, 1, (.t 61)), (3, 1, (.t 63))]),
 zn0 (.st (.t 6) (.t 64) 5)] [6] [6])
 .ret)
 .skip)))))))))
 (.seq (.reg false [zg0 65 (.off (.t 3) 5),
 zg0 66 (.ld (.t 65) 1 false),
 zg0 67 (.off (.t 3) 5),
 zg0 68 (.ld (.t 67) 1 false),
 zg0 69 (.off (.t 3) 5),
 zg0 70 (.ld (.t 69) 1 false),
 zm0 71 7,
 zg0 72 (.bin .add (.t 70) (.t 71)),
 zg0 73 (.bld [zo0, zo0, zo0, zo0, zo0] [(0, 1, (zi0 3)), (2, 1, (.t 66)), (3, 1, (.t 68)), (4, 1, (.t 72))]),
 zn0 (.st (.t 6) (.t 73) 5)] [6] [6])
 .ret))))),
 [.cell 6 5 true], false⟩
def ir123 : IFn :=   -- (*tympan/sums.Sums).Of
⟨(.seq (.reg false [zg0 6 (.al [zo0, zo0, zo0, zo0, zo0, zo0] true)] [0, 1, 2, 6] [6])
 (.seq (.reg false [zm0 11 0,
 zm0 12 1,
 zm0 13 2,
 zg0 14 (.call 204 [(.t 11), (.t 12), (.t 13)] false),
 zm0 10 14,
 zg0 15 (.ext (.t 10) 0),
 zg0 16 (.ext (.t 10) 1),
 zg0 17 (.ext (.t 10) 2),
 zm0 1 15,
 zm0 2 16,
 zm0 7 17] [0, 1, 2, 6, 7] [6])
 (.seq (.seq (.reg false [zm0 18 7,
 zg0 19 (.un .not (.t 18))] [0, 1, 2, 6, 19] [6])
 (.cond (.t 19)
 (.seq (.reg false [zg0 20 (.bld [zo0, zo0, zo0, zo0, zo0, zo0] []),
 zn0 (.st (.t 6) (.t 20) 6)] [6] [6])
 .ret)
 .skip))
 (.seq (.prep [8] (.reg true [zm0 22 0,
 zg0 23 (.nck (.t 22)),
 zg0 24 (.off (.t 23) 1),
 zg0 25 (.ld (.t 24) 1 false),
 zm0 26 2,
 zg0 27 (.ixs (.t 25) (.t 26) 6),
 zg0 28 (.ld (.t 27) 6 true),
 zm0 29 0,
 zg0 30 (.nck (.t 29)),
 zg0 31 (.off (.t 30) 1),
 zg0 32 (.ld (.t 31) 1 false),
 zm0 33 1,
 zg0 34 (.ixs (.t 32) (.t 33) 6),
 zg0 35 (.ld (.t 34) 6 true),
 zg0 36 (.call 205 [(.t 28), (.t 35)] false),
 zm0 21 36,
 zg0 37 (.ext (.t 21) 0),
 zg0 38 (.ext (.t 21) 1),
 zg0 8 (.alp [zo0, zo0, zo0, zo0, zo0, zo0]),
 zn0 (.stl 8 (.t 8) (.t 37) 6),
 zm0 9 38] [6, 8] [6, 8]))
 (.seq (.reg false [zg0 39 (.ld (.t 8) 6 true),
 zn0 (.st (.t 6) (.t 39) 6)] [6] [6])
 .ret))))),
 [.cell 6 6 true], false⟩
def lp124_0 : IC :=
 (.loop [0, 1, 3, 4, 14, 15, 16] [] (.seq (.reg false [zg0 17 (.bin .lss (.t 16) (.t 15))] [0, 1, 3, 4, 14, 15, 16, 17] [])
 (.seq (.cond (.t 17)
 .skip
 (.exit 0))
 (.seq (.block 1 (.seq (.reg false [zg0 18 (.ixs (.t 14) (.t 16) 1),
 zg0 19 (.ld (.t 18) 1 false),
 zm0 11 19] [0, 1, 3, 4, 11, 14, 15, 16] [])
 (.seq (.reg false [zm0 21 1,
 zm0 22 11,
 zg0 23 (.call 155 [(.t 21), (.t 22)] false),
 zm0 20 23,
 zg0 24 (.ext (.t 20) 0),
 zg0 25 (.ext (.t 20) 1),
 zg0 12 (.al [zo0, zo0, zo0] true),
 zn0 (.st (.t 12) (.t 24) 3),
 zm0 13 25] [0, 1, 3, 4, 11, 12, 13, 14, 15, 16] [12])
 (.seq (.reg false [zm0 26 13] [0, 1, 3, 4, 11, 12, 14, 15, 16, 26] [12])
 (.cond (.t 26)
 (.seq (.reg false [zm0 27 0,
 zg0 28 (.nck (.t 27)),
 zg0 29 (.off (.t 28) 0),
 zm0 30 3,
 zg0 31 (.call 206 [(.t 29), (.t 30)] false)] [0, 1, 3, 4, 11, 12, 14, 15, 16] [12])
 (.seq (.reg false [zm0 32 0,
 zm0 33 11,
 zg0 34 (.off (.t 12) 1),
 zg0 35 (.ld (.t 34) 1 false),
 zg0 36 (.call 207 [(.t 32), (zi0 2), (.t 33), (zi0 0), (.t 35)] false)] [0, 1, 3, 4, 14, 15, 16] [])
 (.reg false [zm0 37 0,
 zg0 38 (.nck (.t 37)),
 zg0 39 (.off (.t 38) 0),
 zm0 40 4,
 zg0 41 (.call 206 [(.t 39), (.t 40)] false)] [0, 1, 3, 4, 14, 15, 16] [])))
 .skip)))))
 (.reg false [zg0 42 (.bin .add (.t 16) (zi0 1)),
 zm0 16 42] [0, 1, 3, 4, 14, 15, 16] [])))))
def ir124 : IFn :=   -- (*tympan/place.pen).floats
⟨(.seq (.reg false [zm0 14 2,
 zg0 15 (.len (.t 14)),
 zg0 16 (.mov (zi0 0))] [0, 1, 3, 4, 14, 15, 16] [])
 (.block 0 lp124_0)),
 [], false⟩
def lp125_0 : IC :=
 (.loop [0, 1, 3, 4, 10, 11] [] (.seq (.seq (.reg false [zm0 20 11,
 zm0 21 3,
 zm0 22 1,
 zg0 23 (.len (.t 22)),
 zg0 24 (.mnmx false (.t 21) (.t 23)),
 zg0 25 (.bin .lss (.t 20) (.t 24))] [0, 1, 3, 4, 10, 11, 25] [])
 (.cond (.t 25)
 .skip
 (.exit 0)))
 (.seq (.block 1 (.seq (.reg false [zm0 28 1,
 zm0 29 11,
 zg0 30 (.ixs (.t 28) (.t 29) 7),
 zg0 31 (.ld (.t 30) 7 true),
 zg0 12 (.al [zo0, zo0, zo0, zo0, zo0, zo0, zo0] true),
 zn0 (.st (.t 12) (.t 31) 7)] [0, 1, 3, 4, 10, 11, 12] [12])
 (.seq (.reg false [zg0 32 (.off (.t 12) 0),
 zg0 33 (.ld (.t 32) 1 false)] [0, 1, 3, 4, 10, 11, 12, 33] [12])
 (.block 2 (.seq (.reg false [zg0 35 (.bin .eql (.t 33) (zi0 1)),
 zm0 34 35] [0, 1, 3, 4, 10, 11, 12, 33, 34] [12])
 (.cond (.t 34)
 (.reg false [zm0 36 0,
 zm0 37 11,
 zg0 38 (.off (.t 12) 1),
 zg0 39 (.ld (.t 38) 1 false),
 zg0 40 (.call 207 [(.t 36), (zi0 1), (.t 37), (zi0 0), (.t 39)] false)] [0, 1, 3, 4, 10, 11] [])
 (.seq (.reg false [zg0 42 (.bin .eql (.t 33) (zi0 2)),
 zm0 41 42] [0, 1, 3, 4, 10, 11, 12, 41] [12])
 (.cond (.t 41)
 (.seq (.reg false [zg0 43 (.off (.t 12) 1),
 zg0 44 (.ld (.t 43) 1 false),
 zm0 13 44] [0, 1, 3, 4, 10, 11, 13] [])
 (.seq (.seq (.reg false [zm0 45 4,
 zg0 46 (.len (.t 45)),
 zg0 47 (.bin .gtr (.t 46) (zi0 0))] [0, 1, 3, 4, 10, 11, 13, 47] [])
 (.cond (.t 47)
 (.reg true [zm0 48 4,
 zg0 49 (.ixs (.t 48) (zi0 0) 1),
 zg0 50 (.ld (.t 49) 1 false),
 zm0 51 4,
 zg0 52 (.slc (.t 51) (some (zi0 1)) none 1),
 zm0 13 50,
 zm0 4 52] [0, 1, 3, 4, 10, 11, 13] [])
 .skip))
 (.reg false [zm0 53 10,
 zm0 54 13,
 zg0 55 (.callv (.t 53) [(.t 54)] false)] [0, 1, 3, 4, 10, 11] [])))
 .skip))))))))
 (.reg false [zm0 26 11,
 zg0 27 (.bin .add (.t 26) (zi0 1)),
 zm0 11 27] [0, 1, 3, 4, 10, 11] []))))
def ir125 : IFn :=   -- (*tympan/place.pen).text
⟨(.seq (.reg false [zm0 14 0,
 zg0 15 (.nck (.t 14)),
 zg0 16 (.off (.t 15) 0),
 zg0 17 (.mkf (.func 206) [(.t 16)] []),
 zm0 10 17] [0, 1, 2, 3, 4, 10] [])
 (.seq (.reg false [zm0 18 2,
 zg0 19 (.mnmx true (.t 18) (zi0 0)),
 zm0 11 19] [0, 1, 3, 4, 10, 11] [])
 (.block 0 lp125_0))),
 [], false⟩
def lp126_0 : IC :=
 (.loop [1, 2, 5, 6, 28, 29, 30] [2] (.seq (.reg false [zg0 31 (.bin .lss (.t 30) (.t 29))] [1, 2, 5, 6, 28, 29, 30, 31] [2])
 (.seq (.cond (.t 31)
 .skip
 (.exit 0))
 (.seq (.block 1 (.seq (.reg false [zg0 32 (.ixs (.t 28) (.t 30) 6),
 zg0 33 (.ld (.t 32) 6 true),
 zg0 8 (.al [zo0, zo0, zo0, zo0, zo0, zo0] true),
 zn0 (.st (.t 8) (.t 33) 6)] [1, 2, 5, 6, 8, 28, 29, 30] [2, 8])
 (.seq (.seq (.reg false [zg0 34 (.ld (.t 8) 6 true),
 zg0 35 (.call 209 [(.t 34)] false),
 zg0 36 (.un .not (.t 35))] [1, 2, 5, 6, 8, 28, 29, 30, 36] [2, 8])
 (.cond (.t 36)
 (.seq (.reg false [zg0 4 (.mov (.c (.nils)))] [4] [])
 .ret)
 .skip))
 (.seq (.reg false [zg0 37 (.ld (.t 5) 1 false),
 zg0 38 (.off (.t 8) 0),
 zg0 39 (.ld (.t 38) 1 false),
 zg0 40 (.bsl 1 1 [zo0] [(0, (.t 39))]),
 zg0 41 (.app (.t 37) (.t 40) 1),
 zn0 (.st (.t 5) (.t 41) 1)] [1, 2, 5, 6, 8, 28, 29, 30] [2, 8])
 (.reg false [zm0 42 6,
 zg0 43 (.ld (.t 2) 5 true),
 zg0 44 (.ld (.t 8) 6 true),
 zg0 45 (.call 210 [(.t 43), (.t 44)] false),
 zg0 46 (.bsl 1 1 [zo0] [(0, (.t 45))]),
 zg0 47 (.app (.t 42) (.t 46) 1),
 zm0 6 47] [1, 2, 5, 6, 28, 29, 30] [2])))))
 (.reg false [zg0 48 (.bin .add (.t 30) (zi0 1)),
 zm0 30 48] [1, 2, 5, 6, 28, 29, 30] [2])))))
def lp126_1 : IC :=
 (.loop [5, 57, 58, 59] [] (.seq (.reg false [zg0 60 (.bin .lss (.t 59) (.t 58))] [5, 57, 58, 59, 60] [])
 (.seq (.cond (.t 60)
 .skip
 (.exit 6))
 (.seq (.block 7 (.seq (.reg false [zm0 61 59,
 zg0 62 (.ixs (.t 57) (.t 59) 6),
 zg0 63 (.ld (.t 62) 6 true),
 zg0 11 (.al [zo0, zo0, zo0, zo0, zo0, zo0] true),
 zm0 10 61,
 zn0 (.st (.t 11) (.t 63) 6)] [5, 10, 11, 57, 58, 59] [11])
 (.reg true [zg0 64 (.ld (.t 5) 1 false),
 zm0 65 10,
 zg0 66 (.ixs (.t 64) (.t 65) 1),
 zg0 67 (.ld (.t 66) 1 false),
 zg0 68 (.off (.t 11) 5),
 zg0 69 (.ldl 11 (.t 68) 1 false),
 zg0 70 (.bin .sub (.t 67) (.t 69)),
 zg0 71 (.ixs (.t 64) (.t 65) 1),
 zn0 (.st (.t 71) (.t 70) 1)] [5, 57, 58, 59] [])))
 (.reg false [zg0 72 (.bin .add (.t 59) (zi0 1)),
 zm0 59 72] [5, 57, 58, 59] [])))))
def lp126_2 : IC :=
 (.seq (.reg false [zm0 12 77] [5, 9, 12, 78] [])
 (.reg false [zm0 13 78] [5, 9, 12, 13] []))
def lp126_3 : IC :=
 (.block 9 (.reg true [zg0 79 (.ld (.t 5) 1 false),
 zm0 80 12,
 zg0 81 (.ixs (.t 79) (.t 80) 1),
 zg0 82 (.ld (.t 81) 1 false),
 zg0 83 (.ld (.t 9) 1 false),
 zm0 84 13,
 zg0 85 (.bin .mul (.t 83) (.t 84)),
 zg0 86 (.bin .add (.t 82) (.t 85)),
 zg0 87 (.ixs (.t 79) (.t 80) 1),
 zn0 (.st (.t 87) (.t 86) 1)] [] []))
def ir126 : IFn :=   -- tympan/gset.Sizes
⟨(.seq (.reg false [zg0 2 (.bx (.t 0) 5 true),
 zg0 4 (.mov (.c (.nils)))] [1, 2] [2])
 (.seq (.seq (.reg false [zg0 14 (.off (.t 2) 0),
 zg0 15 (.ld (.t 14) 1 false),
 zg0 16 (.bin .lss (.t 15) (zi0 0)),
 zm0 17 16,
 zf0 18 17 (.off (.t 2) 0),
 zf0 19 17 (.ld (.t 18) 1 false),
 zf0 20 17 (.bin .gtr (.t 19) (zi0 3)),
 zg0 21 (.pick (.t 17) zT0 (.t 20)),
 zm0 22 21,
 zf0 23 22 (.off (.t 2) 2),
 zf0 24 22 (.ld (.t 23) 1 false),
 zf0 25 22 (.call 208 [(.t 24)] false),
 zf0 26 22 (.un .not (.t 25)),
 zg0 27 (.pick (.t 22) zT0 (.t 26))] [1, 2, 27] [2])
 (.cond (.t 27)
 (.seq (.reg false [zg0 4 (.mov (.c (.nils)))] [4] [])
 .ret)
 .skip))
 (.seq (.reg false [zg0 5 (.al [.nils] false),
 zg0 6 (.nrow 1)] [1, 2, 5, 6] [2])
 (.seq (.seq (.reg false [zm0 28 1,
 zg0 29 (.len (.t 28)),
 zg0 30 (.mov (zi0 0))] [1, 2, 5, 6, 28, 29, 30] [2])
 (.block 0 lp126_0))
 (.seq (.reg false [zg0 9 (.al [zo0] false),
 zn0 (.st (.t 9) (zi0 1) 1)] [1, 2, 5, 6, 9] [2])
 (.seq (.seq (.reg false [zg0 49 (.off (.t 2) 0),
 zg0 50 (.ld (.t 49) 1 false)] [1, 2, 5, 6, 9, 50] [2])
 (.block 2 (.seq (.block 5 (.seq (.block 4 (.seq (.block 3 (.seq (.seq (.seq (.reg false [zg0 52 (.bin .eql (.t 50) (zi0 3)),
 zm0 51 52] [1, 2, 5, 6, 9, 50, 51] [2])
 (.cond (.t 51)
 (.exit 3)
 .skip))
 (.seq (.seq (.reg false [zg0 54 (.bin .eql (.t 50) (zi0 2)),
 zm0 53 54] [2, 5, 6, 9, 50, 53] [2])
 (.cond (.t 53)
 (.exit 4)
 .skip))
 (.seq (.reg false [zg0 56 (.bin .eql (.t 50) (zi0 1)),
 zm0 55 56] [2, 5, 6, 9, 55] [2])
 (.cond (.t 55)
 (.exit 5)
 .skip))))
 (.exit 2)))
 (.seq (.seq (.reg false [zm0 57 1,
 zg0 58 (.len (.t 57)),
 zg0 59 (.mov (zi0 0))] [5, 57, 58, 59] [])
 (.block 6 lp126_1))
 (.exit 2))))
 (.reg false [zn0 (.st (.t 9) (zi0 (-1)) 1)] [2, 5, 6, 9] [2])))
 (.seq (.seq (.reg false [zg0 73 (.off (.t 2) 2),
 zg0 74 (.ld (.t 73) 1 false),
 zm0 75 6,
 zg0 76 (.call 211 [(.t 74), (.t 75)] false)] [5, 9, 76] [])
 (.block 8 (.rangeFunc (.t 76) [77, 78] lp126_2 lp126_3)))
 (.exit 2)))))
 (.seq (.reg false [zg0 88 (.ld (.t 5) 1 false),
 zm0 4 88] [4] [])
 .ret))))))),
 [.tmp 4], false⟩
def lp127_0 : IC :=
 (.loop [8, 27, 28, 29] [] (.seq (.reg false [zg0 30 (.bin .lss (.t 29) (.t 28))] [8, 27, 28, 29, 30] [])
 (.seq (.cond (.t 30)
 .skip
 (.exit 0))
 (.seq (.block 1 (.seq (.reg false [zg0 31 (.ixs (.t 27) (.t 29) 7),
 zg0 32 (.ld (.t 31) 7 true),
 zg0 10 (.al [zo0, zo0, zo0, zo0, zo0, zo0, zo0] true),
 zn0 (.st (.t 10) (.t 32) 7)] [8, 10, 27, 28, 29] [10])
 (.seq (.reg false [zg0 33 (.off (.t 10) 0),
 zg0 34 (.ld (.t 33) 1 false),
 zg0 35 (.bin .eql (.t 34) (zi0 2))] [8, 10, 27, 28, 29, 35] [10])
 (.cond (.t 35)
 (.reg false [zm0 36 8,
 zg0 37 (.ld (.t 10) 7 true),
 zg0 38 (.call 152 [(.t 37)] false),
 zg0 39 (.bsl 6 1 [zo0, zo0, zo0, zo0, zo0, zo0] [(0, (.t 38))]),
 zg0 40 (.app (.t 36) (.t 39) 6),
 zm0 8 40] [8, 27, 28, 29] [])
 .skip))))
 (.reg false [zg0 41 (.bin .add (.t 29) (zi0 1)),
 zm0 29 41] [8, 27, 28, 29] [])))))
def ir127 : IFn :=   -- (*tympan/sums.Sums).Glues
⟨(.seq (.reg false [zg0 6 (.mov (.c (.nils)))] [0, 1, 2] [])
 (.seq (.reg false [zm0 12 0,
 zm0 13 1,
 zm0 14 2,
 zg0 15 (.call 204 [(.t 12), (.t 13), (.t 14)] false),
 zm0 11 15,
 zg0 16 (.ext (.t 11) 0),
 zg0 17 (.ext (.t 11) 1),
 zg0 18 (.ext (.t 11) 2),
 zm0 1 16,
 zm0 2 17,
 zm0 7 18] [0, 1, 2, 7] [])
 (.seq (.seq (.reg false [zm0 19 7,
 zg0 20 (.un .not (.t 19))] [0, 1, 2, 20] [])
 (.cond (.t 20)
 (.seq (.reg false [zg0 6 (.mov (.c (.nils)))] [6] [])
 .ret)
 .skip))
 (.seq (.reg false [zg0 8 (.nrow 6)] [0, 1, 2, 8] [])
 (.seq (.seq (.reg false [zm0 21 0,
 zg0 22 (.nck (.t 21)),
 zg0 23 (.off (.t 22) 0),
 zg0 24 (.ld (.t 23) 1 false),
 zm0 25 1,
 zm0 26 2,
 zg0 27 (.slc (.t 24) (some (.t 25)) (some (.t 26)) 7),
 zg0 28 (.len (.t 27)),
 zg0 29 (.mov (zi0 0))] [8, 27, 28, 29] [])
 (.block 0 lp127_0))
 (.seq (.reg false [zm0 42 8,
 zm0 6 42] [6] [])
 .ret)))))),
 [.tmp 6], false⟩
def lp128_0 : IC :=
 (.loop [0, 2, 7, 8, 13, 14, 15] [] (.seq (.reg false [zg0 16 (.bin .lss (.t 15) (.t 14))] [0, 2, 7, 8, 13, 14, 15, 16] [])
 (.seq (.cond (.t 16)
 .skip
 (.exit 0))
 (.seq (.block 1 (.seq (.reg false [zg0 17 (.ixs (.t 13) (.t 15) 1),
 zg0 18 (.ld (.t 17) 1 false),
 zm0 10 18] [0, 2, 7, 8, 10, 13, 14, 15] [])
 (.seq (.reg false [zm0 20 0,
 zm0 21 10,
 zg0 22 (.call 155 [(.t 20), (.t 21)] false),
 zm0 19 22,
 zg0 23 (.ext (.t 19) 0),
 zg0 24 (.ext (.t 19) 1),
 zg0 11 (.al [zo0, zo0, zo0] true),
 zn0 (.st (.t 11) (.t 23) 3),
 zm0 12 24] [0, 2, 7, 8, 11, 12, 13, 14, 15] [11])
 (.seq (.reg false [zm0 25 12] [0, 2, 7, 8, 11, 13, 14, 15, 25] [11])
 (.cond (.t 25)
 (.reg false [zm0 26 7,
 zm0 27 8,
 zm0 28 7,
 zg0 29 (.off (.t 11) 1),
 zg0 30 (.ld (.t 29) 1 false),
 zg0 31 (.callv (.t 28) [(.t 30)] false),
 zg0 32 (.bin .add (.t 27) (.t 31)),
 zm0 33 7,
 zm0 34 2,
 zg0 35 (.callv (.t 33) [(.t 34)] false),
 zg0 36 (.bin .add (.t 32) (.t 35)),
 zg0 37 (.callv (.t 26) [(.t 36)] false),
 zm0 8 37] [0, 2, 7, 8, 13, 14, 15] [])
 .skip)))))
 (.reg false [zg0 38 (.bin .add (.t 15) (zi0 1)),
 zm0 15 38] [0, 2, 7, 8, 13, 14, 15] [])))))
def ir128 : IFn :=   -- tympan/figure.High
⟨(.seq (.reg false [zg0 6 (.mov (zi0 0))] [0, 1, 2] [])
 (.seq (.reg false [zg0 7 (.mov (.c (.p (.fn 212))))] [0, 1, 2, 7] [])
 (.seq (.reg false [zg0 8 (.mov (zi0 0))] [0, 1, 2, 7, 8] [])
 (.seq (.seq (.reg false [zm0 13 1,
 zg0 14 (.len (.t 13)),
 zg0 15 (.mov (zi0 0))] [0, 2, 7, 8, 13, 14, 15] [])
 (.block 0 lp128_0))
 (.seq (.reg false [zm0 39 8,
 zm0 6 39] [6] [])
 .ret))))),
 [.tmp 6], false⟩
def lp129_0 : IC :=
 (.loop [0, 4, 7, 8, 9, 24, 25, 26] [4, 7] (.seq (.seq (.reg false [zm0 51 9,
 zg0 52 (.off (.t 7) 2),
 zg0 53 (.ld (.t 52) 1 false),
 zm0 54 8,
 zg0 55 (.len (.t 54)),
 zg0 56 (.mnmx false (.t 53) (.t 55)),
 zg0 57 (.bin .lss (.t 51) (.t 56))] [0, 4, 7, 8, 9, 24, 25, 26, 57] [4, 7])
 (.cond (.t 57)
 .skip
 (.exit 2)))
 (.seq (.block 3 (.reg true [zm0 60 0,
 zg0 61 (.off (.t 7) 0),
 zg0 62 (.ldl 7 (.t 61) 1 false),
 zm0 63 9,
 zm0 64 8,
 zm0 65 9,
 zg0 66 (.ixs (.t 64) (.t 65) 1),
 zg0 67 (.ld (.t 66) 1 false),
 zg0 68 (.call 207 [(.t 60), (zi0 4), (.t 62), (.t 63), (.t 67)] false)] [0, 4, 7, 8, 9, 24, 25, 26] [4, 7]))
 (.reg false [zm0 58 9,
 zg0 59 (.bin .add (.t 58) (zi0 1)),
 zm0 9 59] [0, 4, 7, 8, 9, 24, 25, 26] [4, 7]))))
def lp129_1 : IC :=
 (.loop [0, 4, 24, 25, 26] [4] (.seq (.reg false [zg0 27 (.bin .lss (.t 26) (.t 25))] [0, 4, 24, 25, 26, 27] [4])
 (.seq (.cond (.t 27)
 .skip
 (.exit 0))
 (.seq (.block 1 (.seq (.reg false [zg0 28 (.ixs (.t 24) (.t 26) 3),
 zg0 29 (.ld (.t 28) 3 true),
 zg0 7 (.al [zo0, zo0, zo0] true),
 zn0 (.st (.t 7) (.t 29) 3)] [0, 4, 7, 24, 25, 26] [4, 7])
 (.seq (.seq (.reg false [zg0 30 (.off (.t 7) 0),
 zg0 31 (.ld (.t 30) 1 false),
 zg0 32 (.bin .lss (.t 31) (zi0 0)),
 zm0 33 32,
 zf0 34 33 (.off (.t 7) 0),
 zf0 35 33 (.ld (.t 34) 1 false),
 zf0 36 33 (.off (.t 4) 20),
 zf0 37 33 (.ld (.t 36) 1 false),
 zf0 38 33 (.len (.t 37)),
 zf0 39 33 (.bin .geq (.t 35) (.t 38)),
 zg0 40 (.pick (.t 33) zT0 (.t 39))] [0, 4, 7, 24, 25, 26, 40] [4, 7])
 (.cond (.t 40)
 (.exit 1)
 .skip))
 (.seq (.reg false [zg0 41 (.off (.t 4) 20),
 zg0 42 (.ld (.t 41) 1 false),
 zg0 43 (.off (.t 7) 0),
 zg0 44 (.ld (.t 43) 1 false),
 zg0 45 (.ixs (.t 42) (.t 44) 2),
 zg0 46 (.off (.t 45) 0),
 zg0 47 (.ld (.t 46) 1 false),
 zm0 8 47] [0, 4, 7, 8, 24, 25, 26] [4, 7])
 (.seq (.reg false [zg0 48 (.off (.t 7) 1),
 zg0 49 (.ld (.t 48) 1 false),
 zg0 50 (.mnmx true (.t 49) (zi0 0)),
 zm0 9 50] [0, 4, 7, 8, 9, 24, 25, 26] [4, 7])
 (.block 2 lp129_0))))))
 (.reg false [zg0 69 (.bin .add (.t 26) (zi0 1)),
 zm0 26 69] [0, 4, 24, 25, 26] [4])))))
def ir129 : IFn :=   -- (*tympan/place.pen).notes
⟨(.seq (.reg false [zg0 4 (.bx (.t 1) 22 true)] [0, 2, 4] [4])
 (.seq (.seq (.reg false [zm0 10 2,
 zg0 11 (.len (.t 10)),
 zg0 12 (.bin .gtr (.t 11) (zi0 0)),
 zm0 13 12,
 zt0 14 13 (.off (.t 4) 0),
 zt0 15 13 (.off (.t 14) 6),
 zt0 16 13 (.ld (.t 15) 1 false),
 zt0 17 13 (.bin .gtr (.t 16) (zi0 0)),
 zg0 18 (.pick (.t 13) (.t 17) zF0)] [0, 2, 4, 18] [4])
 (.cond (.t 18)
 (.reg false [zm0 19 0,
 zg0 20 (.off (.t 4) 0),
 zg0 21 (.off (.t 20) 6),
 zg0 22 (.ld (.t 21) 1 false),
 zg0 23 (.call 207 [(.t 19), (zi0 3), (zi0 0), (zi0 0), (.t 22)] false)] [0, 2, 4] [4])
 .skip))
 (.seq (.reg false [zm0 24 2,
 zg0 25 (.len (.t 24)),
 zg0 26 (.mov (zi0 0))] [0, 4, 24, 25, 26] [4])
 (.block 0 lp129_1)))),
 [], false⟩
def lp139_0 : IC :=
 (.loop [0, 1, 12, 13] [] (.seq (.reg false [zg0 14 (.bin .lss (.t 13) (.t 12))] [0, 1, 12, 13, 14] [])
 (.seq (.cond (.t 14)
 .skip
 (.exit 0))
 (.seq (.block 1 (.seq (.reg false [zm0 15 13,
 zm0 5 15] [0, 1, 5, 12, 13] [])
 (.seq (.reg true [zm0 16 0,
 zm0 17 5,
 zg0 18 (.ixs (.t 16) (.t 17) 1),
 zg0 19 (.ld (.t 18) 1 false),
 zm0 20 1,
 zm0 21 5,
 zg0 22 (.ixs (.t 20) (.t 21) 1),
 zg0 23 (.ld (.t 22) 1 false),
 zg0 24 (.bin .neq (.t 19) (.t 23))] [0, 1, 12, 13, 24] [])
 (.cond (.t 24)
 (.seq (.reg false [zg0 4 (.mov zF0)] [4] [])
 .ret)
 .skip))))
 (.reg false [zg0 25 (.bin .add (.t 13) (zi0 1)),
 zm0 13 25] [0, 1, 12, 13] [])))))
def ir139 : IFn :=   -- slices.Equal[[]int,int]
⟨(.seq (.reg false [zg0 4 (.mov zF0)] [0, 1] [])
 (.seq (.seq (.reg false [zm0 6 0,
 zg0 7 (.len (.t 6)),
 zm0 8 1,
 zg0 9 (.len (.t 8)),
 zg0 10 (.bin .neq (.t 7) (.t 9))] [0, 1, 10] [])
 (.cond (.t 10)
 (.seq (.reg false [zg0 4 (.mov zF0)] [4] [])
 .ret)
 .skip))
 (.seq (.seq (.reg false [zm0 11 0,
 zg0 12 (.len (.t 11)),
 zg0 13 (.mov (zi0 0))] [0, 1, 12, 13] [])
 (.block 0 lp139_0))
 (.seq (.reg false [zg0 4 (.mov zT0)] [4] [])
 .ret)))),
 [.tmp 4], false⟩
def lp141_0 : IC :=
 (.loop [0, 1, 5] [] (.seq (.seq (.reg false [zm0 11 5,
 zm0 12 0,
 zg0 13 (.len (.t 12)),
 zg0 14 (.bin .lss (.t 11) (.t 13))] [0, 1, 5, 14] [])
 (.cond (.t 14)
 .skip
 (.exit 0)))
 (.seq (.block 1 (.seq (.reg true [zm0 17 0,
 zm0 18 5,
 zg0 19 (.ixs (.t 17) (.t 18) 1),
 zg0 20 (.ld (.t 19) 1 false),
 zm0 21 1,
 zm0 22 5,
 zg0 23 (.ixs (.t 21) (.t 22) 1),
 zg0 24 (.ld (.t 23) 1 false),
 zg0 25 (.bin .neq (.t 20) (.t 24))] [0, 1, 5, 25] [])
 (.cond (.t 25)
 (.seq (.reg false [zg0 4 (.mov zF0)] [4] [])
 .ret)
 .skip)))
 (.reg false [zm0 15 5,
 zg0 16 (.bin .add (.t 15) (zi0 1)),
 zm0 5 16] [0, 1, 5] []))))
def ir141 : IFn :=   -- tympan/tympanref11.Ints
⟨(.seq (.reg false [zg0 4 (.mov zF0)] [0, 1] [])
 (.seq (.seq (.reg false [zm0 6 0,
 zg0 7 (.len (.t 6)),
 zm0 8 1,
 zg0 9 (.len (.t 8)),
 zg0 10 (.bin .neq (.t 7) (.t 9))] [0, 1, 10] [])
 (.cond (.t 10)
 (.seq (.reg false [zg0 4 (.mov zF0)] [4] [])
 .ret)
 .skip))
 (.seq (.seq (.reg false [zg0 5 (.mov (zi0 0))] [0, 1, 5] [])
 (.block 0 lp141_0))
 (.seq (.reg false [zg0 4 (.mov zT0)] [4] [])
 .ret)))),
 [.tmp 4], false⟩
def lp142_0 : IC :=
 (.loop [1, 7, 8, 9] [1] (.seq (.reg false [zg0 10 (.bin .lss (.t 9) (.t 8))] [1, 7, 8, 9, 10] [1])
 (.seq (.cond (.t 10)
 .skip
 (.exit 0))
 (.seq (.block 1 (.seq (.reg false [zg0 11 (.ixs (.t 7) (.t 9) 2),
 zg0 12 (.ld (.t 11) 2 true),
 zg0 5 (.al [zo0, .p .nilf] true),
 zn0 (.st (.t 5) (.t 12) 2)] [1, 5, 7, 8, 9] [1, 5])
 (.seq (.reg false [zg0 13 (.off (.t 5) 1),
 zg0 14 (.ld (.t 13) 1 false),
 zg0 15 (.ld (.t 1) 22 true),
 zg0 16 (.callv (.t 14) [(.t 15)] false),
 zm0 6 16] [1, 5, 6, 7, 8, 9] [1, 5])
 (.seq (.reg false [zm0 17 6,
 zg0 18 (.bin .geq (.t 17) (zi0 0))] [1, 5, 6, 7, 8, 9, 18] [1, 5])
 (.cond (.t 18)
 (.seq (.reg false [zg0 19 (.off (.t 5) 0),
 zg0 20 (.ld (.t 19) 1 false),
 zm0 21 6,
 zm0 2 20,
 zm0 3 21] [2, 3] [])
 .ret)
 .skip)))))
 (.reg false [zg0 22 (.bin .add (.t 9) (zi0 1)),
 zm0 9 22] [1, 7, 8, 9] [1])))))
def ir142 : IFn :=   -- tympan/valid.Check
⟨(.seq (.reg false [zg0 1 (.bx (.t 0) 22 true),
 zg0 2 (.mov (zi0 0)),
 zg0 3 (.mov (zi0 0))] [1] [1])
 (.seq (.seq (.reg false [zg0 7 (.call 221 [] false),
 zg0 8 (.len (.t 7)),
 zg0 9 (.mov (zi0 0))] [1, 7, 8, 9] [1])
 (.block 0 lp142_0))
 (.seq (.reg false [zg0 2 (.mov (zi0 0)),
 zg0 3 (.mov (zi0 0))] [2, 3] [])
 .ret))),
 [.tmp 2, .tmp 3], false⟩
def ir143 : IFn :=   -- slices.Clone[[]tympan/api.Item,tympan/api.Item]
⟨(.seq (.reg false [zg0 2 (.mov (.c (.nils)))] [0] [])
 (.seq (.seq (.reg false [zm0 3 0,
 zg0 4 (.eqn .sl false (.t 3))] [0, 4] [])
 (.cond (.t 4)
 (.seq (.reg false [zg0 2 (.mov (.c (.nils)))] [2] [])
 .ret)
 .skip))
 (.seq (.reg false [zg0 5 (.bsl 7 0 [zo0, zo0, zo0, zo0, zo0, zo0, zo0] []),
 zm0 6 0,
 zg0 7 (.app (.t 5) (.t 6) 7),
 zm0 2 7] [2] [])
 .ret))),
 [.tmp 2], true⟩
def ir144 : IFn :=   -- slices.Clone[[]tympan/api.Float,tympan/api.Float]
⟨(.seq (.reg false [zg0 2 (.mov (.c (.nils)))] [0] [])
 (.seq (.seq (.reg false [zm0 3 0,
 zg0 4 (.eqn .sl false (.t 3))] [0, 4] [])
 (.cond (.t 4)
 (.seq (.reg false [zg0 2 (.mov (.c (.nils)))] [2] [])
 .ret)
 .skip))
 (.seq (.reg false [zg0 5 (.bsl 3 0 [zo0, zo0, zo0] []),
 zm0 6 0,
 zg0 7 (.app (.t 5) (.t 6) 3),
 zm0 2 7] [2] [])
 .ret))),
 [.tmp 2], true⟩
def ir145 : IFn :=   -- slices.Clone[[]tympan/api.Sp,tympan/api.Sp]
⟨(.seq (.reg false [zg0 2 (.mov (.c (.nils)))] [0] [])
 (.seq (.seq (.reg false [zm0 3 0,
 zg0 4 (.eqn .sl false (.t 3))] [0, 4] [])
 (.cond (.t 4)
 (.seq (.reg false [zg0 2 (.mov (.c (.nils)))] [2] [])
 .ret)
 .skip))
 (.seq (.reg false [zg0 5 (.bsl 1 0 [zo0] []),
 zm0 6 0,
 zg0 7 (.app (.t 5) (.t 6) 1),
 zm0 2 7] [2] [])
 .ret))),
 [.tmp 2], true⟩
def ir146 : IFn :=   -- slices.Clone[[]int,int]
⟨(.seq (.reg false [zg0 2 (.mov (.c (.nils)))] [0] [])
 (.seq (.seq (.reg false [zm0 3 0,
 zg0 4 (.eqn .sl false (.t 3))] [0, 4] [])
 (.cond (.t 4)
 (.seq (.reg false [zg0 2 (.mov (.c (.nils)))] [2] [])
 .ret)
 .skip))
 (.seq (.reg false [zg0 5 (.bsl 1 0 [zo0] []),
 zm0 6 0,
 zg0 7 (.app (.t 5) (.t 6) 1),
 zm0 2 7] [2] [])
 .ret))),
 [.tmp 2], true⟩
def lp147_0 : IC :=
 (.loop [2, 5, 11, 12] [2] (.seq (.reg false [zg0 13 (.bin .lss (.t 12) (.t 11))] [2, 5, 11, 12, 13] [2])
 (.seq (.cond (.t 13)
 .skip
 (.exit 0))
 (.seq (.block 1 (.seq (.reg false [zm0 14 12,
 zm0 6 14] [2, 5, 6, 11, 12] [2])
 (.seq (.reg false [zm0 15 5,
 zm0 16 6,
 zg0 17 (.ixs (.t 15) (.t 16) 7),
 zm0 7 17] [2, 5, 7, 11, 12] [2])
 (.seq (.reg false [zm0 18 7,
 zg0 19 (.nck (.t 18)),
 zg0 20 (.off (.t 19) 0),
 zg0 21 (.ld (.t 20) 1 false)] [2, 5, 7, 11, 12, 21] [2])
 (.block 2 (.seq (.reg false [zg0 23 (.bin .eql (.t 21) (zi0 1)),
 zm0 22 23] [2, 5, 7, 11, 12, 21, 22] [2])
 (.cond (.t 22)
 (.reg true [zg0 24 (.ldl 2 (.t 2) 1 true),
 zm0 25 7,
 zg0 26 (.nck (.t 25)),
 zg0 27 (.off (.t 26) 1),
 zg0 28 (.bsl 1 1 [.p .nilp] [(0, (.t 27))]),
 zg0 29 (.call 149 [(.t 24), (.c (.p (.fn 151))), (.t 28)] false)] [2, 5, 11, 12] [2])
 (.seq (.reg false [zg0 31 (.bin .eql (.t 21) (zi0 2)),
 zm0 30 31] [2, 5, 7, 11, 12, 30] [2])
 (.cond (.t 30)
 (.seq (.reg true [zg0 32 (.ldl 2 (.t 2) 1 true),
 zm0 33 7,
 zg0 34 (.nck (.t 33)),
 zg0 35 (.off (.t 34) 1),
 zg0 36 (.bsl 1 1 [.p .nilp] [(0, (.t 35))]),
 zg0 37 (.call 149 [(.t 32), (.c (.p (.fn 222))), (.t 36)] false)] [2, 5, 7, 11, 12] [2])
 (.reg false [zm0 38 7,
 zm0 39 7,
 zm0 40 7,
 zg0 41 (.nck (.t 38)),
 zg0 42 (.off (.t 41) 3),
 zn0 (.st (.t 42) (zi0 0) 1),
 zg0 43 (.nck (.t 39)),
 zg0 44 (.off (.t 43) 4),
 zn0 (.st (.t 44) (zi0 0) 1),
 zg0 45 (.nck (.t 40)),
 zg0 46 (.off (.t 45) 5),
 zn0 (.st (.t 46) (zi0 0) 1)] [2, 5, 11, 12] [2]))
 .skip)))))))))
 (.reg false [zg0 47 (.bin .add (.t 12) (zi0 1)),
 zm0 12 47] [2, 5, 11, 12] [2])))))
def ir147 : IFn :=   -- (tympan/grid.snapper).items
⟨(.seq (.reg false [zg0 2 (.bx (.t 0) 1 true),
 zg0 4 (.mov (.c (.nils)))] [1, 2] [2])
 (.seq (.reg false [zm0 8 1,
 zg0 9 (.call 143 [(.t 8)] false),
 zm0 5 9] [2, 5] [2])
 (.seq (.seq (.reg false [zm0 10 5,
 zg0 11 (.len (.t 10)),
 zg0 12 (.mov (zi0 0))] [2, 5, 11, 12] [2])
 (.block 0 lp147_0))
 (.seq (.reg false [zm0 48 5,
 zm0 4 48] [4] [])
 .ret)))),
 [.tmp 4], false⟩
def lp148_0 : IC :=
 (.loop [2, 5, 6, 12, 13, 14, 34, 35] [2] (.seq (.reg false [zg0 36 (.bin .lss (.t 35) (.t 34))] [2, 5, 6, 12, 13, 14, 34, 35, 36] [2])
 (.seq (.cond (.t 36)
 .skip
 (.exit 2))
 (.seq (.block 3 (.seq (.reg false [zm0 37 35,
 zm0 8 37] [2, 5, 6, 8, 12, 13, 14, 34, 35] [2])
 (.reg true [zg0 38 (.ldl 2 (.t 2) 1 true),
 zm0 39 5,
 zm0 40 6,
 zg0 41 (.ixs (.t 39) (.t 40) 2),
 zg0 42 (.off (.t 41) 0),
 zg0 43 (.ld (.t 42) 1 false),
 zm0 44 8,
 zg0 45 (.ixs (.t 43) (.t 44) 1),
 zg0 46 (.bsl 1 1 [.p .nilp] [(0, (.t 45))]),
 zg0 47 (.call 149 [(.t 38), (.c (.p (.fn 151))), (.t 46)] false)] [2, 5, 6, 12, 13, 14, 34, 35] [2])))
 (.reg false [zg0 48 (.bin .add (.t 35) (zi0 1)),
 zm0 35 48] [2, 5, 6, 12, 13, 14, 34, 35] [2])))))
def lp148_1 : IC :=
 (.loop [2, 5, 12, 13, 14] [2] (.seq (.reg false [zg0 15 (.bin .lss (.t 14) (.t 13))] [2, 5, 12, 13, 14, 15] [2])
 (.seq (.cond (.t 15)
 .skip
 (.exit 0))
 (.seq (.block 1 (.seq (.reg false [zm0 16 14,
 zg0 17 (.ixs (.t 12) (.t 14) 2),
 zg0 18 (.ld (.t 17) 2 true),
 zg0 7 (.al [.nils, .nils] true),
 zm0 6 16,
 zn0 (.st (.t 7) (.t 18) 2)] [2, 5, 6, 7, 12, 13, 14] [2, 7])
 (.seq (.reg true [zm0 19 5,
 zm0 20 6,
 zg0 21 (.off (.t 7) 0),
 zg0 22 (.ldl 7 (.t 21) 1 false),
 zg0 23 (.call 145 [(.t 22)] false),
 zg0 24 (.off (.t 7) 1),
 zg0 25 (.ldl 7 (.t 24) 1 false),
 zg0 26 (.call 146 [(.t 25)] false),
 zg0 27 (.bld [.nils, .nils] [(0, 1, (.t 23)), (1, 1, (.t 26))]),
 zg0 28 (.ixs (.t 19) (.t 20) 2),
 zn0 (.st (.t 28) (.t 27) 2)] [2, 5, 6, 12, 13, 14] [2])
 (.seq (.reg false [zm0 29 5,
 zm0 30 6,
 zg0 31 (.ixs (.t 29) (.t 30) 2),
 zg0 32 (.off (.t 31) 0),
 zg0 33 (.ld (.t 32) 1 false),
 zg0 34 (.len (.t 33)),
 zg0 35 (.mov (zi0 0))] [2, 5, 6, 12, 13, 14, 34, 35] [2])
 (.block 2 lp148_0)))))
 (.reg false [zg0 49 (.bin .add (.t 14) (zi0 1)),
 zm0 14 49] [2, 5, 12, 13, 14] [2])))))
def ir148 : IFn :=   -- (tympan/grid.snapper).notes
⟨(.seq (.reg false [zg0 2 (.bx (.t 0) 1 true),
 zg0 4 (.mov (.c (.nils)))] [1, 2] [2])
 (.seq (.reg false [zm0 9 1,
 zg0 10 (.len (.t 9)),
 zg0 11 (.mks 2 [.nils, .nils] (.t 10)),
 zm0 5 11] [1, 2, 5] [2])
 (.seq (.seq (.reg false [zm0 12 1,
 zg0 13 (.len (.t 12)),
 zg0 14 (.mov (zi0 0))] [2, 5, 12, 13, 14] [2])
 (.block 0 lp148_1))
 (.seq (.reg false [zm0 50 5,
 zm0 4 50] [4] [])
 .ret)))),
 [.tmp 4], false⟩
end Go.EnvOf
