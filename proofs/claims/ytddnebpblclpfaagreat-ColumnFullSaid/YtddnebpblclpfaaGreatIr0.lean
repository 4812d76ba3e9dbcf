/- The engine's instructions for the functions, part 0. -/
import Derived.Test.YtddnebpblclpfaaGreatEngAll2
namespace Go.EnvOf
open Go Go.Eng
set_option maxRecDepth 100000
abbrev zm0 (d n : Nat) : GIns := ⟨some d, none, .mov (.t n)⟩
abbrev zT0 : Arg := .c (.p (.bool true))
abbrev zF0 : Arg := .c (.p (.bool false))
abbrev zg0 (d : Nat) (i : Ins) : GIns := ⟨some d, none, i⟩
abbrev zf0 (d k : Nat) (i : Ins) : GIns := ⟨some d, some (k, false), i⟩
abbrev zt0 (d k : Nat) (i : Ins) : GIns := ⟨some d, some (k, true), i⟩
abbrev zn0 (i : Ins) : GIns := ⟨none, none, i⟩
abbrev zi0 (n : Int) : Arg := .c (.p (.int .i64 n))
abbrev zo0 : V := .p (.int .i64 0)
def ir7 : IFn :=   -- tympan/tympanlaw26.ColumnFull
⟨(.seq (.reg false [zg0 3 (.bx (.t 0) 22 true),
 zg0 4 (.bx (.t 1) 7 true),
 zg0 5 (.bx (.t 2) 6 true),
 zg0 6 (.mov zF0)] [3, 4, 5] [3, 4, 5])
 (.seq (.seq (.reg false [zg0 11 (.ld (.t 3) 22 true),
 zg0 12 (.call 11 [(.t 11)] false),
 zm0 13 12,
 zf0 14 13 (.ld (.t 5) 6 true),
 zf0 15 13 (.call 39 [(.t 14)] false),
 zg0 16 (.pick (.t 13) zT0 (.t 15))] [3, 4, 5, 16] [3, 4, 5])
 (.cond (.t 16)
 (.seq (.reg false [zg0 17 (.call 40 [] false),
 zm0 6 17] [6] [])
 .ret)
 .skip))
 (.seq (.reg false [zg0 19 (.ld (.t 3) 22 true),
 zg0 20 (.callz 13 [(.t 19)]),
 zm0 18 20,
 zg0 21 (.ext (.t 18) 0),
 zg0 22 (.ext (.t 18) 1),
 zm0 7 21,
 zm0 8 22] [3, 4, 5, 7, 8] [3, 4, 5])
 (.seq (.seq (.reg false [zm0 23 8,
 zg0 24 (.un .not (.t 23))] [3, 4, 5, 7, 24] [3, 4, 5])
 (.cond (.t 24)
 (.seq (.reg false [zg0 25 (.ld (.t 3) 22 true),
 zg0 26 (.call 14 [(.t 25)] false),
 zg0 27 (.fldv (.t 26) 22 1 false),
 zg0 28 (.un .not (.t 27)),
 zm0 29 28,
 zt0 30 29 (.call 40 [] false),
 zg0 31 (.pick (.t 29) (.t 30) zF0),
 zm0 6 31] [6] [])
 .ret)
 .skip))
 (.seq (.reg false [zm0 32 7,
 zg0 33 (.ld (.t 4) 7 true),
 zg0 34 (.ld (.t 5) 6 true),
 zg0 35 (.call 41 [(.t 32), (.t 33), (.t 34)] false),
 zg0 9 (.al [zo0, zo0] true),
 zn0 (.st (.t 9) (.t 35) 2)] [4, 5, 7, 9] [4, 5, 9])
 (.seq (.reg false [zg0 10 (.mov (zi0 0))] [4, 5, 7, 9, 10] [4, 5, 9])
 (.seq (.seq (.reg false [zm0 36 7,
 zg0 37 (.ld (.t 4) 7 true),
 zg0 38 (.ld (.t 5) 6 true),
 zg0 39 (.call 42 [(.t 36), (.t 37), (.t 38)] false),
 zg0 40 (.fldv (.t 39) 4 1 false)] [9, 10, 40] [9])
 (.cond (.t 40)
 (.reg false [zg0 10 (.mov (zi0 1))] [9, 10] [9])
 .skip))
 (.seq (.reg false [zg0 41 (.off (.t 9) 0),
 zg0 42 (.ld (.t 41) 1 false),
 zm0 43 10,
 zg0 44 (.bin .eql (.t 42) (.t 43)),
 zm0 45 44,
 zt0 46 45 (.off (.t 9) 1),
 zt0 47 45 (.ld (.t 46) 1 false),
 zt0 48 45 (.bin .geq (.t 47) (zi0 0)),
 zg0 49 (.pick (.t 45) (.t 48) zF0),
 zm0 50 49,
 zt0 51 50 (.call 40 [] false),
 zg0 52 (.pick (.t 50) (.t 51) zF0),
 zm0 6 52] [6] [])
 .ret)))))))),
 [.tmp 6], false⟩
def lp11_0 : IC :=
 (.loop [1, 3] [1] (.seq (.seq (.reg false [zm0 4 3,
 zg0 5 (.off (.t 1) 20),
 zg0 6 (.ld (.t 5) 1 false),
 zg0 7 (.len (.t 6)),
 zg0 8 (.bin .lss (.t 4) (.t 7)),
 zm0 9 8,
 zt0 10 9 (.mov (.t 3)),
 zt0 11 9 (.bin .lss (.t 10) (zi0 100)),
 zg0 12 (.pick (.t 9) (.t 11) zF0)] [1, 3, 12] [1])
 (.cond (.t 12)
 .skip
 (.exit 0)))
 (.seq (.block 1 (.seq (.reg false [zg0 15 (.off (.t 1) 20),
 zg0 16 (.ld (.t 15) 1 false),
 zm0 17 3,
 zg0 18 (.ixs (.t 16) (.t 17) 2),
 zg0 19 (.off (.t 18) 0),
 zg0 20 (.ld (.t 19) 1 false),
 zg0 21 (.len (.t 20)),
 zg0 22 (.bin .gtr (.t 21) (zi0 100)),
 zm0 23 22,
 zf0 24 23 (.off (.t 1) 20),
 zf0 25 23 (.ld (.t 24) 1 false),
 zf0 26 23 (.mov (.t 3)),
 zf0 27 23 (.ixs (.t 25) (.t 26) 2),
 zf0 28 23 (.off (.t 27) 1),
 zf0 29 23 (.ld (.t 28) 1 false),
 zf0 30 23 (.len (.t 29)),
 zf0 31 23 (.bin .gtr (.t 30) (zi0 100)),
 zg0 32 (.pick (.t 23) zT0 (.t 31))] [1, 3, 32] [1])
 (.cond (.t 32)
 (.seq (.reg false [zg0 2 (.mov zT0)] [2] [])
 .ret)
 .skip)))
 (.reg false [zm0 13 3,
 zg0 14 (.bin .add (.t 13) (zi0 1)),
 zm0 3 14] [1, 3] [1]))))
def ir11 : IFn :=   -- tympan/tympanlaw14.Large
⟨(.seq (.reg false [zg0 1 (.bx (.t 0) 22 true),
 zg0 2 (.mov zF0)] [1] [1])
 (.seq (.seq (.reg false [zg0 3 (.mov (zi0 0))] [1, 3] [1])
 (.block 0 lp11_0))
 (.seq (.reg false [zg0 33 (.off (.t 1) 19),
 zg0 34 (.ld (.t 33) 1 false),
 zg0 35 (.len (.t 34)),
 zg0 36 (.bin .gtr (.t 35) (zi0 100)),
 zm0 37 36,
 zf0 38 37 (.off (.t 1) 20),
 zf0 39 37 (.ld (.t 38) 1 false),
 zf0 40 37 (.len (.t 39)),
 zf0 41 37 (.bin .gtr (.t 40) (zi0 100)),
 zg0 42 (.pick (.t 37) zT0 (.t 41)),
 zm0 43 42,
 zf0 44 43 (.off (.t 1) 21),
 zf0 45 43 (.ld (.t 44) 1 false),
 zf0 46 43 (.len (.t 45)),
 zf0 47 43 (.bin .gtr (.t 46) (zi0 100)),
 zg0 48 (.pick (.t 43) zT0 (.t 47)),
 zm0 2 48] [2] [])
 .ret))),
 [.tmp 2], false⟩
def lp13_0 : IC :=
 (.loop [1, 6, 53, 54] [1, 35] (.seq (.reg false [zg0 55 (.bin .lss (.t 54) (.t 53))] [1, 6, 53, 54, 55] [1, 35])
 (.seq (.cond (.t 55)
 .skip
 (.exit 0))
 (.seq (.block 1 (.seq (.reg false [zm0 56 54,
 zm0 7 56] [1, 6, 7, 53, 54] [1, 35])
 (.reg true [zm0 57 6,
 zm0 58 6,
 zg0 59 (.nck (.t 58)),
 zg0 60 (.off (.t 59) 23),
 zg0 61 (.ldl 35 (.t 60) 1 false),
 zg0 62 (.off (.t 1) 20),
 zg0 63 (.ldl 1 (.t 62) 1 false),
 zm0 64 7,
 zg0 65 (.slc (.t 63) none (some (.t 64)) 2),
 zg0 66 (.call 63 [(.t 65)] false),
 zg0 67 (.bsl 1 1 [zo0] [(0, (.t 66))]),
 zg0 68 (.app (.t 61) (.t 67) 1),
 zg0 69 (.nck (.t 57)),
 zg0 70 (.off (.t 69) 23),
 zn0 (.stl 35 (.t 70) (.t 68) 1)] [1, 6, 53, 54] [1, 35])))
 (.reg false [zg0 71 (.bin .add (.t 54) (zi0 1)),
 zm0 54 71] [1, 6, 53, 54] [1, 35])))))
def ir13 : IFn :=   -- tympan/state.New
⟨(.seq (.reg false [zg0 1 (.bx (.t 0) 22 true),
 zg0 2 (.mov (.c (.p .nilp))),
 zg0 3 (.mov zF0)] [1] [1])
 (.seq (.seq (.reg false [zg0 8 (.ld (.t 1) 22 true),
 zg0 9 (.call 56 [(.t 8)] false),
 zg0 10 (.un .not (.t 9))] [1, 10] [1])
 (.cond (.t 10)
 (.seq (.reg false [zg0 2 (.mov (.c (.p .nilp))),
 zg0 3 (.mov zF0)] [2, 3] [35])
 .ret)
 .skip))
 (.seq (.reg false [zg0 11 (.ld (.t 1) 22 true),
 zg0 12 (.call 58 [(.t 11)] false),
 zg0 13 (.call 57 [(.t 12)] false),
 zn0 (.st (.t 1) (.t 13) 22)] [1] [1])
 (.seq (.reg false [zg0 15 (.off (.t 1) 19),
 zg0 16 (.ld (.t 15) 1 false),
 zg0 17 (.callz 59 [(.t 16)]),
 zm0 14 17,
 zg0 18 (.ext (.t 14) 0),
 zg0 19 (.ext (.t 14) 1),
 zm0 4 18,
 zm0 5 19] [1, 4, 5] [1])
 (.seq (.seq (.reg false [zm0 20 5,
 zg0 21 (.un .not (.t 20))] [1, 4, 21] [1])
 (.cond (.t 21)
 (.seq (.reg false [zg0 2 (.mov (.c (.p .nilp))),
 zg0 3 (.mov zF0)] [2, 3] [35])
 .ret)
 .skip))
 (.seq (.prep [35] (.reg true [zg0 22 (.off (.t 1) 19),
 zg0 23 (.ldl 1 (.t 22) 1 false),
 zg0 24 (.callz 60 [(.t 23)]),
 zm0 25 4,
 zg0 26 (.off (.t 1) 19),
 zg0 27 (.ldl 1 (.t 26) 1 false),
 zg0 28 (.off (.t 1) 21),
 zg0 29 (.ldl 1 (.t 28) 1 false),
 zg0 30 (.callz 61 [(.t 27), (.t 29)]),
 zg0 31 (.bld [.p .nilp, .p .nilp, .p .nilp] [(0, 1, (.t 24)), (1, 1, (.t 25)), (2, 1, (.t 30))]),
 zg0 32 (.bx (.t 31) 3 false),
 zg0 33 (.ldl 1 (.t 1) 22 true),
 zg0 34 (.bld [.p .nilp, zo0, zo0, zo0, zo0, zo0, zo0, zo0, zo0, zo0, zo0, zo0, zo0, zo0, zo0, zo0, zo0, zo0, zo0, .p (.bool false), .nils, .nils, .nils, .nils, zo0, zo0, zo0] [(0, 1, (.t 32)), (1, 22, (.t 33))]),
 zg0 35 (.bxp (.t 34) 27),
 zm0 6 35] [1, 6] [1, 35]))
 (.seq (.reg true [zm0 36 6,
 zm0 37 6,
 zg0 38 (.nck (.t 37)),
 zg0 39 (.off (.t 38) 0),
 zg0 40 (.ldl 35 (.t 39) 1 false),
 zg0 41 (.nck (.t 40)),
 zg0 42 (.off (.t 41) 2),
 zg0 43 (.ld (.t 42) 1 false),
 zg0 44 (.off (.t 1) 19),
 zg0 45 (.ldl 1 (.t 44) 1 false),
 zg0 46 (.len (.t 45)),
 zg0 47 (.call 62 [(.t 43), (.t 46)] false),
 zg0 48 (.nck (.t 36)),
 zg0 49 (.off (.t 48) 24),
 zn0 (.stl 35 (.t 49) (.t 47) 3)] [1, 6] [1, 35])
 (.seq (.seq (.reg false [zg0 50 (.off (.t 1) 20),
 zg0 51 (.ld (.t 50) 1 false),
 zg0 52 (.len (.t 51)),
 zg0 53 (.bin .add (.t 52) (zi0 1)),
 zg0 54 (.mov (zi0 0))] [1, 6, 53, 54] [1, 35])
 (.block 0 lp13_0))
 (.seq (.esc [35] (.reg false [zm0 72 6,
 zm0 2 72,
 zg0 3 (.mov zT0)] [2, 3] [35]))
 .ret))))))))),
 [.tmp 2, .tmp 3], false⟩
def ir14 : IFn :=   -- tympan/tympanref25.New
⟨(.seq (.reg false [zg0 1 (.bx (.t 0) 22 true),
 zg0 2 (.al [zo0, zo0, zo0, zo0, zo0, zo0, zo0, zo0, zo0, zo0, zo0, zo0, zo0, zo0, zo0, zo0, zo0, zo0, .p (.bool false), .nils, .nils, .nils, .p (.bool false)] true)] [1, 2] [1, 2])
 (.seq (.seq (.reg false [zg0 3 (.ld (.t 1) 22 true),
 zg0 4 (.call 32 [(.t 3)] false),
 zg0 5 (.fldv (.t 4) 0 1 false),
 zg0 6 (.bin .neq (.t 5) (zi0 0))] [1, 2, 6] [1, 2])
 (.cond (.t 6)
 (.seq (.reg false [zg0 7 (.bld [zo0, zo0, zo0, zo0, zo0, zo0, zo0, zo0, zo0, zo0, zo0, zo0, zo0, zo0, zo0, zo0, zo0, zo0, .p (.bool false), .nils, .nils, .nils, .p (.bool false)] []),
 zn0 (.st (.t 2) (.t 7) 23)] [2] [2])
 .ret)
 .skip))
 (.seq (.reg false [zg0 8 (.ld (.t 1) 22 true),
 zg0 9 (.call 64 [(.t 8)] false),
 zg0 10 (.bld [zo0, zo0, zo0, zo0, zo0, zo0, zo0, zo0, zo0, zo0, zo0, zo0, zo0, zo0, zo0, zo0, zo0, zo0, .p (.bool false), .nils, .nils, .nils] [(0, 22, (.t 9))]),
 zg0 11 (.bld [zo0, zo0, zo0, zo0, zo0, zo0, zo0, zo0, zo0, zo0, zo0, zo0, zo0, zo0, zo0, zo0, zo0, zo0, .p (.bool false), .nils, .nils, .nils, .p (.bool false)] [(0, 22, (.t 10)), (22, 1, zT0)]),
 zn0 (.st (.t 2) (.t 11) 23)] [2] [2])
 .ret))),
 [.cell 2 23 true], false⟩
def lp15_0 : IC :=
 (.loop [0, 6, 7, 8, 67, 68, 69] [6, 7, 8] (.seq (.reg false [zg0 70 (.bin .lss (.t 69) (.t 68))] [0, 6, 7, 8, 67, 68, 69, 70] [6, 7, 8])
 (.seq (.cond (.t 70)
 .skip
 (.exit 0))
 (.seq (.block 1 (.seq (.reg false [zg0 71 (.ixs (.t 67) (.t 69) 1),
 zg0 72 (.ld (.t 71) 1 false),
 zm0 10 72] [0, 6, 7, 8, 10, 67, 68, 69] [6, 7, 8])
 (.reg true [zg0 73 (.ldl 8 (.t 8) 3 true),
 zm0 74 0,
 zg0 75 (.nck (.t 74)),
 zg0 76 (.off (.t 75) 1),
 zg0 77 (.off (.t 76) 21),
 zg0 78 (.ld (.t 77) 1 false),
 zm0 79 10,
 zg0 80 (.call 68 [(.t 78), (.t 79)] false),
 zg0 81 (.call 67 [(.t 73), (.t 80)] false),
 zn0 (.stl 8 (.t 8) (.t 81) 3)] [0, 6, 7, 8, 67, 68, 69] [6, 7, 8])))
 (.reg false [zg0 82 (.bin .add (.t 69) (zi0 1)),
 zm0 69 82] [0, 6, 7, 8, 67, 68, 69] [6, 7, 8])))))
def ir15 : IFn :=   -- (*tympan/state.World).Next
⟨(.seq (.reg false [zg0 4 (.bx (.t 1) 7 true),
 zg0 5 (.bx (.t 2) 6 true),
 zg0 6 (.al [zo0, zo0, zo0, zo0, zo0, zo0, zo0] true)] [0, 4, 5, 6] [4, 5, 6])
 (.seq (.seq (.reg false [zm0 11 0,
 zg0 12 (.ld (.t 4) 7 true),
 zg0 13 (.call 19 [(.t 11), (.t 12)] false),
 zg0 14 (.un .not (.t 13))] [0, 4, 5, 6, 14] [4, 5, 6])
 (.cond (.t 14)
 (.seq (.reg false [zg0 15 (.bld [zo0, zo0, zo0, zo0, zo0, zo0, zo0] []),
 zn0 (.st (.t 6) (.t 15) 7)] [6] [6])
 .ret)
 .skip))
 (.seq (.prep [7] (.reg true [zg0 16 (.off (.t 4) 0),
 zg0 17 (.ldl 4 (.t 16) 1 false),
 zg0 18 (.off (.t 4) 1),
 zg0 19 (.ldl 4 (.t 18) 1 false),
 zg0 20 (.bin .add (.t 19) (zi0 1)),
 zm0 21 0,
 zg0 22 (.nck (.t 21)),
 zg0 23 (.off (.t 22) 1),
 zg0 24 (.off (.t 23) 0),
 zg0 25 (.off (.t 24) 0),
 zg0 26 (.ld (.t 25) 1 false),
 zg0 27 (.mnmx false (.t 20) (.t 26)),
 zg0 28 (.bld [zo0, zo0, zo0, zo0, zo0, zo0, zo0] [(0, 1, (.t 17)), (1, 1, (.t 27))]),
 zg0 7 (.alp [zo0, zo0, zo0, zo0, zo0, zo0, zo0]),
 zn0 (.stl 7 (.t 7) (.t 28) 7)] [0, 4, 5, 6, 7] [4, 5, 6, 7]))
 (.seq (.seq (.reg false [zg0 29 (.off (.t 5) 0),
 zg0 30 (.ld (.t 29) 1 false),
 zg0 31 (.bin .eql (.t 30) (zi0 1))] [0, 4, 5, 6, 7, 31] [4, 5, 6, 7])
 (.cond (.t 31)
 (.reg true [zm0 32 0,
 zg0 33 (.nck (.t 32)),
 zg0 34 (.off (.t 33) 0),
 zg0 35 (.ld (.t 34) 1 false),
 zg0 36 (.nck (.t 35)),
 zg0 37 (.off (.t 36) 0),
 zg0 38 (.ld (.t 37) 1 false),
 zg0 39 (.off (.t 5) 2),
 zg0 40 (.ldl 5 (.t 39) 1 false),
 zg0 41 (.call 65 [(.t 38), (.t 40)] false),
 zg0 42 (.off (.t 7) 0),
 zn0 (.stl 7 (.t 42) (.t 41) 1)] [0, 4, 5, 6, 7] [4, 5, 6, 7])
 .skip))
 (.seq (.reg true [zm0 44 0,
 zg0 45 (.nck (.t 44)),
 zg0 46 (.off (.t 45) 1),
 zg0 47 (.off (.t 46) 20),
 zg0 48 (.ld (.t 47) 1 false),
 zm0 49 0,
 zg0 50 (.ldl 4 (.t 4) 7 true),
 zg0 51 (.off (.t 5) 2),
 zg0 52 (.ldl 5 (.t 51) 1 false),
 zg0 53 (.call 31 [(.t 49), (.t 50), (.t 52)] true),
 zg0 54 (.off (.t 5) 3),
 zg0 55 (.ldl 5 (.t 54) 1 false),
 zg0 56 (.call 66 [(.t 48), (.t 53), (.t 55)] false),
 zm0 43 56,
 zg0 57 (.ext (.t 43) 0),
 zg0 58 (.ext (.t 43) 1),
 zg0 59 (.off (.t 7) 2),
 zn0 (.stl 7 (.t 59) (.t 57) 1),
 zg0 60 (.off (.t 7) 3),
 zn0 (.stl 7 (.t 60) (.t 58) 1)] [0, 4, 5, 6, 7] [4, 5, 6, 7])
 (.seq (.reg false [zg0 61 (.off (.t 4) 4),
 zg0 62 (.ld (.t 61) 3 true),
 zg0 8 (.al [zo0, zo0, zo0] true),
 zn0 (.st (.t 8) (.t 62) 3)] [0, 5, 6, 7, 8] [5, 6, 7, 8])
 (.seq (.seq (.reg false [zg0 63 (.off (.t 5) 4),
 zg0 64 (.ld (.t 63) 1 false),
 zg0 65 (.off (.t 5) 5),
 zg0 66 (.ld (.t 65) 1 false),
 zg0 67 (.bsl 1 2 [.nils] [(0, (.t 64)), (1, (.t 66))]),
 zg0 68 (.len (.t 67)),
 zg0 69 (.mov (zi0 0))] [0, 6, 7, 8, 67, 68, 69] [6, 7, 8])
 (.block 0 lp15_0))
 (.seq (.reg false [zg0 83 (.ld (.t 8) 3 true),
 zg0 84 (.off (.t 7) 4),
 zn0 (.st (.t 84) (.t 83) 3)] [6, 7] [6, 7])
 (.seq (.reg false [zg0 85 (.ld (.t 7) 7 true),
 zn0 (.st (.t 6) (.t 85) 7)] [6] [6])
 .ret))))))))),
 [.cell 6 7 true], false⟩
def ir19 : IFn :=   -- (*tympan/state.World).Right
⟨(.seq (.reg false [zg0 3 (.bx (.t 1) 7 true),
 zg0 4 (.mov zF0)] [0, 3] [3])
 (.seq (.seq (.reg true [zm0 6 0,
 zg0 7 (.eqn .ptr false (.t 6)),
 zm0 8 7,
 zf0 9 8 (.off (.t 3) 0),
 zf0 10 8 (.ldl 3 (.t 9) 1 false),
 zf0 11 8 (.bin .lss (.t 10) (zi0 0)),
 zg0 12 (.pick (.t 8) zT0 (.t 11)),
 zm0 13 12,
 zf0 14 13 (.off (.t 3) 0),
 zf0 15 13 (.ldl 3 (.t 14) 1 false),
 zf0 16 13 (.mov (.t 0)),
 zf0 17 13 (.nck (.t 16)),
 zf0 18 13 (.off (.t 17) 0),
 zf0 19 13 (.ld (.t 18) 1 false),
 zf0 20 13 (.nck (.t 19)),
 zf0 21 13 (.off (.t 20) 0),
 zf0 22 13 (.ld (.t 21) 1 false),
 zf0 23 13 (.call 78 [(.t 22)] false),
 zf0 24 13 (.bin .gtr (.t 15) (.t 23)),
 zg0 25 (.pick (.t 13) zT0 (.t 24)),
 zm0 26 25,
 zf0 27 26 (.mov (.t 0)),
 zf0 28 26 (.nck (.t 27)),
 zf0 29 26 (.off (.t 28) 0),
 zf0 30 26 (.ld (.t 29) 1 false),
 zf0 31 26 (.nck (.t 30)),
 zf0 32 26 (.off (.t 31) 0),
 zf0 33 26 (.ld (.t 32) 1 false),
 zf0 34 26 (.off (.t 3) 0),
 zf0 35 26 (.ldl 3 (.t 34) 1 false),
 zf0 36 26 (.call 65 [(.t 33), (.t 35)] false),
 zf0 37 26 (.off (.t 3) 0),
 zf0 38 26 (.ldl 3 (.t 37) 1 false),
 zf0 39 26 (.bin .neq (.t 36) (.t 38)),
 zg0 40 (.pick (.t 26) zT0 (.t 39)),
 zm0 41 40,
 zf0 42 41 (.off (.t 3) 1),
 zf0 43 41 (.ldl 3 (.t 42) 1 false),
 zf0 44 41 (.bin .lss (.t 43) (zi0 0)),
 zg0 45 (.pick (.t 41) zT0 (.t 44)),
 zm0 46 45,
 zf0 47 46 (.off (.t 3) 1),
 zf0 48 46 (.ldl 3 (.t 47) 1 false),
 zf0 49 46 (.mov (.t 0)),
 zf0 50 46 (.nck (.t 49)),
 zf0 51 46 (.off (.t 50) 1),
 zf0 52 46 (.off (.t 51) 0),
 zf0 53 46 (.off (.t 52) 0),
 zf0 54 46 (.ld (.t 53) 1 false),
 zf0 55 46 (.bin .gtr (.t 48) (.t 54)),
 zg0 56 (.pick (.t 46) zT0 (.t 55))] [0, 3, 56] [3])
 (.cond (.t 56)
 (.seq (.reg false [zg0 4 (.mov zF0)] [4] [])
 .ret)
 .skip))
 (.seq (.reg false [zg0 57 (.off (.t 3) 4),
 zg0 58 (.ld (.t 57) 3 true),
 zg0 5 (.al [zo0, zo0, zo0] true),
 zn0 (.st (.t 5) (.t 58) 3)] [0, 3, 5] [3, 5])
 (.seq (.reg true [zm0 59 0,
 zg0 60 (.ldl 3 (.t 3) 7 true),
 zg0 61 (.call 79 [(.t 59), (.t 60)] false),
 zm0 62 61,
 zt0 63 62 (.bld [zo0, zo0, zo0] []),
 zt0 64 62 (.ldl 5 (.t 5) 3 true),
 zt0 65 62 (.call 80 [(.t 63), (.t 64)] false),
 zg0 66 (.pick (.t 62) (.t 65) zF0),
 zm0 67 66,
 zt0 68 67 (.ldl 5 (.t 5) 3 true),
 zt0 69 67 (.mov (.t 0)),
 zt0 70 67 (.nck (.t 69)),
 zt0 71 67 (.off (.t 70) 0),
 zt0 72 67 (.ld (.t 71) 1 false),
 zt0 73 67 (.nck (.t 72)),
 zt0 74 67 (.off (.t 73) 2),
 zt0 75 67 (.ld (.t 74) 1 false),
 zt0 76 67 (.off (.t 3) 0),
 zt0 77 67 (.ldl 3 (.t 76) 1 false),
 zt0 78 67 (.call 62 [(.t 75), (.t 77)] false),
 zt0 79 67 (.call 80 [(.t 68), (.t 78)] false),
 zg0 80 (.pick (.t 67) (.t 79) zF0),
 zm0 4 80] [4] [])
 .ret)))),
 [.tmp 4], false⟩
def ir22 : IFn :=   -- (*tympan/state.World).High
⟨(.seq (.reg false [zg0 3 (.bx (.t 1) 7 true),
 zg0 4 (.mov (zi0 0))] [0, 3] [3])
 (.seq (.block 0 (.seq (.reg false [zm0 6 0,
 zg0 7 (.ld (.t 3) 7 true),
 zg0 8 (.call 19 [(.t 6), (.t 7)] false),
 zg0 9 (.un .not (.t 8)),
 zm0 5 9] [0, 3, 5] [3])
 (.cond (.t 5)
 (.seq (.reg false [zg0 4 (.mov (zi0 0))] [4] [])
 .ret)
 (.seq (.reg true [zg0 11 (.off (.t 3) 1),
 zg0 12 (.ldl 3 (.t 11) 1 false),
 zm0 13 0,
 zg0 14 (.nck (.t 13)),
 zg0 15 (.off (.t 14) 1),
 zg0 16 (.off (.t 15) 0),
 zg0 17 (.off (.t 16) 0),
 zg0 18 (.ld (.t 17) 1 false),
 zg0 19 (.bin .lss (.t 12) (.t 18)),
 zm0 10 19] [0, 10] [])
 (.cond (.t 10)
 (.seq (.reg false [zm0 20 0,
 zg0 21 (.nck (.t 20)),
 zg0 22 (.off (.t 21) 1),
 zg0 23 (.off (.t 22) 0),
 zg0 24 (.off (.t 23) 4),
 zg0 25 (.ld (.t 24) 1 false),
 zm0 4 25] [4] [])
 .ret)
 .skip)))))
 (.seq (.reg false [zm0 26 0,
 zg0 27 (.nck (.t 26)),
 zg0 28 (.off (.t 27) 1),
 zg0 29 (.off (.t 28) 0),
 zg0 30 (.off (.t 29) 3),
 zg0 31 (.ld (.t 30) 1 false),
 zm0 4 31] [4] [])
 .ret))),
 [.tmp 4], false⟩
def ir23 : IFn :=   -- (*tympan/state.World).Start
⟨(.seq (.reg false [zg0 2 (.al [zo0, zo0, zo0, zo0, zo0, zo0, zo0] true)] [0, 2] [2])
 (.seq (.reg false [zm0 3 0,
 zg0 4 (.call 26 [(.t 3)] false),
 zg0 5 (.call 65 [(.t 4), (zi0 0)] false),
 zg0 6 (.bld [zo0, zo0, zo0, zo0, zo0, zo0, zo0] [(0, 1, (.t 5))]),
 zn0 (.st (.t 2) (.t 6) 7)] [2] [2])
 .ret)),
 [.cell 2 7 true], false⟩
def ir25 : IFn :=   -- (*tympan/state.World).Waits
⟨(.seq (.reg false [zg0 3 (.bx (.t 1) 7 true),
 zg0 4 (.al [zo0, zo0, zo0] true)] [0, 3, 4] [3, 4])
 (.seq (.seq (.reg false [zm0 5 0,
 zg0 6 (.ld (.t 3) 7 true),
 zg0 7 (.call 19 [(.t 5), (.t 6)] false),
 zg0 8 (.un .not (.t 7))] [0, 3, 4, 8] [3, 4])
 (.cond (.t 8)
 (.seq (.reg false [zg0 9 (.bld [zo0, zo0, zo0] []),
 zn0 (.st (.t 4) (.t 9) 3)] [4] [4])
 .ret)
 .skip))
 (.seq (.reg true [zg0 10 (.off (.t 3) 4),
 zg0 11 (.ldl 3 (.t 10) 3 true),
 zm0 12 0,
 zg0 13 (.nck (.t 12)),
 zg0 14 (.off (.t 13) 0),
 zg0 15 (.ld (.t 14) 1 false),
 zg0 16 (.nck (.t 15)),
 zg0 17 (.off (.t 16) 2),
 zg0 18 (.ld (.t 17) 1 false),
 zg0 19 (.off (.t 3) 0),
 zg0 20 (.ldl 3 (.t 19) 1 false),
 zg0 21 (.call 62 [(.t 18), (.t 20)] false),
 zg0 22 (.call 83 [(.t 11), (.t 21)] false),
 zn0 (.stl 4 (.t 4) (.t 22) 3)] [4] [4])
 .ret))),
 [.cell 4 3 true], false⟩
def ir26 : IFn :=   -- (*tympan/state.World).List
⟨(.seq (.reg false [zg0 2 (.mov (.c (.p .nilp)))] [0] [])
 (.seq (.reg false [zm0 3 0,
 zg0 4 (.call 84 [(.t 3)] false),
 zg0 5 (.call 85 [(.t 4)] false),
 zm0 2 5] [2] [])
 .ret)),
 [.tmp 2], false⟩
def ir27 : IFn :=   -- (*tympan/state.World).Sums
⟨(.seq (.reg false [zg0 2 (.mov (.c (.p .nilp)))] [0] [])
 (.seq (.reg false [zm0 3 0,
 zg0 4 (.call 84 [(.t 3)] false),
 zg0 5 (.call 86 [(.t 4)] false),
 zm0 2 5] [2] [])
 .ret)),
 [.tmp 2], false⟩
def ir30 : IFn :=   -- (*tympan/state.World).Plain
⟨(.seq (.reg false [zg0 2 (.al [zo0, zo0, zo0, zo0, zo0, zo0, zo0, zo0, zo0, zo0, zo0, zo0, zo0, zo0, zo0, zo0, zo0, zo0, .p (.bool false), .nils, .nils, .nils] true)] [0, 2] [2])
 (.seq (.seq (.reg false [zm0 3 0,
 zg0 4 (.eqn .ptr false (.t 3))] [0, 2, 4] [2])
 (.cond (.t 4)
 (.seq (.reg false [zg0 5 (.bld [zo0, zo0, zo0, zo0, zo0, zo0, zo0, zo0, zo0, zo0, zo0, zo0, zo0, zo0, zo0, zo0, zo0, zo0, .p (.bool false), .nils, .nils, .nils] []),
 zn0 (.st (.t 2) (.t 5) 22)] [2] [2])
 .ret)
 .skip))
 (.seq (.reg false [zm0 6 0,
 zg0 7 (.nck (.t 6)),
 zg0 8 (.off (.t 7) 1),
 zg0 9 (.ld (.t 8) 22 true),
 zn0 (.st (.t 2) (.t 9) 22)] [2] [2])
 .ret))),
 [.cell 2 22 true], false⟩
def ir31 : IFn :=   -- (*tympan/state.World).Spot
⟨(.seq (.reg false [zg0 4 (.bx (.t 1) 7 true),
 zg0 6 (.al [zo0, zo0, zo0, .p (.bool false)] true)] [0, 2, 4, 6] [4, 6])
 (.seq (.seq (.reg false [zm0 8 0,
 zg0 9 (.ld (.t 4) 7 true),
 zg0 10 (.call 19 [(.t 8), (.t 9)] false),
 zg0 11 (.un .not (.t 10))] [0, 2, 4, 6, 11] [4, 6])
 (.cond (.t 11)
 (.seq (.reg false [zg0 12 (.bld [zo0, zo0, zo0, .p (.bool false)] []),
 zn0 (.st (.t 6) (.t 12) 4)] [6] [6])
 .ret)
 .skip))
 (.seq (.reg false [zm0 13 0,
 zg0 14 (.nck (.t 13)),
 zg0 15 (.off (.t 14) 0),
 zg0 16 (.ld (.t 15) 1 false),
 zg0 17 (.nck (.t 16)),
 zg0 18 (.off (.t 17) 2),
 zg0 19 (.ld (.t 18) 1 false),
 zm0 20 2,
 zg0 21 (.call 88 [(.t 19), (.t 20)] false),
 zm0 7 21] [0, 4, 6, 7] [4, 6])
 (.seq (.reg true [zg0 22 (.off (.t 4) 2),
 zg0 23 (.ldl 4 (.t 22) 1 false),
 zg0 24 (.off (.t 4) 3),
 zg0 25 (.ldl 4 (.t 24) 1 false),
 zm0 26 7,
 zm0 27 7,
 zm0 28 0,
 zg0 29 (.nck (.t 28)),
 zg0 30 (.off (.t 29) 0),
 zg0 31 (.ld (.t 30) 1 false),
 zg0 32 (.nck (.t 31)),
 zg0 33 (.off (.t 32) 2),
 zg0 34 (.ld (.t 33) 1 false),
 zg0 35 (.off (.t 4) 0),
 zg0 36 (.ldl 4 (.t 35) 1 false),
 zg0 37 (.call 88 [(.t 34), (.t 36)] false),
 zg0 38 (.bin .gtr (.t 27) (.t 37)),
 zg0 39 (.bld [zo0, zo0, zo0, .p (.bool false)] [(0, 1, (.t 23)), (1, 1, (.t 25)), (2, 1, (.t 26)), (3, 1, (.t 38))]),
 zn0 (.stl 6 (.t 6) (.t 39) 4)] [6] [6])
 .ret)))),
 [.cell 6 4 true], false⟩
def lp32_0 : IC :=
 (.loop [1, 2, 4] [1, 2] (.seq (.seq (.reg false [zm0 33 4,
 zg0 34 (.off (.t 1) 19),
 zg0 35 (.ld (.t 34) 1 false),
 zg0 36 (.len (.t 35)),
 zg0 37 (.bin .lss (.t 33) (.t 36))] [1, 2, 4, 37] [1, 2])
 (.cond (.t 37)
 .skip
 (.exit 0)))
 (.seq (.block 1 (.seq (.reg false [zg0 40 (.off (.t 1) 19),
 zg0 41 (.ld (.t 40) 1 false),
 zm0 42 4,
 zg0 43 (.ixs (.t 41) (.t 42) 7),
 zg0 44 (.ld (.t 43) 7 true),
 zg0 45 (.call 90 [(.t 44)] false),
 zg0 46 (.un .not (.t 45))] [1, 2, 4, 46] [1, 2])
 (.cond (.t 46)
 (.seq (.reg false [zm0 47 4,
 zg0 48 (.bld [zo0, zo0] [(0, 1, (zi0 8)), (1, 1, (.t 47))]),
 zn0 (.st (.t 2) (.t 48) 2)] [2] [2])
 .ret)
 .skip)))
 (.reg false [zm0 38 4,
 zg0 39 (.bin .add (.t 38) (zi0 1)),
 zm0 4 39] [1, 2, 4] [1, 2]))))
def lp32_1 : IC :=
 (.loop [1, 2, 5] [1, 2] (.seq (.seq (.reg false [zm0 49 5,
 zg0 50 (.off (.t 1) 20),
 zg0 51 (.ld (.t 50) 1 false),
 zg0 52 (.len (.t 51)),
 zg0 53 (.bin .lss (.t 49) (.t 52))] [1, 2, 5, 53] [1, 2])
 (.cond (.t 53)
 .skip
 (.exit 2)))
 (.seq (.block 3 (.seq (.reg false [zg0 56 (.off (.t 1) 20),
 zg0 57 (.ld (.t 56) 1 false),
 zm0 58 5,
 zg0 59 (.ixs (.t 57) (.t 58) 2),
 zg0 60 (.ld (.t 59) 2 true),
 zg0 61 (.call 91 [(.t 60)] false),
 zg0 62 (.un .not (.t 61))] [1, 2, 5, 62] [1, 2])
 (.cond (.t 62)
 (.seq (.reg false [zm0 63 5,
 zg0 64 (.bld [zo0, zo0] [(0, 1, (zi0 9)), (1, 1, (.t 63))]),
 zn0 (.st (.t 2) (.t 64) 2)] [2] [2])
 .ret)
 .skip)))
 (.reg false [zm0 54 5,
 zg0 55 (.bin .add (.t 54) (zi0 1)),
 zm0 5 55] [1, 2, 5] [1, 2]))))
def lp32_2 : IC :=
 (.loop [1, 2, 6] [1, 2] (.seq (.seq (.reg false [zm0 65 6,
 zg0 66 (.off (.t 1) 21),
 zg0 67 (.ld (.t 66) 1 false),
 zg0 68 (.len (.t 67)),
 zg0 69 (.bin .lss (.t 65) (.t 68))] [1, 2, 6, 69] [1, 2])
 (.cond (.t 69)
 .skip
 (.exit 4)))
 (.seq (.block 5 (.seq (.reg false [zg0 72 (.off (.t 1) 21),
 zg0 73 (.ld (.t 72) 1 false),
 zm0 74 6,
 zg0 75 (.ixs (.t 73) (.t 74) 3),
 zg0 76 (.ld (.t 75) 3 true),
 zg0 77 (.call 92 [(.t 76)] false),
 zg0 78 (.un .not (.t 77))] [1, 2, 6, 78] [1, 2])
 (.cond (.t 78)
 (.seq (.reg false [zm0 79 6,
 zg0 80 (.bld [zo0, zo0] [(0, 1, (zi0 10)), (1, 1, (.t 79))]),
 zn0 (.st (.t 2) (.t 80) 2)] [2] [2])
 .ret)
 .skip)))
 (.reg false [zm0 70 6,
 zg0 71 (.bin .add (.t 70) (zi0 1)),
 zm0 6 71] [1, 2, 6] [1, 2]))))
def lp32_3 : IC :=
 (.loop [2, 9, 10] [2, 9] (.seq (.seq (.reg false [zm0 112 10,
 zg0 113 (.off (.t 9) 21),
 zg0 114 (.ld (.t 113) 1 false),
 zg0 115 (.len (.t 114)),
 zg0 116 (.bin .lss (.t 112) (.t 115))] [2, 9, 10, 116] [2, 9])
 (.cond (.t 116)
 .skip
 (.exit 6)))
 (.seq (.block 7 (.seq (.reg true [zg0 119 (.off (.t 9) 21),
 zg0 120 (.ldl 9 (.t 119) 1 false),
 zm0 121 10,
 zg0 122 (.ixs (.t 120) (.t 121) 3),
 zg0 123 (.off (.t 122) 1),
 zg0 124 (.ld (.t 123) 1 false),
 zg0 125 (.off (.t 9) 0),
 zg0 126 (.off (.t 125) 4),
 zg0 127 (.ldl 9 (.t 126) 1 false),
 zg0 128 (.bin .gtr (.t 124) (.t 127))] [2, 9, 10, 128] [2, 9])
 (.cond (.t 128)
 (.seq (.reg false [zm0 129 10,
 zg0 130 (.bld [zo0, zo0] [(0, 1, (zi0 12)), (1, 1, (.t 129))]),
 zn0 (.st (.t 2) (.t 130) 2)] [2] [2])
 .ret)
 .skip)))
 (.reg false [zm0 117 10,
 zg0 118 (.bin .add (.t 117) (zi0 1)),
 zm0 10 118] [2, 9, 10] [2, 9]))))
def ir32 : IFn :=   -- tympan/tympanref15.Check
⟨(.seq (.reg false [zg0 1 (.bx (.t 0) 22 true),
 zg0 2 (.al [zo0, zo0] true)] [1, 2] [1, 2])
 (.seq (.seq (.reg false [zg0 11 (.off (.t 1) 19),
 zg0 12 (.ld (.t 11) 1 false),
 zg0 13 (.len (.t 12)),
 zg0 14 (.bin .gtr (.t 13) (zi0 4096))] [1, 2, 14] [1, 2])
 (.cond (.t 14)
 (.seq (.reg false [zg0 15 (.bld [zo0, zo0] [(0, 1, (zi0 3))]),
 zn0 (.st (.t 2) (.t 15) 2)] [2] [2])
 .ret)
 .skip))
 (.seq (.seq (.reg false [zg0 16 (.off (.t 1) 21),
 zg0 17 (.ld (.t 16) 1 false),
 zg0 18 (.len (.t 17)),
 zg0 19 (.bin .gtr (.t 18) (zi0 256))] [1, 2, 19] [1, 2])
 (.cond (.t 19)
 (.seq (.reg false [zg0 20 (.bld [zo0, zo0] [(0, 1, (zi0 4))]),
 zn0 (.st (.t 2) (.t 20) 2)] [2] [2])
 .ret)
 .skip))
 (.seq (.seq (.reg false [zg0 21 (.off (.t 1) 20),
 zg0 22 (.ld (.t 21) 1 false),
 zg0 23 (.len (.t 22)),
 zg0 24 (.bin .gtr (.t 23) (zi0 512))] [1, 2, 24] [1, 2])
 (.cond (.t 24)
 (.seq (.reg false [zg0 25 (.bld [zo0, zo0] [(0, 1, (zi0 5))]),
 zn0 (.st (.t 2) (.t 25) 2)] [2] [2])
 .ret)
 .skip))
 (.seq (.seq (.reg false [zg0 26 (.off (.t 1) 0),
 zg0 27 (.ld (.t 26) 19 true),
 zg0 28 (.call 89 [(.t 27)] false),
 zm0 3 28] [1, 2, 3] [1, 2])
 (.seq (.reg false [zm0 29 3,
 zg0 30 (.bin .neq (.t 29) (zi0 0))] [1, 2, 3, 30] [1, 2])
 (.cond (.t 30)
 (.seq (.reg false [zm0 31 3,
 zg0 32 (.bld [zo0, zo0] [(0, 1, (.t 31))]),
 zn0 (.st (.t 2) (.t 32) 2)] [2] [2])
 .ret)
 .skip)))
 (.seq (.seq (.reg false [zg0 4 (.mov (zi0 0))] [1, 2, 4] [1, 2])
 (.block 0 lp32_0))
 (.seq (.seq (.reg false [zg0 5 (.mov (zi0 0))] [1, 2, 5] [1, 2])
 (.block 2 lp32_1))
 (.seq (.seq (.reg false [zg0 6 (.mov (zi0 0))] [1, 2, 6] [1, 2])
 (.block 4 lp32_2))
 (.seq (.reg true [zg0 81 (.off (.t 1) 19),
 zg0 82 (.ldl 1 (.t 81) 1 false),
 zg0 83 (.off (.t 1) 20),
 zg0 84 (.ldl 1 (.t 83) 1 false),
 zg0 85 (.len (.t 84)),
 zg0 86 (.call 93 [(.t 82), (zi0 5), (.t 85)] false),
 zg0 87 (.off (.t 1) 19),
 zg0 88 (.ldl 1 (.t 87) 1 false),
 zg0 89 (.off (.t 1) 21),
 zg0 90 (.ldl 1 (.t 89) 1 false),
 zg0 91 (.len (.t 90)),
 zg0 92 (.call 93 [(.t 88), (zi0 6), (.t 91)] false),
 zm0 7 86,
 zm0 8 92] [1, 2, 7, 8] [1, 2])
 (.seq (.seq (.reg false [zm0 93 7,
 zg0 94 (.bin .geq (.t 93) (zi0 0)),
 zm0 95 94,
 zt0 96 95 (.mov (.t 8)),
 zt0 97 95 (.bin .lss (.t 96) (zi0 0)),
 zt0 98 95 (.mov (.t 97)),
 zf0 99 98 (.mov (.t 7)),
 zf0 100 98 (.mov (.t 8)),
 zf0 101 98 (.bin .leq (.t 99) (.t 100)),
 zt0 102 95 (.pick (.t 98) zT0 (.t 101)),
 zg0 103 (.pick (.t 95) (.t 102) zF0)] [1, 2, 7, 8, 103] [1, 2])
 (.cond (.t 103)
 (.seq (.reg false [zm0 104 7,
 zg0 105 (.bld [zo0, zo0] [(0, 1, (zi0 11)), (1, 1, (.t 104))]),
 zn0 (.st (.t 2) (.t 105) 2)] [2] [2])
 .ret)
 .skip))
 (.seq (.seq (.reg false [zm0 106 8,
 zg0 107 (.bin .geq (.t 106) (zi0 0))] [1, 2, 8, 107] [1, 2])
 (.cond (.t 107)
 (.seq (.reg false [zm0 108 8,
 zg0 109 (.bld [zo0, zo0] [(0, 1, (zi0 11)), (1, 1, (.t 108))]),
 zn0 (.st (.t 2) (.t 109) 2)] [2] [2])
 .ret)
 .skip))
 (.seq (.reg false [zg0 110 (.ld (.t 1) 22 true),
 zg0 111 (.call 64 [(.t 110)] false),
 zg0 9 (.al [zo0, zo0, zo0, zo0, zo0, zo0, zo0, zo0, zo0, zo0, zo0, zo0, zo0, zo0, zo0, zo0, zo0, zo0, .p (.bool false), .nils, .nils, .nils] true),
 zn0 (.st (.t 9) (.t 111) 22)] [2, 9] [2, 9])
 (.seq (.seq (.reg false [zg0 10 (.mov (zi0 0))] [2, 9, 10] [2, 9])
 (.block 6 lp32_3))
 (.seq (.reg false [zg0 131 (.bld [zo0, zo0] []),
 zn0 (.st (.t 2) (.t 131) 2)] [2] [2])
 .ret)))))))))))))),
 [.cell 2 2 true], false⟩
def lp39_0 : IC :=
 (.loop [1, 3] [1] (.seq (.seq (.reg false [zm0 4 3,
 zg0 5 (.off (.t 1) 3),
 zg0 6 (.ld (.t 5) 1 false),
 zg0 7 (.len (.t 6)),
 zg0 8 (.bin .lss (.t 4) (.t 7)),
 zm0 9 8,
 zt0 10 9 (.mov (.t 3)),
 zt0 11 9 (.bin .lss (.t 10) (zi0 50)),
 zg0 12 (.pick (.t 9) (.t 11) zF0)] [1, 3, 12] [1])
 (.cond (.t 12)
 .skip
 (.exit 0)))
 (.seq (.block 1 (.seq (.reg false [zg0 15 (.off (.t 1) 3),
 zg0 16 (.ld (.t 15) 1 false),
 zm0 17 3,
 zg0 18 (.ixs (.t 16) (.t 17) 3),
 zg0 19 (.off (.t 18) 1),
 zg0 20 (.ld (.t 19) 1 false),
 zg0 21 (.bin .lss (.t 20) (zi0 (-1073741824))),
 zm0 22 21,
 zf0 23 22 (.off (.t 1) 3),
 zf0 24 22 (.ld (.t 23) 1 false),
 zf0 25 22 (.mov (.t 3)),
 zf0 26 22 (.ixs (.t 24) (.t 25) 3),
 zf0 27 22 (.off (.t 26) 1),
 zf0 28 22 (.ld (.t 27) 1 false),
 zf0 29 22 (.bin .gtr (.t 28) (zi0 1073741824)),
 zg0 30 (.pick (.t 22) zT0 (.t 29)),
 zm0 31 30,
 zf0 32 31 (.off (.t 1) 3),
 zf0 33 31 (.ld (.t 32) 1 false),
 zf0 34 31 (.mov (.t 3)),
 zf0 35 31 (.ixs (.t 33) (.t 34) 3),
 zf0 36 31 (.off (.t 35) 2),
 zf0 37 31 (.ld (.t 36) 1 false),
 zf0 38 31 (.bin .lss (.t 37) (zi0 (-1073741824))),
 zg0 39 (.pick (.t 31) zT0 (.t 38)),
 zm0 40 39,
 zf0 41 40 (.off (.t 1) 3),
 zf0 42 40 (.ld (.t 41) 1 false),
 zf0 43 40 (.mov (.t 3)),
 zf0 44 40 (.ixs (.t 42) (.t 43) 3),
 zf0 45 40 (.off (.t 44) 2),
 zf0 46 40 (.ld (.t 45) 1 false),
 zf0 47 40 (.bin .gtr (.t 46) (zi0 1073741824)),
 zg0 48 (.pick (.t 40) zT0 (.t 47))] [1, 3, 48] [1])
 (.cond (.t 48)
 (.seq (.reg false [zg0 2 (.mov zT0)] [2] [])
 .ret)
 .skip)))
 (.reg false [zm0 13 3,
 zg0 14 (.bin .add (.t 13) (zi0 1)),
 zm0 3 14] [1, 3] [1]))))
def ir39 : IFn :=   -- tympan/tympanlaw26.large
⟨(.seq (.reg false [zg0 1 (.bx (.t 0) 6 true),
 zg0 2 (.mov zF0)] [1] [1])
 (.seq (.seq (.reg false [zg0 3 (.mov (zi0 0))] [1, 3] [1])
 (.block 0 lp39_0))
 (.seq (.reg false [zg0 49 (.off (.t 1) 3),
 zg0 50 (.ld (.t 49) 1 false),
 zg0 51 (.len (.t 50)),
 zg0 52 (.bin .gtr (.t 51) (zi0 50)),
 zm0 53 52,
 zf0 54 53 (.off (.t 1) 4),
 zf0 55 53 (.ld (.t 54) 1 false),
 zf0 56 53 (.len (.t 55)),
 zf0 57 53 (.bin .gtr (.t 56) (zi0 50)),
 zg0 58 (.pick (.t 53) zT0 (.t 57)),
 zm0 59 58,
 zf0 60 59 (.off (.t 1) 5),
 zf0 61 59 (.ld (.t 60) 1 false),
 zf0 62 59 (.len (.t 61)),
 zf0 63 59 (.bin .gtr (.t 62) (zi0 50)),
 zg0 64 (.pick (.t 59) zT0 (.t 63)),
 zm0 2 64] [2] [])
 .ret))),
 [.tmp 2], false⟩
def ir40 : IFn :=   -- tympan/tympanlaw26.awake
⟨(.seq (.reg false [zg0 0 (.mov zF0)] [] [])
 (.seq (.reg false [zg0 6 (.bld [zo0, zo0, zo0, zo0, zo0, zo0, zo0, zo0, zo0, zo0, zo0, zo0, zo0, zo0, zo0, zo0, zo0, zo0, .p (.bool false)] [(0, 1, (zi0 1)), (1, 1, (zi0 1)), (3, 1, (zi0 24)), (4, 1, (zi0 24))]),
 zg0 1 (.al [zo0, zo0, zo0, zo0, zo0, zo0, zo0, zo0, zo0, zo0, zo0, zo0, zo0, zo0, zo0, zo0, zo0, zo0, .p (.bool false)] true),
 zn0 (.st (.t 1) (.t 6) 19)] [1] [1])
 (.seq (.reg false [zg0 8 (.ld (.t 1) 19 true),
 zg0 9 (.bld [zo0, zo0, zo0, zo0, zo0, zo0, zo0] [(0, 1, (zi0 1)), (1, 1, (zi0 10))]),
 zg0 10 (.bld [zo0, zo0, zo0, zo0, zo0, zo0, zo0] [(0, 1, (zi0 2)), (1, 1, (zi0 2)), (3, 1, (zi0 4))]),
 zg0 11 (.bld [zo0, zo0, zo0, zo0, zo0, zo0, zo0] [(0, 1, (zi0 1)), (1, 1, (zi0 10))]),
 zg0 12 (.bld [zo0, zo0, zo0, zo0, zo0, zo0, zo0] [(0, 1, (zi0 2))]),
 zg0 13 (.bld [zo0, zo0, zo0, zo0, zo0, zo0, zo0] [(0, 1, (zi0 1)), (1, 1, (zi0 1))]),
 zg0 14 (.bsl 7 5 [zo0, zo0, zo0, zo0, zo0, zo0, zo0] [(0, (.t 9)), (1, (.t 10)), (2, (.t 11)), (3, (.t 12)), (4, (.t 13))]),
 zg0 15 (.bld [zo0, zo0, zo0, zo0, zo0, zo0, zo0, zo0, zo0, zo0, zo0, zo0, zo0, zo0, zo0, zo0, zo0, zo0, .p (.bool false), .nils, .nils, .nils] [(0, 19, (.t 8)), (19, 1, (.t 14))]),
 zg0 16 (.callz 13 [(.t 15)]),
 zm0 7 16,
 zg0 17 (.ext (.t 7) 0),
 zg0 18 (.ext (.t 7) 1),
 zm0 2 17,
 zm0 3 18] [2, 3] [])
 (.seq (.reg false [zg0 19 (.bld [zo0, zo0, zo0, .nils, .nils, .nils] [(0, 1, (zi0 1)), (2, 1, (zi0 3))]),
 zg0 4 (.al [zo0, zo0, zo0, .nils, .nils, .nils] true),
 zn0 (.st (.t 4) (.t 19) 6)] [2, 3, 4] [4])
 (.seq (.prep [5] (.reg true [zm0 20 2,
 zm0 21 2,
 zg0 22 (.call 23 [(.t 21)] false),
 zg0 23 (.ldl 4 (.t 4) 6 true),
 zg0 24 (.call 42 [(.t 20), (.t 22), (.t 23)] false),
 zg0 5 (.alp [zo0, zo0, zo0, .p (.bool false), .p (.bool false), zo0, zo0, zo0, zo0, zo0]),
 zn0 (.stl 5 (.t 5) (.t 24) 10)] [2, 3, 4, 5] [4, 5]))
 (.seq (.reg true [zm0 25 3,
 zm0 26 25,
 zt0 27 26 (.off (.t 5) 2),
 zt0 28 26 (.ldl 5 (.t 27) 1 false),
 zt0 29 26 (.bin .eql (.t 28) (zi0 24)),
 zg0 30 (.pick (.t 26) (.t 29) zF0),
 zm0 31 30,
 zt0 32 31 (.off (.t 5) 4),
 zt0 33 31 (.ldl 5 (.t 32) 1 false),
 zt0 34 31 (.un .not (.t 33)),
 zg0 35 (.pick (.t 31) (.t 34) zF0),
 zm0 36 35,
 zt0 37 36 (.off (.t 5) 5),
 zt0 38 36 (.off (.t 37) 0),
 zt0 39 36 (.ldl 5 (.t 38) 1 false),
 zt0 40 36 (.bin .eql (.t 39) (zi0 1)),
 zg0 41 (.pick (.t 36) (.t 40) zF0),
 zm0 42 41,
 zt0 43 42 (.mov (.t 2)),
 zt0 44 42 (.mov (.t 2)),
 zt0 45 42 (.call 23 [(.t 44)] false),
 zt0 46 42 (.ldl 4 (.t 4) 6 true),
 zt0 47 42 (.call 41 [(.t 43), (.t 45), (.t 46)] false),
 zt0 48 42 (.bld [zo0, zo0] [(1, 1, (zi0 12))]),
 zt0 49 42 (.eqa false [true, true] (.t 47) (.t 48)),
 zg0 50 (.pick (.t 42) (.t 49) zF0),
 zm0 0 50] [0] [])
 .ret)))))),
 [.tmp 0], false⟩
def lp41_0 : IC :=
 (.loop [6, 7, 12, 62, 63, 64] [6] (.seq (.reg false [zg0 65 (.bin .lss (.t 64) (.t 63))] [6, 7, 12, 62, 63, 64, 65] [6])
 (.seq (.cond (.t 65)
 .skip
 (.exit 0))
 (.seq (.block 1 (.seq (.reg false [zg0 66 (.ixs (.t 62) (.t 64) 2),
 zg0 67 (.ld (.t 66) 2 true),
 zg0 14 (.al [.p (.bool false), .p .nilf] true),
 zn0 (.st (.t 14) (.t 67) 2)] [6, 7, 12, 14, 62, 63, 64] [6, 14])
 (.seq (.reg false [zg0 68 (.off (.t 14) 0),
 zg0 69 (.ld (.t 68) 1 false)] [6, 7, 12, 14, 62, 63, 64, 69] [6, 14])
 (.cond (.t 69)
 (.reg false [zm0 70 12,
 zg0 71 (.off (.t 14) 1),
 zg0 72 (.ld (.t 71) 1 false),
 zg0 73 (.callv (.t 72) [] false),
 zg0 74 (.bsl 1 1 [zo0] [(0, (.t 73))]),
 zg0 75 (.app (.t 70) (.t 74) 1),
 zm0 12 75] [6, 7, 12, 62, 63, 64] [6])
 .skip))))
 (.reg false [zg0 76 (.bin .add (.t 64) (zi0 1)),
 zm0 64 76] [6, 7, 12, 62, 63, 64] [6])))))
def ir41 : IFn :=   -- tympan/column.Cost
⟨(.seq (.reg false [zg0 3 (.bx (.t 0) 1 false),
 zg0 4 (.bx (.t 1) 7 true),
 zg0 5 (.bx (.t 2) 6 false),
 zg0 6 (.al [zo0, zo0] true)] [3, 4, 5, 6] [4, 6])
 (.seq (.seq (.reg false [zg0 15 (.ld (.t 3) 1 false),
 zg0 16 (.ld (.t 4) 7 true),
 zg0 17 (.call 19 [(.t 15), (.t 16)] false),
 zg0 18 (.un .not (.t 17))] [3, 4, 5, 6, 18] [4, 6])
 (.cond (.t 18)
 (.seq (.reg false [zg0 19 (.bld [zo0, zo0] []),
 zn0 (.st (.t 6) (.t 19) 2)] [6] [6])
 .ret)
 .skip))
 (.seq (.prep [7, 8, 9] (.reg true [zg0 20 (.ld (.t 3) 1 false),
 zg0 21 (.ldl 4 (.t 4) 7 true),
 zg0 22 (.ld (.t 5) 6 true),
 zg0 23 (.call 42 [(.t 20), (.t 21), (.t 22)] true),
 zg0 24 (.ld (.t 3) 1 false),
 zg0 25 (.call 30 [(.t 24)] true),
 zg0 26 (.ld (.t 3) 1 false),
 zg0 27 (.ldl 4 (.t 4) 7 true),
 zg0 28 (.ld (.t 5) 6 true),
 zg0 29 (.call 15 [(.t 26), (.t 27), (.t 28)] false),
 zg0 7 (.alp [zo0, zo0, zo0, .p (.bool false), .p (.bool false), zo0, zo0, zo0, zo0, zo0]),
 zg0 8 (.alp [zo0, zo0, zo0, zo0, zo0, zo0, zo0, zo0, zo0, zo0, zo0, zo0, zo0, zo0, zo0, zo0, zo0, zo0, .p (.bool false), .nils, .nils, .nils]),
 zg0 9 (.alp [zo0, zo0, zo0, zo0, zo0, zo0, zo0]),
 zn0 (.stl 7 (.t 7) (.t 23) 10),
 zn0 (.stl 8 (.t 8) (.t 25) 22),
 zn0 (.stl 9 (.t 9) (.t 29) 7)] [3, 5, 6, 7, 8, 9] [6, 7, 8, 9]))
 (.esc [7, 8, 9] (.seq (.reg false [zg0 30 (.off (.t 5) 0),
 zg0 31 (.ld (.t 30) 1 false),
 zg0 32 (.bin .eql (.t 31) (zi0 1)),
 zm0 10 32] [3, 5, 6, 7, 8, 9, 10] [6])
 (.seq (.reg false [zm0 33 10,
 zm0 34 33,
 zt0 35 34 (.off (.t 7) 4),
 zt0 36 34 (.ld (.t 35) 1 false),
 zt0 37 34 (.un .not (.t 36)),
 zg0 38 (.pick (.t 34) (.t 37) zF0),
 zg0 39 (.mkf (.func 109) [] [(.t 7), (.t 8)]),
 zg0 40 (.bld [.p (.bool false), .p .nilf] [(0, 1, (.t 38)), (1, 1, (.t 39))]),
 zm0 41 10,
 zg0 42 (.mkf (.func 111) [] [(.t 8), (.t 3), (.t 5)]),
 zg0 43 (.bld [.p (.bool false), .p .nilf] [(0, 1, (.t 41)), (1, 1, (.t 42))]),
 zm0 44 10,
 zg0 45 (.un .not (.t 44)),
 zg0 46 (.mkf (.func 113) [] [(.t 8)]),
 zg0 47 (.bld [.p (.bool false), .p .nilf] [(0, 1, (.t 45)), (1, 1, (.t 46))]),
 zg0 48 (.off (.t 5) 3),
 zg0 49 (.ld (.t 48) 1 false),
 zg0 50 (.len (.t 49)),
 zg0 51 (.bin .gtr (.t 50) (zi0 0)),
 zm0 52 51,
 zt0 53 52 (.off (.t 9) 3),
 zt0 54 52 (.ld (.t 53) 1 false),
 zt0 55 52 (.bin .gtr (.t 54) (zi0 0)),
 zg0 56 (.pick (.t 52) (.t 55) zF0),
 zg0 57 (.mkf (.func 114) [] [(.t 8), (.t 5)]),
 zg0 58 (.bld [.p (.bool false), .p .nilf] [(0, 1, (.t 56)), (1, 1, (.t 57))]),
 zg0 59 (.mkf (.func 116) [] [(.t 8), (.t 3), (.t 9)]),
 zg0 60 (.bld [.p (.bool false), .p .nilf] [(0, 1, zT0), (1, 1, (.t 59))]),
 zg0 61 (.bsl 2 5 [.p (.bool false), .p .nilf] [(0, (.t 40)), (1, (.t 43)), (2, (.t 47)), (3, (.t 58)), (4, (.t 60))]),
 zm0 11 61] [6, 7, 11] [6])
 (.seq (.reg false [zg0 12 (.nrow 1)] [6, 7, 11, 12] [6])
 (.seq (.seq (.reg false [zm0 62 11,
 zg0 63 (.len (.t 62)),
 zg0 64 (.mov (zi0 0))] [6, 7, 12, 62, 63, 64] [6])
 (.block 0 lp41_0))
 (.seq (.reg false [zg0 77 (.off (.t 7) 4),
 zg0 78 (.ld (.t 77) 1 false),
 zm0 79 12,
 zg0 80 (.call 117 [(.t 78), (.t 79)] false),
 zn0 (.st (.t 6) (.t 80) 2)] [6] [6])
 .ret))))))))),
 [.cell 6 2 true], false⟩
def ir42 : IFn :=   -- tympan/column.Of
⟨(.seq (.reg false [zg0 4 (.bx (.t 1) 7 true),
 zg0 5 (.bx (.t 2) 6 true),
 zg0 6 (.al [zo0, zo0, zo0, .p (.bool false), .p (.bool false), zo0, zo0, zo0, zo0, zo0] true)] [0, 4, 5, 6] [4, 5, 6])
 (.seq (.reg false [zg0 7 (.al [zo0, zo0, zo0, .p (.bool false), .p (.bool false), zo0, zo0, zo0, zo0, zo0] true)] [0, 4, 5, 6, 7] [4, 5, 6, 7])
 (.seq (.seq (.reg false [zm0 10 0,
 zg0 11 (.ld (.t 4) 7 true),
 zg0 12 (.call 19 [(.t 10), (.t 11)] false),
 zg0 13 (.un .not (.t 12))] [0, 4, 5, 6, 7, 13] [4, 5, 6, 7])
 (.cond (.t 13)
 (.seq (.reg false [zg0 14 (.ld (.t 7) 10 true),
 zn0 (.st (.t 6) (.t 14) 10)] [6] [6])
 .ret)
 .skip))
 (.seq (.reg false [zm0 15 0,
 zg0 16 (.call 30 [(.t 15)] false),
 zg0 8 (.al [zo0, zo0, zo0, zo0, zo0, zo0, zo0, zo0, zo0, zo0, zo0, zo0, zo0, zo0, zo0, zo0, zo0, zo0, .p (.bool false), .nils, .nils, .nils] true),
 zn0 (.st (.t 8) (.t 16) 22)] [0, 4, 5, 6, 7, 8] [4, 5, 6, 7, 8])
 (.seq (.reg false [zg0 17 (.off (.t 8) 20),
 zg0 18 (.ld (.t 17) 1 false),
 zg0 19 (.off (.t 5) 3),
 zg0 20 (.ld (.t 19) 1 false),
 zg0 21 (.off (.t 8) 0),
 zg0 22 (.off (.t 21) 6),
 zg0 23 (.ld (.t 22) 1 false),
 zg0 24 (.call 118 [(.t 18), (.t 20), (.t 23)] false),
 zg0 25 (.off (.t 7) 0),
 zn0 (.st (.t 25) (.t 24) 1)] [0, 4, 5, 6, 7, 8] [4, 5, 6, 7, 8])
 (.seq (.seq (.reg false [zg0 26 (.off (.t 5) 0),
 zg0 27 (.ld (.t 26) 1 false)] [0, 4, 5, 6, 7, 8, 27] [4, 5, 6, 7, 8])
 (.block 0 (.seq (.reg false [zg0 29 (.bin .eql (.t 27) (zi0 1)),
 zm0 28 29] [0, 4, 5, 6, 7, 8, 27, 28] [4, 5, 6, 7, 8])
 (.cond (.t 28)
 (.reg false [zg0 30 (.off (.t 8) 0),
 zg0 31 (.ld (.t 30) 19 true),
 zg0 32 (.off (.t 8) 21),
 zg0 33 (.ld (.t 32) 1 false),
 zg0 34 (.off (.t 5) 4),
 zg0 35 (.ld (.t 34) 1 false),
 zg0 36 (.off (.t 5) 5),
 zg0 37 (.ld (.t 36) 1 false),
 zg0 38 (.bld [.nils, .nils] [(0, 1, (.t 35)), (1, 1, (.t 37))]),
 zg0 39 (.call 119 [(.t 31), (.t 33), (.t 38)] false),
 zg0 40 (.off (.t 7) 1),
 zn0 (.st (.t 40) (.t 39) 1)] [0, 4, 5, 6, 7, 8] [4, 5, 6, 7, 8])
 (.seq (.reg false [zg0 42 (.bin .eql (.t 27) (zi0 2)),
 zm0 41 42] [0, 4, 5, 6, 7, 8, 41] [4, 5, 6, 7, 8])
 (.cond (.t 41)
 (.reg false [zg0 43 (.off (.t 8) 0),
 zg0 44 (.ld (.t 43) 19 true),
 zg0 45 (.off (.t 8) 21),
 zg0 46 (.ld (.t 45) 1 false),
 zg0 47 (.off (.t 5) 4),
 zg0 48 (.ld (.t 47) 1 false),
 zg0 49 (.call 120 [(.t 44), (.t 46), (.t 48)] false),
 zg0 50 (.off (.t 7) 1),
 zn0 (.st (.t 50) (.t 49) 1)] [0, 4, 5, 6, 7, 8] [4, 5, 6, 7, 8])
 .skip))))))
 (.seq (.reg true [zm0 51 0,
 zg0 52 (.ldl 4 (.t 4) 7 true),
 zg0 53 (.call 22 [(.t 51), (.t 52)] false),
 zg0 54 (.off (.t 7) 0),
 zg0 55 (.ldl 7 (.t 54) 1 false),
 zg0 56 (.bin .sub (.t 53) (.t 55)),
 zg0 57 (.off (.t 7) 1),
 zg0 58 (.ldl 7 (.t 57) 1 false),
 zg0 59 (.bin .sub (.t 56) (.t 58)),
 zg0 60 (.off (.t 7) 2),
 zn0 (.stl 7 (.t 60) (.t 59) 1)] [0, 4, 5, 6, 7, 8] [4, 5, 6, 7, 8])
 (.seq (.reg false [zm0 61 0,
 zg0 62 (.ld (.t 5) 6 true),
 zg0 63 (.call 121 [(.t 61), (.t 62)] false),
 zg0 64 (.off (.t 7) 3),
 zn0 (.st (.t 64) (.t 63) 1)] [0, 4, 5, 6, 7, 8] [4, 5, 6, 7, 8])
 (.seq (.reg false [zg0 65 (.off (.t 5) 3),
 zg0 66 (.ld (.t 65) 1 false),
 zg0 67 (.len (.t 66)),
 zg0 68 (.bin .gtr (.t 67) (zi0 0)),
 zm0 69 68,
 zt0 70 69 (.off (.t 7) 0),
 zt0 71 69 (.ld (.t 70) 1 false),
 zt0 72 69 (.off (.t 8) 0),
 zt0 73 69 (.off (.t 72) 8),
 zt0 74 69 (.ld (.t 73) 1 false),
 zt0 75 69 (.bin .gtr (.t 71) (.t 74)),
 zg0 76 (.pick (.t 69) (.t 75) zF0),
 zm0 9 76] [0, 4, 5, 6, 7, 9] [4, 5, 6, 7])
 (.seq (.seq (.reg false [zg0 77 (.off (.t 5) 0),
 zg0 78 (.ld (.t 77) 1 false),
 zg0 79 (.bin .neq (.t 78) (zi0 1))] [0, 4, 5, 6, 7, 9, 79] [4, 5, 6, 7])
 (.cond (.t 79)
 (.seq (.reg false [zm0 80 9,
 zm0 81 80,
 zf0 82 81 (.off (.t 7) 2),
 zf0 83 81 (.ld (.t 82) 1 false),
 zf0 84 81 (.bin .lss (.t 83) (zi0 0)),
 zg0 85 (.pick (.t 81) zT0 (.t 84)),
 zg0 86 (.off (.t 7) 4),
 zn0 (.st (.t 86) (.t 85) 1)] [6, 7] [6, 7])
 (.seq (.reg false [zg0 87 (.ld (.t 7) 10 true),
 zn0 (.st (.t 6) (.t 87) 10)] [6] [6])
 .ret))
 .skip))
 (.seq (.reg true [zm0 88 0,
 zg0 89 (.call 27 [(.t 88)] false),
 zg0 90 (.off (.t 4) 0),
 zg0 91 (.ldl 4 (.t 90) 1 false),
 zg0 92 (.off (.t 5) 2),
 zg0 93 (.ldl 5 (.t 92) 1 false),
 zg0 94 (.call 123 [(.t 89), (.t 91), (.t 93)] false),
 zg0 95 (.off (.t 7) 2),
 zg0 96 (.ldl 7 (.t 95) 1 false),
 zg0 97 (.off (.t 7) 3),
 zg0 98 (.ldl 7 (.t 97) 1 false),
 zg0 99 (.call 122 [(.t 94), (.t 96), (.t 98)] false),
 zg0 100 (.off (.t 7) 5),
 zn0 (.stl 7 (.t 100) (.t 99) 5)] [6, 7, 9] [6, 7])
 (.seq (.reg false [zm0 101 9,
 zm0 102 101,
 zf0 103 102 (.off (.t 7) 5),
 zf0 104 102 (.off (.t 103) 0),
 zf0 105 102 (.ld (.t 104) 1 false),
 zf0 106 102 (.bin .eql (.t 105) (zi0 3)),
 zg0 107 (.pick (.t 102) zT0 (.t 106)),
 zg0 108 (.off (.t 7) 4),
 zn0 (.st (.t 108) (.t 107) 1)] [6, 7] [6, 7])
 (.seq (.reg false [zg0 109 (.ld (.t 7) 10 true),
 zn0 (.st (.t 6) (.t 109) 10)] [6] [6])
 .ret))))))))))))),
 [.cell 6 10 true], false⟩
def ir56 : IFn :=   -- tympan/valid.Right
⟨(.seq (.reg false [zg0 1 (.bx (.t 0) 22 true),
 zg0 2 (.mov zF0)] [1] [1])
 (.seq (.reg false [zg0 6 (.ld (.t 1) 22 true),
 zg0 7 (.call 142 [(.t 6)] false),
 zm0 5 7,
 zg0 8 (.ext (.t 5) 0),
 zg0 9 (.ext (.t 5) 1),
 zm0 3 8,
 zm0 4 9] [3] [])
 (.seq (.reg false [zm0 10 3,
 zg0 11 (.bin .eql (.t 10) (zi0 0)),
 zm0 2 11] [2] [])
 .ret))),
 [.tmp 2], false⟩
def lp57_0 : IC :=
 (.loop [2, 3, 16, 17, 18] [2, 3] (.seq (.reg false [zg0 19 (.bin .lss (.t 18) (.t 17))] [2, 3, 16, 17, 18, 19] [2, 3])
 (.seq (.cond (.t 19)
 .skip
 (.exit 0))
 (.seq (.block 1 (.seq (.reg false [zg0 20 (.ixs (.t 16) (.t 18) 2),
 zg0 21 (.ld (.t 20) 2 true),
 zg0 5 (.al [.nils, .nils] true),
 zn0 (.st (.t 5) (.t 21) 2)] [2, 3, 5, 16, 17, 18] [2, 3, 5])
 (.reg true [zg0 22 (.off (.t 3) 20),
 zg0 23 (.ldl 3 (.t 22) 1 false),
 zg0 24 (.off (.t 5) 0),
 zg0 25 (.ldl 5 (.t 24) 1 false),
 zg0 26 (.callz 145 [(.t 25)]),
 zg0 27 (.off (.t 5) 1),
 zg0 28 (.ldl 5 (.t 27) 1 false),
 zg0 29 (.callz 146 [(.t 28)]),
 zg0 30 (.bld [.nils, .nils] [(0, 1, (.t 26)), (1, 1, (.t 29))]),
 zg0 31 (.bsl 2 1 [.nils, .nils] [(0, (.t 30))]),
 zg0 32 (.app (.t 23) (.t 31) 2),
 zg0 33 (.off (.t 3) 20),
 zn0 (.stl 3 (.t 33) (.t 32) 1)] [2, 3, 16, 17, 18] [2, 3])))
 (.reg false [zg0 34 (.bin .add (.t 18) (zi0 1)),
 zm0 18 34] [2, 3, 16, 17, 18] [2, 3])))))
def ir57 : IFn :=   -- tympan/state.copied
⟨(.seq (.reg false [zg0 1 (.bx (.t 0) 22 true),
 zg0 2 (.al [zo0, zo0, zo0, zo0, zo0, zo0, zo0, zo0, zo0, zo0, zo0, zo0, zo0, zo0, zo0, zo0, zo0, zo0, .p (.bool false), .nils, .nils, .nils] true)] [1, 2] [1, 2])
 (.seq (.prep [3] (.reg true [zg0 6 (.off (.t 1) 0),
 zg0 7 (.ldl 1 (.t 6) 19 true),
 zg0 8 (.off (.t 1) 19),
 zg0 9 (.ldl 1 (.t 8) 1 false),
 zg0 10 (.callz 143 [(.t 9)]),
 zg0 11 (.off (.t 1) 21),
 zg0 12 (.ldl 1 (.t 11) 1 false),
 zg0 13 (.callz 144 [(.t 12)]),
 zg0 14 (.bld [zo0, zo0, zo0, zo0, zo0, zo0, zo0, zo0, zo0, zo0, zo0, zo0, zo0, zo0, zo0, zo0, zo0, zo0, .p (.bool false), .nils, .nils, .nils] [(0, 19, (.t 7)), (19, 1, (.t 10)), (21, 1, (.t 13))]),
 zg0 3 (.alp [zo0, zo0, zo0, zo0, zo0, zo0, zo0, zo0, zo0, zo0, zo0, zo0, zo0, zo0, zo0, zo0, zo0, zo0, .p (.bool false), .nils, .nils, .nils]),
 zn0 (.stl 3 (.t 3) (.t 14) 22)] [1, 2, 3] [1, 2, 3]))
 (.seq (.seq (.reg false [zg0 15 (.off (.t 1) 20),
 zg0 16 (.ld (.t 15) 1 false),
 zg0 17 (.len (.t 16)),
 zg0 18 (.mov (zi0 0))] [2, 3, 16, 17, 18] [2, 3])
 (.block 0 lp57_0))
 (.seq (.reg false [zg0 35 (.ld (.t 3) 22 true),
 zn0 (.st (.t 2) (.t 35) 22)] [2] [2])
 .ret)))),
 [.cell 2 22 true], false⟩
def lp58_0 : IC :=
 (.loop [2, 3, 4, 44, 45] [2, 3] (.seq (.reg false [zg0 46 (.bin .lss (.t 45) (.t 44))] [2, 3, 4, 44, 45, 46] [2, 3])
 (.seq (.cond (.t 46)
 .skip
 (.exit 0))
 (.seq (.block 1 (.seq (.reg false [zm0 47 45,
 zm0 5 47] [2, 3, 4, 5, 44, 45] [2, 3])
 (.reg true [zg0 48 (.ldl 3 (.t 3) 1 true),
 zg0 49 (.off (.t 4) 21),
 zg0 50 (.ld (.t 49) 1 false),
 zm0 51 5,
 zg0 52 (.ixs (.t 50) (.t 51) 3),
 zg0 53 (.off (.t 52) 1),
 zg0 54 (.bsl 1 1 [.p .nilp] [(0, (.t 53))]),
 zg0 55 (.call 149 [(.t 48), (.c (.p (.fn 151))), (.t 54)] false)] [2, 3, 4, 44, 45] [2, 3])))
 (.reg false [zg0 56 (.bin .add (.t 45) (zi0 1)),
 zm0 45 56] [2, 3, 4, 44, 45] [2, 3])))))
def ir58 : IFn :=   -- tympan/grid.Snap
⟨(.seq (.reg false [zg0 1 (.bx (.t 0) 22 true),
 zg0 2 (.al [zo0, zo0, zo0, zo0, zo0, zo0, zo0, zo0, zo0, zo0, zo0, zo0, zo0, zo0, zo0, zo0, zo0, zo0, .p (.bool false), .nils, .nils, .nils] true)] [1, 2] [1, 2])
 (.seq (.reg false [zg0 6 (.off (.t 1) 0),
 zg0 7 (.off (.t 6) 5),
 zg0 8 (.ld (.t 7) 1 false),
 zg0 9 (.bld [zo0] [(0, 1, (.t 8))]),
 zg0 3 (.al [zo0] true),
 zn0 (.st (.t 3) (.t 9) 1)] [1, 2, 3] [1, 2, 3])
 (.seq (.seq (.reg false [zg0 10 (.off (.t 3) 0),
 zg0 11 (.ld (.t 10) 1 false),
 zg0 12 (.bin .lss (.t 11) (zi0 1))] [1, 2, 3, 12] [1, 2, 3])
 (.cond (.t 12)
 (.seq (.reg false [zg0 13 (.ld (.t 1) 22 true),
 zn0 (.st (.t 2) (.t 13) 22)] [2] [2])
 .ret)
 .skip))
 (.seq (.prep [4] (.reg true [zg0 14 (.off (.t 1) 0),
 zg0 15 (.ldl 1 (.t 14) 19 true),
 zg0 16 (.ldl 3 (.t 3) 1 true),
 zg0 17 (.off (.t 1) 19),
 zg0 18 (.ldl 1 (.t 17) 1 false),
 zg0 19 (.call 147 [(.t 16), (.t 18)] false),
 zg0 20 (.ldl 3 (.t 3) 1 true),
 zg0 21 (.off (.t 1) 20),
 zg0 22 (.ldl 1 (.t 21) 1 false),
 zg0 23 (.call 148 [(.t 20), (.t 22)] false),
 zg0 24 (.off (.t 1) 21),
 zg0 25 (.ldl 1 (.t 24) 1 false),
 zg0 26 (.call 144 [(.t 25)] false),
 zg0 27 (.bld [zo0, zo0, zo0, zo0, zo0, zo0, zo0, zo0, zo0, zo0, zo0, zo0, zo0, zo0, zo0, zo0, zo0, zo0, .p (.bool false), .nils, .nils, .nils] [(0, 19, (.t 15)), (19, 1, (.t 19)), (20, 1, (.t 23)), (21, 1, (.t 26))]),
 zg0 4 (.alp [zo0, zo0, zo0, zo0, zo0, zo0, zo0, zo0, zo0, zo0, zo0, zo0, zo0, zo0, zo0, zo0, zo0, zo0, .p (.bool false), .nils, .nils, .nils]),
 zn0 (.stl 4 (.t 4) (.t 27) 22)] [2, 3, 4] [2, 3, 4]))
 (.esc [4] (.seq (.reg false [zg0 28 (.ld (.t 3) 1 true),
 zg0 29 (.off (.t 4) 0),
 zg0 30 (.off (.t 29) 3),
 zg0 31 (.off (.t 4) 0),
 zg0 32 (.off (.t 31) 4),
 zg0 33 (.bsl 1 2 [.p .nilp] [(0, (.t 30)), (1, (.t 32))]),
 zg0 34 (.call 149 [(.t 28), (.c (.p (.fn 150))), (.t 33)] false)] [2, 3, 4] [2, 3])
 (.seq (.reg false [zg0 35 (.ld (.t 3) 1 true),
 zg0 36 (.off (.t 4) 0),
 zg0 37 (.off (.t 36) 6),
 zg0 38 (.off (.t 4) 0),
 zg0 39 (.off (.t 38) 7),
 zg0 40 (.bsl 1 2 [.p .nilp] [(0, (.t 37)), (1, (.t 39))]),
 zg0 41 (.call 149 [(.t 35), (.c (.p (.fn 151))), (.t 40)] false)] [2, 3, 4] [2, 3])
 (.seq (.seq (.reg false [zg0 42 (.off (.t 4) 21),
 zg0 43 (.ld (.t 42) 1 false),
 zg0 44 (.len (.t 43)),
 zg0 45 (.mov (zi0 0))] [2, 3, 4, 44, 45] [2, 3])
 (.block 0 lp58_0))
 (.seq (.reg false [zg0 57 (.ld (.t 4) 22 true),
 zn0 (.st (.t 2) (.t 57) 22)] [2] [2])
 .ret))))))))),
 [.cell 2 22 true], false⟩
def lp59_0 : IC :=
 (.loop [0, 4, 23, 24] [21] (.seq (.reg false [zg0 25 (.bin .lss (.t 24) (.t 23))] [0, 4, 23, 24, 25] [21])
 (.seq (.cond (.t 25)
 .skip
 (.exit 0))
 (.seq (.block 1 (.seq (.reg false [zm0 26 24,
 zm0 5 26] [0, 4, 5, 23, 24] [21])
 (.seq (.reg false [zm0 27 0,
 zm0 28 5,
 zg0 29 (.ixs (.t 27) (.t 28) 7),
 zg0 30 (.ld (.t 29) 7 true),
 zg0 31 (.call 152 [(.t 30)] false),
 zg0 6 (.al [zo0, zo0, zo0, zo0, zo0, zo0] true),
 zn0 (.st (.t 6) (.t 31) 6)] [0, 4, 5, 6, 23, 24] [6, 21])
 (.seq (.seq (.reg false [zg0 32 (.ld (.t 6) 6 true),
 zg0 33 (.call 153 [(.t 32)] false),
 zg0 34 (.un .not (.t 33))] [0, 4, 5, 6, 23, 24, 34] [6, 21])
 (.cond (.t 34)
 (.seq (.reg false [zg0 2 (.mov (.c (.p .nilp))),
 zg0 3 (.mov zF0)] [2, 3] [21])
 .ret)
 .skip))
 (.seq (.reg true [zm0 36 4,
 zg0 37 (.nck (.t 36)),
 zg0 38 (.off (.t 37) 1),
 zg0 39 (.ldl 21 (.t 38) 1 false),
 zm0 40 5,
 zg0 41 (.bin .add (.t 40) (zi0 1)),
 zm0 42 4,
 zg0 43 (.nck (.t 42)),
 zg0 44 (.off (.t 43) 1),
 zg0 45 (.ldl 21 (.t 44) 1 false),
 zm0 46 5,
 zg0 47 (.ixs (.t 45) (.t 46) 6),
 zg0 48 (.ld (.t 47) 6 true),
 zg0 49 (.ldl 6 (.t 6) 6 true),
 zg0 50 (.call 154 [(.t 48), (.t 49)] false),
 zm0 35 50,
 zg0 51 (.ext (.t 35) 0),
 zg0 52 (.ext (.t 35) 1),
 zg0 53 (.ixs (.t 39) (.t 41) 6),
 zn0 (.st (.t 53) (.t 51) 6)] [0, 4, 5, 23, 24] [21])
 (.seq (.reg true [zm0 54 4,
 zg0 55 (.nck (.t 54)),
 zg0 56 (.off (.t 55) 2),
 zg0 57 (.ldl 21 (.t 56) 1 false),
 zm0 58 5,
 zg0 59 (.bin .add (.t 58) (zi0 1)),
 zm0 60 4,
 zg0 61 (.nck (.t 60)),
 zg0 62 (.off (.t 61) 2),
 zg0 63 (.ldl 21 (.t 62) 1 false),
 zm0 64 5,
 zg0 65 (.ixs (.t 63) (.t 64) 1),
 zg0 66 (.ld (.t 65) 1 false),
 zg0 67 (.ixs (.t 57) (.t 59) 1),
 zn0 (.st (.t 67) (.t 66) 1)] [0, 4, 5, 23, 24] [21])
 (.seq (.reg false [zm0 68 0,
 zm0 69 5,
 zg0 70 (.ixs (.t 68) (.t 69) 7),
 zg0 71 (.off (.t 70) 0),
 zg0 72 (.ld (.t 71) 1 false),
 zg0 73 (.bin .eql (.t 72) (zi0 1))] [0, 4, 5, 23, 24, 73] [21])
 (.cond (.t 73)
 (.reg true [zm0 74 4,
 zg0 75 (.nck (.t 74)),
 zg0 76 (.off (.t 75) 2),
 zg0 77 (.ldl 21 (.t 76) 1 false),
 zm0 78 5,
 zg0 79 (.bin .add (.t 78) (zi0 1)),
 zg0 80 (.ixs (.t 77) (.t 79) 1),
 zg0 81 (.ld (.t 80) 1 false),
 zm0 82 0,
 zm0 83 5,
 zg0 84 (.ixs (.t 82) (.t 83) 7),
 zg0 85 (.off (.t 84) 1),
 zg0 86 (.ld (.t 85) 1 false),
 zg0 87 (.bin .add (.t 81) (.t 86)),
 zg0 88 (.ixs (.t 77) (.t 79) 1),
 zn0 (.st (.t 88) (.t 87) 1)] [0, 4, 23, 24] [21])
 .skip))))))))
 (.reg false [zg0 89 (.bin .add (.t 24) (zi0 1)),
 zm0 24 89] [0, 4, 23, 24] [21])))))
def ir59 : IFn :=   -- tympan/sums.New
⟨(.seq (.reg false [zg0 2 (.mov (.c (.p .nilp))),
 zg0 3 (.mov zF0)] [0] [])
 (.seq (.seq (.reg false [zm0 7 0,
 zg0 8 (.len (.t 7)),
 zg0 9 (.bin .gtr (.t 8) (zi0 4096))] [0, 9] [])
 (.cond (.t 9)
 (.seq (.reg false [zg0 2 (.mov (.c (.p .nilp))),
 zg0 3 (.mov zF0)] [2, 3] [21])
 .ret)
 .skip))
 (.seq (.rsv [6, 1] (.prep [21] (.reg true [zm0 10 0,
 zg0 11 (.callz 143 [(.t 10)]),
 zm0 12 0,
 zg0 13 (.len (.t 12)),
 zg0 14 (.bin .add (.t 13) (zi0 1)),
 zg0 15 (.mkh 2 6 [zo0, zo0, zo0, zo0, zo0, zo0] (.t 14)),
 zm0 16 0,
 zg0 17 (.len (.t 16)),
 zg0 18 (.bin .add (.t 17) (zi0 1)),
 zg0 19 (.mkh 1 1 [zo0] (.t 18)),
 zg0 20 (.bld [.nils, .nils, .nils] [(0, 1, (.t 11)), (1, 1, (.t 15)), (2, 1, (.t 19))]),
 zg0 21 (.bxp (.t 20) 3),
 zm0 4 21] [0, 4] [21])))
 (.seq (.seq (.reg false [zm0 22 0,
 zg0 23 (.len (.t 22)),
 zg0 24 (.mov (zi0 0))] [0, 4, 23, 24] [21])
 (.block 0 lp59_0))
 (.seq (.esc [21] (.reg false [zm0 90 4,
 zm0 2 90,
 zg0 3 (.mov zT0)] [2, 3] [21]))
 .ret))))),
 [.tmp 2, .tmp 3], false⟩
def ir60 : IFn :=   -- tympan/vlist.New
⟨(.seq (.reg false [zg0 2 (.mov (.c (.p .nilp)))] [0] [])
 (.seq (.reg false [zm0 3 0,
 zg0 4 (.callz 143 [(.t 3)]),
 zg0 5 (.bld [.nils] [(0, 1, (.t 4))]),
 zg0 6 (.bx (.t 5) 1 false),
 zm0 2 6] [2] [])
 .ret)),
 [.tmp 2], false⟩
def lp61_0 : IC :=
 (.loop [1, 5, 22, 23, 24] [21] (.seq (.reg false [zg0 25 (.bin .lss (.t 24) (.t 23))] [1, 5, 22, 23, 24, 25] [21])
 (.seq (.cond (.t 25)
 .skip
 (.exit 0))
 (.seq (.block 1 (.seq (.reg false [zm0 26 24,
 zg0 27 (.ixs (.t 22) (.t 24) 7),
 zg0 28 (.ld (.t 27) 7 true),
 zg0 7 (.al [zo0, zo0, zo0, zo0, zo0, zo0, zo0] true),
 zm0 6 26,
 zn0 (.st (.t 7) (.t 28) 7)] [1, 5, 6, 7, 22, 23, 24] [7, 21])
 (.seq (.prep [9, 10] (.reg true [zm0 29 5,
 zg0 30 (.nck (.t 29)),
 zg0 31 (.off (.t 30) 1),
 zg0 32 (.ldl 21 (.t 31) 1 false),
 zm0 33 6,
 zg0 34 (.ixs (.t 32) (.t 33) 1),
 zg0 35 (.ldh (.t 34) 1 false),
 zm0 36 5,
 zg0 37 (.nck (.t 36)),
 zg0 38 (.off (.t 37) 2),
 zg0 39 (.ldl 21 (.t 38) 1 false),
 zm0 40 6,
 zg0 41 (.ixs (.t 39) (.t 40) 3),
 zg0 42 (.ldh (.t 41) 3 true),
 zm0 43 5,
 zg0 44 (.nck (.t 43)),
 zg0 45 (.off (.t 44) 3),
 zg0 46 (.ldl 21 (.t 45) 1 false),
 zm0 47 6,
 zg0 48 (.ixs (.t 46) (.t 47) 3),
 zg0 49 (.ldh (.t 48) 3 true),
 zg0 9 (.alp [zo0, zo0, zo0]),
 zg0 10 (.alp [zo0, zo0, zo0]),
 zm0 8 35,
 zn0 (.stl 9 (.t 9) (.t 42) 3),
 zn0 (.stl 10 (.t 10) (.t 49) 3)] [1, 5, 7, 8, 9, 10, 22, 23, 24] [7, 9, 10, 21]))
 (.seq (.seq (.reg false [zg0 50 (.off (.t 7) 0),
 zg0 51 (.ld (.t 50) 1 false)] [1, 5, 7, 8, 9, 10, 22, 23, 24, 51] [7, 9, 10, 21])
 (.block 2 (.seq (.reg false [zg0 53 (.bin .eql (.t 51) (zi0 5)),
 zm0 52 53] [1, 5, 7, 8, 9, 10, 22, 23, 24, 51, 52] [7, 9, 10, 21])
 (.cond (.t 52)
 (.reg false [zm0 54 8,
 zg0 55 (.bin .add (.t 54) (zi0 1)),
 zm0 8 55] [1, 5, 8, 9, 10, 22, 23, 24] [9, 10, 21])
 (.seq (.reg false [zg0 57 (.bin .eql (.t 51) (zi0 6)),
 zm0 56 57] [1, 5, 7, 8, 9, 10, 22, 23, 24, 51, 56] [7, 9, 10, 21])
 (.cond (.t 56)
 (.seq (.reg false [zm0 59 1,
 zg0 60 (.off (.t 7) 6),
 zg0 61 (.ld (.t 60) 1 false),
 zg0 62 (.call 155 [(.t 59), (.t 61)] false),
 zm0 58 62,
 zg0 63 (.ext (.t 58) 0),
 zg0 64 (.ext (.t 58) 1),
 zg0 11 (.al [zo0, zo0, zo0] true),
 zn0 (.st (.t 11) (.t 63) 3),
 zm0 12 64] [1, 5, 8, 9, 10, 11, 12, 22, 23, 24] [9, 10, 11, 21])
 (.seq (.reg false [zm0 65 12,
 zm0 66 65,
 zt0 67 66 (.off (.t 11) 0),
 zt0 68 66 (.ld (.t 67) 1 false),
 zt0 69 66 (.bin .geq (.t 68) (zi0 0)),
 zg0 70 (.pick (.t 66) (.t 69) zF0),
 zm0 71 70,
 zt0 72 71 (.off (.t 11) 0),
 zt0 73 71 (.ld (.t 72) 1 false),
 zt0 74 71 (.bin .lss (.t 73) (zi0 3)),
 zg0 75 (.pick (.t 71) (.t 74) zF0)] [1, 5, 8, 9, 10, 11, 22, 23, 24, 75] [9, 10, 11, 21])
 (.cond (.t 75)
 (.reg false [zg0 76 (.off (.t 11) 0),
 zg0 77 (.ld (.t 76) 1 false),
 zg0 78 (.ixa (.t 9) (.t 77) 1 3),
 zg0 79 (.ld (.t 78) 1 false),
 zg0 80 (.bin .add (.t 79) (zi0 1)),
 zg0 81 (.ixa (.t 9) (.t 77) 1 3),
 zn0 (.st (.t 81) (.t 80) 1)] [1, 5, 8, 9, 10, 22, 23, 24] [9, 10, 21])
 .skip)))
 (.seq (.reg false [zg0 83 (.bin .eql (.t 51) (zi0 7)),
 zm0 82 83] [1, 5, 8, 9, 10, 22, 23, 24, 82] [9, 10, 21])
 (.cond (.t 82)
 (.seq (.reg false [zg0 84 (.ld (.t 10) 3 true),
 zg0 85 (.ld (.t 9) 3 true),
 zg0 86 (.eqa true [true, true, true] (.t 84) (.t 85))] [1, 5, 8, 9, 10, 22, 23, 24, 86] [9, 10, 21])
 (.cond (.t 86)
 (.reg false [zg0 87 (.ld (.t 9) 3 true),
 zn0 (.st (.t 10) (.t 87) 3)] [1, 5, 8, 9, 10, 22, 23, 24] [9, 10, 21])
 .skip))
 .skip))))))))
 (.reg true [zm0 88 5,
 zm0 89 5,
 zm0 90 5,
 zm0 91 5,
 zg0 92 (.nck (.t 91)),
 zg0 93 (.off (.t 92) 1),
 zg0 94 (.ldl 21 (.t 93) 1 false),
 zm0 95 8,
 zg0 96 (.bsl 1 1 [zo0] [(0, (.t 95))]),
 zg0 97 (.apo (.t 94) (.t 96) 1 (.t 24) 1),
 zm0 98 5,
 zg0 99 (.nck (.t 98)),
 zg0 100 (.off (.t 99) 2),
 zg0 101 (.ldl 21 (.t 100) 1 false),
 zg0 102 (.ldl 9 (.t 9) 3 true),
 zg0 103 (.bsl 3 1 [zo0, zo0, zo0] [(0, (.t 102))]),
 zg0 104 (.apo (.t 101) (.t 103) 3 (.t 24) 1),
 zm0 105 5,
 zg0 106 (.nck (.t 105)),
 zg0 107 (.off (.t 106) 3),
 zg0 108 (.ldl 21 (.t 107) 1 false),
 zg0 109 (.ldl 10 (.t 10) 3 true),
 zg0 110 (.bsl 3 1 [zo0, zo0, zo0] [(0, (.t 109))]),
 zg0 111 (.apo (.t 108) (.t 110) 3 (.t 24) 1),
 zg0 112 (.nck (.t 88)),
 zg0 113 (.off (.t 112) 1),
 zn0 (.stl 21 (.t 113) (.t 97) 1),
 zg0 114 (.nck (.t 89)),
 zg0 115 (.off (.t 114) 2),
 zn0 (.stl 21 (.t 115) (.t 104) 1),
 zg0 116 (.nck (.t 90)),
 zg0 117 (.off (.t 116) 3),
 zn0 (.stl 21 (.t 117) (.t 111) 1)] [1, 5, 22, 23, 24] [21])))))
 (.reg false [zg0 118 (.bin .add (.t 24) (zi0 1)),
 zm0 24 118] [1, 5, 22, 23, 24] [21])))))
def ir61 : IFn :=   -- tympan/anchor.New
⟨(.seq (.reg false [zg0 4 (.mov (.c (.p .nilp)))] [0, 1] [])
 (.seq (.reg false [zm0 13 0,
 zg0 14 (.callz 143 [(.t 13)]),
 zg0 15 (.bsr 1 1 [zo0] [(0, (zi0 0))]),
 zg0 16 (.bld [zo0, zo0, zo0] []),
 zg0 17 (.bsr 3 1 [zo0, zo0, zo0] [(0, (.t 16))]),
 zg0 18 (.bld [zo0, zo0, zo0] []),
 zg0 19 (.bsr 3 1 [zo0, zo0, zo0] [(0, (.t 18))]),
 zg0 20 (.bld [.nils, .nils, .nils, .nils] [(0, 1, (.t 14)), (1, 1, (.t 15)), (2, 1, (.t 17)), (3, 1, (.t 19))]),
 zg0 21 (.bx (.t 20) 4 true),
 zm0 5 21] [0, 1, 5] [21])
 (.seq (.seq (.reg false [zm0 22 0,
 zg0 23 (.len (.t 22)),
 zg0 24 (.mov (zi0 0))] [1, 5, 22, 23, 24] [21])
 (.block 0 lp61_0))
 (.seq (.esc [21] (.reg false [zm0 119 5,
 zm0 4 119] [4] [21]))
 .ret)))),
 [.tmp 4], false⟩
def ir62 : IFn :=   -- (*tympan/anchor.Map).Ahead
⟨(.seq (.reg false [zg0 4 (.al [zo0, zo0, zo0] true)] [0, 1, 4] [4])
 (.seq (.reg false [zm0 7 0,
 zm0 8 1,
 zg0 9 (.call 156 [(.t 7), (.t 8)] false),
 zm0 6 9,
 zg0 10 (.ext (.t 6) 0),
 zg0 11 (.ext (.t 6) 1),
 zm0 1 10,
 zm0 5 11] [0, 1, 4, 5] [4])
 (.seq (.seq (.reg false [zm0 12 5,
 zg0 13 (.un .not (.t 12))] [0, 1, 4, 13] [4])
 (.cond (.t 13)
 (.seq (.reg false [zg0 14 (.bld [zo0, zo0, zo0] []),
 zn0 (.st (.t 4) (.t 14) 3)] [4] [4])
 .ret)
 .skip))
 (.seq (.reg false [zm0 15 0,
 zg0 16 (.nck (.t 15)),
 zg0 17 (.off (.t 16) 2),
 zg0 18 (.ld (.t 17) 1 false),
 zm0 19 1,
 zg0 20 (.ixs (.t 18) (.t 19) 3),
 zg0 21 (.ld (.t 20) 3 true),
 zn0 (.st (.t 4) (.t 21) 3)] [4] [4])
 .ret)))),
 [.cell 4 3 true], false⟩
def lp63_0 : IC :=
 (.loop [3, 6, 7, 8] [] (.seq (.reg false [zg0 9 (.bin .lss (.t 8) (.t 7))] [3, 6, 7, 8, 9] [])
 (.seq (.cond (.t 9)
 .skip
 (.exit 0))
 (.seq (.block 1 (.seq (.reg false [zg0 10 (.ixs (.t 6) (.t 8) 2),
 zg0 11 (.ld (.t 10) 2 true),
 zg0 5 (.al [.nils, .nils] true),
 zn0 (.st (.t 5) (.t 11) 2)] [3, 5, 6, 7, 8] [5])
 (.reg false [zm0 12 3,
 zg0 13 (.off (.t 5) 0),
 zg0 14 (.ld (.t 13) 1 false),
 zg0 15 (.len (.t 14)),
 zg0 16 (.bin .add (.t 12) (.t 15)),
 zm0 3 16] [3, 6, 7, 8] [])))
 (.reg false [zg0 17 (.bin .add (.t 8) (zi0 1)),
 zm0 8 17] [3, 6, 7, 8] [])))))
def ir63 : IFn :=   -- tympan/note.Lines
⟨(.seq (.reg false [zg0 2 (.mov (zi0 0))] [0] [])
 (.seq (.reg false [zg0 3 (.mov (zi0 0))] [0, 3] [])
 (.seq (.seq (.reg false [zm0 6 0,
 zg0 7 (.len (.t 6)),
 zg0 8 (.mov (zi0 0))] [3, 6, 7, 8] [])
 (.block 0 lp63_0))
 (.seq (.reg false [zm0 18 3,
 zm0 2 18] [2] [])
 .ret)))),
 [.tmp 2], false⟩
def lp64_0 : IC :=
 (.loop [1, 2, 3, 4, 5] [1, 2, 4] (.seq (.seq (.reg false [zm0 48 5,
 zg0 49 (.off (.t 1) 19),
 zg0 50 (.ld (.t 49) 1 false),
 zg0 51 (.len (.t 50)),
 zg0 52 (.bin .lss (.t 48) (.t 51))] [1, 2, 3, 4, 5, 52] [1, 2, 4])
 (.cond (.t 52)
 .skip
 (.exit 0)))
 (.seq (.block 1 (.reg true [zg0 55 (.off (.t 4) 19),
 zg0 56 (.ldl 4 (.t 55) 1 false),
 zg0 57 (.off (.t 1) 19),
 zg0 58 (.ldl 1 (.t 57) 1 false),
 zm0 59 5,
 zg0 60 (.ixs (.t 58) (.t 59) 7),
 zg0 61 (.ld (.t 60) 7 true),
 zm0 62 3,
 zg0 63 (.call 159 [(.t 61), (.t 62)] false),
 zg0 64 (.bsl 7 1 [zo0, zo0, zo0, zo0, zo0, zo0, zo0] [(0, (.t 63))]),
 zg0 65 (.app (.t 56) (.t 64) 7),
 zg0 66 (.off (.t 4) 19),
 zn0 (.stl 4 (.t 66) (.t 65) 1)] [1, 2, 3, 4, 5] [1, 2, 4]))
 (.reg false [zm0 53 5,
 zg0 54 (.bin .add (.t 53) (zi0 1)),
 zm0 5 54] [1, 2, 3, 4, 5] [1, 2, 4]))))
def lp64_1 : IC :=
 (.loop [1, 2, 3, 4, 6, 7, 8] [1, 2, 4, 7] (.seq (.seq (.reg false [zm0 81 8,
 zg0 82 (.off (.t 1) 20),
 zg0 83 (.ld (.t 82) 1 false),
 zm0 84 6,
 zg0 85 (.ixs (.t 83) (.t 84) 2),
 zg0 86 (.off (.t 85) 0),
 zg0 87 (.ld (.t 86) 1 false),
 zg0 88 (.len (.t 87)),
 zg0 89 (.bin .lss (.t 81) (.t 88))] [1, 2, 3, 4, 6, 7, 8, 89] [1, 2, 4, 7])
 (.cond (.t 89)
 .skip
 (.exit 4)))
 (.seq (.block 5 (.reg true [zg0 92 (.off (.t 7) 0),
 zg0 93 (.ldl 7 (.t 92) 1 false),
 zg0 94 (.off (.t 1) 20),
 zg0 95 (.ldl 1 (.t 94) 1 false),
 zm0 96 6,
 zg0 97 (.ixs (.t 95) (.t 96) 2),
 zg0 98 (.off (.t 97) 0),
 zg0 99 (.ld (.t 98) 1 false),
 zm0 100 8,
 zg0 101 (.ixs (.t 99) (.t 100) 1),
 zg0 102 (.ld (.t 101) 1 false),
 zm0 103 3,
 zg0 104 (.call 158 [(.t 102), (.t 103)] false),
 zg0 105 (.bsl 1 1 [zo0] [(0, (.t 104))]),
 zg0 106 (.app (.t 93) (.t 105) 1),
 zg0 107 (.off (.t 7) 0),
 zn0 (.stl 7 (.t 107) (.t 106) 1)] [1, 2, 3, 4, 6, 7, 8] [1, 2, 4, 7]))
 (.reg false [zm0 90 8,
 zg0 91 (.bin .add (.t 90) (zi0 1)),
 zm0 8 91] [1, 2, 3, 4, 6, 7, 8] [1, 2, 4, 7]))))
def lp64_2 : IC :=
 (.loop [1, 2, 3, 4, 6] [1, 2, 4] (.seq (.seq (.reg false [zm0 67 6,
 zg0 68 (.off (.t 1) 20),
 zg0 69 (.ld (.t 68) 1 false),
 zg0 70 (.len (.t 69)),
 zg0 71 (.bin .lss (.t 67) (.t 70))] [1, 2, 3, 4, 6, 71] [1, 2, 4])
 (.cond (.t 71)
 .skip
 (.exit 2)))
 (.seq (.block 3 (.seq (.reg false [zg0 74 (.off (.t 1) 20),
 zg0 75 (.ld (.t 74) 1 false),
 zm0 76 6,
 zg0 77 (.ixs (.t 75) (.t 76) 2),
 zg0 78 (.off (.t 77) 1),
 zg0 79 (.ld (.t 78) 1 false),
 zg0 80 (.bld [.nils, .nils] [(1, 1, (.t 79))]),
 zg0 7 (.al [.nils, .nils] true),
 zn0 (.st (.t 7) (.t 80) 2)] [1, 2, 3, 4, 6, 7] [1, 2, 4, 7])
 (.seq (.seq (.reg false [zg0 8 (.mov (zi0 0))] [1, 2, 3, 4, 6, 7, 8] [1, 2, 4, 7])
 (.block 4 lp64_1))
 (.reg false [zg0 108 (.off (.t 4) 20),
 zg0 109 (.ld (.t 108) 1 false),
 zg0 110 (.ld (.t 7) 2 true),
 zg0 111 (.bsl 2 1 [.nils, .nils] [(0, (.t 110))]),
 zg0 112 (.app (.t 109) (.t 111) 2),
 zg0 113 (.off (.t 4) 20),
 zn0 (.st (.t 113) (.t 112) 1)] [1, 2, 3, 4, 6] [1, 2, 4]))))
 (.reg false [zm0 72 6,
 zg0 73 (.bin .add (.t 72) (zi0 1)),
 zm0 6 73] [1, 2, 3, 4, 6] [1, 2, 4]))))
def lp64_3 : IC :=
 (.loop [1, 2, 3, 4, 9] [1, 2, 4] (.seq (.seq (.reg false [zm0 114 9,
 zg0 115 (.off (.t 1) 21),
 zg0 116 (.ld (.t 115) 1 false),
 zg0 117 (.len (.t 116)),
 zg0 118 (.bin .lss (.t 114) (.t 117))] [1, 2, 3, 4, 9, 118] [1, 2, 4])
 (.cond (.t 118)
 .skip
 (.exit 6)))
 (.seq (.block 7 (.seq (.reg false [zg0 121 (.off (.t 1) 21),
 zg0 122 (.ld (.t 121) 1 false),
 zm0 123 9,
 zg0 124 (.ixs (.t 122) (.t 123) 3),
 zg0 125 (.ld (.t 124) 3 true),
 zg0 10 (.al [zo0, zo0, zo0] true),
 zn0 (.st (.t 10) (.t 125) 3)] [1, 2, 3, 4, 9, 10] [1, 2, 4, 10])
 (.seq (.reg false [zg0 126 (.off (.t 10) 1),
 zg0 127 (.ld (.t 126) 1 false),
 zm0 128 3,
 zg0 129 (.call 158 [(.t 127), (.t 128)] false),
 zg0 130 (.off (.t 10) 1),
 zn0 (.st (.t 130) (.t 129) 1)] [1, 2, 3, 4, 9, 10] [1, 2, 4, 10])
 (.reg false [zg0 131 (.off (.t 4) 21),
 zg0 132 (.ld (.t 131) 1 false),
 zg0 133 (.ld (.t 10) 3 true),
 zg0 134 (.bsl 3 1 [zo0, zo0, zo0] [(0, (.t 133))]),
 zg0 135 (.app (.t 132) (.t 134) 3),
 zg0 136 (.off (.t 4) 21),
 zn0 (.st (.t 136) (.t 135) 1)] [1, 2, 3, 4, 9] [1, 2, 4]))))
 (.reg false [zm0 119 9,
 zg0 120 (.bin .add (.t 119) (zi0 1)),
 zm0 9 120] [1, 2, 3, 4, 9] [1, 2, 4]))))
def ir64 : IFn :=   -- tympan/tympanref14.Snap
⟨(.seq (.reg false [zg0 1 (.bx (.t 0) 22 true),
 zg0 2 (.al [zo0, zo0, zo0, zo0, zo0, zo0, zo0, zo0, zo0, zo0, zo0, zo0, zo0, zo0, zo0, zo0, zo0, zo0, .p (.bool false), .nils, .nils, .nils] true)] [1, 2] [1, 2])
 (.seq (.reg false [zg0 11 (.off (.t 1) 0),
 zg0 12 (.off (.t 11) 5),
 zg0 13 (.ld (.t 12) 1 false),
 zm0 3 13] [1, 2, 3] [1, 2])
 (.seq (.seq (.reg false [zm0 14 3,
 zg0 15 (.bin .lss (.t 14) (zi0 1))] [1, 2, 3, 15] [1, 2])
 (.cond (.t 15)
 (.seq (.reg false [zg0 16 (.ld (.t 1) 22 true),
 zn0 (.st (.t 2) (.t 16) 22)] [2] [2])
 .ret)
 .skip))
 (.seq (.reg false [zg0 17 (.off (.t 1) 0),
 zg0 18 (.ld (.t 17) 19 true),
 zg0 19 (.bld [zo0, zo0, zo0, zo0, zo0, zo0, zo0, zo0, zo0, zo0, zo0, zo0, zo0, zo0, zo0, zo0, zo0, zo0, .p (.bool false), .nils, .nils, .nils] [(0, 19, (.t 18))]),
 zg0 4 (.al [zo0, zo0, zo0, zo0, zo0, zo0, zo0, zo0, zo0, zo0, zo0, zo0, zo0, zo0, zo0, zo0, zo0, zo0, .p (.bool false), .nils, .nils, .nils] true),
 zn0 (.st (.t 4) (.t 19) 22)] [1, 2, 3, 4] [1, 2, 4])
 (.seq (.reg false [zg0 20 (.off (.t 1) 0),
 zg0 21 (.off (.t 20) 3),
 zg0 22 (.ld (.t 21) 1 false),
 zm0 23 3,
 zg0 24 (.call 157 [(.t 22), (.t 23)] false),
 zg0 25 (.off (.t 4) 0),
 zg0 26 (.off (.t 25) 3),
 zn0 (.st (.t 26) (.t 24) 1)] [1, 2, 3, 4] [1, 2, 4])
 (.seq (.reg false [zg0 27 (.off (.t 1) 0),
 zg0 28 (.off (.t 27) 4),
 zg0 29 (.ld (.t 28) 1 false),
 zm0 30 3,
 zg0 31 (.call 157 [(.t 29), (.t 30)] false),
 zg0 32 (.off (.t 4) 0),
 zg0 33 (.off (.t 32) 4),
 zn0 (.st (.t 33) (.t 31) 1)] [1, 2, 3, 4] [1, 2, 4])
 (.seq (.reg false [zg0 34 (.off (.t 1) 0),
 zg0 35 (.off (.t 34) 6),
 zg0 36 (.ld (.t 35) 1 false),
 zm0 37 3,
 zg0 38 (.call 158 [(.t 36), (.t 37)] false),
 zg0 39 (.off (.t 4) 0),
 zg0 40 (.off (.t 39) 6),
 zn0 (.st (.t 40) (.t 38) 1)] [1, 2, 3, 4] [1, 2, 4])
 (.seq (.reg false [zg0 41 (.off (.t 1) 0),
 zg0 42 (.off (.t 41) 7),
 zg0 43 (.ld (.t 42) 1 false),
 zm0 44 3,
 zg0 45 (.call 158 [(.t 43), (.t 44)] false),
 zg0 46 (.off (.t 4) 0),
 zg0 47 (.off (.t 46) 7),
 zn0 (.st (.t 47) (.t 45) 1)] [1, 2, 3, 4] [1, 2, 4])
 (.seq (.seq (.reg false [zg0 5 (.mov (zi0 0))] [1, 2, 3, 4, 5] [1, 2, 4])
 (.block 0 lp64_0))
 (.seq (.seq (.reg false [zg0 6 (.mov (zi0 0))] [1, 2, 3, 4, 6] [1, 2, 4])
 (.block 2 lp64_2))
 (.seq (.seq (.reg false [zg0 9 (.mov (zi0 0))] [1, 2, 3, 4, 9] [1, 2, 4])
 (.block 6 lp64_3))
 (.seq (.reg false [zg0 137 (.ld (.t 4) 22 true),
 zn0 (.st (.t 2) (.t 137) 22)] [2] [2])
 .ret)))))))))))),
 [.cell 2 22 true], false⟩
def ir65 : IFn :=   -- (*tympan/vlist.List).Trim
⟨(.seq (.reg false [zg0 4 (.mov (zi0 0))] [0, 1] [])
 (.seq (.seq (.reg false [zm0 5 0,
 zg0 6 (.eqn .ptr false (.t 5))] [0, 1, 6] [])
 (.cond (.t 6)
 (.seq (.reg false [zg0 4 (.mov (zi0 0))] [4] [])
 .ret)
 .skip))
 (.seq (.reg false [zm0 7 0,
 zm0 8 1,
 zg0 9 (.mnmx true (.t 8) (zi0 0)),
 zm0 10 0,
 zg0 11 (.call 78 [(.t 10)] false),
 zg0 12 (.mnmx false (.t 9) (.t 11)),
 zm0 13 0,
 zg0 14 (.mkf (.func 161) [(.t 13)] []),
 zg0 15 (.call 160 [(.t 7), (.t 12), (.t 14)] false),
 zm0 4 15] [4] [])
 .ret))),
 [.tmp 4], false⟩
def ir66 : IFn :=   -- tympan/split.Next
⟨(.seq (.reg false [zg0 4 (.bx (.t 1) 4 true),
 zg0 6 (.mov (zi0 0)),
 zg0 7 (.mov (zi0 0))] [0, 2, 4] [4])
 (.seq (.seq (.reg false [zm0 9 2,
 zg0 10 (.len (.t 9)),
 zg0 11 (.bin .eql (.t 10) (zi0 0))] [0, 2, 4, 11] [4])
 (.cond (.t 11)
 (.seq (.reg true [zg0 12 (.off (.t 4) 0),
 zg0 13 (.ldl 4 (.t 12) 1 false),
 zg0 14 (.off (.t 4) 1),
 zg0 15 (.ldl 4 (.t 14) 1 false),
 zm0 6 13,
 zm0 7 15] [6, 7] [])
 .ret)
 .skip))
 (.seq (.reg false [zm0 16 2,
 zm0 17 2,
 zg0 18 (.len (.t 17)),
 zg0 19 (.bin .sub (.t 18) (zi0 1)),
 zg0 20 (.ixs (.t 16) (.t 19) 3),
 zg0 21 (.ld (.t 20) 3 true),
 zg0 8 (.al [zo0, zo0, zo0] true),
 zn0 (.st (.t 8) (.t 21) 3)] [0, 8] [8])
 (.seq (.seq (.reg true [zg0 22 (.off (.t 8) 0),
 zg0 23 (.ldl 8 (.t 22) 1 false),
 zg0 24 (.bin .geq (.t 23) (zi0 0)),
 zm0 25 24,
 zt0 26 25 (.off (.t 8) 0),
 zt0 27 25 (.ldl 8 (.t 26) 1 false),
 zt0 28 25 (.mov (.t 0)),
 zt0 29 25 (.len (.t 28)),
 zt0 30 25 (.bin .lss (.t 27) (.t 29)),
 zg0 31 (.pick (.t 25) (.t 30) zF0),
 zm0 32 31,
 zt0 33 32 (.off (.t 8) 2),
 zt0 34 32 (.ldl 8 (.t 33) 1 false),
 zt0 35 32 (.mov (.t 0)),
 zt0 36 32 (.off (.t 8) 0),
 zt0 37 32 (.ldl 8 (.t 36) 1 false),
 zt0 38 32 (.ixs (.t 35) (.t 37) 2),
 zt0 39 32 (.off (.t 38) 0),
 zt0 40 32 (.ld (.t 39) 1 false),
 zt0 41 32 (.len (.t 40)),
 zt0 42 32 (.bin .eql (.t 34) (.t 41)),
 zg0 43 (.pick (.t 32) (.t 42) zF0)] [8, 43] [8])
 (.cond (.t 43)
 (.seq (.reg false [zg0 44 (.off (.t 8) 0),
 zg0 45 (.ld (.t 44) 1 false),
 zg0 46 (.bin .add (.t 45) (zi0 1)),
 zm0 6 46,
 zg0 7 (.mov (zi0 0))] [6, 7] [])
 .ret)
 .skip))
 (.seq (.reg true [zg0 47 (.off (.t 8) 0),
 zg0 48 (.ldl 8 (.t 47) 1 false),
 zg0 49 (.off (.t 8) 2),
 zg0 50 (.ldl 8 (.t 49) 1 false),
 zm0 6 48,
 zm0 7 50] [6, 7] [])
 .ret))))),
 [.tmp 6, .tmp 7], false⟩
def ir67 : IFn :=   -- (tympan/queue.Counts).Add
⟨(.seq (.reg false [zg0 2 (.bx (.t 0) 3 true),
 zg0 3 (.bx (.t 1) 3 true),
 zg0 4 (.al [zo0, zo0, zo0] true)] [2, 3, 4] [2, 3, 4])
 (.seq (.reg false [zg0 5 (.ld (.t 2) 3 true),
 zg0 6 (.ld (.t 3) 3 true),
 zg0 7 (.call 162 [(.t 5), (.t 6), (zi0 (-1073741824)), (.c (.p (.fn 163)))] false),
 zn0 (.st (.t 4) (.t 7) 3)] [4] [4])
 .ret)),
 [.cell 4 3 true], false⟩
def lp68_0 : IC :=
 (.loop [0, 4, 5, 10, 11, 12] [4, 5] (.seq (.reg false [zg0 13 (.bin .lss (.t 12) (.t 11))] [0, 4, 5, 10, 11, 12, 13] [4, 5])
 (.seq (.cond (.t 13)
 .skip
 (.exit 0))
 (.seq (.block 1 (.seq (.reg false [zg0 14 (.ixs (.t 10) (.t 12) 1),
 zg0 15 (.ld (.t 14) 1 false),
 zm0 7 15] [0, 4, 5, 7, 10, 11, 12] [4, 5])
 (.seq (.reg false [zm0 17 0,
 zm0 18 7,
 zg0 19 (.call 155 [(.t 17), (.t 18)] false),
 zm0 16 19,
 zg0 20 (.ext (.t 16) 0),
 zg0 21 (.ext (.t 16) 1),
 zg0 8 (.al [zo0, zo0, zo0] true),
 zn0 (.st (.t 8) (.t 20) 3),
 zm0 9 21] [0, 4, 5, 8, 9, 10, 11, 12] [4, 5, 8])
 (.seq (.reg false [zm0 22 9,
 zm0 23 22,
 zt0 24 23 (.off (.t 8) 0),
 zt0 25 23 (.ld (.t 24) 1 false),
 zt0 26 23 (.bin .geq (.t 25) (zi0 0)),
 zg0 27 (.pick (.t 23) (.t 26) zF0),
 zm0 28 27,
 zt0 29 28 (.off (.t 8) 0),
 zt0 30 28 (.ld (.t 29) 1 false),
 zt0 31 28 (.bin .lss (.t 30) (zi0 3)),
 zg0 32 (.pick (.t 28) (.t 31) zF0)] [0, 4, 5, 8, 10, 11, 12, 32] [4, 5, 8])
 (.cond (.t 32)
 (.reg false [zg0 33 (.off (.t 8) 0),
 zg0 34 (.ld (.t 33) 1 false),
 zg0 35 (.ixa (.t 5) (.t 34) 1 3),
 zg0 36 (.ld (.t 35) 1 false),
 zg0 37 (.bin .add (.t 36) (zi0 1)),
 zg0 38 (.ixa (.t 5) (.t 34) 1 3),
 zn0 (.st (.t 38) (.t 37) 1)] [0, 4, 5, 10, 11, 12] [4, 5])
 .skip)))))
 (.reg false [zg0 39 (.bin .add (.t 12) (zi0 1)),
 zm0 12 39] [0, 4, 5, 10, 11, 12] [4, 5])))))
def ir68 : IFn :=   -- tympan/queue.Of
⟨(.seq (.reg false [zg0 4 (.al [zo0, zo0, zo0] true)] [0, 1, 4] [4])
 (.seq (.reg false [zg0 5 (.al [zo0, zo0, zo0] true)] [0, 1, 4, 5] [4, 5])
 (.seq (.seq (.reg false [zm0 10 1,
 zg0 11 (.len (.t 10)),
 zg0 12 (.mov (zi0 0))] [0, 4, 5, 10, 11, 12] [4, 5])
 (.block 0 lp68_0))
 (.seq (.reg false [zg0 40 (.ld (.t 5) 3 true),
 zn0 (.st (.t 4) (.t 40) 3)] [4] [4])
 .ret)))),
 [.cell 4 3 true], false⟩
def ir78 : IFn :=   -- (*tympan/vlist.List).Len
⟨(.seq (.reg false [zg0 2 (.mov (zi0 0))] [0] [])
 (.seq (.seq (.reg false [zm0 3 0,
 zg0 4 (.eqn .ptr false (.t 3))] [0, 4] [])
 (.cond (.t 4)
 (.seq (.reg false [zg0 2 (.mov (zi0 0))] [2] [])
 .ret)
 .skip))
 (.seq (.reg false [zm0 5 0,
 zg0 6 (.nck (.t 5)),
 zg0 7 (.off (.t 6) 0),
 zg0 8 (.ld (.t 7) 1 false),
 zg0 9 (.len (.t 8)),
 zm0 2 9] [2] [])
 .ret))),
 [.tmp 2], false⟩
def ir79 : IFn :=   -- (*tympan/state.World).carries
⟨(.seq (.reg false [zg0 3 (.bx (.t 1) 7 true),
 zg0 4 (.mov zF0)] [0, 3] [3])
 (.seq (.reg true [zm0 7 0,
 zg0 8 (.nck (.t 7)),
 zg0 9 (.off (.t 8) 0),
 zg0 10 (.ld (.t 9) 1 false),
 zg0 11 (.nck (.t 10)),
 zg0 12 (.off (.t 11) 2),
 zg0 13 (.ld (.t 12) 1 false),
 zg0 14 (.off (.t 3) 0),
 zg0 15 (.ldl 3 (.t 14) 1 false),
 zg0 16 (.call 88 [(.t 13), (.t 15)] false),
 zm0 5 16] [0, 3, 5] [3])
 (.seq (.seq (.reg false [zg0 17 (.off (.t 3) 3),
 zg0 18 (.ld (.t 17) 1 false),
 zg0 19 (.bin .eql (.t 18) (zi0 0))] [0, 3, 5, 19] [3])
 (.cond (.t 19)
 (.seq (.reg false [zg0 20 (.off (.t 3) 2),
 zg0 21 (.ld (.t 20) 1 false),
 zm0 22 5,
 zg0 23 (.bin .eql (.t 21) (.t 22)),
 zm0 4 23] [4] [])
 .ret)
 .skip))
 (.seq (.seq (.reg false [zg0 24 (.off (.t 3) 2),
 zg0 25 (.ld (.t 24) 1 false),
 zm0 26 5,
 zg0 27 (.bin .sub (.t 26) (zi0 1)),
 zg0 28 (.bin .neq (.t 25) (.t 27)),
 zm0 29 28,
 zf0 30 29 (.off (.t 3) 2),
 zf0 31 29 (.ld (.t 30) 1 false),
 zf0 32 29 (.bin .lss (.t 31) (zi0 0)),
 zg0 33 (.pick (.t 29) zT0 (.t 32)),
 zm0 34 33,
 zf0 35 34 (.off (.t 3) 3),
 zf0 36 34 (.ld (.t 35) 1 false),
 zf0 37 34 (.bin .lss (.t 36) (zi0 1)),
 zg0 38 (.pick (.t 34) zT0 (.t 37))] [0, 3, 38] [3])
 (.cond (.t 38)
 (.seq (.reg false [zg0 4 (.mov zF0)] [4] [])
 .ret)
 .skip))
 (.seq (.prep [6] (.reg true [zm0 39 0,
 zg0 40 (.nck (.t 39)),
 zg0 41 (.off (.t 40) 1),
 zg0 42 (.off (.t 41) 20),
 zg0 43 (.ld (.t 42) 1 false),
 zg0 44 (.off (.t 3) 2),
 zg0 45 (.ldl 3 (.t 44) 1 false),
 zg0 46 (.ixs (.t 43) (.t 45) 2),
 zg0 47 (.ld (.t 46) 2 true),
 zg0 6 (.alp [.nils, .nils]),
 zn0 (.stl 6 (.t 6) (.t 47) 2)] [3, 6] [3, 6]))
 (.seq (.reg false [zg0 48 (.off (.t 3) 3),
 zg0 49 (.ld (.t 48) 1 false),
 zg0 50 (.off (.t 6) 0),
 zg0 51 (.ld (.t 50) 1 false),
 zg0 52 (.len (.t 51)),
 zg0 53 (.bin .lss (.t 49) (.t 52)),
 zm0 54 53,
 zt0 55 54 (.ld (.t 6) 2 true),
 zt0 56 54 (.off (.t 3) 3),
 zt0 57 54 (.ld (.t 56) 1 false),
 zt0 58 54 (.call 171 [(.t 55), (.t 57)] false),
 zg0 59 (.pick (.t 54) (.t 58) zF0),
 zm0 4 59] [4] [])
 .ret)))))),
 [.tmp 4], false⟩
def lp80_0 : IC :=
 (.loop [3, 7, 8] [3] (.seq (.reg false [zg0 9 (.bin .lss (.t 8) (zi0 3))] [3, 7, 8, 9] [3])
 (.seq (.cond (.t 9)
 .skip
 (.exit 0))
 (.seq (.block 1 (.seq (.reg false [zm0 10 8,
 zg0 11 (.ixv (.t 7) (.t 8) 1 3 false),
 zm0 5 10,
 zm0 6 11] [3, 5, 6, 7, 8] [3])
 (.seq (.reg false [zm0 12 6,
 zm0 13 5,
 zg0 14 (.ixa (.t 3) (.t 13) 1 3),
 zg0 15 (.ld (.t 14) 1 false),
 zg0 16 (.bin .gtr (.t 12) (.t 15))] [3, 7, 8, 16] [3])
 (.cond (.t 16)
 (.seq (.reg false [zg0 4 (.mov zF0)] [4] [])
 .ret)
 .skip))))
 (.reg false [zg0 17 (.bin .add (.t 8) (zi0 1)),
 zm0 8 17] [3, 7, 8] [3])))))
def ir80 : IFn :=   -- (tympan/queue.Counts).Within
⟨(.seq (.reg false [zg0 2 (.bx (.t 0) 3 true),
 zg0 3 (.bx (.t 1) 3 true),
 zg0 4 (.mov zF0)] [2, 3] [2, 3])
 (.seq (.seq (.reg false [zg0 7 (.ld (.t 2) 3 true),
 zg0 8 (.mov (zi0 0))] [3, 7, 8] [3])
 (.block 0 lp80_0))
 (.seq (.reg false [zg0 4 (.mov zT0)] [4] [])
 .ret))),
 [.tmp 4], false⟩
def lp82_0 : IC :=
 (.loop [3, 6, 7] [] (.seq (.reg false [zg0 8 (.bin .lss (.t 7) (zi0 3))] [3, 6, 7, 8] [])
 (.seq (.cond (.t 8)
 .skip
 (.exit 0))
 (.seq (.block 1 (.seq (.reg false [zg0 9 (.ixv (.t 6) (.t 7) 1 3 false),
 zm0 5 9] [3, 5, 6, 7] [])
 (.reg false [zm0 10 3,
 zm0 11 5,
 zg0 12 (.call 172 [(.t 11), (zi0 (-1073741824)), (zi0 1073741824)] false),
 zg0 13 (.bin .add (.t 10) (.t 12)),
 zm0 3 13] [3, 6, 7] [])))
 (.reg false [zg0 14 (.bin .add (.t 7) (zi0 1)),
 zm0 7 14] [3, 6, 7] [])))))
def ir82 : IFn :=   -- (tympan/queue.Counts).Sum
⟨(.seq (.reg false [zg0 1 (.bx (.t 0) 3 true),
 zg0 2 (.mov (zi0 0))] [1] [1])
 (.seq (.reg false [zg0 3 (.mov (zi0 0))] [1, 3] [1])
 (.seq (.seq (.reg false [zg0 6 (.ld (.t 1) 3 true),
 zg0 7 (.mov (zi0 0))] [3, 6, 7] [])
 (.block 0 lp82_0))
 (.seq (.reg false [zm0 15 3,
 zm0 2 15] [2] [])
 .ret)))),
 [.tmp 2], false⟩
def ir83 : IFn :=   -- tympan/queue.Ready
⟨(.seq (.reg false [zg0 2 (.bx (.t 0) 3 true),
 zg0 3 (.bx (.t 1) 3 true),
 zg0 4 (.al [zo0, zo0, zo0] true)] [2, 3, 4] [2, 3, 4])
 (.seq (.reg false [zg0 5 (.ld (.t 2) 3 true),
 zg0 6 (.ld (.t 3) 3 true),
 zg0 7 (.call 162 [(.t 5), (.t 6), (zi0 0), (.c (.p (.fn 173)))] false),
 zn0 (.st (.t 4) (.t 7) 3)] [4] [4])
 .ret)),
 [.cell 4 3 true], false⟩
def ir84 : IFn :=   -- (*tympan/state.World).parts
⟨(.seq (.reg false [zg0 2 (.mov (.c (.p .nilp)))] [0] [])
 (.seq (.seq (.reg false [zm0 3 0,
 zg0 4 (.eqn .ptr false (.t 3))] [0, 4] [])
 (.cond (.t 4)
 (.seq (.reg false [zg0 2 (.mov (.c (.p .nilp)))] [2] [])
 .ret)
 .skip))
 (.seq (.reg false [zm0 5 0,
 zg0 6 (.nck (.t 5)),
 zg0 7 (.off (.t 6) 0),
 zg0 8 (.ld (.t 7) 1 false),
 zm0 2 8] [2] [])
 .ret))),
 [.tmp 2], false⟩
def ir85 : IFn :=   -- (*tympan/state.text).List
⟨(.seq (.reg false [zg0 2 (.mov (.c (.p .nilp)))] [0] [])
 (.seq (.seq (.reg false [zm0 3 0,
 zg0 4 (.eqn .ptr false (.t 3))] [0, 4] [])
 (.cond (.t 4)
 (.seq (.reg false [zg0 2 (.mov (.c (.p .nilp)))] [2] [])
 .ret)
 .skip))
 (.seq (.reg false [zm0 5 0,
 zg0 6 (.nck (.t 5)),
 zg0 7 (.off (.t 6) 0),
 zg0 8 (.ld (.t 7) 1 false),
 zm0 2 8] [2] [])
 .ret))),
 [.tmp 2], false⟩
def ir86 : IFn :=   -- (*tympan/state.text).Sums
⟨(.seq (.reg false [zg0 2 (.mov (.c (.p .nilp)))] [0] [])
 (.seq (.seq (.reg false [zm0 3 0,
 zg0 4 (.eqn .ptr false (.t 3))] [0, 4] [])
 (.cond (.t 4)
 (.seq (.reg false [zg0 2 (.mov (.c (.p .nilp)))] [2] [])
 .ret)
 .skip))
 (.seq (.reg false [zm0 5 0,
 zg0 6 (.nck (.t 5)),
 zg0 7 (.off (.t 6) 1),
 zg0 8 (.ld (.t 7) 1 false),
 zm0 2 8] [2] [])
 .ret))),
 [.tmp 2], false⟩
def ir88 : IFn :=   -- (*tympan/anchor.Map).Begun
⟨(.seq (.reg false [zg0 4 (.mov (zi0 0))] [0, 1] [])
 (.seq (.reg false [zm0 7 0,
 zm0 8 1,
 zg0 9 (.call 156 [(.t 7), (.t 8)] false),
 zm0 6 9,
 zg0 10 (.ext (.t 6) 0),
 zg0 11 (.ext (.t 6) 1),
 zm0 1 10,
 zm0 5 11] [0, 1, 5] [])
 (.seq (.seq (.reg false [zm0 12 5,
 zg0 13 (.un .not (.t 12))] [0, 1, 13] [])
 (.cond (.t 13)
 (.seq (.reg false [zg0 4 (.mov (zi0 0))] [4] [])
 .ret)
 .skip))
 (.seq (.reg false [zm0 14 0,
 zg0 15 (.nck (.t 14)),
 zg0 16 (.off (.t 15) 1),
 zg0 17 (.ld (.t 16) 1 false),
 zm0 18 1,
 zg0 19 (.ixs (.t 17) (.t 18) 1),
 zg0 20 (.ld (.t 19) 1 false),
 zm0 4 20] [4] [])
 .ret)))),
 [.tmp 4], false⟩
def lp89_0 : IC :=
 (.loop [1, 3, 4] [1, 3] (.seq (.seq (.reg false [zm0 24 4,
 zg0 25 (.bin .lss (.t 24) (zi0 3))] [1, 3, 4, 25] [1, 3])
 (.cond (.t 25)
 .skip
 (.exit 0)))
 (.seq (.block 1 (.seq (.reg false [zm0 28 4,
 zg0 29 (.ixa (.t 3) (.t 28) 1 3),
 zg0 30 (.ld (.t 29) 1 false),
 zg0 31 (.bin .lss (.t 30) (zi0 1)),
 zm0 32 31,
 zf0 33 32 (.mov (.t 4)),
 zf0 34 32 (.ixa (.t 3) (.t 33) 1 3),
 zf0 35 32 (.ld (.t 34) 1 false),
 zf0 36 32 (.bin .gtr (.t 35) (zi0 1073741823)),
 zg0 37 (.pick (.t 32) zT0 (.t 36))] [1, 3, 4, 37] [1, 3])
 (.cond (.t 37)
 (.seq (.reg false [zg0 2 (.mov (zi0 7))] [2] [])
 .ret)
 .skip)))
 (.reg false [zm0 26 4,
 zg0 27 (.bin .add (.t 26) (zi0 1)),
 zm0 4 27] [1, 3, 4] [1, 3]))))
def lp89_1 : IC :=
 (.loop [1, 5, 6] [1, 5] (.seq (.seq (.reg false [zm0 53 6,
 zg0 54 (.bin .lss (.t 53) (zi0 7))] [1, 5, 6, 54] [1, 5])
 (.cond (.t 54)
 .skip
 (.exit 2)))
 (.seq (.block 3 (.seq (.reg false [zm0 57 6,
 zg0 58 (.ixa (.t 5) (.t 57) 1 7),
 zg0 59 (.ld (.t 58) 1 false),
 zg0 60 (.bin .lss (.t 59) (zi0 0)),
 zm0 61 60,
 zf0 62 61 (.mov (.t 6)),
 zf0 63 61 (.ixa (.t 5) (.t 62) 1 7),
 zf0 64 61 (.ld (.t 63) 1 false),
 zf0 65 61 (.bin .gtr (.t 64) (zi0 1073741823)),
 zg0 66 (.pick (.t 61) zT0 (.t 65))] [1, 5, 6, 66] [1, 5])
 (.cond (.t 66)
 (.seq (.reg false [zg0 2 (.mov (zi0 7))] [2] [])
 .ret)
 .skip)))
 (.reg false [zm0 55 6,
 zg0 56 (.bin .add (.t 55) (zi0 1)),
 zm0 6 56] [1, 5, 6] [1, 5]))))
def lp89_2 : IC :=
 (.loop [1, 7, 8] [1, 7] (.seq (.seq (.reg false [zm0 82 8,
 zg0 83 (.bin .lss (.t 82) (zi0 7))] [1, 7, 8, 83] [1, 7])
 (.cond (.t 83)
 .skip
 (.exit 4)))
 (.seq (.block 5 (.seq (.reg false [zm0 86 8,
 zg0 87 (.ixa (.t 7) (.t 86) 1 7),
 zg0 88 (.ld (.t 87) 1 false),
 zg0 89 (.bin .lss (.t 88) (zi0 0)),
 zm0 90 89,
 zf0 91 90 (.mov (.t 8)),
 zf0 92 90 (.ixa (.t 7) (.t 91) 1 7),
 zf0 93 90 (.ld (.t 92) 1 false),
 zf0 94 90 (.bin .gtr (.t 93) (zi0 1048576)),
 zg0 95 (.pick (.t 90) zT0 (.t 94)),
 zm0 96 95,
 zf0 97 96 (.mov (.t 8)),
 zf0 98 96 (.bin .lss (.t 97) (zi0 2)),
 zf0 99 96 (.mov (.t 98)),
 zt0 100 99 (.mov (.t 8)),
 zt0 101 99 (.ixa (.t 7) (.t 100) 1 7),
 zt0 102 99 (.ld (.t 101) 1 false),
 zt0 103 99 (.bin .gtr (.t 102) (zi0 4)),
 zf0 104 96 (.pick (.t 99) (.t 103) zF0),
 zg0 105 (.pick (.t 96) zT0 (.t 104))] [1, 7, 8, 105] [1, 7])
 (.cond (.t 105)
 (.seq (.reg false [zg0 2 (.mov (zi0 7))] [2] [])
 .ret)
 .skip)))
 (.reg false [zm0 84 8,
 zg0 85 (.bin .add (.t 84) (zi0 1)),
 zm0 8 85] [1, 7, 8] [1, 7]))))
def ir89 : IFn :=   -- tympan/tympanref13.Check
⟨(.seq (.reg false [zg0 1 (.bx (.t 0) 19 true),
 zg0 2 (.mov (zi0 0))] [1] [1])
 (.seq (.seq (.reg false [zg0 9 (.off (.t 1) 0),
 zg0 10 (.ld (.t 9) 1 false),
 zg0 11 (.bin .lss (.t 10) (zi0 1)),
 zm0 12 11,
 zf0 13 12 (.off (.t 1) 0),
 zf0 14 12 (.ld (.t 13) 1 false),
 zf0 15 12 (.bin .gtr (.t 14) (zi0 8)),
 zg0 16 (.pick (.t 12) zT0 (.t 15))] [1, 16] [1])
 (.cond (.t 16)
 (.seq (.reg false [zg0 2 (.mov (zi0 6))] [2] [])
 .ret)
 .skip))
 (.seq (.reg false [zg0 17 (.off (.t 1) 1),
 zg0 18 (.ld (.t 17) 1 false),
 zg0 19 (.off (.t 1) 3),
 zg0 20 (.ld (.t 19) 1 false),
 zg0 21 (.off (.t 1) 4),
 zg0 22 (.ld (.t 21) 1 false),
 zg0 23 (.bld [zo0, zo0, zo0] [(0, 1, (.t 18)), (1, 1, (.t 20)), (2, 1, (.t 22))]),
 zg0 3 (.al [zo0, zo0, zo0] true),
 zn0 (.st (.t 3) (.t 23) 3)] [1, 3] [1, 3])
 (.seq (.seq (.reg false [zg0 4 (.mov (zi0 0))] [1, 3, 4] [1, 3])
 (.block 0 lp89_0))
 (.seq (.reg false [zg0 38 (.off (.t 1) 2),
 zg0 39 (.ld (.t 38) 1 false),
 zg0 40 (.off (.t 1) 6),
 zg0 41 (.ld (.t 40) 1 false),
 zg0 42 (.off (.t 1) 7),
 zg0 43 (.ld (.t 42) 1 false),
 zg0 44 (.off (.t 1) 8),
 zg0 45 (.ld (.t 44) 1 false),
 zg0 46 (.off (.t 1) 9),
 zg0 47 (.ld (.t 46) 1 false),
 zg0 48 (.off (.t 1) 10),
 zg0 49 (.ld (.t 48) 1 false),
 zg0 50 (.off (.t 1) 5),
 zg0 51 (.ld (.t 50) 1 false),
 zg0 52 (.bld [zo0, zo0, zo0, zo0, zo0, zo0, zo0] [(0, 1, (.t 39)), (1, 1, (.t 41)), (2, 1, (.t 43)), (3, 1, (.t 45)), (4, 1, (.t 47)), (5, 1, (.t 49)), (6, 1, (.t 51))]),
 zg0 5 (.al [zo0, zo0, zo0, zo0, zo0, zo0, zo0] true),
 zn0 (.st (.t 5) (.t 52) 7)] [1, 5] [1, 5])
 (.seq (.seq (.reg false [zg0 6 (.mov (zi0 0))] [1, 5, 6] [1, 5])
 (.block 2 lp89_1))
 (.seq (.reg false [zg0 67 (.off (.t 1) 11),
 zg0 68 (.ld (.t 67) 1 false),
 zg0 69 (.off (.t 1) 12),
 zg0 70 (.ld (.t 69) 1 false),
 zg0 71 (.off (.t 1) 13),
 zg0 72 (.ld (.t 71) 1 false),
 zg0 73 (.off (.t 1) 14),
 zg0 74 (.ld (.t 73) 1 false),
 zg0 75 (.off (.t 1) 15),
 zg0 76 (.ld (.t 75) 1 false),
 zg0 77 (.off (.t 1) 16),
 zg0 78 (.ld (.t 77) 1 false),
 zg0 79 (.off (.t 1) 17),
 zg0 80 (.ld (.t 79) 1 false),
 zg0 81 (.bld [zo0, zo0, zo0, zo0, zo0, zo0, zo0] [(0, 1, (.t 68)), (1, 1, (.t 70)), (2, 1, (.t 72)), (3, 1, (.t 74)), (4, 1, (.t 76)), (5, 1, (.t 78)), (6, 1, (.t 80))]),
 zg0 7 (.al [zo0, zo0, zo0, zo0, zo0, zo0, zo0] true),
 zn0 (.st (.t 7) (.t 81) 7)] [1, 7] [1, 7])
 (.seq (.seq (.reg false [zg0 8 (.mov (zi0 0))] [1, 7, 8] [1, 7])
 (.block 4 lp89_2))
 (.seq (.seq (.reg false [zg0 106 (.off (.t 1) 4),
 zg0 107 (.ld (.t 106) 1 false),
 zg0 108 (.off (.t 1) 3),
 zg0 109 (.ld (.t 108) 1 false),
 zg0 110 (.bin .gtr (.t 107) (.t 109)),
 zm0 111 110,
 zf0 112 111 (.off (.t 1) 5),
 zf0 113 111 (.ld (.t 112) 1 false),
 zf0 114 111 (.off (.t 1) 4),
 zf0 115 111 (.ld (.t 114) 1 false),
 zf0 116 111 (.bin .gtr (.t 113) (.t 115)),
 zg0 117 (.pick (.t 111) zT0 (.t 116)),
 zm0 118 117,
 zf0 119 118 (.off (.t 1) 5),
 zf0 120 118 (.ld (.t 119) 1 false),
 zf0 121 118 (.bin .gtr (.t 120) (zi0 536870912)),
 zg0 122 (.pick (.t 118) zT0 (.t 121)),
 zm0 123 122,
 zf0 124 123 (.off (.t 1) 6),
 zf0 125 123 (.ld (.t 124) 1 false),
 zf0 126 123 (.bin .gtr (.t 125) (zi0 536870912)),
 zg0 127 (.pick (.t 123) zT0 (.t 126)),
 zm0 128 127,
 zf0 129 128 (.off (.t 1) 7),
 zf0 130 128 (.ld (.t 129) 1 false),
 zf0 131 128 (.bin .gtr (.t 130) (zi0 536870912)),
 zg0 132 (.pick (.t 128) zT0 (.t 131))] [132] [])
 (.cond (.t 132)
 (.seq (.reg false [zg0 2 (.mov (zi0 7))] [2] [])
 .ret)
 .skip))
 (.seq (.reg false [zg0 2 (.mov (zi0 0))] [2] [])
 .ret)))))))))),
 [.tmp 2], false⟩
def ir90 : IFn :=   -- tympan/tympanref10.Right
⟨(.seq (.reg false [zg0 1 (.bx (.t 0) 7 true),
 zg0 2 (.mov zF0)] [1] [1])
 (.seq (.reg false [zg0 4 (.off (.t 1) 0),
 zg0 5 (.ld (.t 4) 1 false),
 zg0 6 (.bld [zo0, zo0, zo0, zo0, zo0, zo0, zo0] [(0, 1, (.t 5))]),
 zg0 3 (.al [zo0, zo0, zo0, zo0, zo0, zo0, zo0] true),
 zn0 (.st (.t 3) (.t 6) 7)] [1, 3] [1, 3])
 (.seq (.seq (.reg false [zg0 7 (.off (.t 1) 0),
 zg0 8 (.ld (.t 7) 1 false)] [1, 3, 8] [1, 3])
 (.block 0 (.seq (.reg false [zg0 10 (.bin .eql (.t 8) (zi0 1)),
 zm0 9 10] [1, 3, 8, 9] [1, 3])
 (.cond (.t 9)
 (.seq (.reg false [zg0 11 (.off (.t 1) 1),
 zg0 12 (.ld (.t 11) 1 false),
 zg0 13 (.off (.t 3) 1),
 zn0 (.st (.t 13) (.t 12) 1)] [1, 3] [1, 3])
 (.reg false [zg0 14 (.off (.t 1) 2),
 zg0 15 (.ld (.t 14) 1 false),
 zg0 16 (.off (.t 3) 2),
 zn0 (.st (.t 16) (.t 15) 1)] [1, 3] [1, 3]))
 (.seq (.reg false [zg0 18 (.bin .eql (.t 8) (zi0 2)),
 zm0 17 18] [1, 3, 8, 17] [1, 3])
 (.cond (.t 17)
 (.seq (.reg false [zg0 19 (.off (.t 1) 1),
 zg0 20 (.ld (.t 19) 1 false),
 zg0 21 (.off (.t 3) 1),
 zn0 (.st (.t 21) (.t 20) 1)] [1, 3] [1, 3])
 (.seq (.reg false [zg0 22 (.off (.t 1) 3),
 zg0 23 (.ld (.t 22) 1 false),
 zg0 24 (.off (.t 3) 3),
 zn0 (.st (.t 24) (.t 23) 1)] [1, 3] [1, 3])
 (.seq (.reg false [zg0 25 (.off (.t 1) 4),
 zg0 26 (.ld (.t 25) 1 false),
 zg0 27 (.off (.t 3) 4),
 zn0 (.st (.t 27) (.t 26) 1)] [1, 3] [1, 3])
 (.reg false [zg0 28 (.off (.t 1) 5),
 zg0 29 (.ld (.t 28) 1 false),
 zg0 30 (.off (.t 3) 5),
 zn0 (.st (.t 30) (.t 29) 1)] [1, 3] [1, 3]))))
 (.seq (.reg false [zg0 32 (.bin .eql (.t 8) (zi0 3)),
 zm0 31 32] [1, 3, 8, 31] [1, 3])
 (.cond (.t 31)
 (.seq (.reg false [zg0 33 (.off (.t 1) 6),
 zg0 34 (.ld (.t 33) 1 false),
 zg0 35 (.off (.t 3) 6),
 zn0 (.st (.t 35) (.t 34) 1)] [1, 3] [1, 3])
 (.seq (.reg false [zg0 36 (.off (.t 1) 6),
 zg0 37 (.ld (.t 36) 1 false),
 zg0 38 (.bin .neq (.t 37) (zi0 (-10000))),
 zm0 39 38,
 zt0 40 39 (.off (.t 1) 6),
 zt0 41 39 (.ld (.t 40) 1 false),
 zt0 42 39 (.bin .lss (.t 41) (zi0 0)),
 zt0 43 39 (.mov (.t 42)),
 zf0 44 43 (.off (.t 1) 6),
 zf0 45 43 (.ld (.t 44) 1 false),
 zf0 46 43 (.bin .gtr (.t 45) (zi0 10000)),
 zt0 47 39 (.pick (.t 43) zT0 (.t 46)),
 zg0 48 (.pick (.t 39) (.t 47) zF0)] [1, 3, 48] [1, 3])
 (.cond (.t 48)
 (.seq (.reg false [zg0 2 (.mov zF0)] [2] [])
 .ret)
 .skip)))
 (.seq (.reg false [zg0 50 (.bin .eql (.t 8) (zi0 4)),
 zm0 49 50] [1, 3, 8, 49] [1, 3])
 (.cond (.t 49)
 (.seq (.reg false [zg0 51 (.off (.t 1) 6),
 zg0 52 (.ld (.t 51) 1 false),
 zg0 53 (.off (.t 3) 6),
 zn0 (.st (.t 53) (.t 52) 1)] [1, 3] [1, 3])
 (.seq (.reg false [zg0 54 (.off (.t 1) 6),
 zg0 55 (.ld (.t 54) 1 false),
 zg0 56 (.bin .lss (.t 55) (zi0 0)),
 zm0 57 56,
 zf0 58 57 (.off (.t 1) 6),
 zf0 59 57 (.ld (.t 58) 1 false),
 zf0 60 57 (.bin .gtr (.t 59) (zi0 1048576)),
 zg0 61 (.pick (.t 57) zT0 (.t 60))] [1, 3, 61] [1, 3])
 (.cond (.t 61)
 (.seq (.reg false [zg0 2 (.mov zF0)] [2] [])
 .ret)
 .skip)))
 (.seq (.reg false [zg0 63 (.bin .eql (.t 8) (zi0 5)),
 zm0 62 63] [1, 3, 8, 62] [1, 3])
 (.cond (.t 62)
 (.seq (.reg false [zg0 64 (.off (.t 1) 6),
 zg0 65 (.ld (.t 64) 1 false),
 zg0 66 (.off (.t 3) 6),
 zn0 (.st (.t 66) (.t 65) 1)] [1, 3] [1, 3])
 (.seq (.reg false [zg0 67 (.off (.t 1) 6),
 zg0 68 (.ld (.t 67) 1 false),
 zg0 69 (.bin .lss (.t 68) (zi0 0)),
 zm0 70 69,
 zf0 71 70 (.off (.t 1) 6),
 zf0 72 70 (.ld (.t 71) 1 false),
 zf0 73 70 (.bin .gtr (.t 72) (zi0 511)),
 zg0 74 (.pick (.t 70) zT0 (.t 73))] [1, 3, 74] [1, 3])
 (.cond (.t 74)
 (.seq (.reg false [zg0 2 (.mov zF0)] [2] [])
 .ret)
 .skip)))
 (.seq (.reg false [zg0 76 (.bin .eql (.t 8) (zi0 6)),
 zm0 75 76] [1, 3, 8, 75] [1, 3])
 (.cond (.t 75)
 (.seq (.reg false [zg0 77 (.off (.t 1) 6),
 zg0 78 (.ld (.t 77) 1 false),
 zg0 79 (.off (.t 3) 6),
 zn0 (.st (.t 79) (.t 78) 1)] [1, 3] [1, 3])
 (.seq (.reg false [zg0 80 (.off (.t 1) 6),
 zg0 81 (.ld (.t 80) 1 false),
 zg0 82 (.bin .lss (.t 81) (zi0 0)),
 zm0 83 82,
 zf0 84 83 (.off (.t 1) 6),
 zf0 85 83 (.ld (.t 84) 1 false),
 zf0 86 83 (.bin .gtr (.t 85) (zi0 255)),
 zg0 87 (.pick (.t 83) zT0 (.t 86))] [1, 3, 87] [1, 3])
 (.cond (.t 87)
 (.seq (.reg false [zg0 2 (.mov zF0)] [2] [])
 .ret)
 .skip)))
 (.seq (.reg false [zg0 89 (.bin .eql (.t 8) (zi0 7)),
 zm0 88 89] [1, 3, 88] [1, 3])
 (.cond (.t 88)
 .skip
 (.seq (.reg false [zg0 2 (.mov zF0)] [2] [])
 .ret)))))))))))))))))
 (.seq (.reg false [zg0 90 (.ld (.t 1) 7 true),
 zg0 91 (.ld (.t 3) 7 true),
 zg0 92 (.eqa false [true, true, true, true, true, true, true] (.t 90) (.t 91)),
 zm0 93 92,
 zt0 94 93 (.off (.t 1) 1),
 zt0 95 93 (.ld (.t 94) 1 false),
 zt0 96 93 (.call 174 [(.t 95)] false),
 zg0 97 (.pick (.t 93) (.t 96) zF0),
 zm0 98 97,
 zt0 99 98 (.off (.t 1) 3),
 zt0 100 98 (.ld (.t 99) 1 false),
 zt0 101 98 (.call 174 [(.t 100)] false),
 zg0 102 (.pick (.t 98) (.t 101) zF0),
 zm0 103 102,
 zt0 104 103 (.off (.t 1) 5),
 zt0 105 103 (.ld (.t 104) 1 false),
 zt0 106 103 (.call 174 [(.t 105)] false),
 zg0 107 (.pick (.t 103) (.t 106) zF0),
 zm0 108 107,
 zt0 109 108 (.off (.t 1) 2),
 zt0 110 108 (.ld (.t 109) 1 false),
 zt0 111 108 (.bin .geq (.t 110) (zi0 0)),
 zg0 112 (.pick (.t 108) (.t 111) zF0),
 zm0 113 112,
 zt0 114 113 (.off (.t 1) 2),
 zt0 115 113 (.ld (.t 114) 1 false),
 zt0 116 113 (.bin .leq (.t 115) (zi0 3)),
 zg0 117 (.pick (.t 113) (.t 116) zF0),
 zm0 118 117,
 zt0 119 118 (.off (.t 1) 4),
 zt0 120 118 (.ld (.t 119) 1 false),
 zt0 121 118 (.bin .geq (.t 120) (zi0 0)),
 zg0 122 (.pick (.t 118) (.t 121) zF0),
 zm0 123 122,
 zt0 124 123 (.off (.t 1) 4),
 zt0 125 123 (.ld (.t 124) 1 false),
 zt0 126 123 (.bin .leq (.t 125) (zi0 3)),
 zg0 127 (.pick (.t 123) (.t 126) zF0),
 zm0 128 127,
 zt0 129 128 (.off (.t 1) 0),
 zt0 130 128 (.ld (.t 129) 1 false),
 zt0 131 128 (.bin .neq (.t 130) (zi0 2)),
 zt0 132 128 (.mov (.t 131)),
 zf0 133 132 (.off (.t 1) 5),
 zf0 134 132 (.ld (.t 133) 1 false),
 zf0 135 132 (.off (.t 1) 1),
 zf0 136 132 (.ld (.t 135) 1 false),
 zf0 137 132 (.bin .leq (.t 134) (.t 136)),
 zt0 138 128 (.pick (.t 132) zT0 (.t 137)),
 zg0 139 (.pick (.t 128) (.t 138) zF0),
 zm0 2 139] [2] [])
 .ret)))),
 [.tmp 2], false⟩
def lp91_0 : IC :=
 (.loop [1, 3] [1] (.seq (.seq (.reg false [zm0 25 3,
 zg0 26 (.off (.t 1) 0),
 zg0 27 (.ld (.t 26) 1 false),
 zg0 28 (.len (.t 27)),
 zg0 29 (.bin .lss (.t 25) (.t 28))] [1, 3, 29] [1])
 (.cond (.t 29)
 .skip
 (.exit 0)))
 (.seq (.block 1 (.seq (.reg false [zg0 32 (.off (.t 1) 0),
 zg0 33 (.ld (.t 32) 1 false),
 zm0 34 3,
 zg0 35 (.ixs (.t 33) (.t 34) 1),
 zg0 36 (.ld (.t 35) 1 false),
 zg0 37 (.bin .lss (.t 36) (zi0 1)),
 zm0 38 37,
 zf0 39 38 (.off (.t 1) 0),
 zf0 40 38 (.ld (.t 39) 1 false),
 zf0 41 38 (.mov (.t 3)),
 zf0 42 38 (.ixs (.t 40) (.t 41) 1),
 zf0 43 38 (.ld (.t 42) 1 false),
 zf0 44 38 (.bin .gtr (.t 43) (zi0 1073741823)),
 zg0 45 (.pick (.t 38) zT0 (.t 44))] [1, 3, 45] [1])
 (.cond (.t 45)
 (.seq (.reg false [zg0 2 (.mov zF0)] [2] [])
 .ret)
 .skip)))
 (.reg false [zm0 30 3,
 zg0 31 (.bin .add (.t 30) (zi0 1)),
 zm0 3 31] [1, 3] [1]))))
def lp91_1 : IC :=
 (.loop [1, 4] [1] (.seq (.seq (.reg false [zm0 46 4,
 zg0 47 (.off (.t 1) 1),
 zg0 48 (.ld (.t 47) 1 false),
 zg0 49 (.len (.t 48)),
 zg0 50 (.bin .lss (.t 46) (.t 49))] [1, 4, 50] [1])
 (.cond (.t 50)
 .skip
 (.exit 2)))
 (.seq (.block 3 (.seq (.reg false [zg0 53 (.off (.t 1) 1),
 zg0 54 (.ld (.t 53) 1 false),
 zm0 55 4,
 zg0 56 (.ixs (.t 54) (.t 55) 1),
 zg0 57 (.ld (.t 56) 1 false),
 zg0 58 (.bin .lss (.t 57) (zi0 0)),
 zm0 59 58,
 zf0 60 59 (.off (.t 1) 1),
 zf0 61 59 (.ld (.t 60) 1 false),
 zf0 62 59 (.mov (.t 4)),
 zf0 63 59 (.ixs (.t 61) (.t 62) 1),
 zf0 64 59 (.ld (.t 63) 1 false),
 zf0 65 59 (.bin .gtr (.t 64) (zi0 10000)),
 zg0 66 (.pick (.t 59) zT0 (.t 65))] [1, 4, 66] [1])
 (.cond (.t 66)
 (.seq (.reg false [zg0 2 (.mov zF0)] [2] [])
 .ret)
 .skip)))
 (.reg false [zm0 51 4,
 zg0 52 (.bin .add (.t 51) (zi0 1)),
 zm0 4 52] [1, 4] [1]))))
def ir91 : IFn :=   -- tympan/tympanref11.Check
⟨(.seq (.reg false [zg0 1 (.bx (.t 0) 2 true),
 zg0 2 (.mov zF0)] [1] [1])
 (.seq (.seq (.reg false [zg0 5 (.off (.t 1) 0),
 zg0 6 (.ld (.t 5) 1 false),
 zg0 7 (.len (.t 6)),
 zg0 8 (.bin .lss (.t 7) (zi0 1)),
 zm0 9 8,
 zf0 10 9 (.off (.t 1) 0),
 zf0 11 9 (.ld (.t 10) 1 false),
 zf0 12 9 (.len (.t 11)),
 zf0 13 9 (.bin .gtr (.t 12) (zi0 64)),
 zg0 14 (.pick (.t 9) zT0 (.t 13)),
 zm0 15 14,
 zf0 16 15 (.off (.t 1) 1),
 zf0 17 15 (.ld (.t 16) 1 false),
 zf0 18 15 (.len (.t 17)),
 zf0 19 15 (.off (.t 1) 0),
 zf0 20 15 (.ld (.t 19) 1 false),
 zf0 21 15 (.len (.t 20)),
 zf0 22 15 (.bin .sub (.t 21) (zi0 1)),
 zf0 23 15 (.bin .neq (.t 18) (.t 22)),
 zg0 24 (.pick (.t 15) zT0 (.t 23))] [1, 24] [1])
 (.cond (.t 24)
 (.seq (.reg false [zg0 2 (.mov zF0)] [2] [])
 .ret)
 .skip))
 (.seq (.seq (.reg false [zg0 3 (.mov (zi0 0))] [1, 3] [1])
 (.block 0 lp91_0))
 (.seq (.seq (.reg false [zg0 4 (.mov (zi0 0))] [1, 4] [1])
 (.block 2 lp91_1))
 (.seq (.reg false [zg0 2 (.mov zT0)] [2] [])
 .ret))))),
 [.tmp 2], false⟩
def ir92 : IFn :=   -- tympan/tympanref12.Right
⟨(.seq (.reg false [zg0 1 (.bx (.t 0) 3 true),
 zg0 2 (.mov zF0)] [1] [1])
 (.seq (.reg false [zg0 3 (.off (.t 1) 0),
 zg0 4 (.ld (.t 3) 1 false),
 zg0 5 (.bin .geq (.t 4) (zi0 0)),
 zm0 6 5,
 zt0 7 6 (.off (.t 1) 0),
 zt0 8 6 (.ld (.t 7) 1 false),
 zt0 9 6 (.bin .leq (.t 8) (zi0 2)),
 zg0 10 (.pick (.t 6) (.t 9) zF0),
 zm0 11 10,
 zt0 12 11 (.off (.t 1) 1),
 zt0 13 11 (.ld (.t 12) 1 false),
 zt0 14 11 (.bin .geq (.t 13) (zi0 1)),
 zg0 15 (.pick (.t 11) (.t 14) zF0),
 zm0 16 15,
 zt0 17 16 (.off (.t 1) 1),
 zt0 18 16 (.ld (.t 17) 1 false),
 zt0 19 16 (.bin .leq (.t 18) (zi0 1073741823)),
 zg0 20 (.pick (.t 16) (.t 19) zF0),
 zm0 21 20,
 zt0 22 21 (.off (.t 1) 2),
 zt0 23 21 (.ld (.t 22) 1 false),
 zt0 24 21 (.bin .geq (.t 23) (zi0 0)),
 zg0 25 (.pick (.t 21) (.t 24) zF0),
 zm0 26 25,
 zt0 27 26 (.off (.t 1) 2),
 zt0 28 26 (.ld (.t 27) 1 false),
 zt0 29 26 (.bin .leq (.t 28) (zi0 3)),
 zg0 30 (.pick (.t 26) (.t 29) zF0),
 zm0 2 30] [2] [])
 .ret)),
 [.tmp 2], false⟩
def lp93_0 : IC :=
 (.loop [0, 1, 2, 7, 8] [] (.seq (.seq (.reg false [zm0 9 8,
 zm0 10 0,
 zg0 11 (.len (.t 10)),
 zg0 12 (.bin .lss (.t 9) (.t 11))] [0, 1, 2, 7, 8, 12] [])
 (.cond (.t 12)
 .skip
 (.exit 0)))
 (.seq (.block 1 (.seq (.reg false [zm0 15 0,
 zm0 16 8,
 zg0 17 (.ixs (.t 15) (.t 16) 7),
 zg0 18 (.off (.t 17) 0),
 zg0 19 (.ld (.t 18) 1 false),
 zm0 20 1,
 zg0 21 (.bin .eql (.t 19) (.t 20))] [0, 1, 2, 7, 8, 21] [])
 (.cond (.t 21)
 (.seq (.seq (.reg false [zm0 22 0,
 zm0 23 8,
 zg0 24 (.ixs (.t 22) (.t 23) 7),
 zg0 25 (.off (.t 24) 6),
 zg0 26 (.ld (.t 25) 1 false),
 zm0 27 7,
 zg0 28 (.bin .neq (.t 26) (.t 27)),
 zm0 29 28,
 zf0 30 29 (.mov (.t 7)),
 zf0 31 29 (.mov (.t 2)),
 zf0 32 29 (.bin .geq (.t 30) (.t 31)),
 zg0 33 (.pick (.t 29) zT0 (.t 32))] [0, 1, 2, 7, 8, 33] [])
 (.cond (.t 33)
 (.seq (.reg false [zm0 34 8,
 zm0 6 34] [6] [])
 .ret)
 .skip))
 (.reg false [zm0 35 7,
 zg0 36 (.bin .add (.t 35) (zi0 1)),
 zm0 7 36] [0, 1, 2, 7, 8] []))
 .skip)))
 (.reg false [zm0 13 8,
 zg0 14 (.bin .add (.t 13) (zi0 1)),
 zm0 8 14] [0, 1, 2, 7, 8] []))))
def ir93 : IFn :=   -- tympan/tympanref15.anchors
⟨(.seq (.reg false [zg0 6 (.mov (zi0 0))] [0, 1, 2] [])
 (.seq (.reg false [zg0 7 (.mov (zi0 0))] [0, 1, 2, 7] [])
 (.seq (.seq (.reg false [zg0 8 (.mov (zi0 0))] [0, 1, 2, 7, 8] [])
 (.block 0 lp93_0))
 (.seq (.seq (.reg false [zm0 37 7,
 zm0 38 2,
 zg0 39 (.bin .lss (.t 37) (.t 38))] [0, 39] [])
 (.cond (.t 39)
 (.seq (.reg false [zm0 40 0,
 zg0 41 (.len (.t 40)),
 zm0 6 41] [6] [])
 .ret)
 .skip))
 (.seq (.reg false [zg0 6 (.mov (zi0 (-1)))] [6] [])
 .ret))))),
 [.tmp 6], false⟩
def ir98 : IFn :=   -- tympan/cost.Add
⟨(.seq (.reg false [zg0 2 (.bx (.t 0) 2 true),
 zg0 3 (.bx (.t 1) 2 true),
 zg0 4 (.al [zo0, zo0] true)] [2, 3, 4] [2, 3, 4])
 (.seq (.reg true [zg0 5 (.off (.t 2) 0),
 zg0 6 (.ldl 2 (.t 5) 1 false),
 zg0 7 (.off (.t 3) 0),
 zg0 8 (.ldl 3 (.t 7) 1 false),
 zg0 9 (.call 177 [(.t 6), (.t 8)] false),
 zg0 10 (.off (.t 2) 1),
 zg0 11 (.ldl 2 (.t 10) 1 false),
 zg0 12 (.off (.t 3) 1),
 zg0 13 (.ldl 3 (.t 12) 1 false),
 zg0 14 (.call 178 [(.t 11), (.t 13)] false),
 zg0 15 (.bld [zo0, zo0] [(0, 1, (.t 9)), (1, 1, (.t 14))]),
 zn0 (.stl 4 (.t 4) (.t 15) 2)] [4] [4])
 .ret)),
 [.cell 4 2 true], false⟩
end Go.EnvOf
