/- The engine's instructions for the functions, part 1. -/
import Derived.Test.YtddnebpblclpfaaGreatEngAll2
namespace Go.EnvOf
open Go Go.Eng
set_option maxRecDepth 100000
abbrev zm1 (d n : Nat) : GIns := ⟨some d, none, .mov (.t n)⟩
abbrev zT1 : Arg := .c (.p (.bool true))
abbrev zF1 : Arg := .c (.p (.bool false))
abbrev zg1 (d : Nat) (i : Ins) : GIns := ⟨some d, none, i⟩
abbrev zf1 (d k : Nat) (i : Ins) : GIns := ⟨some d, some (k, false), i⟩
abbrev zt1 (d k : Nat) (i : Ins) : GIns := ⟨some d, some (k, true), i⟩
abbrev zn1 (i : Ins) : GIns := ⟨none, none, i⟩
abbrev zi1 (n : Int) : Arg := .c (.p (.int .i64 n))
abbrev zo1 : V := .p (.int .i64 0)
def ir69 : IFn :=   -- (tympan/tympanref25.World).Right
⟨(.seq (.reg false [zg1 2 (.bx (.t 0) 22 true),
 zg1 3 (.bx (.t 1) 7 true),
 zg1 4 (.mov zF1)] [2, 3] [2, 3])
 (.seq (.reg false [zg1 11 (.off (.t 2) 0),
 zg1 12 (.off (.t 11) 19),
 zg1 13 (.ld (.t 12) 1 false),
 zm1 5 13] [2, 3, 5] [2, 3])
 (.seq (.seq (.reg true [zg1 14 (.off (.t 3) 0),
 zg1 15 (.ldl 3 (.t 14) 1 false),
 zg1 16 (.bin .lss (.t 15) (zi1 0)),
 zm1 17 16,
 zf1 18 17 (.off (.t 3) 0),
 zf1 19 17 (.ldl 3 (.t 18) 1 false),
 zf1 20 17 (.mov (.t 5)),
 zf1 21 17 (.len (.t 20)),
 zf1 22 17 (.bin .gtr (.t 19) (.t 21)),
 zg1 23 (.pick (.t 17) zT1 (.t 22)),
 zm1 24 23,
 zf1 25 24 (.mov (.t 5)),
 zf1 26 24 (.off (.t 3) 0),
 zf1 27 24 (.ldl 3 (.t 26) 1 false),
 zf1 28 24 (.call 72 [(.t 25), (.t 27)] false),
 zf1 29 24 (.off (.t 3) 0),
 zf1 30 24 (.ldl 3 (.t 29) 1 false),
 zf1 31 24 (.bin .neq (.t 28) (.t 30)),
 zg1 32 (.pick (.t 24) zT1 (.t 31)),
 zm1 33 32,
 zf1 34 33 (.off (.t 3) 1),
 zf1 35 33 (.ldl 3 (.t 34) 1 false),
 zf1 36 33 (.bin .lss (.t 35) (zi1 0)),
 zg1 37 (.pick (.t 33) zT1 (.t 36)),
 zm1 38 37,
 zf1 39 38 (.off (.t 3) 1),
 zf1 40 38 (.ldl 3 (.t 39) 1 false),
 zf1 41 38 (.off (.t 2) 0),
 zf1 42 38 (.off (.t 41) 0),
 zf1 43 38 (.off (.t 42) 0),
 zf1 44 38 (.ldl 2 (.t 43) 1 false),
 zf1 45 38 (.bin .gtr (.t 40) (.t 44)),
 zg1 46 (.pick (.t 38) zT1 (.t 45))] [2, 3, 5, 46] [2, 3])
 (.cond (.t 46)
 (.seq (.reg false [zg1 4 (.mov zF1)] [4] [])
 .ret)
 .skip))
 (.seq (.reg false [zg1 47 (.ld (.t 2) 22 true),
 zg1 48 (.off (.t 3) 0),
 zg1 49 (.ld (.t 48) 1 false),
 zg1 50 (.call 164 [(.t 47), (.t 49)] false),
 zm1 6 50] [2, 3, 5, 6] [2, 3])
 (.seq (.reg false [zg1 51 (.off (.t 3) 2),
 zg1 52 (.ld (.t 51) 1 false),
 zm1 53 6,
 zg1 54 (.bin .eql (.t 52) (.t 53)),
 zm1 55 54,
 zt1 56 55 (.off (.t 3) 3),
 zt1 57 55 (.ld (.t 56) 1 false),
 zt1 58 55 (.bin .eql (.t 57) (zi1 0)),
 zg1 59 (.pick (.t 55) (.t 58) zF1),
 zm1 7 59] [2, 3, 5, 6, 7] [2, 3])
 (.seq (.reg false [zg1 60 (.off (.t 3) 2),
 zg1 61 (.ld (.t 60) 1 false),
 zm1 62 6,
 zg1 63 (.bin .sub (.t 62) (zi1 1)),
 zg1 64 (.bin .eql (.t 61) (.t 63)),
 zm1 65 64,
 zt1 66 65 (.off (.t 3) 2),
 zt1 67 65 (.ld (.t 66) 1 false),
 zt1 68 65 (.bin .geq (.t 67) (zi1 0)),
 zg1 69 (.pick (.t 65) (.t 68) zF1),
 zm1 70 69,
 zt1 71 70 (.off (.t 3) 3),
 zt1 72 70 (.ld (.t 71) 1 false),
 zt1 73 70 (.bin .geq (.t 72) (zi1 1)),
 zg1 74 (.pick (.t 70) (.t 73) zF1),
 zm1 8 74] [2, 3, 5, 7, 8] [2, 3])
 (.seq (.seq (.reg false [zm1 75 8] [2, 3, 5, 7, 8, 75] [2, 3])
 (.cond (.t 75)
 (.seq (.reg false [zg1 76 (.off (.t 2) 0),
 zg1 77 (.off (.t 76) 20),
 zg1 78 (.ld (.t 77) 1 false),
 zg1 79 (.off (.t 3) 2),
 zg1 80 (.ld (.t 79) 1 false),
 zg1 81 (.ixs (.t 78) (.t 80) 2),
 zg1 82 (.ld (.t 81) 2 true),
 zg1 9 (.al [.nils, .nils] true),
 zn1 (.st (.t 9) (.t 82) 2)] [2, 3, 5, 7, 9] [2, 3, 9])
 (.reg false [zg1 83 (.off (.t 3) 3),
 zg1 84 (.ld (.t 83) 1 false),
 zg1 85 (.off (.t 9) 0),
 zg1 86 (.ld (.t 85) 1 false),
 zg1 87 (.len (.t 86)),
 zg1 88 (.bin .lss (.t 84) (.t 87)),
 zm1 89 88,
 zt1 90 89 (.ld (.t 9) 2 true),
 zt1 91 89 (.off (.t 3) 3),
 zt1 92 89 (.ld (.t 91) 1 false),
 zt1 93 89 (.call 165 [(.t 90), (.t 92)] false),
 zg1 94 (.pick (.t 89) (.t 93) zF1),
 zm1 8 94] [2, 3, 5, 7, 8] [2, 3]))
 .skip))
 (.seq (.reg false [zm1 95 5,
 zg1 96 (.off (.t 2) 0),
 zg1 97 (.off (.t 96) 21),
 zg1 98 (.ld (.t 97) 1 false),
 zg1 99 (.off (.t 3) 0),
 zg1 100 (.ld (.t 99) 1 false),
 zg1 101 (.call 166 [(.t 95), (.t 98), (.t 100)] false),
 zg1 10 (.al [zo1, zo1, zo1] true),
 zn1 (.st (.t 10) (.t 101) 3)] [3, 7, 8, 10] [3, 10])
 (.seq (.reg false [zm1 102 7,
 zm1 103 102,
 zf1 104 103 (.mov (.t 8)),
 zg1 105 (.pick (.t 103) zT1 (.t 104)),
 zm1 106 105,
 zt1 107 106 (.bld [zo1, zo1, zo1] []),
 zt1 108 106 (.off (.t 3) 4),
 zt1 109 106 (.ld (.t 108) 3 true),
 zt1 110 106 (.call 167 [(.t 107), (.t 109)] false),
 zg1 111 (.pick (.t 106) (.t 110) zF1),
 zm1 112 111,
 zt1 113 112 (.off (.t 3) 4),
 zt1 114 112 (.ld (.t 113) 3 true),
 zt1 115 112 (.ld (.t 10) 3 true),
 zt1 116 112 (.call 167 [(.t 114), (.t 115)] false),
 zg1 117 (.pick (.t 112) (.t 116) zF1),
 zm1 4 117] [4] [])
 .ret))))))))),
 [.tmp 4], false⟩
def ir70 : IFn :=   -- tympan/tympanref22.Next
⟨(.seq (.reg false [zg1 4 (.bx (.t 1) 4 true),
 zg1 6 (.al [zo1, zo1] true)] [0, 2, 4, 6] [4, 6])
 (.seq (.seq (.reg false [zm1 8 2,
 zg1 9 (.len (.t 8)),
 zg1 10 (.bin .eql (.t 9) (zi1 0))] [0, 2, 4, 6, 10] [4, 6])
 (.cond (.t 10)
 (.seq (.reg false [zg1 11 (.off (.t 4) 0),
 zg1 12 (.ld (.t 11) 1 false),
 zg1 13 (.off (.t 4) 1),
 zg1 14 (.ld (.t 13) 1 false),
 zg1 15 (.bld [zo1, zo1] [(0, 1, (.t 12)), (1, 1, (.t 14))]),
 zn1 (.st (.t 6) (.t 15) 2)] [6] [6])
 .ret)
 .skip))
 (.seq (.reg false [zm1 16 2,
 zm1 17 2,
 zg1 18 (.len (.t 17)),
 zg1 19 (.bin .sub (.t 18) (zi1 1)),
 zg1 20 (.ixs (.t 16) (.t 19) 3),
 zg1 21 (.ld (.t 20) 3 true),
 zg1 7 (.al [zo1, zo1, zo1] true),
 zn1 (.st (.t 7) (.t 21) 3)] [0, 6, 7] [6, 7])
 (.seq (.seq (.reg true [zg1 22 (.off (.t 7) 0),
 zg1 23 (.ldl 7 (.t 22) 1 false),
 zg1 24 (.bin .geq (.t 23) (zi1 0)),
 zm1 25 24,
 zt1 26 25 (.off (.t 7) 0),
 zt1 27 25 (.ldl 7 (.t 26) 1 false),
 zt1 28 25 (.mov (.t 0)),
 zt1 29 25 (.len (.t 28)),
 zt1 30 25 (.bin .lss (.t 27) (.t 29)),
 zg1 31 (.pick (.t 25) (.t 30) zF1),
 zm1 32 31,
 zt1 33 32 (.off (.t 7) 2),
 zt1 34 32 (.ldl 7 (.t 33) 1 false),
 zt1 35 32 (.mov (.t 0)),
 zt1 36 32 (.off (.t 7) 0),
 zt1 37 32 (.ldl 7 (.t 36) 1 false),
 zt1 38 32 (.ixs (.t 35) (.t 37) 2),
 zt1 39 32 (.off (.t 38) 0),
 zt1 40 32 (.ld (.t 39) 1 false),
 zt1 41 32 (.len (.t 40)),
 zt1 42 32 (.bin .eql (.t 34) (.t 41)),
 zg1 43 (.pick (.t 32) (.t 42) zF1)] [6, 7, 43] [6, 7])
 (.cond (.t 43)
 (.seq (.reg false [zg1 44 (.off (.t 7) 0),
 zg1 45 (.ld (.t 44) 1 false),
 zg1 46 (.bin .add (.t 45) (zi1 1)),
 zg1 47 (.bld [zo1, zo1] [(0, 1, (.t 46)), (1, 1, (zi1 0))]),
 zn1 (.st (.t 6) (.t 47) 2)] [6] [6])
 .ret)
 .skip))
 (.seq (.reg false [zg1 48 (.off (.t 7) 0),
 zg1 49 (.ld (.t 48) 1 false),
 zg1 50 (.off (.t 7) 2),
 zg1 51 (.ld (.t 50) 1 false),
 zg1 52 (.bld [zo1, zo1] [(0, 1, (.t 49)), (1, 1, (.t 51))]),
 zn1 (.st (.t 6) (.t 52) 2)] [6] [6])
 .ret))))),
 [.cell 6 2 true], false⟩
def ir71 : IFn :=   -- (tympan/tympanref25.World).Spot
⟨(.seq (.reg false [zg1 3 (.bx (.t 0) 22 true),
 zg1 4 (.bx (.t 1) 7 true),
 zg1 6 (.al [zo1, zo1, zo1, .p (.bool false)] true)] [2, 3, 4, 6] [3, 4, 6])
 (.seq (.seq (.reg false [zg1 7 (.ld (.t 3) 22 true),
 zg1 8 (.ld (.t 4) 7 true),
 zg1 9 (.call 69 [(.t 7), (.t 8)] false),
 zg1 10 (.un .not (.t 9))] [2, 3, 4, 6, 10] [3, 4, 6])
 (.cond (.t 10)
 (.seq (.reg false [zg1 11 (.bld [zo1, zo1, zo1, .p (.bool false)] []),
 zn1 (.st (.t 6) (.t 11) 4)] [6] [6])
 .ret)
 .skip))
 (.seq (.reg true [zg1 12 (.off (.t 4) 2),
 zg1 13 (.ldl 4 (.t 12) 1 false),
 zg1 14 (.off (.t 4) 3),
 zg1 15 (.ldl 4 (.t 14) 1 false),
 zg1 16 (.ldl 3 (.t 3) 22 true),
 zm1 17 2,
 zg1 18 (.call 164 [(.t 16), (.t 17)] false),
 zg1 19 (.ldl 3 (.t 3) 22 true),
 zm1 20 2,
 zg1 21 (.call 164 [(.t 19), (.t 20)] false),
 zg1 22 (.ldl 3 (.t 3) 22 true),
 zg1 23 (.off (.t 4) 0),
 zg1 24 (.ldl 4 (.t 23) 1 false),
 zg1 25 (.call 164 [(.t 22), (.t 24)] false),
 zg1 26 (.bin .gtr (.t 21) (.t 25)),
 zg1 27 (.bld [zo1, zo1, zo1, .p (.bool false)] [(0, 1, (.t 13)), (1, 1, (.t 15)), (2, 1, (.t 18)), (3, 1, (.t 26))]),
 zn1 (.stl 6 (.t 6) (.t 27) 4)] [6] [6])
 .ret))),
 [.cell 6 4 true], false⟩
def lp72_0 : IC :=
 (.loop [0, 5] [] (.seq (.seq (.reg false [zm1 11 5,
 zm1 12 0,
 zg1 13 (.len (.t 12)),
 zg1 14 (.bin .lss (.t 11) (.t 13)),
 zm1 15 14,
 zt1 16 15 (.mov (.t 0)),
 zt1 17 15 (.mov (.t 5)),
 zt1 18 15 (.ixs (.t 16) (.t 17) 7),
 zt1 19 15 (.ld (.t 18) 7 true),
 zt1 20 15 (.call 168 [(.t 19)] false),
 zg1 21 (.pick (.t 15) (.t 20) zF1)] [0, 5, 21] [])
 (.cond (.t 21)
 .skip
 (.exit 0)))
 (.block 1 (.reg false [zm1 22 5,
 zg1 23 (.bin .add (.t 22) (zi1 1)),
 zm1 5 23] [0, 5] []))))
def ir72 : IFn :=   -- tympan/tympanref18.Trim
⟨(.seq (.reg false [zg1 4 (.mov (zi1 0))] [0, 1] [])
 (.seq (.reg false [zm1 6 1,
 zm1 7 0,
 zg1 8 (.len (.t 7)),
 zg1 9 (.mnmx false (.t 6) (.t 8)),
 zg1 10 (.mnmx true (zi1 0) (.t 9)),
 zm1 5 10] [0, 5] [])
 (.seq (.block 0 lp72_0)
 (.seq (.reg false [zm1 24 5,
 zm1 4 24] [4] [])
 .ret)))),
 [.tmp 4], false⟩
def lp73_0 : IC :=
 (.loop [2, 3, 4, 5, 6] [2, 3, 4, 5] (.seq (.seq (.reg false [zm1 7 6,
 zg1 8 (.bin .lss (.t 7) (zi1 3))] [2, 3, 4, 5, 6, 8] [2, 3, 4, 5])
 (.cond (.t 8)
 .skip
 (.exit 0)))
 (.seq (.block 1 (.reg true [zm1 11 6,
 zm1 12 6,
 zg1 13 (.ixa (.t 2) (.t 12) 1 3),
 zg1 14 (.ldl 2 (.t 13) 1 false),
 zg1 15 (.call 169 [(.t 14), (zi1 (-1073741824)), (zi1 1073741824)] false),
 zm1 16 6,
 zg1 17 (.ixa (.t 3) (.t 16) 1 3),
 zg1 18 (.ldl 3 (.t 17) 1 false),
 zg1 19 (.call 169 [(.t 18), (zi1 (-1073741824)), (zi1 1073741824)] false),
 zg1 20 (.bin .add (.t 15) (.t 19)),
 zg1 21 (.call 169 [(.t 20), (zi1 (-1073741824)), (zi1 1073741824)] false),
 zg1 22 (.ixa (.t 5) (.t 11) 1 3),
 zn1 (.stl 5 (.t 22) (.t 21) 1)] [2, 3, 4, 5, 6] [2, 3, 4, 5]))
 (.reg false [zm1 9 6,
 zg1 10 (.bin .add (.t 9) (zi1 1)),
 zm1 6 10] [2, 3, 4, 5, 6] [2, 3, 4, 5]))))
def ir73 : IFn :=   -- tympan/tympanref23.Add
⟨(.seq (.reg false [zg1 2 (.bx (.t 0) 3 true),
 zg1 3 (.bx (.t 1) 3 true),
 zg1 4 (.al [zo1, zo1, zo1] true)] [2, 3, 4] [2, 3, 4])
 (.seq (.reg false [zg1 5 (.al [zo1, zo1, zo1] true)] [2, 3, 4, 5] [2, 3, 4, 5])
 (.seq (.seq (.reg false [zg1 6 (.mov (zi1 0))] [2, 3, 4, 5, 6] [2, 3, 4, 5])
 (.block 0 lp73_0))
 (.seq (.reg false [zg1 23 (.ld (.t 5) 3 true),
 zn1 (.st (.t 4) (.t 23) 3)] [4] [4])
 .ret)))),
 [.cell 4 3 true], false⟩
def lp74_0 : IC :=
 (.loop [0, 1, 4, 5, 6] [4, 5] (.seq (.seq (.reg false [zm1 8 6,
 zm1 9 1,
 zg1 10 (.len (.t 9)),
 zg1 11 (.bin .lss (.t 8) (.t 10))] [0, 1, 4, 5, 6, 11] [4, 5])
 (.cond (.t 11)
 .skip
 (.exit 0)))
 (.seq (.block 1 (.seq (.reg false [zm1 14 1,
 zm1 15 6,
 zg1 16 (.ixs (.t 14) (.t 15) 1),
 zg1 17 (.ld (.t 16) 1 false),
 zg1 18 (.bin .geq (.t 17) (zi1 0)),
 zm1 19 18,
 zt1 20 19 (.mov (.t 1)),
 zt1 21 19 (.mov (.t 6)),
 zt1 22 19 (.ixs (.t 20) (.t 21) 1),
 zt1 23 19 (.ld (.t 22) 1 false),
 zt1 24 19 (.mov (.t 0)),
 zt1 25 19 (.len (.t 24)),
 zt1 26 19 (.bin .lss (.t 23) (.t 25)),
 zg1 27 (.pick (.t 19) (.t 26) zF1)] [0, 1, 4, 5, 6, 27] [4, 5])
 (.cond (.t 27)
 (.seq (.reg false [zm1 28 0,
 zm1 29 1,
 zm1 30 6,
 zg1 31 (.ixs (.t 29) (.t 30) 1),
 zg1 32 (.ld (.t 31) 1 false),
 zg1 33 (.ixs (.t 28) (.t 32) 3),
 zg1 34 (.off (.t 33) 0),
 zg1 35 (.ld (.t 34) 1 false),
 zm1 7 35] [0, 1, 4, 5, 6, 7] [4, 5])
 (.seq (.reg false [zm1 36 7,
 zg1 37 (.bin .geq (.t 36) (zi1 0)),
 zm1 38 37,
 zt1 39 38 (.mov (.t 7)),
 zt1 40 38 (.bin .lss (.t 39) (zi1 3)),
 zg1 41 (.pick (.t 38) (.t 40) zF1)] [0, 1, 4, 5, 6, 7, 41] [4, 5])
 (.cond (.t 41)
 (.reg false [zm1 42 7,
 zm1 43 7,
 zg1 44 (.ixa (.t 5) (.t 43) 1 3),
 zg1 45 (.ld (.t 44) 1 false),
 zg1 46 (.bin .add (.t 45) (zi1 1)),
 zg1 47 (.ixa (.t 5) (.t 42) 1 3),
 zn1 (.st (.t 47) (.t 46) 1)] [0, 1, 4, 5, 6] [4, 5])
 .skip)))
 .skip)))
 (.reg false [zm1 12 6,
 zg1 13 (.bin .add (.t 12) (zi1 1)),
 zm1 6 13] [0, 1, 4, 5, 6] [4, 5]))))
def ir74 : IFn :=   -- tympan/tympanref23.Of
⟨(.seq (.reg false [zg1 4 (.al [zo1, zo1, zo1] true)] [0, 1, 4] [4])
 (.seq (.reg false [zg1 5 (.al [zo1, zo1, zo1] true)] [0, 1, 4, 5] [4, 5])
 (.seq (.seq (.reg false [zg1 6 (.mov (zi1 0))] [0, 1, 4, 5, 6] [4, 5])
 (.block 0 lp74_0))
 (.seq (.reg false [zg1 48 (.ld (.t 5) 3 true),
 zn1 (.st (.t 4) (.t 48) 3)] [4] [4])
 .ret)))),
 [.cell 4 3 true], false⟩
def lp75_0 : IC :=
 (.loop [3, 6, 7, 8] [] (.seq (.reg false [zg1 9 (.bin .lss (.t 8) (.t 7))] [3, 6, 7, 8, 9] [])
 (.seq (.cond (.t 9)
 .skip
 (.exit 0))
 (.seq (.block 1 (.seq (.reg false [zg1 10 (.ixs (.t 6) (.t 8) 1),
 zg1 11 (.ld (.t 10) 1 false),
 zm1 5 11] [3, 5, 6, 7, 8] [])
 (.seq (.reg false [zm1 12 5,
 zm1 13 3,
 zg1 14 (.bin .neq (.t 12) (.t 13))] [3, 5, 6, 7, 8, 14] [])
 (.cond (.t 14)
 (.seq (.reg false [zm1 15 5,
 zm1 2 15] [2] [])
 .ret)
 .skip))))
 (.reg false [zg1 16 (.bin .add (.t 8) (zi1 1)),
 zm1 8 16] [3, 6, 7, 8] [])))))
def ir75 : IFn :=   -- cmp.Or[int]
⟨(.seq (.reg false [zg1 2 (.mov (zi1 0))] [0] [])
 (.seq (.reg false [zg1 3 (.mov (zi1 0))] [0, 3] [])
 (.seq (.seq (.reg false [zm1 6 0,
 zg1 7 (.len (.t 6)),
 zg1 8 (.mov (zi1 0))] [3, 6, 7, 8] [])
 (.block 0 lp75_0))
 (.seq (.reg false [zm1 17 3,
 zm1 2 17] [2] [])
 .ret)))),
 [.tmp 2], false⟩
def ir76 : IFn :=   -- cmp.Compare[int]
⟨(.seq (.reg false [zg1 4 (.mov (zi1 0))] [0, 1] [])
 (.seq (.reg false [zm1 7 0,
 zg1 8 (.call 170 [(.t 7)] false),
 zm1 5 8] [0, 1, 5] [])
 (.seq (.reg false [zm1 9 1,
 zg1 10 (.call 170 [(.t 9)] false),
 zm1 6 10] [0, 1, 5, 6] [])
 (.seq (.seq (.reg false [zm1 11 5] [0, 1, 6, 11] [])
 (.cond (.t 11)
 (.seq (.seq (.reg false [zm1 12 6] [12] [])
 (.cond (.t 12)
 (.seq (.reg false [zg1 4 (.mov (zi1 0))] [4] [])
 .ret)
 .skip))
 (.seq (.reg false [zg1 4 (.mov (zi1 (-1)))] [4] [])
 .ret))
 .skip))
 (.seq (.seq (.reg false [zm1 13 6] [0, 1, 13] [])
 (.cond (.t 13)
 (.seq (.reg false [zg1 4 (.mov (zi1 1))] [4] [])
 .ret)
 .skip))
 (.seq (.seq (.reg false [zm1 14 0,
 zm1 15 1,
 zg1 16 (.bin .lss (.t 14) (.t 15))] [0, 1, 16] [])
 (.cond (.t 16)
 (.seq (.reg false [zg1 4 (.mov (zi1 (-1)))] [4] [])
 .ret)
 .skip))
 (.seq (.seq (.reg false [zm1 17 0,
 zm1 18 1,
 zg1 19 (.bin .gtr (.t 17) (.t 18))] [19] [])
 (.cond (.t 19)
 (.seq (.reg false [zg1 4 (.mov (zi1 1))] [4] [])
 .ret)
 .skip))
 (.seq (.reg false [zg1 4 (.mov (zi1 0))] [4] [])
 .ret)))))))),
 [.tmp 4], false⟩
def lp77_0 : IC :=
 (.loop [0, 1, 9, 10, 11] [] (.seq (.reg false [zg1 12 (.bin .lss (.t 11) (.t 10))] [0, 1, 9, 10, 11, 12] [])
 (.seq (.cond (.t 12)
 .skip
 (.exit 0))
 (.seq (.block 1 (.seq (.reg false [zm1 13 11,
 zg1 14 (.ixs (.t 9) (.t 11) 1),
 zg1 15 (.ld (.t 14) 1 false),
 zm1 5 13,
 zm1 6 15] [0, 1, 5, 6, 9, 10, 11] [])
 (.seq (.seq (.reg false [zm1 16 5,
 zm1 17 1,
 zg1 18 (.len (.t 17)),
 zg1 19 (.bin .geq (.t 16) (.t 18))] [0, 1, 5, 6, 9, 10, 11, 19] [])
 (.cond (.t 19)
 (.seq (.reg false [zg1 4 (.mov (zi1 1))] [4] [])
 .ret)
 .skip))
 (.seq (.reg false [zm1 20 1,
 zm1 21 5,
 zg1 22 (.ixs (.t 20) (.t 21) 1),
 zg1 23 (.ld (.t 22) 1 false),
 zm1 7 23] [0, 1, 6, 7, 9, 10, 11] [])
 (.seq (.reg false [zm1 24 6,
 zm1 25 7,
 zg1 26 (.call 76 [(.t 24), (.t 25)] false),
 zm1 8 26] [0, 1, 8, 9, 10, 11] [])
 (.seq (.reg false [zm1 27 8,
 zg1 28 (.bin .neq (.t 27) (zi1 0))] [0, 1, 8, 9, 10, 11, 28] [])
 (.cond (.t 28)
 (.seq (.reg false [zm1 29 8,
 zm1 4 29] [4] [])
 .ret)
 .skip)))))))
 (.reg false [zg1 30 (.bin .add (.t 11) (zi1 1)),
 zm1 11 30] [0, 1, 9, 10, 11] [])))))
def ir77 : IFn :=   -- slices.Compare[[]int,int]
⟨(.seq (.reg false [zg1 4 (.mov (zi1 0))] [0, 1] [])
 (.seq (.seq (.reg false [zm1 9 0,
 zg1 10 (.len (.t 9)),
 zg1 11 (.mov (zi1 0))] [0, 1, 9, 10, 11] [])
 (.block 0 lp77_0))
 (.seq (.seq (.reg false [zm1 31 0,
 zg1 32 (.len (.t 31)),
 zm1 33 1,
 zg1 34 (.len (.t 33)),
 zg1 35 (.bin .lss (.t 32) (.t 34))] [35] [])
 (.cond (.t 35)
 (.seq (.reg false [zg1 4 (.mov (zi1 (-1)))] [4] [])
 .ret)
 .skip))
 (.seq (.reg false [zg1 4 (.mov (zi1 0))] [4] [])
 .ret)))),
 [.tmp 4], false⟩
def ir78 : IFn :=   -- (*tympan/vlist.List).Len
⟨(.seq (.reg false [zg1 2 (.mov (zi1 0))] [0] [])
 (.seq (.seq (.reg false [zm1 3 0,
 zg1 4 (.eqn .ptr false (.t 3))] [0, 4] [])
 (.cond (.t 4)
 (.seq (.reg false [zg1 2 (.mov (zi1 0))] [2] [])
 .ret)
 .skip))
 (.seq (.reg false [zm1 5 0,
 zg1 6 (.nck (.t 5)),
 zg1 7 (.off (.t 6) 0),
 zg1 8 (.ld (.t 7) 1 false),
 zg1 9 (.len (.t 8)),
 zm1 2 9] [2] [])
 .ret))),
 [.tmp 2], false⟩
def ir79 : IFn :=   -- (*tympan/state.World).carries
⟨(.seq (.reg false [zg1 3 (.bx (.t 1) 7 true),
 zg1 4 (.mov zF1)] [0, 3] [3])
 (.seq (.reg true [zm1 7 0,
 zg1 8 (.nck (.t 7)),
 zg1 9 (.off (.t 8) 0),
 zg1 10 (.ld (.t 9) 1 false),
 zg1 11 (.nck (.t 10)),
 zg1 12 (.off (.t 11) 2),
 zg1 13 (.ld (.t 12) 1 false),
 zg1 14 (.off (.t 3) 0),
 zg1 15 (.ldl 3 (.t 14) 1 false),
 zg1 16 (.call 88 [(.t 13), (.t 15)] false),
 zm1 5 16] [0, 3, 5] [3])
 (.seq (.seq (.reg false [zg1 17 (.off (.t 3) 3),
 zg1 18 (.ld (.t 17) 1 false),
 zg1 19 (.bin .eql (.t 18) (zi1 0))] [0, 3, 5, 19] [3])
 (.cond (.t 19)
 (.seq (.reg false [zg1 20 (.off (.t 3) 2),
 zg1 21 (.ld (.t 20) 1 false),
 zm1 22 5,
 zg1 23 (.bin .eql (.t 21) (.t 22)),
 zm1 4 23] [4] [])
 .ret)
 .skip))
 (.seq (.seq (.reg false [zg1 24 (.off (.t 3) 2),
 zg1 25 (.ld (.t 24) 1 false),
 zm1 26 5,
 zg1 27 (.bin .sub (.t 26) (zi1 1)),
 zg1 28 (.bin .neq (.t 25) (.t 27)),
 zm1 29 28,
 zf1 30 29 (.off (.t 3) 2),
 zf1 31 29 (.ld (.t 30) 1 false),
 zf1 32 29 (.bin .lss (.t 31) (zi1 0)),
 zg1 33 (.pick (.t 29) zT1 (.t 32)),
 zm1 34 33,
 zf1 35 34 (.off (.t 3) 3),
 zf1 36 34 (.ld (.t 35) 1 false),
 zf1 37 34 (.bin .lss (.t 36) (zi1 1)),
 zg1 38 (.pick (.t 34) zT1 (.t 37))] [0, 3, 38] [3])
 (.cond (.t 38)
 (.seq (.reg false [zg1 4 (.mov zF1)] [4] [])
 .ret)
 .skip))
 (.seq (.prep [6] (.reg true [zm1 39 0,
 zg1 40 (.nck (.t 39)),
 zg1 41 (.off (.t 40) 1),
 zg1 42 (.off (.t 41) 20),
 zg1 43 (.ld (.t 42) 1 false),
 zg1 44 (.off (.t 3) 2),
 zg1 45 (.ldl 3 (.t 44) 1 false),
 zg1 46 (.ixs (.t 43) (.t 45) 2),
 zg1 47 (.ld (.t 46) 2 true),
 zg1 6 (.alp [.nils, .nils]),
 zn1 (.stl 6 (.t 6) (.t 47) 2)] [3, 6] [3, 6]))
 (.seq (.reg false [zg1 48 (.off (.t 3) 3),
 zg1 49 (.ld (.t 48) 1 false),
 zg1 50 (.off (.t 6) 0),
 zg1 51 (.ld (.t 50) 1 false),
 zg1 52 (.len (.t 51)),
 zg1 53 (.bin .lss (.t 49) (.t 52)),
 zm1 54 53,
 zt1 55 54 (.ld (.t 6) 2 true),
 zt1 56 54 (.off (.t 3) 3),
 zt1 57 54 (.ld (.t 56) 1 false),
 zt1 58 54 (.call 171 [(.t 55), (.t 57)] false),
 zg1 59 (.pick (.t 54) (.t 58) zF1),
 zm1 4 59] [4] [])
 .ret)))))),
 [.tmp 4], false⟩
def lp80_0 : IC :=
 (.loop [3, 7, 8] [3] (.seq (.reg false [zg1 9 (.bin .lss (.t 8) (zi1 3))] [3, 7, 8, 9] [3])
 (.seq (.cond (.t 9)
 .skip
 (.exit 0))
 (.seq (.block 1 (.seq (.reg false [zm1 10 8,
 zg1 11 (.ixv (.t 7) (.t 8) 1 3 false),
 zm1 5 10,
 zm1 6 11] [3, 5, 6, 7, 8] [3])
 (.seq (.reg false [zm1 12 6,
 zm1 13 5,
 zg1 14 (.ixa (.t 3) (.t 13) 1 3),
 zg1 15 (.ld (.t 14) 1 false),
 zg1 16 (.bin .gtr (.t 12) (.t 15))] [3, 7, 8, 16] [3])
 (.cond (.t 16)
 (.seq (.reg false [zg1 4 (.mov zF1)] [4] [])
 .ret)
 .skip))))
 (.reg false [zg1 17 (.bin .add (.t 8) (zi1 1)),
 zm1 8 17] [3, 7, 8] [3])))))
def ir80 : IFn :=   -- (tympan/queue.Counts).Within
⟨(.seq (.reg false [zg1 2 (.bx (.t 0) 3 true),
 zg1 3 (.bx (.t 1) 3 true),
 zg1 4 (.mov zF1)] [2, 3] [2, 3])
 (.seq (.seq (.reg false [zg1 7 (.ld (.t 2) 3 true),
 zg1 8 (.mov (zi1 0))] [3, 7, 8] [3])
 (.block 0 lp80_0))
 (.seq (.reg false [zg1 4 (.mov zT1)] [4] [])
 .ret))),
 [.tmp 4], false⟩
def ir81 : IFn :=   -- (*tympan/anchor.Map).Due
⟨(.seq (.reg false [zg1 4 (.al [zo1, zo1, zo1] true)] [0, 1, 4] [4])
 (.seq (.reg false [zm1 7 0,
 zm1 8 1,
 zg1 9 (.call 156 [(.t 7), (.t 8)] false),
 zm1 6 9,
 zg1 10 (.ext (.t 6) 0),
 zg1 11 (.ext (.t 6) 1),
 zm1 1 10,
 zm1 5 11] [0, 1, 4, 5] [4])
 (.seq (.seq (.reg false [zm1 12 5,
 zg1 13 (.un .not (.t 12))] [0, 1, 4, 13] [4])
 (.cond (.t 13)
 (.seq (.reg false [zg1 14 (.bld [zo1, zo1, zo1] []),
 zn1 (.st (.t 4) (.t 14) 3)] [4] [4])
 .ret)
 .skip))
 (.seq (.reg false [zm1 15 0,
 zg1 16 (.nck (.t 15)),
 zg1 17 (.off (.t 16) 3),
 zg1 18 (.ld (.t 17) 1 false),
 zm1 19 1,
 zg1 20 (.ixs (.t 18) (.t 19) 3),
 zg1 21 (.ld (.t 20) 3 true),
 zn1 (.st (.t 4) (.t 21) 3)] [4] [4])
 .ret)))),
 [.cell 4 3 true], false⟩
def lp82_0 : IC :=
 (.loop [3, 6, 7] [] (.seq (.reg false [zg1 8 (.bin .lss (.t 7) (zi1 3))] [3, 6, 7, 8] [])
 (.seq (.cond (.t 8)
 .skip
 (.exit 0))
 (.seq (.block 1 (.seq (.reg false [zg1 9 (.ixv (.t 6) (.t 7) 1 3 false),
 zm1 5 9] [3, 5, 6, 7] [])
 (.reg false [zm1 10 3,
 zm1 11 5,
 zg1 12 (.call 172 [(.t 11), (zi1 (-1073741824)), (zi1 1073741824)] false),
 zg1 13 (.bin .add (.t 10) (.t 12)),
 zm1 3 13] [3, 6, 7] [])))
 (.reg false [zg1 14 (.bin .add (.t 7) (zi1 1)),
 zm1 7 14] [3, 6, 7] [])))))
def ir82 : IFn :=   -- (tympan/queue.Counts).Sum
⟨(.seq (.reg false [zg1 1 (.bx (.t 0) 3 true),
 zg1 2 (.mov (zi1 0))] [1] [1])
 (.seq (.reg false [zg1 3 (.mov (zi1 0))] [1, 3] [1])
 (.seq (.seq (.reg false [zg1 6 (.ld (.t 1) 3 true),
 zg1 7 (.mov (zi1 0))] [3, 6, 7] [])
 (.block 0 lp82_0))
 (.seq (.reg false [zm1 15 3,
 zm1 2 15] [2] [])
 .ret)))),
 [.tmp 2], false⟩
def ir83 : IFn :=   -- tympan/queue.Ready
⟨(.seq (.reg false [zg1 2 (.bx (.t 0) 3 true),
 zg1 3 (.bx (.t 1) 3 true),
 zg1 4 (.al [zo1, zo1, zo1] true)] [2, 3, 4] [2, 3, 4])
 (.seq (.reg false [zg1 5 (.ld (.t 2) 3 true),
 zg1 6 (.ld (.t 3) 3 true),
 zg1 7 (.call 162 [(.t 5), (.t 6), (zi1 0), (.c (.p (.fn 173)))] false),
 zn1 (.st (.t 4) (.t 7) 3)] [4] [4])
 .ret)),
 [.cell 4 3 true], false⟩
def ir84 : IFn :=   -- (*tympan/state.World).parts
⟨(.seq (.reg false [zg1 2 (.mov (.c (.p .nilp)))] [0] [])
 (.seq (.seq (.reg false [zm1 3 0,
 zg1 4 (.eqn .ptr false (.t 3))] [0, 4] [])
 (.cond (.t 4)
 (.seq (.reg false [zg1 2 (.mov (.c (.p .nilp)))] [2] [])
 .ret)
 .skip))
 (.seq (.reg false [zm1 5 0,
 zg1 6 (.nck (.t 5)),
 zg1 7 (.off (.t 6) 0),
 zg1 8 (.ld (.t 7) 1 false),
 zm1 2 8] [2] [])
 .ret))),
 [.tmp 2], false⟩
def ir85 : IFn :=   -- (*tympan/state.text).List
⟨(.seq (.reg false [zg1 2 (.mov (.c (.p .nilp)))] [0] [])
 (.seq (.seq (.reg false [zm1 3 0,
 zg1 4 (.eqn .ptr false (.t 3))] [0, 4] [])
 (.cond (.t 4)
 (.seq (.reg false [zg1 2 (.mov (.c (.p .nilp)))] [2] [])
 .ret)
 .skip))
 (.seq (.reg false [zm1 5 0,
 zg1 6 (.nck (.t 5)),
 zg1 7 (.off (.t 6) 0),
 zg1 8 (.ld (.t 7) 1 false),
 zm1 2 8] [2] [])
 .ret))),
 [.tmp 2], false⟩
def ir86 : IFn :=   -- (*tympan/state.text).Sums
⟨(.seq (.reg false [zg1 2 (.mov (.c (.p .nilp)))] [0] [])
 (.seq (.seq (.reg false [zm1 3 0,
 zg1 4 (.eqn .ptr false (.t 3))] [0, 4] [])
 (.cond (.t 4)
 (.seq (.reg false [zg1 2 (.mov (.c (.p .nilp)))] [2] [])
 .ret)
 .skip))
 (.seq (.reg false [zm1 5 0,
 zg1 6 (.nck (.t 5)),
 zg1 7 (.off (.t 6) 1),
 zg1 8 (.ld (.t 7) 1 false),
 zm1 2 8] [2] [])
 .ret))),
 [.tmp 2], false⟩
def ir88 : IFn :=   -- (*tympan/anchor.Map).Begun
⟨(.seq (.reg false [zg1 4 (.mov (zi1 0))] [0, 1] [])
 (.seq (.reg false [zm1 7 0,
 zm1 8 1,
 zg1 9 (.call 156 [(.t 7), (.t 8)] false),
 zm1 6 9,
 zg1 10 (.ext (.t 6) 0),
 zg1 11 (.ext (.t 6) 1),
 zm1 1 10,
 zm1 5 11] [0, 1, 5] [])
 (.seq (.seq (.reg false [zm1 12 5,
 zg1 13 (.un .not (.t 12))] [0, 1, 13] [])
 (.cond (.t 13)
 (.seq (.reg false [zg1 4 (.mov (zi1 0))] [4] [])
 .ret)
 .skip))
 (.seq (.reg false [zm1 14 0,
 zg1 15 (.nck (.t 14)),
 zg1 16 (.off (.t 15) 1),
 zg1 17 (.ld (.t 16) 1 false),
 zm1 18 1,
 zg1 19 (.ixs (.t 17) (.t 18) 1),
 zg1 20 (.ld (.t 19) 1 false),
 zm1 4 20] [4] [])
 .ret)))),
 [.tmp 4], false⟩
def lp89_0 : IC :=
 (.loop [1, 3, 4] [1, 3] (.seq (.seq (.reg false [zm1 24 4,
 zg1 25 (.bin .lss (.t 24) (zi1 3))] [1, 3, 4, 25] [1, 3])
 (.cond (.t 25)
 .skip
 (.exit 0)))
 (.seq (.block 1 (.seq (.reg false [zm1 28 4,
 zg1 29 (.ixa (.t 3) (.t 28) 1 3),
 zg1 30 (.ld (.t 29) 1 false),
 zg1 31 (.bin .lss (.t 30) (zi1 1)),
 zm1 32 31,
 zf1 33 32 (.mov (.t 4)),
 zf1 34 32 (.ixa (.t 3) (.t 33) 1 3),
 zf1 35 32 (.ld (.t 34) 1 false),
 zf1 36 32 (.bin .gtr (.t 35) (zi1 1073741823)),
 zg1 37 (.pick (.t 32) zT1 (.t 36))] [1, 3, 4, 37] [1, 3])
 (.cond (.t 37)
 (.seq (.reg false [zg1 2 (.mov (zi1 7))] [2] [])
 .ret)
 .skip)))
 (.reg false [zm1 26 4,
 zg1 27 (.bin .add (.t 26) (zi1 1)),
 zm1 4 27] [1, 3, 4] [1, 3]))))
def lp89_1 : IC :=
 (.loop [1, 5, 6] [1, 5] (.seq (.seq (.reg false [zm1 53 6,
 zg1 54 (.bin .lss (.t 53) (zi1 7))] [1, 5, 6, 54] [1, 5])
 (.cond (.t 54)
 .skip
 (.exit 2)))
 (.seq (.block 3 (.seq (.reg false [zm1 57 6,
 zg1 58 (.ixa (.t 5) (.t 57) 1 7),
 zg1 59 (.ld (.t 58) 1 false),
 zg1 60 (.bin .lss (.t 59) (zi1 0)),
 zm1 61 60,
 zf1 62 61 (.mov (.t 6)),
 zf1 63 61 (.ixa (.t 5) (.t 62) 1 7),
 zf1 64 61 (.ld (.t 63) 1 false),
 zf1 65 61 (.bin .gtr (.t 64) (zi1 1073741823)),
 zg1 66 (.pick (.t 61) zT1 (.t 65))] [1, 5, 6, 66] [1, 5])
 (.cond (.t 66)
 (.seq (.reg false [zg1 2 (.mov (zi1 7))] [2] [])
 .ret)
 .skip)))
 (.reg false [zm1 55 6,
 zg1 56 (.bin .add (.t 55) (zi1 1)),
 zm1 6 56] [1, 5, 6] [1, 5]))))
def lp89_2 : IC :=
 (.loop [1, 7, 8] [1, 7] (.seq (.seq (.reg false [zm1 82 8,
 zg1 83 (.bin .lss (.t 82) (zi1 7))] [1, 7, 8, 83] [1, 7])
 (.cond (.t 83)
 .skip
 (.exit 4)))
 (.seq (.block 5 (.seq (.reg false [zm1 86 8,
 zg1 87 (.ixa (.t 7) (.t 86) 1 7),
 zg1 88 (.ld (.t 87) 1 false),
 zg1 89 (.bin .lss (.t 88) (zi1 0)),
 zm1 90 89,
 zf1 91 90 (.mov (.t 8)),
 zf1 92 90 (.ixa (.t 7) (.t 91) 1 7),
 zf1 93 90 (.ld (.t 92) 1 false),
 zf1 94 90 (.bin .gtr (.t 93) (zi1 1048576)),
 zg1 95 (.pick (.t 90) zT1 (.t 94)),
 zm1 96 95,
 zf1 97 96 (.mov (.t 8)),
 zf1 98 96 (.bin .lss (.t 97) (zi1 2)),
 zf1 99 96 (.mov (.t 98)),
 zt1 100 99 (.mov (.t 8)),
 zt1 101 99 (.ixa (.t 7) (.t 100) 1 7),
 zt1 102 99 (.ld (.t 101) 1 false),
 zt1 103 99 (.bin .gtr (.t 102) (zi1 4)),
 zf1 104 96 (.pick (.t 99) (.t 103) zF1),
 zg1 105 (.pick (.t 96) zT1 (.t 104))] [1, 7, 8, 105] [1, 7])
 (.cond (.t 105)
 (.seq (.reg false [zg1 2 (.mov (zi1 7))] [2] [])
 .ret)
 .skip)))
 (.reg false [zm1 84 8,
 zg1 85 (.bin .add (.t 84) (zi1 1)),
 zm1 8 85] [1, 7, 8] [1, 7]))))
def ir89 : IFn :=   -- tympan/tympanref13.Check
⟨(.seq (.reg false [zg1 1 (.bx (.t 0) 19 true),
 zg1 2 (.mov (zi1 0))] [1] [1])
 (.seq (.seq (.reg false [zg1 9 (.off (.t 1) 0),
 zg1 10 (.ld (.t 9) 1 false),
 zg1 11 (.bin .lss (.t 10) (zi1 1)),
 zm1 12 11,
 zf1 13 12 (.off (.t 1) 0),
 zf1 14 12 (.ld (.t 13) 1 false),
 zf1 15 12 (.bin .gtr (.t 14) (zi1 8)),
 zg1 16 (.pick (.t 12) zT1 (.t 15))] [1, 16] [1])
 (.cond (.t 16)
 (.seq (.reg false [zg1 2 (.mov (zi1 6))] [2] [])
 .ret)
 .skip))
 (.seq (.reg false [zg1 17 (.off (.t 1) 1),
 zg1 18 (.ld (.t 17) 1 false),
 zg1 19 (.off (.t 1) 3),
 zg1 20 (.ld (.t 19) 1 false),
 zg1 21 (.off (.t 1) 4),
 zg1 22 (.ld (.t 21) 1 false),
 zg1 23 (.bld [zo1, zo1, zo1] [(0, 1, (.t 18)), (1, 1, (.t 20)), (2, 1, (.t 22))]),
 zg1 3 (.al [zo1, zo1, zo1] true),
 zn1 (.st (.t 3) (.t 23) 3)] [1, 3] [1, 3])
 (.seq (.seq (.reg false [zg1 4 (.mov (zi1 0))] [1, 3, 4] [1, 3])
 (.block 0 lp89_0))
 (.seq (.reg false [zg1 38 (.off (.t 1) 2),
 zg1 39 (.ld (.t 38) 1 false),
 zg1 40 (.off (.t 1) 6),
 zg1 41 (.ld (.t 40) 1 false),
 zg1 42 (.off (.t 1) 7),
 zg1 43 (.ld (.t 42) 1 false),
 zg1 44 (.off (.t 1) 8),
 zg1 45 (.ld (.t 44) 1 false),
 zg1 46 (.off (.t 1) 9),
 zg1 47 (.ld (.t 46) 1 false),
 zg1 48 (.off (.t 1) 10),
 zg1 49 (.ld (.t 48) 1 false),
 zg1 50 (.off (.t 1) 5),
 zg1 51 (.ld (.t 50) 1 false),
 zg1 52 (.bld [zo1, zo1, zo1, zo1, zo1, zo1, zo1] [(0, 1, (.t 39)), (1, 1, (.t 41)), (2, 1, (.t 43)), (3, 1, (.t 45)), (4, 1, (.t 47)), (5, 1, (.t 49)), (6, 1, (.t 51))]),
 zg1 5 (.al [zo1, zo1, zo1, zo1, zo1, zo1, zo1] true),
 zn1 (.st (.t 5) (.t 52) 7)] [1, 5] [1, 5])
 (.seq (.seq (.reg false [zg1 6 (.mov (zi1 0))] [1, 5, 6] [1, 5])
 (.block 2 lp89_1))
 (.seq (.reg false [zg1 67 (.off (.t 1) 11),
 zg1 68 (.ld (.t 67) 1 false),
 zg1 69 (.off (.t 1) 12),
 zg1 70 (.ld (.t 69) 1 false),
 zg1 71 (.off (.t 1) 13),
 zg1 72 (.ld (.t 71) 1 false),
 zg1 73 (.off (.t 1) 14),
 zg1 74 (.ld (.t 73) 1 false),
 zg1 75 (.off (.t 1) 15),
 zg1 76 (.ld (.t 75) 1 false),
 zg1 77 (.off (.t 1) 16),
 zg1 78 (.ld (.t 77) 1 false),
 zg1 79 (.off (.t 1) 17),
 zg1 80 (.ld (.t 79) 1 false),
 zg1 81 (.bld [zo1, zo1, zo1, zo1, zo1, zo1, zo1] [(0, 1, (.t 68)), (1, 1, (.t 70)), (2, 1, (.t 72)), (3, 1, (.t 74)), (4, 1, (.t 76)), (5, 1, (.t 78)), (6, 1, (.t 80))]),
 zg1 7 (.al [zo1, zo1, zo1, zo1, zo1, zo1, zo1] true),
 zn1 (.st (.t 7) (.t 81) 7)] [1, 7] [1, 7])
 (.seq (.seq (.reg false [zg1 8 (.mov (zi1 0))] [1, 7, 8] [1, 7])
 (.block 4 lp89_2))
 (.seq (.seq (.reg false [zg1 106 (.off (.t 1) 4),
 zg1 107 (.ld (.t 106) 1 false),
 zg1 108 (.off (.t 1) 3),
 zg1 109 (.ld (.t 108) 1 false),
 zg1 110 (.bin .gtr (.t 107) (.t 109)),
 zm1 111 110,
 zf1 112 111 (.off (.t 1) 5),
 zf1 113 111 (.ld (.t 112) 1 false),
 zf1 114 111 (.off (.t 1) 4),
 zf1 115 111 (.ld (.t 114) 1 false),
 zf1 116 111 (.bin .gtr (.t 113) (.t 115)),
 zg1 117 (.pick (.t 111) zT1 (.t 116)),
 zm1 118 117,
 zf1 119 118 (.off (.t 1) 5),
 zf1 120 118 (.ld (.t 119) 1 false),
 zf1 121 118 (.bin .gtr (.t 120) (zi1 536870912)),
 zg1 122 (.pick (.t 118) zT1 (.t 121)),
 zm1 123 122,
 zf1 124 123 (.off (.t 1) 6),
 zf1 125 123 (.ld (.t 124) 1 false),
 zf1 126 123 (.bin .gtr (.t 125) (zi1 536870912)),
 zg1 127 (.pick (.t 123) zT1 (.t 126)),
 zm1 128 127,
 zf1 129 128 (.off (.t 1) 7),
 zf1 130 128 (.ld (.t 129) 1 false),
 zf1 131 128 (.bin .gtr (.t 130) (zi1 536870912)),
 zg1 132 (.pick (.t 128) zT1 (.t 131))] [132] [])
 (.cond (.t 132)
 (.seq (.reg false [zg1 2 (.mov (zi1 7))] [2] [])
 .ret)
 .skip))
 (.seq (.reg false [zg1 2 (.mov (zi1 0))] [2] [])
 .ret)))))))))),
 [.tmp 2], false⟩
def ir90 : IFn :=   -- tympan/tympanref10.Right
⟨(.seq (.reg false [zg1 1 (.bx (.t 0) 7 true),
 zg1 2 (.mov zF1)] [1] [1])
 (.seq (.reg false [zg1 4 (.off (.t 1) 0),
 zg1 5 (.ld (.t 4) 1 false),
 zg1 6 (.bld [zo1, zo1, zo1, zo1, zo1, zo1, zo1] [(0, 1, (.t 5))]),
 zg1 3 (.al [zo1, zo1, zo1, zo1, zo1, zo1, zo1] true),
 zn1 (.st (.t 3) (.t 6) 7)] [1, 3] [1, 3])
 (.seq (.seq (.reg false [zg1 7 (.off (.t 1) 0),
 zg1 8 (.ld (.t 7) 1 false)] [1, 3, 8] [1, 3])
 (.block 0 (.seq (.reg false [zg1 10 (.bin .eql (.t 8) (zi1 1)),
 zm1 9 10] [1, 3, 8, 9] [1, 3])
 (.cond (.t 9)
 (.seq (.reg false [zg1 11 (.off (.t 1) 1),
 zg1 12 (.ld (.t 11) 1 false),
 zg1 13 (.off (.t 3) 1),
 zn1 (.st (.t 13) (.t 12) 1)] [1, 3] [1, 3])
 (.reg false [zg1 14 (.off (.t 1) 2),
 zg1 15 (.ld (.t 14) 1 false),
 zg1 16 (.off (.t 3) 2),
 zn1 (.st (.t 16) (.t 15) 1)] [1, 3] [1, 3]))
 (.seq (.reg false [zg1 18 (.bin .eql (.t 8) (zi1 2)),
 zm1 17 18] [1, 3, 8, 17] [1, 3])
 (.cond (.t 17)
 (.seq (.reg false [zg1 19 (.off (.t 1) 1),
 zg1 20 (.ld (.t 19) 1 false),
 zg1 21 (.off (.t 3) 1),
 zn1 (.st (.t 21) (.t 20) 1)] [1, 3] [1, 3])
 (.seq (.reg false [zg1 22 (.off (.t 1) 3),
 zg1 23 (.ld (.t 22) 1 false),
 zg1 24 (.off (.t 3) 3),
 zn1 (.st (.t 24) (.t 23) 1)] [1, 3] [1, 3])
 (.seq (.reg false [zg1 25 (.off (.t 1) 4),
 zg1 26 (.ld (.t 25) 1 false),
 zg1 27 (.off (.t 3) 4),
 zn1 (.st (.t 27) (.t 26) 1)] [1, 3] [1, 3])
 (.reg false [zg1 28 (.off (.t 1) 5),
 zg1 29 (.ld (.t 28) 1 false),
 zg1 30 (.off (.t 3) 5),
 zn1 (.st (.t 30) (.t 29) 1)] [1, 3] [1, 3]))))
 (.seq (.reg false [zg1 32 (.bin .eql (.t 8) (zi1 3)),
 zm1 31 32] [1, 3, 8, 31] [1, 3])
 (.cond (.t 31)
 (.seq (.reg false [zg1 33 (.off (.t 1) 6),
 zg1 34 (.ld (.t 33) 1 false),
 zg1 35 (.off (.t 3) 6),
 zn1 (.st (.t 35) (.t 34) 1)] [1, 3] [1, 3])
 (.seq (.reg false [zg1 36 (.off (.t 1) 6),
 zg1 37 (.ld (.t 36) 1 false),
 zg1 38 (.bin .neq (.t 37) (zi1 (-10000))),
 zm1 39 38,
 zt1 40 39 (.off (.t 1) 6),
 zt1 41 39 (.ld (.t 40) 1 false),
 zt1 42 39 (.bin .lss (.t 41) (zi1 0)),
 zt1 43 39 (.mov (.t 42)),
 zf1 44 43 (.off (.t 1) 6),
 zf1 45 43 (.ld (.t 44) 1 false),
 zf1 46 43 (.bin .gtr (.t 45) (zi1 10000)),
 zt1 47 39 (.pick (.t 43) zT1 (.t 46)),
 zg1 48 (.pick (.t 39) (.t 47) zF1)] [1, 3, 48] [1, 3])
 (.cond (.t 48)
 (.seq (.reg false [zg1 2 (.mov zF1)] [2] [])
 .ret)
 .skip)))
 (.seq (.reg false [zg1 50 (.bin .eql (.t 8) (zi1 4)),
 zm1 49 50] [1, 3, 8, 49] [1, 3])
 (.cond (.t 49)
 (.seq (.reg false [zg1 51 (.off (.t 1) 6),
 zg1 52 (.ld (.t 51) 1 false),
 zg1 53 (.off (.t 3) 6),
 zn1 (.st (.t 53) (.t 52) 1)] [1, 3] [1, 3])
 (.seq (.reg false [zg1 54 (.off (.t 1) 6),
 zg1 55 (.ld (.t 54) 1 false),
 zg1 56 (.bin .lss (.t 55) (zi1 0)),
 zm1 57 56,
 zf1 58 57 (.off (.t 1) 6),
 zf1 59 57 (.ld (.t 58) 1 false),
 zf1 60 57 (.bin .gtr (.t 59) (zi1 1048576)),
 zg1 61 (.pick (.t 57) zT1 (.t 60))] [1, 3, 61] [1, 3])
 (.cond (.t 61)
 (.seq (.reg false [zg1 2 (.mov zF1)] [2] [])
 .ret)
 .skip)))
 (.seq (.reg false [zg1 63 (.bin .eql (.t 8) (zi1 5)),
 zm1 62 63] [1, 3, 8, 62] [1, 3])
 (.cond (.t 62)
 (.seq (.reg false [zg1 64 (.off (.t 1) 6),
 zg1 65 (.ld (.t 64) 1 false),
 zg1 66 (.off (.t 3) 6),
 zn1 (.st (.t 66) (.t 65) 1)] [1, 3] [1, 3])
 (.seq (.reg false [zg1 67 (.off (.t 1) 6),
 zg1 68 (.ld (.t 67) 1 false),
 zg1 69 (.bin .lss (.t 68) (zi1 0)),
 zm1 70 69,
 zf1 71 70 (.off (.t 1) 6),
 zf1 72 70 (.ld (.t 71) 1 false),
 zf1 73 70 (.bin .gtr (.t 72) (zi1 511)),
 zg1 74 (.pick (.t 70) zT1 (.t 73))] [1, 3, 74] [1, 3])
 (.cond (.t 74)
 (.seq (.reg false [zg1 2 (.mov zF1)] [2] [])
 .ret)
 .skip)))
 (.seq (.reg false [zg1 76 (.bin .eql (.t 8) (zi1 6)),
 zm1 75 76] [1, 3, 8, 75] [1, 3])
 (.cond (.t 75)
 (.seq (.reg false [zg1 77 (.off (.t 1) 6),
 zg1 78 (.ld (.t 77) 1 false),
 zg1 79 (.off (.t 3) 6),
 zn1 (.st (.t 79) (.t 78) 1)] [1, 3] [1, 3])
 (.seq (.reg false [zg1 80 (.off (.t 1) 6),
 zg1 81 (.ld (.t 80) 1 false),
 zg1 82 (.bin .lss (.t 81) (zi1 0)),
 zm1 83 82,
 zf1 84 83 (.off (.t 1) 6),
 zf1 85 83 (.ld (.t 84) 1 false),
 zf1 86 83 (.bin .gtr (.t 85) (zi1 255)),
 zg1 87 (.pick (.t 83) zT1 (.t 86))] [1, 3, 87] [1, 3])
 (.cond (.t 87)
 (.seq (.reg false [zg1 2 (.mov zF1)] [2] [])
 .ret)
 .skip)))
 (.seq (.reg false [zg1 89 (.bin .eql (.t 8) (zi1 7)),
 zm1 88 89] [1, 3, 88] [1, 3])
 (.cond (.t 88)
 .skip
 (.seq (.reg false [zg1 2 (.mov zF1)] [2] [])
 .ret)))))))))))))))))
 (.seq (.reg false [zg1 90 (.ld (.t 1) 7 true),
 zg1 91 (.ld (.t 3) 7 true),
 zg1 92 (.eqa false [true, true, true, true, true, true, true] (.t 90) (.t 91)),
 zm1 93 92,
 zt1 94 93 (.off (.t 1) 1),
 zt1 95 93 (.ld (.t 94) 1 false),
 zt1 96 93 (.call 174 [(.t 95)] false),
 zg1 97 (.pick (.t 93) (.t 96) zF1),
 zm1 98 97,
 zt1 99 98 (.off (.t 1) 3),
 zt1 100 98 (.ld (.t 99) 1 false),
 zt1 101 98 (.call 174 [(.t 100)] false),
 zg1 102 (.pick (.t 98) (.t 101) zF1),
 zm1 103 102,
 zt1 104 103 (.off (.t 1) 5),
 zt1 105 103 (.ld (.t 104) 1 false),
 zt1 106 103 (.call 174 [(.t 105)] false),
 zg1 107 (.pick (.t 103) (.t 106) zF1),
 zm1 108 107,
 zt1 109 108 (.off (.t 1) 2),
 zt1 110 108 (.ld (.t 109) 1 false),
 zt1 111 108 (.bin .geq (.t 110) (zi1 0)),
 zg1 112 (.pick (.t 108) (.t 111) zF1),
 zm1 113 112,
 zt1 114 113 (.off (.t 1) 2),
 zt1 115 113 (.ld (.t 114) 1 false),
 zt1 116 113 (.bin .leq (.t 115) (zi1 3)),
 zg1 117 (.pick (.t 113) (.t 116) zF1),
 zm1 118 117,
 zt1 119 118 (.off (.t 1) 4),
 zt1 120 118 (.ld (.t 119) 1 false),
 zt1 121 118 (.bin .geq (.t 120) (zi1 0)),
 zg1 122 (.pick (.t 118) (.t 121) zF1),
 zm1 123 122,
 zt1 124 123 (.off (.t 1) 4),
 zt1 125 123 (.ld (.t 124) 1 false),
 zt1 126 123 (.bin .leq (.t 125) (zi1 3)),
 zg1 127 (.pick (.t 123) (.t 126) zF1),
 zm1 128 127,
 zt1 129 128 (.off (.t 1) 0),
 zt1 130 128 (.ld (.t 129) 1 false),
 zt1 131 128 (.bin .neq (.t 130) (zi1 2)),
 zt1 132 128 (.mov (.t 131)),
 zf1 133 132 (.off (.t 1) 5),
 zf1 134 132 (.ld (.t 133) 1 false),
 zf1 135 132 (.off (.t 1) 1),
 zf1 136 132 (.ld (.t 135) 1 false),
 zf1 137 132 (.bin .leq (.t 134) (.t 136)),
 zt1 138 128 (.pick (.t 132) zT1 (.t 137)),
 zg1 139 (.pick (.t 128) (.t 138) zF1),
 zm1 2 139] [2] [])
 .ret)))),
 [.tmp 2], false⟩
def lp91_0 : IC :=
 (.loop [1, 3] [1] (.seq (.seq (.reg false [zm1 25 3,
 zg1 26 (.off (.t 1) 0),
 zg1 27 (.ld (.t 26) 1 false),
 zg1 28 (.len (.t 27)),
 zg1 29 (.bin .lss (.t 25) (.t 28))] [1, 3, 29] [1])
 (.cond (.t 29)
 .skip
 (.exit 0)))
 (.seq (.block 1 (.seq (.reg false [zg1 32 (.off (.t 1) 0),
 zg1 33 (.ld (.t 32) 1 false),
 zm1 34 3,
 zg1 35 (.ixs (.t 33) (.t 34) 1),
 zg1 36 (.ld (.t 35) 1 false),
 zg1 37 (.bin .lss (.t 36) (zi1 1)),
 zm1 38 37,
 zf1 39 38 (.off (.t 1) 0),
 zf1 40 38 (.ld (.t 39) 1 false),
 zf1 41 38 (.mov (.t 3)),
 zf1 42 38 (.ixs (.t 40) (.t 41) 1),
 zf1 43 38 (.ld (.t 42) 1 false),
 zf1 44 38 (.bin .gtr (.t 43) (zi1 1073741823)),
 zg1 45 (.pick (.t 38) zT1 (.t 44))] [1, 3, 45] [1])
 (.cond (.t 45)
 (.seq (.reg false [zg1 2 (.mov zF1)] [2] [])
 .ret)
 .skip)))
 (.reg false [zm1 30 3,
 zg1 31 (.bin .add (.t 30) (zi1 1)),
 zm1 3 31] [1, 3] [1]))))
def lp91_1 : IC :=
 (.loop [1, 4] [1] (.seq (.seq (.reg false [zm1 46 4,
 zg1 47 (.off (.t 1) 1),
 zg1 48 (.ld (.t 47) 1 false),
 zg1 49 (.len (.t 48)),
 zg1 50 (.bin .lss (.t 46) (.t 49))] [1, 4, 50] [1])
 (.cond (.t 50)
 .skip
 (.exit 2)))
 (.seq (.block 3 (.seq (.reg false [zg1 53 (.off (.t 1) 1),
 zg1 54 (.ld (.t 53) 1 false),
 zm1 55 4,
 zg1 56 (.ixs (.t 54) (.t 55) 1),
 zg1 57 (.ld (.t 56) 1 false),
 zg1 58 (.bin .lss (.t 57) (zi1 0)),
 zm1 59 58,
 zf1 60 59 (.off (.t 1) 1),
 zf1 61 59 (.ld (.t 60) 1 false),
 zf1 62 59 (.mov (.t 4)),
 zf1 63 59 (.ixs (.t 61) (.t 62) 1),
 zf1 64 59 (.ld (.t 63) 1 false),
 zf1 65 59 (.bin .gtr (.t 64) (zi1 10000)),
 zg1 66 (.pick (.t 59) zT1 (.t 65))] [1, 4, 66] [1])
 (.cond (.t 66)
 (.seq (.reg false [zg1 2 (.mov zF1)] [2] [])
 .ret)
 .skip)))
 (.reg false [zm1 51 4,
 zg1 52 (.bin .add (.t 51) (zi1 1)),
 zm1 4 52] [1, 4] [1]))))
def ir91 : IFn :=   -- tympan/tympanref11.Check
⟨(.seq (.reg false [zg1 1 (.bx (.t 0) 2 true),
 zg1 2 (.mov zF1)] [1] [1])
 (.seq (.seq (.reg false [zg1 5 (.off (.t 1) 0),
 zg1 6 (.ld (.t 5) 1 false),
 zg1 7 (.len (.t 6)),
 zg1 8 (.bin .lss (.t 7) (zi1 1)),
 zm1 9 8,
 zf1 10 9 (.off (.t 1) 0),
 zf1 11 9 (.ld (.t 10) 1 false),
 zf1 12 9 (.len (.t 11)),
 zf1 13 9 (.bin .gtr (.t 12) (zi1 64)),
 zg1 14 (.pick (.t 9) zT1 (.t 13)),
 zm1 15 14,
 zf1 16 15 (.off (.t 1) 1),
 zf1 17 15 (.ld (.t 16) 1 false),
 zf1 18 15 (.len (.t 17)),
 zf1 19 15 (.off (.t 1) 0),
 zf1 20 15 (.ld (.t 19) 1 false),
 zf1 21 15 (.len (.t 20)),
 zf1 22 15 (.bin .sub (.t 21) (zi1 1)),
 zf1 23 15 (.bin .neq (.t 18) (.t 22)),
 zg1 24 (.pick (.t 15) zT1 (.t 23))] [1, 24] [1])
 (.cond (.t 24)
 (.seq (.reg false [zg1 2 (.mov zF1)] [2] [])
 .ret)
 .skip))
 (.seq (.seq (.reg false [zg1 3 (.mov (zi1 0))] [1, 3] [1])
 (.block 0 lp91_0))
 (.seq (.seq (.reg false [zg1 4 (.mov (zi1 0))] [1, 4] [1])
 (.block 2 lp91_1))
 (.seq (.reg false [zg1 2 (.mov zT1)] [2] [])
 .ret))))),
 [.tmp 2], false⟩
def ir92 : IFn :=   -- tympan/tympanref12.Right
⟨(.seq (.reg false [zg1 1 (.bx (.t 0) 3 true),
 zg1 2 (.mov zF1)] [1] [1])
 (.seq (.reg false [zg1 3 (.off (.t 1) 0),
 zg1 4 (.ld (.t 3) 1 false),
 zg1 5 (.bin .geq (.t 4) (zi1 0)),
 zm1 6 5,
 zt1 7 6 (.off (.t 1) 0),
 zt1 8 6 (.ld (.t 7) 1 false),
 zt1 9 6 (.bin .leq (.t 8) (zi1 2)),
 zg1 10 (.pick (.t 6) (.t 9) zF1),
 zm1 11 10,
 zt1 12 11 (.off (.t 1) 1),
 zt1 13 11 (.ld (.t 12) 1 false),
 zt1 14 11 (.bin .geq (.t 13) (zi1 1)),
 zg1 15 (.pick (.t 11) (.t 14) zF1),
 zm1 16 15,
 zt1 17 16 (.off (.t 1) 1),
 zt1 18 16 (.ld (.t 17) 1 false),
 zt1 19 16 (.bin .leq (.t 18) (zi1 1073741823)),
 zg1 20 (.pick (.t 16) (.t 19) zF1),
 zm1 21 20,
 zt1 22 21 (.off (.t 1) 2),
 zt1 23 21 (.ld (.t 22) 1 false),
 zt1 24 21 (.bin .geq (.t 23) (zi1 0)),
 zg1 25 (.pick (.t 21) (.t 24) zF1),
 zm1 26 25,
 zt1 27 26 (.off (.t 1) 2),
 zt1 28 26 (.ld (.t 27) 1 false),
 zt1 29 26 (.bin .leq (.t 28) (zi1 3)),
 zg1 30 (.pick (.t 26) (.t 29) zF1),
 zm1 2 30] [2] [])
 .ret)),
 [.tmp 2], false⟩
def lp93_0 : IC :=
 (.loop [0, 1, 2, 7, 8] [] (.seq (.seq (.reg false [zm1 9 8,
 zm1 10 0,
 zg1 11 (.len (.t 10)),
 zg1 12 (.bin .lss (.t 9) (.t 11))] [0, 1, 2, 7, 8, 12] [])
 (.cond (.t 12)
 .skip
 (.exit 0)))
 (.seq (.block 1 (.seq (.reg false [zm1 15 0,
 zm1 16 8,
 zg1 17 (.ixs (.t 15) (.t 16) 7),
 zg1 18 (.off (.t 17) 0),
 zg1 19 (.ld (.t 18) 1 false),
 zm1 20 1,
 zg1 21 (.bin .eql (.t 19) (.t 20))] [0, 1, 2, 7, 8, 21] [])
 (.cond (.t 21)
 (.seq (.seq (.reg false [zm1 22 0,
 zm1 23 8,
 zg1 24 (.ixs (.t 22) (.t 23) 7),
 zg1 25 (.off (.t 24) 6),
 zg1 26 (.ld (.t 25) 1 false),
 zm1 27 7,
 zg1 28 (.bin .neq (.t 26) (.t 27)),
 zm1 29 28,
 zf1 30 29 (.mov (.t 7)),
 zf1 31 29 (.mov (.t 2)),
 zf1 32 29 (.bin .geq (.t 30) (.t 31)),
 zg1 33 (.pick (.t 29) zT1 (.t 32))] [0, 1, 2, 7, 8, 33] [])
 (.cond (.t 33)
 (.seq (.reg false [zm1 34 8,
 zm1 6 34] [6] [])
 .ret)
 .skip))
 (.reg false [zm1 35 7,
 zg1 36 (.bin .add (.t 35) (zi1 1)),
 zm1 7 36] [0, 1, 2, 7, 8] []))
 .skip)))
 (.reg false [zm1 13 8,
 zg1 14 (.bin .add (.t 13) (zi1 1)),
 zm1 8 14] [0, 1, 2, 7, 8] []))))
def ir93 : IFn :=   -- tympan/tympanref15.anchors
⟨(.seq (.reg false [zg1 6 (.mov (zi1 0))] [0, 1, 2] [])
 (.seq (.reg false [zg1 7 (.mov (zi1 0))] [0, 1, 2, 7] [])
 (.seq (.seq (.reg false [zg1 8 (.mov (zi1 0))] [0, 1, 2, 7, 8] [])
 (.block 0 lp93_0))
 (.seq (.seq (.reg false [zm1 37 7,
 zm1 38 2,
 zg1 39 (.bin .lss (.t 37) (.t 38))] [0, 39] [])
 (.cond (.t 39)
 (.seq (.reg false [zm1 40 0,
 zg1 41 (.len (.t 40)),
 zm1 6 41] [6] [])
 .ret)
 .skip))
 (.seq (.reg false [zg1 6 (.mov (zi1 (-1)))] [6] [])
 .ret))))),
 [.tmp 6], false⟩
def ir98 : IFn :=   -- tympan/cost.Add
⟨(.seq (.reg false [zg1 2 (.bx (.t 0) 2 true),
 zg1 3 (.bx (.t 1) 2 true),
 zg1 4 (.al [zo1, zo1] true)] [2, 3, 4] [2, 3, 4])
 (.seq (.reg true [zg1 5 (.off (.t 2) 0),
 zg1 6 (.ldl 2 (.t 5) 1 false),
 zg1 7 (.off (.t 3) 0),
 zg1 8 (.ldl 3 (.t 7) 1 false),
 zg1 9 (.call 177 [(.t 6), (.t 8)] false),
 zg1 10 (.off (.t 2) 1),
 zg1 11 (.ldl 2 (.t 10) 1 false),
 zg1 12 (.off (.t 3) 1),
 zg1 13 (.ldl 3 (.t 12) 1 false),
 zg1 14 (.call 178 [(.t 11), (.t 13)] false),
 zg1 15 (.bld [zo1, zo1] [(0, 1, (.t 9)), (1, 1, (.t 14))]),
 zn1 (.stl 4 (.t 4) (.t 15) 2)] [4] [4])
 .ret)),
 [.cell 4 2 true], false⟩
def ir109 : IFn :=   -- tympan/column.Cost$1
⟨(.seq (.reg false [zg1 2 (.mov (zi1 0))] [0, 1] [])
 (.seq (.reg false [zg1 3 (.off (.t 0) 5),
 zg1 4 (.ld (.t 3) 5 true),
 zg1 5 (.off (.t 1) 0),
 zg1 6 (.off (.t 5) 5),
 zg1 7 (.ld (.t 6) 1 false),
 zg1 8 (.off (.t 0) 3),
 zg1 9 (.ld (.t 8) 1 false),
 zg1 10 (.call 110 [(.t 4), (.t 7), (.t 9)] false),
 zm1 2 10] [2] [])
 .ret)),
 [.tmp 2], false⟩
def ir110 : IFn :=   -- tympan/gset.Bad
⟨(.seq (.reg false [zg1 3 (.bx (.t 0) 5 true),
 zg1 6 (.mov (zi1 0))] [1, 2, 3] [3])
 (.seq (.reg false [zm1 7 1,
 zg1 8 (.mnmx true (.t 7) (zi1 0)),
 zg1 9 (.mnmx false (.t 8) (zi1 1125899906842624)),
 zm1 1 9] [1, 2, 3] [3])
 (.seq (.seq (.reg false [zg1 10 (.off (.t 3) 0),
 zg1 11 (.ld (.t 10) 1 false)] [1, 2, 3, 11] [3])
 (.block 0 (.seq (.block 3 (.seq (.block 2 (.seq (.block 1 (.seq (.seq (.seq (.reg false [zg1 13 (.bin .eql (.t 11) (zi1 0)),
 zm1 12 13] [1, 2, 3, 11, 12] [3])
 (.cond (.t 12)
 (.exit 1)
 .skip))
 (.seq (.seq (.reg false [zg1 15 (.bin .eql (.t 11) (zi1 1)),
 zm1 14 15] [1, 3, 11, 14] [3])
 (.cond (.t 14)
 (.exit 2)
 .skip))
 (.seq (.reg false [zg1 17 (.bin .eql (.t 11) (zi1 2)),
 zm1 16 17] [3, 16] [3])
 (.cond (.t 16)
 (.exit 3)
 .skip))))
 (.exit 0)))
 (.seq (.seq (.seq (.reg false [zg1 18 (.off (.t 3) 4),
 zg1 19 (.ld (.t 18) 1 false),
 zg1 20 (.bin .eql (.t 19) (zi1 0)),
 zm1 21 20,
 zf1 22 21 (.mov (.t 2)),
 zg1 23 (.pick (.t 21) zT1 (.t 22))] [1, 3, 23] [3])
 (.cond (.t 23)
 (.seq (.reg false [zg1 6 (.mov (zi1 0))] [6] [])
 .ret)
 .skip))
 (.seq (.reg false [zg1 24 (.off (.t 3) 4),
 zg1 25 (.ld (.t 24) 1 false),
 zm1 26 1,
 zg1 27 (.call 192 [(.t 25), (.t 26)] false),
 zm1 6 27] [6] [])
 .ret))
 (.exit 0))))
 (.seq (.seq (.reg false [zg1 28 (.off (.t 3) 1),
 zg1 29 (.ld (.t 28) 1 false),
 zg1 30 (.bin .gtr (.t 29) (zi1 0))] [1, 3, 30] [3])
 (.cond (.t 30)
 (.seq (.reg false [zg1 6 (.mov (zi1 0))] [6] [])
 .ret)
 .skip))
 (.reg false [zg1 31 (.off (.t 3) 3),
 zg1 32 (.ld (.t 31) 1 false),
 zm1 33 1,
 zg1 34 (.bin .add (.t 32) (.t 33)),
 zg1 35 (.off (.t 3) 3),
 zn1 (.st (.t 35) (.t 34) 1)] [3] [3]))))
 (.seq (.seq (.reg false [zg1 36 (.off (.t 3) 2),
 zg1 37 (.ld (.t 36) 1 false),
 zg1 38 (.off (.t 3) 3),
 zg1 39 (.ld (.t 38) 1 false),
 zg1 40 (.call 192 [(.t 37), (.t 39)] false),
 zm1 6 40] [6] [])
 .ret)
 (.exit 0)))))
 (.seq (.reg false [zg1 6 (.mov (zi1 10000))] [6] [])
 .ret)))),
 [.tmp 6], false⟩
def ir111 : IFn :=   -- tympan/column.Cost$2
⟨(.seq (.reg false [zg1 3 (.mov (zi1 0))] [0, 1, 2] [])
 (.seq (.reg true [zg1 4 (.off (.t 0) 0),
 zg1 5 (.ld (.t 4) 19 true),
 zg1 6 (.ld (.t 1) 1 false),
 zg1 7 (.call 26 [(.t 6)] true),
 zg1 8 (.off (.t 2) 2),
 zg1 9 (.ld (.t 8) 1 false),
 zg1 10 (.call 112 [(.t 5), (.t 7), (.t 9)] false),
 zm1 3 10] [3] [])
 .ret)),
 [.tmp 3], false⟩
def ir112 : IFn :=   -- tympan/para.Of
⟨(.seq (.reg false [zg1 3 (.bx (.t 0) 19 true),
 zg1 6 (.mov (zi1 0))] [1, 2, 3] [3])
 (.seq (.reg false [zm1 11 1,
 zm1 12 2,
 zg1 13 (.call 193 [(.t 11), (.t 12)] false),
 zm1 10 13,
 zg1 14 (.ext (.t 10) 0),
 zg1 15 (.ext (.t 10) 1),
 zg1 7 (.al [zo1, zo1, zo1, zo1, zo1, zo1, zo1] true),
 zn1 (.st (.t 7) (.t 14) 7),
 zm1 8 15] [1, 2, 3, 7, 8] [3, 7])
 (.seq (.seq (.reg false [zm1 16 8,
 zg1 17 (.un .not (.t 16)),
 zm1 18 17,
 zf1 19 18 (.mov (.t 1)),
 zf1 20 18 (.mov (.t 2)),
 zf1 21 18 (.call 194 [(.t 19), (.t 20)] false),
 zf1 22 18 (.un .not (.t 21)),
 zg1 23 (.pick (.t 18) zT1 (.t 22)),
 zm1 24 23,
 zf1 25 24 (.ld (.t 7) 7 true),
 zf1 26 24 (.call 195 [(.t 25)] false),
 zg1 27 (.pick (.t 24) zT1 (.t 26))] [1, 2, 3, 7, 27] [3, 7])
 (.cond (.t 27)
 (.seq (.reg false [zg1 6 (.mov (zi1 0))] [6] [])
 .ret)
 .skip))
 (.seq (.reg false [zg1 9 (.mov (zi1 0))] [1, 2, 3, 7, 9] [3, 7])
 (.seq (.seq (.reg false [zg1 28 (.off (.t 7) 0),
 zg1 29 (.ld (.t 28) 1 false),
 zg1 30 (.bin .eql (.t 29) (zi1 3))] [1, 2, 3, 7, 9, 30] [3, 7])
 (.cond (.t 30)
 (.reg false [zg1 31 (.off (.t 7) 6),
 zg1 32 (.ld (.t 31) 1 false),
 zg1 33 (.mnmx true (.t 32) (zi1 0)),
 zm1 9 33] [1, 2, 3, 9] [3])
 .skip))
 (.seq (.seq (.reg false [zm1 34 1,
 zm1 35 2,
 zg1 36 (.call 196 [(.t 34), (.t 35)] false)] [1, 2, 3, 9, 36] [3])
 (.cond (.t 36)
 (.reg false [zm1 37 9,
 zg1 38 (.off (.t 3) 13),
 zg1 39 (.ld (.t 38) 1 false),
 zg1 40 (.mnmx true (.t 39) (zi1 0)),
 zg1 41 (.bin .add (.t 37) (.t 40)),
 zm1 9 41] [1, 2, 3, 9] [3])
 .skip))
 (.seq (.seq (.reg false [zm1 42 1,
 zm1 43 2,
 zg1 44 (.call 197 [(.t 42), (.t 43)] false)] [3, 9, 44] [3])
 (.cond (.t 44)
 (.reg false [zm1 45 9,
 zg1 46 (.off (.t 3) 14),
 zg1 47 (.ld (.t 46) 1 false),
 zg1 48 (.mnmx true (.t 47) (zi1 0)),
 zg1 49 (.bin .add (.t 45) (.t 48)),
 zm1 9 49] [9] [])
 .skip))
 (.seq (.reg false [zm1 50 9,
 zm1 6 50] [6] [])
 .ret)))))))),
 [.tmp 6], false⟩
def ir113 : IFn :=   -- tympan/column.Cost$3
⟨(.seq (.reg false [zg1 1 (.mov (zi1 0))] [0] [])
 (.seq (.reg false [zg1 2 (.off (.t 0) 0),
 zg1 3 (.off (.t 2) 17),
 zg1 4 (.ld (.t 3) 1 false),
 zm1 1 4] [1] [])
 .ret)),
 [.tmp 1], false⟩
def ir114 : IFn :=   -- tympan/column.Cost$4
⟨(.seq (.reg false [zg1 2 (.mov (zi1 0))] [0, 1] [])
 (.seq (.reg true [zg1 3 (.off (.t 0) 0),
 zg1 4 (.off (.t 3) 15),
 zg1 5 (.ld (.t 4) 1 false),
 zg1 6 (.ld (.t 0) 22 true),
 zg1 7 (.off (.t 1) 3),
 zg1 8 (.ld (.t 7) 1 false),
 zg1 9 (.call 115 [(.t 6), (.t 8)] true),
 zg1 10 (.bin .add (.t 5) (.t 9)),
 zm1 2 10] [2] [])
 .ret)),
 [.tmp 2], false⟩
def ir115 : IFn :=   -- tympan/column.torn
⟨(.seq (.reg false [zg1 2 (.bx (.t 0) 22 true),
 zg1 4 (.mov (zi1 0))] [1, 2] [2])
 (.seq (.reg false [zm1 6 1,
 zm1 7 1,
 zg1 8 (.len (.t 7)),
 zg1 9 (.bin .sub (.t 8) (zi1 1)),
 zg1 10 (.ixs (.t 6) (.t 9) 3),
 zg1 11 (.ld (.t 10) 3 true),
 zg1 5 (.al [zo1, zo1, zo1] true),
 zn1 (.st (.t 5) (.t 11) 3)] [2, 5] [2, 5])
 (.seq (.seq (.reg false [zg1 12 (.off (.t 5) 0),
 zg1 13 (.ld (.t 12) 1 false),
 zg1 14 (.bin .lss (.t 13) (zi1 0)),
 zm1 15 14,
 zf1 16 15 (.off (.t 5) 0),
 zf1 17 15 (.ld (.t 16) 1 false),
 zf1 18 15 (.off (.t 2) 20),
 zf1 19 15 (.ld (.t 18) 1 false),
 zf1 20 15 (.len (.t 19)),
 zf1 21 15 (.bin .geq (.t 17) (.t 20)),
 zg1 22 (.pick (.t 15) zT1 (.t 21))] [2, 5, 22] [2, 5])
 (.cond (.t 22)
 (.seq (.reg false [zg1 4 (.mov (zi1 0))] [4] [])
 .ret)
 .skip))
 (.seq (.reg true [zg1 23 (.off (.t 2) 20),
 zg1 24 (.ldl 2 (.t 23) 1 false),
 zg1 25 (.off (.t 5) 0),
 zg1 26 (.ldl 5 (.t 25) 1 false),
 zg1 27 (.ixs (.t 24) (.t 26) 2),
 zg1 28 (.ld (.t 27) 2 true),
 zg1 29 (.off (.t 5) 2),
 zg1 30 (.ldl 5 (.t 29) 1 false),
 zg1 31 (.call 198 [(.t 28), (.t 30)] false),
 zm1 4 31] [4] [])
 .ret)))),
 [.tmp 4], false⟩
def ir116 : IFn :=   -- tympan/column.Cost$5
⟨(.seq (.reg false [zg1 3 (.mov (zi1 0))] [0, 1, 2] [])
 (.seq (.reg true [zg1 4 (.off (.t 0) 0),
 zg1 5 (.off (.t 4) 16),
 zg1 6 (.ld (.t 5) 1 false),
 zg1 7 (.ld (.t 1) 1 false),
 zg1 8 (.ld (.t 2) 7 true),
 zg1 9 (.call 25 [(.t 7), (.t 8)] true),
 zg1 10 (.call 82 [(.t 9)] true),
 zg1 11 (.bin .mul (.t 6) (.t 10)),
 zm1 3 11] [3] [])
 .ret)),
 [.tmp 3], false⟩
def lp117_0 : IC :=
 (.loop [4, 5, 6, 14, 15, 16] [4] (.seq (.reg false [zg1 17 (.bin .lss (.t 16) (.t 15))] [4, 5, 6, 14, 15, 16, 17] [4])
 (.seq (.cond (.t 17)
 .skip
 (.exit 0))
 (.seq (.block 1 (.seq (.reg false [zg1 18 (.ixs (.t 14) (.t 16) 1),
 zg1 19 (.ld (.t 18) 1 false),
 zm1 8 19] [4, 5, 6, 8, 14, 15, 16] [4])
 (.reg false [zm1 20 6,
 zm1 21 8,
 zg1 22 (.bld [zo1, zo1] [(1, 1, (.t 21))]),
 zg1 23 (.callv (.t 20) [(.t 22)] false)] [4, 5, 6, 14, 15, 16] [4])))
 (.reg false [zg1 24 (.bin .add (.t 16) (zi1 1)),
 zm1 16 24] [4, 5, 6, 14, 15, 16] [4])))))
def ir117 : IFn :=   -- tympan/cost.Of
⟨(.seq (.reg false [zg1 4 (.al [zo1, zo1] true)] [0, 1, 4] [4])
 (.seq (.reg false [zg1 5 (.al [zo1, zo1] false)] [0, 1, 4, 5] [4])
 (.seq (.reg false [zg1 9 (.mkf (.func 199) [(.t 5)] []),
 zm1 6 9] [0, 1, 4, 5, 6] [4])
 (.seq (.seq (.reg false [zm1 10 0] [1, 4, 5, 6, 10] [4])
 (.cond (.t 10)
 (.reg false [zm1 11 6,
 zg1 12 (.bld [zo1, zo1] [(0, 1, (zi1 1))]),
 zg1 13 (.callv (.t 11) [(.t 12)] false)] [1, 4, 5, 6] [4])
 .skip))
 (.seq (.seq (.reg false [zm1 14 1,
 zg1 15 (.len (.t 14)),
 zg1 16 (.mov (zi1 0))] [4, 5, 6, 14, 15, 16] [4])
 (.block 0 lp117_0))
 (.seq (.reg false [zg1 25 (.call 200 [(.t 5)] false),
 zn1 (.st (.t 4) (.t 25) 2)] [4] [4])
 .ret)))))),
 [.cell 4 2 true], false⟩
def lp118_0 : IC :=
 (.loop [0, 7, 16, 17, 18] [] (.seq (.reg false [zg1 19 (.bin .lss (.t 18) (.t 17))] [0, 7, 16, 17, 18, 19] [])
 (.seq (.cond (.t 19)
 .skip
 (.exit 0))
 (.seq (.block 1 (.seq (.reg false [zg1 20 (.ixs (.t 16) (.t 18) 3),
 zg1 21 (.ld (.t 20) 3 true),
 zg1 9 (.al [zo1, zo1, zo1] true),
 zn1 (.st (.t 9) (.t 21) 3)] [0, 7, 9, 16, 17, 18] [9])
 (.seq (.reg false [zg1 22 (.off (.t 9) 0),
 zg1 23 (.ld (.t 22) 1 false),
 zg1 24 (.bin .geq (.t 23) (zi1 0)),
 zm1 25 24,
 zt1 26 25 (.off (.t 9) 0),
 zt1 27 25 (.ld (.t 26) 1 false),
 zt1 28 25 (.mov (.t 0)),
 zt1 29 25 (.len (.t 28)),
 zt1 30 25 (.bin .lss (.t 27) (.t 29)),
 zg1 31 (.pick (.t 25) (.t 30) zF1)] [0, 7, 9, 16, 17, 18, 31] [9])
 (.cond (.t 31)
 (.reg true [zm1 32 7,
 zm1 33 0,
 zg1 34 (.off (.t 9) 0),
 zg1 35 (.ldl 9 (.t 34) 1 false),
 zg1 36 (.ixs (.t 33) (.t 35) 2),
 zg1 37 (.ld (.t 36) 2 true),
 zg1 38 (.off (.t 9) 1),
 zg1 39 (.ldl 9 (.t 38) 1 false),
 zg1 40 (.off (.t 9) 2),
 zg1 41 (.ldl 9 (.t 40) 1 false),
 zg1 42 (.call 201 [(.t 37), (.t 39), (.t 41)] false),
 zg1 43 (.bin .add (.t 32) (.t 42)),
 zg1 44 (.mnmx false (.t 43) (zi1 1125899906842624)),
 zm1 7 44] [0, 7, 16, 17, 18] [])
 .skip))))
 (.reg false [zg1 45 (.bin .add (.t 18) (zi1 1)),
 zm1 18 45] [0, 7, 16, 17, 18] [])))))
def ir118 : IFn :=   -- tympan/split.High
⟨(.seq (.reg false [zg1 6 (.mov (zi1 0))] [0, 1, 2] [])
 (.seq (.seq (.reg false [zm1 10 1,
 zg1 11 (.len (.t 10)),
 zg1 12 (.bin .eql (.t 11) (zi1 0))] [0, 1, 2, 12] [])
 (.cond (.t 12)
 (.seq (.reg false [zg1 6 (.mov (zi1 0))] [6] [])
 .ret)
 .skip))
 (.seq (.reg false [zm1 13 2,
 zg1 14 (.mnmx true (.t 13) (zi1 0)),
 zg1 15 (.mnmx false (.t 14) (zi1 1125899906842624)),
 zm1 7 15] [0, 1, 7] [])
 (.seq (.seq (.reg false [zm1 16 1,
 zg1 17 (.len (.t 16)),
 zg1 18 (.mov (zi1 0))] [0, 7, 16, 17, 18] [])
 (.block 0 lp118_0))
 (.seq (.reg false [zm1 46 7,
 zm1 6 46] [6] [])
 .ret))))),
 [.tmp 6], false⟩
def ir119 : IFn :=   -- tympan/area.High
⟨(.seq (.reg false [zg1 3 (.bx (.t 0) 19 true),
 zg1 5 (.bx (.t 2) 2 true),
 zg1 6 (.mov (zi1 0))] [1, 3, 5] [3, 5])
 (.seq (.reg true [zm1 7 1,
 zg1 8 (.off (.t 5) 0),
 zg1 9 (.ldl 5 (.t 8) 1 false),
 zg1 10 (.off (.t 3) 7),
 zg1 11 (.ldl 3 (.t 10) 1 false),
 zg1 12 (.call 128 [(.t 7), (.t 9), (.t 11)] false),
 zm1 13 1,
 zg1 14 (.off (.t 5) 1),
 zg1 15 (.ldl 5 (.t 14) 1 false),
 zg1 16 (.off (.t 3) 7),
 zg1 17 (.ldl 3 (.t 16) 1 false),
 zg1 18 (.call 128 [(.t 13), (.t 15), (.t 17)] false),
 zg1 19 (.bin .add (.t 12) (.t 18)),
 zm1 6 19] [6] [])
 .ret)),
 [.tmp 6], false⟩
def ir120 : IFn :=   -- tympan/area.Stack
⟨(.seq (.reg false [zg1 3 (.bx (.t 0) 19 true),
 zg1 6 (.mov (zi1 0))] [1, 2, 3] [3])
 (.seq (.reg false [zm1 8 1,
 zm1 9 2,
 zg1 10 (.off (.t 3) 7),
 zg1 11 (.ld (.t 10) 1 false),
 zg1 12 (.call 128 [(.t 8), (.t 9), (.t 11)] false),
 zm1 7 12] [3, 7] [3])
 (.seq (.seq (.reg false [zm1 13 7,
 zg1 14 (.bin .eql (.t 13) (zi1 0))] [3, 7, 14] [3])
 (.cond (.t 14)
 (.seq (.reg false [zg1 6 (.mov (zi1 0))] [6] [])
 .ret)
 .skip))
 (.seq (.reg false [zm1 15 7,
 zg1 16 (.off (.t 3) 7),
 zg1 17 (.ld (.t 16) 1 false),
 zg1 18 (.mnmx true (.t 17) (zi1 0)),
 zg1 19 (.mnmx false (.t 18) (zi1 1125899906842624)),
 zg1 20 (.bin .sub (.t 15) (.t 19)),
 zm1 6 20] [6] [])
 .ret)))),
 [.tmp 6], false⟩
def ir121 : IFn :=   -- tympan/column.last
⟨(.seq (.reg false [zg1 3 (.bx (.t 1) 6 true),
 zg1 4 (.mov zF1)] [0, 3] [3])
 (.seq (.seq (.reg false [zg1 7 (.off (.t 3) 0),
 zg1 8 (.ld (.t 7) 1 false),
 zg1 9 (.bin .neq (.t 8) (zi1 1))] [0, 3, 9] [3])
 (.cond (.t 9)
 (.seq (.reg false [zg1 4 (.mov zF1)] [4] [])
 .ret)
 .skip))
 (.seq (.prep [5] (.reg true [zm1 11 0,
 zg1 12 (.call 26 [(.t 11)] false),
 zg1 13 (.off (.t 3) 2),
 zg1 14 (.ldl 3 (.t 13) 1 false),
 zg1 15 (.call 193 [(.t 12), (.t 14)] false),
 zm1 10 15,
 zg1 16 (.ext (.t 10) 0),
 zg1 17 (.ext (.t 10) 1),
 zg1 5 (.alp [zo1, zo1, zo1, zo1, zo1, zo1, zo1]),
 zn1 (.stl 5 (.t 5) (.t 16) 7),
 zm1 6 17] [0, 3, 5, 6] [3, 5]))
 (.seq (.reg true [zg1 18 (.off (.t 3) 2),
 zg1 19 (.ldl 3 (.t 18) 1 false),
 zm1 20 0,
 zg1 21 (.call 26 [(.t 20)] false),
 zg1 22 (.call 78 [(.t 21)] false),
 zg1 23 (.bin .eql (.t 19) (.t 22)),
 zm1 24 23,
 zf1 25 24 (.mov (.t 6)),
 zf1 26 24 (.mov (.t 25)),
 zt1 27 26 (.off (.t 3) 2),
 zt1 28 26 (.ldl 3 (.t 27) 1 false),
 zt1 29 26 (.bin .gtr (.t 28) (zi1 0)),
 zf1 30 24 (.pick (.t 26) (.t 29) zF1),
 zf1 31 24 (.mov (.t 30)),
 zt1 32 31 (.ldl 5 (.t 5) 7 true),
 zt1 33 31 (.call 195 [(.t 32)] false),
 zf1 34 24 (.pick (.t 31) (.t 33) zF1),
 zg1 35 (.pick (.t 24) zT1 (.t 34)),
 zm1 4 35] [4] [])
 .ret)))),
 [.tmp 4], false⟩
def ir122 : IFn :=   -- tympan/gset.Of
⟨(.seq (.reg false [zg1 3 (.bx (.t 0) 6 true),
 zg1 6 (.al [zo1, zo1, zo1, zo1, zo1] true)] [1, 2, 3, 6] [3, 6])
 (.seq (.seq (.reg false [zg1 9 (.ld (.t 3) 6 true),
 zm1 10 1,
 zg1 11 (.call 202 [(.t 9), (.t 10)] false),
 zg1 12 (.un .not (.t 11))] [1, 2, 3, 6, 12] [3, 6])
 (.cond (.t 12)
 (.seq (.reg false [zg1 13 (.bld [zo1, zo1, zo1, zo1, zo1] []),
 zn1 (.st (.t 6) (.t 13) 5)] [6] [6])
 .ret)
 .skip))
 (.seq (.reg true [zm1 14 1,
 zg1 15 (.off (.t 3) 0),
 zg1 16 (.ldl 3 (.t 15) 1 false),
 zg1 17 (.bin .sub (.t 14) (.t 16)),
 zg1 18 (.ldl 3 (.t 3) 6 true),
 zg1 19 (.call 203 [(.t 18)] false),
 zm1 7 17,
 zm1 8 19] [2, 3, 6, 7, 8] [3, 6])
 (.seq (.block 0 (.seq (.reg false [zm1 21 7,
 zg1 22 (.bin .eql (.t 21) (zi1 0)),
 zm1 20 22] [2, 3, 6, 7, 8, 20] [3, 6])
 (.cond (.t 20)
 (.seq (.reg false [zg1 23 (.bld [zo1, zo1, zo1, zo1, zo1] []),
 zn1 (.st (.t 6) (.t 23) 5)] [6] [6])
 .ret)
 (.seq (.reg false [zm1 25 7,
 zg1 26 (.bin .gtr (.t 25) (zi1 0)),
 zm1 27 26,
 zt1 28 27 (.mov (.t 8)),
 zt1 29 27 (.off (.t 3) 1),
 zt1 30 27 (.ixa (.t 29) (.t 28) 1 4),
 zt1 31 27 (.ld (.t 30) 1 false),
 zt1 32 27 (.bin .gtr (.t 31) (zi1 0)),
 zg1 33 (.pick (.t 27) (.t 32) zF1),
 zm1 34 33,
 zt1 35 34 (.mov (.t 2)),
 zt1 36 34 (.mov (.t 35)),
 zt1 37 36 (.mov (.t 8)),
 zt1 38 36 (.bin .eql (.t 37) (zi1 0)),
 zt1 39 34 (.pick (.t 36) (.t 38) zF1),
 zt1 40 34 (.un .not (.t 39)),
 zg1 41 (.pick (.t 34) (.t 40) zF1),
 zm1 24 41] [3, 6, 7, 8, 24] [3, 6])
 (.cond (.t 24)
 (.seq (.reg false [zm1 42 8,
 zm1 43 7,
 zm1 44 8,
 zg1 45 (.off (.t 3) 1),
 zg1 46 (.ixa (.t 45) (.t 44) 1 4),
 zg1 47 (.ld (.t 46) 1 false),
 zg1 48 (.bld [zo1, zo1, zo1, zo1, zo1] [(0, 1, (zi1 1)), (1, 1, (.t 42)), (2, 1, (.t 43)), (3, 1, (.t 47))]),
 zn1 (.st (.t 6) (.t 48) 5)] [6] [6])
 .ret)
 (.seq (.reg false [zm1 50 7,
 zg1 51 (.bin .gtr (.t 50) (zi1 0)),
 zm1 49 51] [3, 6, 7, 49] [3, 6])
 (.cond (.t 49)
 (.seq (.reg false [zm1 52 7,
 zg1 53 (.bld [zo1, zo1, zo1, zo1, zo1] [(4, 1, (.t 52))]),
 zn1 (.st (.t 6) (.t 53) 5)] [6] [6])
 .ret)
 (.seq (.reg false [zg1 55 (.off (.t 3) 5),
 zg1 56 (.ld (.t 55) 1 false),
 zm1 57 7,
 zg1 58 (.bin .add (.t 56) (.t 57)),
 zg1 59 (.bin .geq (.t 58) (zi1 0)),
 zm1 54 59] [3, 6, 7, 54] [3, 6])
 (.cond (.t 54)
 (.seq (.reg false [zm1 60 7,
 zg1 61 (.un .neg (.t 60)),
 zg1 62 (.off (.t 3) 5),
 zg1 63 (.ld (.t 62) 1 false),
 zg1 64 (.bld [zo1, zo1, zo1, zo1, zo1] [(0, 1, (zi1 2)), (2, 1, (.t 61)), (3, 1, (.t 63))]),
 zn1 (.st (.t 6) (.t 64) 5)] [6] [6])
 .ret)
 .skip)))))))))
 (.seq (.reg false [zg1 65 (.off (.t 3) 5),
 zg1 66 (.ld (.t 65) 1 false),
 zg1 67 (.off (.t 3) 5),
 zg1 68 (.ld (.t 67) 1 false),
 zg1 69 (.off (.t 3) 5),
 zg1 70 (.ld (.t 69) 1 false),
 zm1 71 7,
 zg1 72 (.bin .add (.t 70) (.t 71)),
 zg1 73 (.bld [zo1, zo1, zo1, zo1, zo1] [(0, 1, (zi1 3)), (2, 1, (.t 66)), (3, 1, (.t 68)), (4, 1, (.t 72))]),
 zn1 (.st (.t 6) (.t 73) 5)] [6] [6])
 .ret))))),
 [.cell 6 5 true], false⟩
def ir123 : IFn :=   -- (*tympan/sums.Sums).Of
⟨(.seq (.reg false [zg1 6 (.al [zo1, zo1, zo1, zo1, zo1, zo1] true)] [0, 1, 2, 6] [6])
 (.seq (.reg false [zm1 11 0,
 zm1 12 1,
 zm1 13 2,
 zg1 14 (.call 204 [(.t 11), (.t 12), (.t 13)] false),
 zm1 10 14,
 zg1 15 (.ext (.t 10) 0),
 zg1 16 (.ext (.t 10) 1),
 zg1 17 (.ext (.t 10) 2),
 zm1 1 15,
 zm1 2 16,
 zm1 7 17] [0, 1, 2, 6, 7] [6])
 (.seq (.seq (.reg false [zm1 18 7,
 zg1 19 (.un .not (.t 18))] [0, 1, 2, 6, 19] [6])
 (.cond (.t 19)
 (.seq (.reg false [zg1 20 (.bld [zo1, zo1, zo1, zo1, zo1, zo1] []),
 zn1 (.st (.t 6) (.t 20) 6)] [6] [6])
 .ret)
 .skip))
 (.seq (.prep [8] (.reg true [zm1 22 0,
 zg1 23 (.nck (.t 22)),
 zg1 24 (.off (.t 23) 1),
 zg1 25 (.ld (.t 24) 1 false),
 zm1 26 2,
 zg1 27 (.ixs (.t 25) (.t 26) 6),
 zg1 28 (.ld (.t 27) 6 true),
 zm1 29 0,
 zg1 30 (.nck (.t 29)),
 zg1 31 (.off (.t 30) 1),
 zg1 32 (.ld (.t 31) 1 false),
 zm1 33 1,
 zg1 34 (.ixs (.t 32) (.t 33) 6),
 zg1 35 (.ld (.t 34) 6 true),
 zg1 36 (.call 205 [(.t 28), (.t 35)] false),
 zm1 21 36,
 zg1 37 (.ext (.t 21) 0),
 zg1 38 (.ext (.t 21) 1),
 zg1 8 (.alp [zo1, zo1, zo1, zo1, zo1, zo1]),
 zn1 (.stl 8 (.t 8) (.t 37) 6),
 zm1 9 38] [6, 8] [6, 8]))
 (.seq (.reg false [zg1 39 (.ld (.t 8) 6 true),
 zn1 (.st (.t 6) (.t 39) 6)] [6] [6])
 .ret))))),
 [.cell 6 6 true], false⟩
def lp128_0 : IC :=
 (.loop [0, 2, 7, 8, 13, 14, 15] [] (.seq (.reg false [zg1 16 (.bin .lss (.t 15) (.t 14))] [0, 2, 7, 8, 13, 14, 15, 16] [])
 (.seq (.cond (.t 16)
 .skip
 (.exit 0))
 (.seq (.block 1 (.seq (.reg false [zg1 17 (.ixs (.t 13) (.t 15) 1),
 zg1 18 (.ld (.t 17) 1 false),
 zm1 10 18] [0, 2, 7, 8, 10, 13, 14, 15] [])
 (.seq (.reg false [zm1 20 0,
 zm1 21 10,
 zg1 22 (.call 155 [(.t 20), (.t 21)] false),
 zm1 19 22,
 zg1 23 (.ext (.t 19) 0),
 zg1 24 (.ext (.t 19) 1),
 zg1 11 (.al [zo1, zo1, zo1] true),
 zn1 (.st (.t 11) (.t 23) 3),
 zm1 12 24] [0, 2, 7, 8, 11, 12, 13, 14, 15] [11])
 (.seq (.reg false [zm1 25 12] [0, 2, 7, 8, 11, 13, 14, 15, 25] [11])
 (.cond (.t 25)
 (.reg false [zm1 26 7,
 zm1 27 8,
 zm1 28 7,
 zg1 29 (.off (.t 11) 1),
 zg1 30 (.ld (.t 29) 1 false),
 zg1 31 (.callv (.t 28) [(.t 30)] false),
 zg1 32 (.bin .add (.t 27) (.t 31)),
 zm1 33 7,
 zm1 34 2,
 zg1 35 (.callv (.t 33) [(.t 34)] false),
 zg1 36 (.bin .add (.t 32) (.t 35)),
 zg1 37 (.callv (.t 26) [(.t 36)] false),
 zm1 8 37] [0, 2, 7, 8, 13, 14, 15] [])
 .skip)))))
 (.reg false [zg1 38 (.bin .add (.t 15) (zi1 1)),
 zm1 15 38] [0, 2, 7, 8, 13, 14, 15] [])))))
def ir128 : IFn :=   -- tympan/figure.High
⟨(.seq (.reg false [zg1 6 (.mov (zi1 0))] [0, 1, 2] [])
 (.seq (.reg false [zg1 7 (.mov (.c (.p (.fn 212))))] [0, 1, 2, 7] [])
 (.seq (.reg false [zg1 8 (.mov (zi1 0))] [0, 1, 2, 7, 8] [])
 (.seq (.seq (.reg false [zm1 13 1,
 zg1 14 (.len (.t 13)),
 zg1 15 (.mov (zi1 0))] [0, 2, 7, 8, 13, 14, 15] [])
 (.block 0 lp128_0))
 (.seq (.reg false [zm1 39 8,
 zm1 6 39] [6] [])
 .ret))))),
 [.tmp 6], false⟩
def ir135 : IFn :=   -- tympan/column.Cmp$1
⟨(.seq (.reg false [zg1 5 (.mov (zi1 0))] [0, 1, 2] [])
 (.seq (.prep [6, 7] (.reg true [zg1 8 (.ld (.t 2) 1 false),
 zm1 9 0,
 zg1 10 (.call 68 [(.t 8), (.t 9)] true),
 zg1 11 (.ld (.t 2) 1 false),
 zm1 12 1,
 zg1 13 (.call 68 [(.t 11), (.t 12)] false),
 zg1 6 (.alp [zo1, zo1, zo1]),
 zg1 7 (.alp [zo1, zo1, zo1]),
 zn1 (.stl 6 (.t 6) (.t 10) 3),
 zn1 (.stl 7 (.t 7) (.t 13) 3)] [6, 7] [6, 7]))
 (.esc [6, 7] (.seq (.reg true [zg1 14 (.slca (.t 6) none 1 3),
 zg1 15 (.slca (.t 7) none 1 3),
 zg1 16 (.call 77 [(.t 14), (.t 15)] false),
 zm1 5 16] [5] [])
 .ret)))),
 [.tmp 5], false⟩
def lp136_0 : IC :=
 (.loop [3, 6, 7, 8] [] (.seq (.reg false [zg1 9 (.bin .lss (.t 8) (.t 7))] [3, 6, 7, 8, 9] [])
 (.seq (.cond (.t 9)
 .skip
 (.exit 0))
 (.seq (.block 1 (.seq (.reg false [zg1 10 (.ixs (.t 6) (.t 8) 3),
 zg1 11 (.ld (.t 10) 3 true),
 zg1 5 (.al [zo1, zo1, zo1] true),
 zn1 (.st (.t 5) (.t 11) 3)] [3, 5, 6, 7, 8] [5])
 (.reg false [zm1 12 3,
 zg1 13 (.off (.t 5) 2),
 zg1 14 (.ld (.t 13) 1 false),
 zg1 15 (.off (.t 5) 1),
 zg1 16 (.ld (.t 15) 1 false),
 zg1 17 (.bin .sub (.t 14) (.t 16)),
 zg1 18 (.mnmx true (.t 17) (zi1 0)),
 zg1 19 (.bin .add (.t 12) (.t 18)),
 zm1 3 19] [3, 6, 7, 8] [])))
 (.reg false [zg1 20 (.bin .add (.t 8) (zi1 1)),
 zm1 8 20] [3, 6, 7, 8] [])))))
def ir136 : IFn :=   -- tympan/split.Lines
⟨(.seq (.reg false [zg1 2 (.mov (zi1 0))] [0] [])
 (.seq (.reg false [zg1 3 (.mov (zi1 0))] [0, 3] [])
 (.seq (.seq (.reg false [zm1 6 0,
 zg1 7 (.len (.t 6)),
 zg1 8 (.mov (zi1 0))] [3, 6, 7, 8] [])
 (.block 0 lp136_0))
 (.seq (.reg false [zm1 21 3,
 zm1 2 21] [2] [])
 .ret)))),
 [.tmp 2], false⟩
def ir137 : IFn :=   -- tympan/tympanref26.nums
⟨(.seq (.reg false [zg1 2 (.bx (.t 0) 22 true),
 zg1 3 (.bx (.t 1) 6 true),
 zg1 4 (.al [zo1, zo1, zo1, zo1, zo1, zo1, zo1, zo1, zo1] true)] [2, 3, 4] [2, 3, 4])
 (.seq (.prep [5, 6] (.reg true [zg1 7 (.off (.t 2) 0),
 zg1 8 (.off (.t 7) 21),
 zg1 9 (.ldl 2 (.t 8) 1 false),
 zg1 10 (.off (.t 3) 4),
 zg1 11 (.ldl 3 (.t 10) 1 false),
 zg1 12 (.call 74 [(.t 9), (.t 11)] false),
 zg1 13 (.off (.t 2) 0),
 zg1 14 (.off (.t 13) 21),
 zg1 15 (.ldl 2 (.t 14) 1 false),
 zg1 16 (.off (.t 3) 5),
 zg1 17 (.ldl 3 (.t 16) 1 false),
 zg1 18 (.call 74 [(.t 15), (.t 17)] false),
 zg1 5 (.alp [zo1, zo1, zo1]),
 zg1 6 (.alp [zo1, zo1, zo1]),
 zn1 (.stl 5 (.t 5) (.t 12) 3),
 zn1 (.stl 6 (.t 6) (.t 18) 3)] [3, 4, 5, 6] [3, 4, 5, 6]))
 (.seq (.reg true [zg1 19 (.off (.t 3) 0),
 zg1 20 (.ldl 3 (.t 19) 1 false),
 zg1 21 (.off (.t 3) 2),
 zg1 22 (.ldl 3 (.t 21) 1 false),
 zg1 23 (.off (.t 3) 3),
 zg1 24 (.ldl 3 (.t 23) 1 false),
 zg1 25 (.call 219 [(.t 24)] false),
 zg1 26 (.ixa (.t 5) (zi1 0) 1 3),
 zg1 27 (.ldl 5 (.t 26) 1 false),
 zg1 28 (.ixa (.t 5) (zi1 1) 1 3),
 zg1 29 (.ldl 5 (.t 28) 1 false),
 zg1 30 (.ixa (.t 5) (zi1 2) 1 3),
 zg1 31 (.ldl 5 (.t 30) 1 false),
 zg1 32 (.ixa (.t 6) (zi1 0) 1 3),
 zg1 33 (.ldl 6 (.t 32) 1 false),
 zg1 34 (.ixa (.t 6) (zi1 1) 1 3),
 zg1 35 (.ldl 6 (.t 34) 1 false),
 zg1 36 (.ixa (.t 6) (zi1 2) 1 3),
 zg1 37 (.ldl 6 (.t 36) 1 false),
 zg1 38 (.bld [zo1, zo1, zo1, zo1, zo1, zo1, zo1, zo1, zo1] [(0, 1, (.t 20)), (1, 1, (.t 22)), (2, 1, (.t 25)), (3, 1, (.t 27)), (4, 1, (.t 29)), (5, 1, (.t 31)), (6, 1, (.t 33)), (7, 1, (.t 35)), (8, 1, (.t 37))]),
 zn1 (.stl 4 (.t 4) (.t 38) 9)] [4] [4])
 .ret))),
 [.cell 4 9 true], false⟩
def ir138 : IFn :=   -- tympan/split.Same
⟨(.seq (.reg false [zg1 4 (.mov zF1)] [0, 1] [])
 (.seq (.reg false [zm1 5 0,
 zm1 6 1,
 zg1 7 (.call 220 [(.t 5), (.t 6)] false),
 zm1 4 7] [4] [])
 .ret)),
 [.tmp 4], false⟩
def lp139_0 : IC :=
 (.loop [0, 1, 12, 13] [] (.seq (.reg false [zg1 14 (.bin .lss (.t 13) (.t 12))] [0, 1, 12, 13, 14] [])
 (.seq (.cond (.t 14)
 .skip
 (.exit 0))
 (.seq (.block 1 (.seq (.reg false [zm1 15 13,
 zm1 5 15] [0, 1, 5, 12, 13] [])
 (.seq (.reg true [zm1 16 0,
 zm1 17 5,
 zg1 18 (.ixs (.t 16) (.t 17) 1),
 zg1 19 (.ld (.t 18) 1 false),
 zm1 20 1,
 zm1 21 5,
 zg1 22 (.ixs (.t 20) (.t 21) 1),
 zg1 23 (.ld (.t 22) 1 false),
 zg1 24 (.bin .neq (.t 19) (.t 23))] [0, 1, 12, 13, 24] [])
 (.cond (.t 24)
 (.seq (.reg false [zg1 4 (.mov zF1)] [4] [])
 .ret)
 .skip))))
 (.reg false [zg1 25 (.bin .add (.t 13) (zi1 1)),
 zm1 13 25] [0, 1, 12, 13] [])))))
def ir139 : IFn :=   -- slices.Equal[[]int,int]
⟨(.seq (.reg false [zg1 4 (.mov zF1)] [0, 1] [])
 (.seq (.seq (.reg false [zm1 6 0,
 zg1 7 (.len (.t 6)),
 zm1 8 1,
 zg1 9 (.len (.t 8)),
 zg1 10 (.bin .neq (.t 7) (.t 9))] [0, 1, 10] [])
 (.cond (.t 10)
 (.seq (.reg false [zg1 4 (.mov zF1)] [4] [])
 .ret)
 .skip))
 (.seq (.seq (.reg false [zm1 11 0,
 zg1 12 (.len (.t 11)),
 zg1 13 (.mov (zi1 0))] [0, 1, 12, 13] [])
 (.block 0 lp139_0))
 (.seq (.reg false [zg1 4 (.mov zT1)] [4] [])
 .ret)))),
 [.tmp 4], false⟩
def lp140_0 : IC :=
 (.loop [0, 1, 5] [] (.seq (.seq (.reg false [zm1 11 5,
 zm1 12 0,
 zg1 13 (.len (.t 12)),
 zg1 14 (.bin .lss (.t 11) (.t 13))] [0, 1, 5, 14] [])
 (.cond (.t 14)
 .skip
 (.exit 0)))
 (.seq (.block 1 (.seq (.reg true [zm1 17 0,
 zm1 18 5,
 zg1 19 (.ixs (.t 17) (.t 18) 3),
 zg1 20 (.ld (.t 19) 3 true),
 zm1 21 1,
 zm1 22 5,
 zg1 23 (.ixs (.t 21) (.t 22) 3),
 zg1 24 (.ld (.t 23) 3 true),
 zg1 25 (.eqa true [true, true, true] (.t 20) (.t 24))] [0, 1, 5, 25] [])
 (.cond (.t 25)
 (.seq (.reg false [zg1 4 (.mov zF1)] [4] [])
 .ret)
 .skip)))
 (.reg false [zm1 15 5,
 zg1 16 (.bin .add (.t 15) (zi1 1)),
 zm1 5 16] [0, 1, 5] []))))
def ir140 : IFn :=   -- tympan/tympanref22.Same
⟨(.seq (.reg false [zg1 4 (.mov zF1)] [0, 1] [])
 (.seq (.seq (.reg false [zm1 6 0,
 zg1 7 (.len (.t 6)),
 zm1 8 1,
 zg1 9 (.len (.t 8)),
 zg1 10 (.bin .neq (.t 7) (.t 9))] [0, 1, 10] [])
 (.cond (.t 10)
 (.seq (.reg false [zg1 4 (.mov zF1)] [4] [])
 .ret)
 .skip))
 (.seq (.seq (.reg false [zg1 5 (.mov (zi1 0))] [0, 1, 5] [])
 (.block 0 lp140_0))
 (.seq (.reg false [zg1 4 (.mov zT1)] [4] [])
 .ret)))),
 [.tmp 4], false⟩
def lp141_0 : IC :=
 (.loop [0, 1, 5] [] (.seq (.seq (.reg false [zm1 11 5,
 zm1 12 0,
 zg1 13 (.len (.t 12)),
 zg1 14 (.bin .lss (.t 11) (.t 13))] [0, 1, 5, 14] [])
 (.cond (.t 14)
 .skip
 (.exit 0)))
 (.seq (.block 1 (.seq (.reg true [zm1 17 0,
 zm1 18 5,
 zg1 19 (.ixs (.t 17) (.t 18) 1),
 zg1 20 (.ld (.t 19) 1 false),
 zm1 21 1,
 zm1 22 5,
 zg1 23 (.ixs (.t 21) (.t 22) 1),
 zg1 24 (.ld (.t 23) 1 false),
 zg1 25 (.bin .neq (.t 20) (.t 24))] [0, 1, 5, 25] [])
 (.cond (.t 25)
 (.seq (.reg false [zg1 4 (.mov zF1)] [4] [])
 .ret)
 .skip)))
 (.reg false [zm1 15 5,
 zg1 16 (.bin .add (.t 15) (zi1 1)),
 zm1 5 16] [0, 1, 5] []))))
def ir141 : IFn :=   -- tympan/tympanref11.Ints
⟨(.seq (.reg false [zg1 4 (.mov zF1)] [0, 1] [])
 (.seq (.seq (.reg false [zm1 6 0,
 zg1 7 (.len (.t 6)),
 zm1 8 1,
 zg1 9 (.len (.t 8)),
 zg1 10 (.bin .neq (.t 7) (.t 9))] [0, 1, 10] [])
 (.cond (.t 10)
 (.seq (.reg false [zg1 4 (.mov zF1)] [4] [])
 .ret)
 .skip))
 (.seq (.seq (.reg false [zg1 5 (.mov (zi1 0))] [0, 1, 5] [])
 (.block 0 lp141_0))
 (.seq (.reg false [zg1 4 (.mov zT1)] [4] [])
 .ret)))),
 [.tmp 4], false⟩
def lp142_0 : IC :=
 (.loop [1, 7, 8, 9] [1] (.seq (.reg false [zg1 10 (.bin .lss (.t 9) (.t 8))] [1, 7, 8, 9, 10] [1])
 (.seq (.cond (.t 10)
 .skip
 (.exit 0))
 (.seq (.block 1 (.seq (.reg false [zg1 11 (.ixs (.t 7) (.t 9) 2),
 zg1 12 (.ld (.t 11) 2 true),
 zg1 5 (.al [zo1, .p .nilf] true),
 zn1 (.st (.t 5) (.t 12) 2)] [1, 5, 7, 8, 9] [1, 5])
 (.seq (.reg false [zg1 13 (.off (.t 5) 1),
 zg1 14 (.ld (.t 13) 1 false),
 zg1 15 (.ld (.t 1) 22 true),
 zg1 16 (.callv (.t 14) [(.t 15)] false),
 zm1 6 16] [1, 5, 6, 7, 8, 9] [1, 5])
 (.seq (.reg false [zm1 17 6,
 zg1 18 (.bin .geq (.t 17) (zi1 0))] [1, 5, 6, 7, 8, 9, 18] [1, 5])
 (.cond (.t 18)
 (.seq (.reg false [zg1 19 (.off (.t 5) 0),
 zg1 20 (.ld (.t 19) 1 false),
 zm1 21 6,
 zm1 2 20,
 zm1 3 21] [2, 3] [])
 .ret)
 .skip)))))
 (.reg false [zg1 22 (.bin .add (.t 9) (zi1 1)),
 zm1 9 22] [1, 7, 8, 9] [1])))))
def ir142 : IFn :=   -- tympan/valid.Check
⟨(.seq (.reg false [zg1 1 (.bx (.t 0) 22 true),
 zg1 2 (.mov (zi1 0)),
 zg1 3 (.mov (zi1 0))] [1] [1])
 (.seq (.seq (.reg false [zg1 7 (.call 221 [] false),
 zg1 8 (.len (.t 7)),
 zg1 9 (.mov (zi1 0))] [1, 7, 8, 9] [1])
 (.block 0 lp142_0))
 (.seq (.reg false [zg1 2 (.mov (zi1 0)),
 zg1 3 (.mov (zi1 0))] [2, 3] [])
 .ret))),
 [.tmp 2, .tmp 3], false⟩
def ir143 : IFn :=   -- slices.Clone[[]tympan/api.Item,tympan/api.Item]
⟨(.seq (.reg false [zg1 2 (.mov (.c (.nils)))] [0] [])
 (.seq (.seq (.reg false [zm1 3 0,
 zg1 4 (.eqn .sl false (.t 3))] [0, 4] [])
 (.cond (.t 4)
 (.seq (.reg false [zg1 2 (.mov (.c (.nils)))] [2] [])
 .ret)
 .skip))
 (.seq (.reg false [zg1 5 (.bsl 7 0 [zo1, zo1, zo1, zo1, zo1, zo1, zo1] []),
 zm1 6 0,
 zg1 7 (.app (.t 5) (.t 6) 7),
 zm1 2 7] [2] [])
 .ret))),
 [.tmp 2], true⟩
def ir144 : IFn :=   -- slices.Clone[[]tympan/api.Float,tympan/api.Float]
⟨(.seq (.reg false [zg1 2 (.mov (.c (.nils)))] [0] [])
 (.seq (.seq (.reg false [zm1 3 0,
 zg1 4 (.eqn .sl false (.t 3))] [0, 4] [])
 (.cond (.t 4)
 (.seq (.reg false [zg1 2 (.mov (.c (.nils)))] [2] [])
 .ret)
 .skip))
 (.seq (.reg false [zg1 5 (.bsl 3 0 [zo1, zo1, zo1] []),
 zm1 6 0,
 zg1 7 (.app (.t 5) (.t 6) 3),
 zm1 2 7] [2] [])
 .ret))),
 [.tmp 2], true⟩
def ir145 : IFn :=   -- slices.Clone[[]tympan/api.Sp,tympan/api.Sp]
⟨(.seq (.reg false [zg1 2 (.mov (.c (.nils)))] [0] [])
 (.seq (.seq (.reg false [zm1 3 0,
 zg1 4 (.eqn .sl false (.t 3))] [0, 4] [])
 (.cond (.t 4)
 (.seq (.reg false [zg1 2 (.mov (.c (.nils)))] [2] [])
 .ret)
 .skip))
 (.seq (.reg false [zg1 5 (.bsl 1 0 [zo1] []),
 zm1 6 0,
 zg1 7 (.app (.t 5) (.t 6) 1),
 zm1 2 7] [2] [])
 .ret))),
 [.tmp 2], true⟩
def ir146 : IFn :=   -- slices.Clone[[]int,int]
⟨(.seq (.reg false [zg1 2 (.mov (.c (.nils)))] [0] [])
 (.seq (.seq (.reg false [zm1 3 0,
 zg1 4 (.eqn .sl false (.t 3))] [0, 4] [])
 (.cond (.t 4)
 (.seq (.reg false [zg1 2 (.mov (.c (.nils)))] [2] [])
 .ret)
 .skip))
 (.seq (.reg false [zg1 5 (.bsl 1 0 [zo1] []),
 zm1 6 0,
 zg1 7 (.app (.t 5) (.t 6) 1),
 zm1 2 7] [2] [])
 .ret))),
 [.tmp 2], true⟩
def lp147_0 : IC :=
 (.loop [2, 5, 11, 12] [2] (.seq (.reg false [zg1 13 (.bin .lss (.t 12) (.t 11))] [2, 5, 11, 12, 13] [2])
 (.seq (.cond (.t 13)
 .skip
 (.exit 0))
 (.seq (.block 1 (.seq (.reg false [zm1 14 12,
 zm1 6 14] [2, 5, 6, 11, 12] [2])
 (.seq (.reg false [zm1 15 5,
 zm1 16 6,
 zg1 17 (.ixs (.t 15) (.t 16) 7),
 zm1 7 17] [2, 5, 7, 11, 12] [2])
 (.seq (.reg false [zm1 18 7,
 zg1 19 (.nck (.t 18)),
 zg1 20 (.off (.t 19) 0),
 zg1 21 (.ld (.t 20) 1 false)] [2, 5, 7, 11, 12, 21] [2])
 (.block 2 (.seq (.reg false [zg1 23 (.bin .eql (.t 21) (zi1 1)),
 zm1 22 23] [2, 5, 7, 11, 12, 21, 22] [2])
 (.cond (.t 22)
 (.reg true [zg1 24 (.ldl 2 (.t 2) 1 true),
 zm1 25 7,
 zg1 26 (.nck (.t 25)),
 zg1 27 (.off (.t 26) 1),
 zg1 28 (.bsl 1 1 [.p .nilp] [(0, (.t 27))]),
 zg1 29 (.call 149 [(.t 24), (.c (.p (.fn 151))), (.t 28)] false)] [2, 5, 11, 12] [2])
 (.seq (.reg false [zg1 31 (.bin .eql (.t 21) (zi1 2)),
 zm1 30 31] [2, 5, 7, 11, 12, 30] [2])
 (.cond (.t 30)
 (.seq (.reg true [zg1 32 (.ldl 2 (.t 2) 1 true),
 zm1 33 7,
 zg1 34 (.nck (.t 33)),
 zg1 35 (.off (.t 34) 1),
 zg1 36 (.bsl 1 1 [.p .nilp] [(0, (.t 35))]),
 zg1 37 (.call 149 [(.t 32), (.c (.p (.fn 222))), (.t 36)] false)] [2, 5, 7, 11, 12] [2])
 (.reg false [zm1 38 7,
 zm1 39 7,
 zm1 40 7,
 zg1 41 (.nck (.t 38)),
 zg1 42 (.off (.t 41) 3),
 zn1 (.st (.t 42) (zi1 0) 1),
 zg1 43 (.nck (.t 39)),
 zg1 44 (.off (.t 43) 4),
 zn1 (.st (.t 44) (zi1 0) 1),
 zg1 45 (.nck (.t 40)),
 zg1 46 (.off (.t 45) 5),
 zn1 (.st (.t 46) (zi1 0) 1)] [2, 5, 11, 12] [2]))
 .skip)))))))))
 (.reg false [zg1 47 (.bin .add (.t 12) (zi1 1)),
 zm1 12 47] [2, 5, 11, 12] [2])))))
def ir147 : IFn :=   -- (tympan/grid.snapper).items
⟨(.seq (.reg false [zg1 2 (.bx (.t 0) 1 true),
 zg1 4 (.mov (.c (.nils)))] [1, 2] [2])
 (.seq (.reg false [zm1 8 1,
 zg1 9 (.call 143 [(.t 8)] false),
 zm1 5 9] [2, 5] [2])
 (.seq (.seq (.reg false [zm1 10 5,
 zg1 11 (.len (.t 10)),
 zg1 12 (.mov (zi1 0))] [2, 5, 11, 12] [2])
 (.block 0 lp147_0))
 (.seq (.reg false [zm1 48 5,
 zm1 4 48] [4] [])
 .ret)))),
 [.tmp 4], false⟩
def lp148_0 : IC :=
 (.loop [2, 5, 6, 12, 13, 14, 34, 35] [2] (.seq (.reg false [zg1 36 (.bin .lss (.t 35) (.t 34))] [2, 5, 6, 12, 13, 14, 34, 35, 36] [2])
 (.seq (.cond (.t 36)
 .skip
 (.exit 2))
 (.seq (.block 3 (.seq (.reg false [zm1 37 35,
 zm1 8 37] [2, 5, 6, 8, 12, 13, 14, 34, 35] [2])
 (.reg true [zg1 38 (.ldl 2 (.t 2) 1 true),
 zm1 39 5,
 zm1 40 6,
 zg1 41 (.ixs (.t 39) (.t 40) 2),
 zg1 42 (.off (.t 41) 0),
 zg1 43 (.ld (.t 42) 1 false),
 zm1 44 8,
 zg1 45 (.ixs (.t 43) (.t 44) 1),
 zg1 46 (.bsl 1 1 [.p .nilp] [(0, (.t 45))]),
 zg1 47 (.call 149 [(.t 38), (.c (.p (.fn 151))), (.t 46)] false)] [2, 5, 6, 12, 13, 14, 34, 35] [2])))
 (.reg false [zg1 48 (.bin .add (.t 35) (zi1 1)),
 zm1 35 48] [2, 5, 6, 12, 13, 14, 34, 35] [2])))))
def lp148_1 : IC :=
 (.loop [2, 5, 12, 13, 14] [2] (.seq (.reg false [zg1 15 (.bin .lss (.t 14) (.t 13))] [2, 5, 12, 13, 14, 15] [2])
 (.seq (.cond (.t 15)
 .skip
 (.exit 0))
 (.seq (.block 1 (.seq (.reg false [zm1 16 14,
 zg1 17 (.ixs (.t 12) (.t 14) 2),
 zg1 18 (.ld (.t 17) 2 true),
 zg1 7 (.al [.nils, .nils] true),
 zm1 6 16,
 zn1 (.st (.t 7) (.t 18) 2)] [2, 5, 6, 7, 12, 13, 14] [2, 7])
 (.seq (.reg true [zm1 19 5,
 zm1 20 6,
 zg1 21 (.off (.t 7) 0),
 zg1 22 (.ldl 7 (.t 21) 1 false),
 zg1 23 (.call 145 [(.t 22)] false),
 zg1 24 (.off (.t 7) 1),
 zg1 25 (.ldl 7 (.t 24) 1 false),
 zg1 26 (.call 146 [(.t 25)] false),
 zg1 27 (.bld [.nils, .nils] [(0, 1, (.t 23)), (1, 1, (.t 26))]),
 zg1 28 (.ixs (.t 19) (.t 20) 2),
 zn1 (.st (.t 28) (.t 27) 2)] [2, 5, 6, 12, 13, 14] [2])
 (.seq (.reg false [zm1 29 5,
 zm1 30 6,
 zg1 31 (.ixs (.t 29) (.t 30) 2),
 zg1 32 (.off (.t 31) 0),
 zg1 33 (.ld (.t 32) 1 false),
 zg1 34 (.len (.t 33)),
 zg1 35 (.mov (zi1 0))] [2, 5, 6, 12, 13, 14, 34, 35] [2])
 (.block 2 lp148_0)))))
 (.reg false [zg1 49 (.bin .add (.t 14) (zi1 1)),
 zm1 14 49] [2, 5, 12, 13, 14] [2])))))
def ir148 : IFn :=   -- (tympan/grid.snapper).notes
⟨(.seq (.reg false [zg1 2 (.bx (.t 0) 1 true),
 zg1 4 (.mov (.c (.nils)))] [1, 2] [2])
 (.seq (.reg false [zm1 9 1,
 zg1 10 (.len (.t 9)),
 zg1 11 (.mks 2 [.nils, .nils] (.t 10)),
 zm1 5 11] [1, 2, 5] [2])
 (.seq (.seq (.reg false [zm1 12 1,
 zg1 13 (.len (.t 12)),
 zg1 14 (.mov (zi1 0))] [2, 5, 12, 13, 14] [2])
 (.block 0 lp148_1))
 (.seq (.reg false [zm1 50 5,
 zm1 4 50] [4] [])
 .ret)))),
 [.tmp 4], false⟩
def lp149_0 : IC :=
 (.loop [1, 3, 8, 9, 10] [3] (.seq (.reg false [zg1 11 (.bin .lss (.t 10) (.t 9))] [1, 3, 8, 9, 10, 11] [3])
 (.seq (.cond (.t 11)
 .skip
 (.exit 0))
 (.seq (.block 1 (.seq (.reg false [zg1 12 (.ixs (.t 8) (.t 10) 1),
 zg1 13 (.ld (.t 12) 1 false),
 zm1 7 13] [1, 3, 7, 8, 9, 10] [3])
 (.reg true [zm1 14 7,
 zm1 15 1,
 zm1 16 7,
 zg1 17 (.nck (.t 16)),
 zg1 18 (.ld (.t 17) 1 false),
 zg1 19 (.off (.t 3) 0),
 zg1 20 (.ldl 3 (.t 19) 1 false),
 zg1 21 (.callv (.t 15) [(.t 18), (.t 20)] false),
 zg1 22 (.nck (.t 14)),
 zn1 (.st (.t 22) (.t 21) 1)] [1, 3, 8, 9, 10] [3])))
 (.reg false [zg1 23 (.bin .add (.t 10) (zi1 1)),
 zm1 10 23] [1, 3, 8, 9, 10] [3])))))
def ir149 : IFn :=   -- (tympan/grid.snapper).turn
⟨(.seq (.reg false [zg1 3 (.bx (.t 0) 1 true)] [1, 2, 3] [3])
 (.seq (.reg false [zm1 8 2,
 zg1 9 (.len (.t 8)),
 zg1 10 (.mov (zi1 0))] [1, 3, 8, 9, 10] [3])
 (.block 0 lp149_0))),
 [], false⟩
def ir150 : IFn :=   -- tympan/grid.Down
⟨(.seq (.reg false [zg1 4 (.mov (zi1 0))] [0, 1] [])
 (.seq (.reg false [zm1 5 0,
 zm1 6 1,
 zg1 7 (.call 223 [(.t 5), (.t 6), (.c (.p (.fn 224)))] false),
 zm1 4 7] [4] [])
 .ret)),
 [.tmp 4], false⟩
def ir151 : IFn :=   -- tympan/grid.Up
⟨(.seq (.reg false [zg1 4 (.mov (zi1 0))] [0, 1] [])
 (.seq (.reg false [zm1 5 0,
 zm1 6 1,
 zg1 7 (.call 223 [(.t 5), (.t 6), (.c (.p (.fn 225)))] false),
 zm1 4 7] [4] [])
 .ret)),
 [.tmp 4], false⟩
def ir152 : IFn :=   -- tympan/item.Total
⟨(.seq (.reg false [zg1 1 (.bx (.t 0) 7 true),
 zg1 2 (.al [zo1, zo1, zo1, zo1, zo1, zo1] true)] [1, 2] [1, 2])
 (.seq (.seq (.reg false [zg1 3 (.off (.t 1) 0),
 zg1 4 (.ld (.t 3) 1 false)] [1, 2, 4] [1, 2])
 (.block 0 (.seq (.reg false [zg1 6 (.bin .eql (.t 4) (zi1 1)),
 zm1 5 6] [1, 2, 4, 5] [1, 2])
 (.cond (.t 5)
 (.seq (.reg false [zg1 7 (.off (.t 1) 1),
 zg1 8 (.ld (.t 7) 1 false),
 zg1 9 (.call 226 [(.t 8)] false),
 zn1 (.st (.t 2) (.t 9) 6)] [2] [2])
 .ret)
 (.seq (.reg false [zg1 11 (.bin .eql (.t 4) (zi1 2)),
 zm1 10 11] [1, 2, 10] [1, 2])
 (.cond (.t 10)
 (.seq (.reg false [zg1 12 (.off (.t 1) 1),
 zg1 13 (.ld (.t 12) 1 false),
 zg1 14 (.off (.t 1) 3),
 zg1 15 (.ld (.t 14) 1 false),
 zg1 16 (.off (.t 1) 4),
 zg1 17 (.ld (.t 16) 1 false),
 zg1 18 (.off (.t 1) 5),
 zg1 19 (.ld (.t 18) 1 false),
 zg1 20 (.call 227 [(.t 13), (.t 15), (.t 17), (.t 19)] false),
 zn1 (.st (.t 2) (.t 20) 6)] [2] [2])
 .ret)
 .skip))))))
 (.seq (.reg false [zg1 21 (.bld [zo1, zo1, zo1, zo1, zo1, zo1] []),
 zn1 (.st (.t 2) (.t 21) 6)] [2] [2])
 .ret))),
 [.cell 2 6 true], false⟩
def lp153_0 : IC :=
 (.loop [1, 3, 5] [1] (.seq (.reg false [zg1 6 (.bin .lss (.t 5) (zi1 4))] [1, 3, 5, 6] [1])
 (.seq (.cond (.t 6)
 .skip
 (.exit 0))
 (.seq (.block 1 (.seq (.reg false [zm1 7 5,
 zm1 4 7] [1, 3, 4, 5] [1])
 (.seq (.reg false [zm1 8 3,
 zm1 9 4,
 zg1 10 (.off (.t 1) 1),
 zg1 11 (.ixa (.t 10) (.t 9) 1 4),
 zg1 12 (.ld (.t 11) 1 false),
 zg1 13 (.callv (.t 8) [(.t 12)] false),
 zg1 14 (.un .not (.t 13))] [1, 3, 5, 14] [1])
 (.cond (.t 14)
 (.seq (.reg false [zg1 2 (.mov zF1)] [2] [])
 .ret)
 .skip))))
 (.reg false [zg1 15 (.bin .add (.t 5) (zi1 1)),
 zm1 5 15] [1, 3, 5] [1])))))
def ir153 : IFn :=   -- tympan/sums.fair
⟨(.seq (.reg false [zg1 1 (.bx (.t 0) 6 true),
 zg1 2 (.mov zF1)] [1] [1])
 (.seq (.reg false [zg1 3 (.mov (.c (.p (.fn 228))))] [1, 3] [1])
 (.seq (.seq (.reg false [zg1 5 (.mov (zi1 0))] [1, 3, 5] [1])
 (.block 0 lp153_0))
 (.seq (.reg false [zm1 16 3,
 zg1 17 (.off (.t 1) 0),
 zg1 18 (.ld (.t 17) 1 false),
 zg1 19 (.callv (.t 16) [(.t 18)] false),
 zm1 20 19,
 zt1 21 20 (.mov (.t 3)),
 zt1 22 20 (.off (.t 1) 5),
 zt1 23 20 (.ld (.t 22) 1 false),
 zt1 24 20 (.callv (.t 21) [(.t 23)] false),
 zg1 25 (.pick (.t 20) (.t 24) zF1),
 zm1 2 25] [2] [])
 .ret)))),
 [.tmp 2], false⟩
def ir154 : IFn :=   -- tympan/total.Add
⟨(.seq (.reg false [zg1 2 (.bx (.t 0) 6 true),
 zg1 3 (.bx (.t 1) 6 true),
 zg1 4 (.al [zo1, zo1, zo1, zo1, zo1, zo1] true),
 zg1 5 (.mov zF1)] [2, 3, 4] [2, 3, 4])
 (.seq (.reg false [zg1 6 (.ld (.t 2) 6 true),
 zg1 7 (.ld (.t 3) 6 true),
 zg1 8 (.call 229 [(.t 6), (.t 7), (.c (.p (.fn 230)))] false),
 zg1 9 (.ext (.t 8) 0),
 zg1 10 (.ext (.t 8) 1),
 zn1 (.st (.t 4) (.t 9) 6),
 zm1 5 10] [4, 5] [4])
 .ret)),
 [.cell 4 6 true, .tmp 5], false⟩
def ir155 : IFn :=   -- tympan/figure.At
⟨(.seq (.reg false [zg1 4 (.al [zo1, zo1, zo1] true),
 zg1 5 (.mov zF1)] [0, 1, 4] [4])
 (.seq (.seq (.reg false [zm1 6 1,
 zg1 7 (.bin .lss (.t 6) (zi1 0)),
 zm1 8 7,
 zf1 9 8 (.mov (.t 1)),
 zf1 10 8 (.mov (.t 0)),
 zf1 11 8 (.len (.t 10)),
 zf1 12 8 (.bin .geq (.t 9) (.t 11)),
 zg1 13 (.pick (.t 8) zT1 (.t 12))] [0, 1, 4, 13] [4])
 (.cond (.t 13)
 (.seq (.reg false [zg1 14 (.bld [zo1, zo1, zo1] []),
 zn1 (.st (.t 4) (.t 14) 3),
 zg1 5 (.mov zF1)] [4, 5] [4])
 .ret)
 .skip))
 (.seq (.reg false [zm1 15 0,
 zm1 16 1,
 zg1 17 (.ixs (.t 15) (.t 16) 3),
 zg1 18 (.ld (.t 17) 3 true),
 zn1 (.st (.t 4) (.t 18) 3),
 zg1 5 (.mov zT1)] [4, 5] [4])
 .ret))),
 [.cell 4 3 true, .tmp 5], false⟩
def ir156 : IFn :=   -- (*tympan/anchor.Map).place
⟨(.seq (.reg false [zg1 4 (.mov (zi1 0)),
 zg1 5 (.mov zF1)] [0, 1] [])
 (.seq (.seq (.reg false [zm1 6 0,
 zg1 7 (.eqn .ptr false (.t 6))] [0, 1, 7] [])
 (.cond (.t 7)
 (.seq (.reg false [zg1 4 (.mov (zi1 0)),
 zg1 5 (.mov zF1)] [4, 5] [])
 .ret)
 .skip))
 (.seq (.reg false [zm1 8 1,
 zg1 9 (.mnmx true (.t 8) (zi1 0)),
 zm1 10 0,
 zg1 11 (.nck (.t 10)),
 zg1 12 (.off (.t 11) 0),
 zg1 13 (.ld (.t 12) 1 false),
 zg1 14 (.len (.t 13)),
 zg1 15 (.mnmx false (.t 9) (.t 14)),
 zm1 4 15,
 zg1 5 (.mov zT1)] [4, 5] [])
 .ret))),
 [.tmp 4, .tmp 5], false⟩
def ir157 : IFn :=   -- tympan/tympanref14.Down
⟨(.seq (.reg false [zg1 4 (.mov (zi1 0))] [0, 1] [])
 (.seq (.reg false [zm1 5 0,
 zm1 6 1,
 zg1 7 (.call 232 [(.t 5), (.t 6)] false),
 zm1 8 0,
 zg1 9 (.call 231 [(.t 7), (.t 8)] false),
 zm1 4 9] [4] [])
 .ret)),
 [.tmp 4], false⟩
def ir158 : IFn :=   -- tympan/tympanref14.Up
⟨(.seq (.reg false [zg1 4 (.mov (zi1 0))] [0, 1] [])
 (.seq (.reg false [zm1 5 0,
 zm1 6 1,
 zg1 7 (.call 233 [(.t 5), (.t 6)] false),
 zm1 8 0,
 zg1 9 (.call 231 [(.t 7), (.t 8)] false),
 zm1 4 9] [4] [])
 .ret)),
 [.tmp 4], false⟩
def ir159 : IFn :=   -- tympan/tympanref14.item
⟨(.seq (.reg false [zg1 2 (.bx (.t 0) 7 true),
 zg1 4 (.al [zo1, zo1, zo1, zo1, zo1, zo1, zo1] true)] [1, 2, 4] [2, 4])
 (.seq (.seq (.reg false [zg1 5 (.off (.t 2) 0),
 zg1 6 (.ld (.t 5) 1 false),
 zg1 7 (.bin .eql (.t 6) (zi1 1))] [1, 2, 4, 7] [2, 4])
 (.cond (.t 7)
 (.reg false [zg1 8 (.off (.t 2) 1),
 zg1 9 (.ld (.t 8) 1 false),
 zm1 10 1,
 zg1 11 (.call 158 [(.t 9), (.t 10)] false),
 zg1 12 (.off (.t 2) 1),
 zn1 (.st (.t 12) (.t 11) 1)] [1, 2, 4] [2, 4])
 .skip))
 (.seq (.seq (.reg false [zg1 13 (.off (.t 2) 0),
 zg1 14 (.ld (.t 13) 1 false),
 zg1 15 (.bin .eql (.t 14) (zi1 2))] [1, 2, 4, 15] [2, 4])
 (.cond (.t 15)
 (.seq (.reg false [zg1 16 (.off (.t 2) 1),
 zg1 17 (.ld (.t 16) 1 false),
 zm1 18 1,
 zg1 19 (.call 234 [(.t 17), (.t 18)] false),
 zg1 20 (.off (.t 2) 1),
 zn1 (.st (.t 20) (.t 19) 1)] [2, 4] [2, 4])
 (.seq (.reg false [zg1 21 (.off (.t 2) 3),
 zn1 (.st (.t 21) (zi1 0) 1)] [2, 4] [2, 4])
 (.seq (.reg false [zg1 22 (.off (.t 2) 4),
 zn1 (.st (.t 22) (zi1 0) 1)] [2, 4] [2, 4])
 (.reg false [zg1 23 (.off (.t 2) 5),
 zn1 (.st (.t 23) (zi1 0) 1)] [2, 4] [2, 4]))))
 .skip))
 (.seq (.reg false [zg1 24 (.ld (.t 2) 7 true),
 zn1 (.st (.t 4) (.t 24) 7)] [4] [4])
 .ret)))),
 [.cell 4 7 true], false⟩
def lp160_0 : IC :=
 (.loop [0, 2, 7] [] (.seq (.seq (.reg false [zm1 9 7,
 zm1 10 0,
 zg1 11 (.call 78 [(.t 10)] false),
 zg1 12 (.bin .leq (.t 9) (.t 11))] [0, 2, 7, 12] [])
 (.cond (.t 12)
 .skip
 (.exit 0)))
 (.seq (.block 1 (.seq (.reg false [zm1 15 2,
 zm1 16 7,
 zg1 17 (.callv (.t 15) [(.t 16)] false)] [0, 2, 7, 17] [])
 (.cond (.t 17)
 (.seq (.reg false [zm1 18 7,
 zm1 6 18] [6] [])
 .ret)
 .skip)))
 (.reg false [zm1 13 7,
 zg1 14 (.bin .add (.t 13) (zi1 1)),
 zm1 7 14] [0, 2, 7] []))))
def ir160 : IFn :=   -- (*tympan/vlist.List).seek
⟨(.seq (.reg false [zg1 6 (.mov (zi1 0))] [0, 1, 2] [])
 (.seq (.seq (.reg false [zm1 8 1,
 zm1 7 8] [0, 2, 7] [])
 (.block 0 lp160_0))
 (.seq (.reg false [zg1 6 (.mov (zi1 (-1)))] [6] [])
 .ret))),
 [.tmp 6], false⟩
def ir161 : IFn :=   -- (*tympan/vlist.List).stays
⟨(.seq (.reg false [zg1 4 (.mov zF1)] [0, 1] [])
 (.seq (.reg false [zm1 8 0,
 zm1 9 1,
 zg1 10 (.call 193 [(.t 8), (.t 9)] false),
 zm1 7 10,
 zg1 11 (.ext (.t 7) 0),
 zg1 12 (.ext (.t 7) 1),
 zg1 5 (.al [zo1, zo1, zo1, zo1, zo1, zo1, zo1] true),
 zn1 (.st (.t 5) (.t 11) 7),
 zm1 6 12] [5, 6] [5])
 (.seq (.reg false [zm1 13 6,
 zg1 14 (.un .not (.t 13)),
 zm1 15 14,
 zf1 16 15 (.ld (.t 5) 7 true),
 zf1 17 15 (.call 235 [(.t 16)] false),
 zf1 18 15 (.un .not (.t 17)),
 zg1 19 (.pick (.t 15) zT1 (.t 18)),
 zm1 4 19] [4] [])
 .ret))),
 [.tmp 4], false⟩
def lp162_0 : IC :=
 (.loop [2, 3, 4, 5, 8, 9, 11] [4, 5, 8, 9] (.seq (.reg false [zg1 12 (.bin .lss (.t 11) (zi1 3))] [2, 3, 4, 5, 8, 9, 11, 12] [4, 5, 8, 9])
 (.seq (.cond (.t 12)
 .skip
 (.exit 0))
 (.seq (.block 1 (.seq (.reg false [zm1 13 11,
 zm1 10 13] [2, 3, 4, 5, 8, 9, 10, 11] [4, 5, 8, 9])
 (.reg true [zm1 14 10,
 zm1 15 3,
 zm1 16 10,
 zg1 17 (.ixa (.t 4) (.t 16) 1 3),
 zg1 18 (.ldl 4 (.t 17) 1 false),
 zm1 19 2,
 zg1 20 (.call 172 [(.t 18), (.t 19), (zi1 1073741824)] false),
 zm1 21 10,
 zg1 22 (.ixa (.t 5) (.t 21) 1 3),
 zg1 23 (.ldl 5 (.t 22) 1 false),
 zm1 24 2,
 zg1 25 (.call 172 [(.t 23), (.t 24), (zi1 1073741824)] false),
 zg1 26 (.callv (.t 15) [(.t 20), (.t 25)] false),
 zm1 27 2,
 zg1 28 (.call 172 [(.t 26), (.t 27), (zi1 1073741824)] false),
 zg1 29 (.ixa (.t 9) (.t 14) 1 3),
 zn1 (.stl 9 (.t 29) (.t 28) 1)] [2, 3, 4, 5, 8, 9, 11] [4, 5, 8, 9])))
 (.reg false [zg1 30 (.bin .add (.t 11) (zi1 1)),
 zm1 11 30] [2, 3, 4, 5, 8, 9, 11] [4, 5, 8, 9])))))
def ir162 : IFn :=   -- tympan/queue.zip
⟨(.seq (.reg false [zg1 4 (.bx (.t 0) 3 true),
 zg1 5 (.bx (.t 1) 3 true),
 zg1 8 (.al [zo1, zo1, zo1] true)] [2, 3, 4, 5, 8] [4, 5, 8])
 (.seq (.reg false [zg1 9 (.al [zo1, zo1, zo1] true)] [2, 3, 4, 5, 8, 9] [4, 5, 8, 9])
 (.seq (.seq (.reg false [zg1 11 (.mov (zi1 0))] [2, 3, 4, 5, 8, 9, 11] [4, 5, 8, 9])
 (.block 0 lp162_0))
 (.seq (.reg false [zg1 31 (.ld (.t 9) 3 true),
 zn1 (.st (.t 8) (.t 31) 3)] [8] [8])
 .ret)))),
 [.cell 8 3 true], false⟩
def ir163 : IFn :=   -- (tympan/queue.Counts).Add$1
⟨(.seq (.reg false [zg1 4 (.mov (zi1 0))] [0, 1] [])
 (.seq (.reg false [zm1 5 0,
 zm1 6 1,
 zg1 7 (.bin .add (.t 5) (.t 6)),
 zm1 4 7] [4] [])
 .ret)),
 [.tmp 4], false⟩
def ir164 : IFn :=   -- (tympan/tympanref25.World).begun
⟨(.seq (.reg false [zg1 2 (.bx (.t 0) 22 true),
 zg1 4 (.mov (zi1 0))] [1, 2] [2])
 (.seq (.reg false [zg1 5 (.off (.t 2) 0),
 zg1 6 (.off (.t 5) 19),
 zg1 7 (.ld (.t 6) 1 false),
 zm1 8 1,
 zg1 9 (.call 236 [(.t 7), (zi1 5), (zi1 0), (.t 8)] false),
 zg1 10 (.len (.t 9)),
 zm1 4 10] [4] [])
 .ret)),
 [.tmp 4], false⟩
def ir165 : IFn :=   -- tympan/tympanref11.May
⟨(.seq (.reg false [zg1 2 (.bx (.t 0) 2 true),
 zg1 4 (.mov zF1)] [1, 2] [2])
 (.seq (.reg false [zm1 5 1,
 zg1 6 (.off (.t 2) 0),
 zg1 7 (.ld (.t 6) 1 false),
 zg1 8 (.len (.t 7)),
 zg1 9 (.bin .eql (.t 5) (.t 8)),
 zm1 10 9,
 zf1 11 10 (.ld (.t 2) 2 true),
 zf1 12 10 (.mov (.t 1)),
 zf1 13 10 (.call 237 [(.t 11), (.t 12)] false),
 zg1 14 (.pick (.t 10) zT1 (.t 13)),
 zm1 4 14] [4] [])
 .ret)),
 [.tmp 4], false⟩
def lp166_0 : IC :=
 (.loop [0, 1, 2, 6, 7, 8] [6, 7] (.seq (.seq (.reg false [zm1 10 8,
 zm1 11 0,
 zg1 12 (.len (.t 11)),
 zg1 13 (.bin .lss (.t 10) (.t 12))] [0, 1, 2, 6, 7, 8, 13] [6, 7])
 (.cond (.t 13)
 .skip
 (.exit 0)))
 (.seq (.block 1 (.seq (.reg false [zm1 16 8,
 zm1 17 2,
 zg1 18 (.bin .lss (.t 16) (.t 17)),
 zm1 19 18,
 zt1 20 19 (.mov (.t 0)),
 zt1 21 19 (.mov (.t 8)),
 zt1 22 19 (.ixs (.t 20) (.t 21) 7),
 zt1 23 19 (.off (.t 22) 0),
 zt1 24 19 (.ld (.t 23) 1 false),
 zt1 25 19 (.bin .eql (.t 24) (zi1 6)),
 zg1 26 (.pick (.t 19) (.t 25) zF1),
 zm1 27 26,
 zt1 28 27 (.mov (.t 0)),
 zt1 29 27 (.mov (.t 8)),
 zt1 30 27 (.ixs (.t 28) (.t 29) 7),
 zt1 31 27 (.off (.t 30) 6),
 zt1 32 27 (.ld (.t 31) 1 false),
 zt1 33 27 (.bin .geq (.t 32) (zi1 0)),
 zg1 34 (.pick (.t 27) (.t 33) zF1),
 zm1 35 34,
 zt1 36 35 (.mov (.t 0)),
 zt1 37 35 (.mov (.t 8)),
 zt1 38 35 (.ixs (.t 36) (.t 37) 7),
 zt1 39 35 (.off (.t 38) 6),
 zt1 40 35 (.ld (.t 39) 1 false),
 zt1 41 35 (.mov (.t 1)),
 zt1 42 35 (.len (.t 41)),
 zt1 43 35 (.bin .lss (.t 40) (.t 42)),
 zg1 44 (.pick (.t 35) (.t 43) zF1)] [0, 1, 2, 6, 7, 8, 44] [6, 7])
 (.cond (.t 44)
 (.seq (.reg false [zm1 45 1,
 zm1 46 0,
 zm1 47 8,
 zg1 48 (.ixs (.t 46) (.t 47) 7),
 zg1 49 (.off (.t 48) 6),
 zg1 50 (.ld (.t 49) 1 false),
 zg1 51 (.ixs (.t 45) (.t 50) 3),
 zg1 52 (.off (.t 51) 0),
 zg1 53 (.ld (.t 52) 1 false),
 zm1 9 53] [0, 1, 2, 6, 7, 8, 9] [6, 7])
 (.seq (.reg false [zm1 54 9,
 zg1 55 (.bin .geq (.t 54) (zi1 0)),
 zm1 56 55,
 zt1 57 56 (.mov (.t 9)),
 zt1 58 56 (.bin .lss (.t 57) (zi1 3)),
 zg1 59 (.pick (.t 56) (.t 58) zF1)] [0, 1, 2, 6, 7, 8, 9, 59] [6, 7])
 (.cond (.t 59)
 (.reg false [zm1 60 9,
 zm1 61 9,
 zg1 62 (.ixa (.t 7) (.t 61) 1 3),
 zg1 63 (.ld (.t 62) 1 false),
 zg1 64 (.bin .add (.t 63) (zi1 1)),
 zg1 65 (.ixa (.t 7) (.t 60) 1 3),
 zn1 (.st (.t 65) (.t 64) 1)] [0, 1, 2, 6, 7, 8] [6, 7])
 .skip)))
 .skip)))
 (.reg false [zm1 14 8,
 zg1 15 (.bin .add (.t 14) (zi1 1)),
 zm1 8 15] [0, 1, 2, 6, 7, 8] [6, 7]))))
def ir166 : IFn :=   -- tympan/tympanref21.Ahead
⟨(.seq (.reg false [zg1 6 (.al [zo1, zo1, zo1] true)] [0, 1, 2, 6] [6])
 (.seq (.reg false [zg1 7 (.al [zo1, zo1, zo1] true)] [0, 1, 2, 6, 7] [6, 7])
 (.seq (.seq (.reg false [zg1 8 (.mov (zi1 0))] [0, 1, 2, 6, 7, 8] [6, 7])
 (.block 0 lp166_0))
 (.seq (.reg false [zg1 66 (.ld (.t 7) 3 true),
 zn1 (.st (.t 6) (.t 66) 3)] [6] [6])
 .ret)))),
 [.cell 6 3 true], false⟩
def ir167 : IFn :=   -- tympan/tympanref23.Within
⟨(.seq (.reg false [zg1 2 (.bx (.t 0) 3 true),
 zg1 3 (.bx (.t 1) 3 true),
 zg1 4 (.mov zF1)] [2, 3] [2, 3])
 (.seq (.reg false [zg1 5 (.ixa (.t 2) (zi1 0) 1 3),
 zg1 6 (.ld (.t 5) 1 false),
 zg1 7 (.ixa (.t 3) (zi1 0) 1 3),
 zg1 8 (.ld (.t 7) 1 false),
 zg1 9 (.bin .leq (.t 6) (.t 8)),
 zm1 10 9,
 zt1 11 10 (.ixa (.t 2) (zi1 1) 1 3),
 zt1 12 10 (.ld (.t 11) 1 false),
 zt1 13 10 (.ixa (.t 3) (zi1 1) 1 3),
 zt1 14 10 (.ld (.t 13) 1 false),
 zt1 15 10 (.bin .leq (.t 12) (.t 14)),
 zg1 16 (.pick (.t 10) (.t 15) zF1),
 zm1 17 16,
 zt1 18 17 (.ixa (.t 2) (zi1 2) 1 3),
 zt1 19 17 (.ld (.t 18) 1 false),
 zt1 20 17 (.ixa (.t 3) (zi1 2) 1 3),
 zt1 21 17 (.ld (.t 20) 1 false),
 zt1 22 17 (.bin .leq (.t 19) (.t 21)),
 zg1 23 (.pick (.t 17) (.t 22) zF1),
 zm1 4 23] [4] [])
 .ret)),
 [.tmp 4], false⟩
def ir168 : IFn :=   -- tympan/tympanref10.Loose
⟨(.seq (.reg false [zg1 1 (.bx (.t 0) 7 true),
 zg1 2 (.mov zF1)] [1] [1])
 (.seq (.reg false [zg1 3 (.off (.t 1) 0),
 zg1 4 (.ld (.t 3) 1 false),
 zg1 5 (.bin .eql (.t 4) (zi1 2)),
 zm1 6 5,
 zf1 7 6 (.off (.t 1) 0),
 zf1 8 6 (.ld (.t 7) 1 false),
 zf1 9 6 (.bin .eql (.t 8) (zi1 3)),
 zg1 10 (.pick (.t 6) zT1 (.t 9)),
 zm1 2 10] [2] [])
 .ret)),
 [.tmp 2], false⟩
def ir169 : IFn :=   -- tympan/tympanref23.held
⟨(.seq (.reg false [zg1 6 (.mov (zi1 0))] [0, 1, 2] [])
 (.seq (.reg false [zm1 7 1,
 zm1 8 0,
 zm1 9 2,
 zg1 10 (.mnmx false (.t 8) (.t 9)),
 zg1 11 (.mnmx true (.t 7) (.t 10)),
 zm1 6 11] [6] [])
 .ret)),
 [.tmp 6], false⟩
def ir170 : IFn :=   -- cmp.isNaN[int]
⟨(.seq (.reg false [zg1 2 (.mov zF1)] [0] [])
 (.seq (.reg false [zm1 3 0,
 zm1 4 0,
 zg1 5 (.bin .neq (.t 3) (.t 4)),
 zm1 2 5] [2] [])
 .ret)),
 [.tmp 2], false⟩
def ir171 : IFn :=   -- tympan/note.May
⟨(.seq (.reg false [zg1 2 (.bx (.t 0) 2 true),
 zg1 4 (.mov zF1)] [1, 2] [2])
 (.seq (.reg false [zg1 5 (.ld (.t 2) 2 true),
 zm1 6 1,
 zg1 7 (.call 238 [(.t 5), (.t 6)] false),
 zm1 4 7] [4] [])
 .ret)),
 [.tmp 4], false⟩
def ir172 : IFn :=   -- tympan/queue.held
⟨(.seq (.reg false [zg1 6 (.mov (zi1 0))] [0, 1, 2] [])
 (.seq (.reg false [zm1 7 0,
 zm1 8 1,
 zg1 9 (.mnmx true (.t 7) (.t 8)),
 zm1 10 2,
 zg1 11 (.mnmx false (.t 9) (.t 10)),
 zm1 6 11] [6] [])
 .ret)),
 [.tmp 6], false⟩
def ir173 : IFn :=   -- tympan/queue.Ready$1
⟨(.seq (.reg false [zg1 4 (.mov (zi1 0))] [0, 1] [])
 (.seq (.reg false [zm1 5 1,
 zm1 6 0,
 zg1 7 (.bin .sub (.t 5) (.t 6)),
 zm1 4 7] [4] [])
 .ret)),
 [.tmp 4], false⟩
def ir174 : IFn :=   -- tympan/tympanref10.Long
⟨(.seq (.reg false [zg1 2 (.mov zF1)] [0] [])
 (.seq (.reg false [zm1 3 0,
 zg1 4 (.bin .geq (.t 3) (zi1 0)),
 zm1 5 4,
 zt1 6 5 (.mov (.t 0)),
 zt1 7 5 (.bin .leq (.t 6) (zi1 1073741823)),
 zg1 8 (.pick (.t 5) (.t 7) zF1),
 zm1 2 8] [2] [])
 .ret)),
 [.tmp 2], false⟩
def ir177 : IFn :=   -- tympan/cost.add[int]
⟨(.seq (.reg false [zg1 4 (.mov (zi1 0))] [0, 1] [])
 (.seq (.reg false [zg1 5 (.mov (.c (.p (.fn 240))))] [0, 1, 5] [])
 (.seq (.reg false [zm1 6 5,
 zm1 7 5,
 zm1 8 0,
 zg1 9 (.callv (.t 7) [(.t 8)] false),
 zm1 10 5,
 zm1 11 1,
 zg1 12 (.callv (.t 10) [(.t 11)] false),
 zg1 13 (.bin .add (.t 9) (.t 12)),
 zg1 14 (.callv (.t 6) [(.t 13)] false),
 zm1 4 14] [4] [])
 .ret))),
 [.tmp 4], false⟩
def ir178 : IFn :=   -- tympan/cost.add[int64]
⟨(.seq (.reg false [zg1 4 (.mov (zi1 0))] [0, 1] [])
 (.seq (.reg false [zg1 5 (.mov (.c (.p (.fn 241))))] [0, 1, 5] [])
 (.seq (.reg false [zm1 6 5,
 zm1 7 5,
 zm1 8 0,
 zg1 9 (.callv (.t 7) [(.t 8)] false),
 zm1 10 5,
 zm1 11 1,
 zg1 12 (.callv (.t 10) [(.t 11)] false),
 zg1 13 (.bin .add (.t 9) (.t 12)),
 zg1 14 (.callv (.t 6) [(.t 13)] false),
 zm1 4 14] [4] [])
 .ret))),
 [.tmp 4], false⟩
def ir192 : IFn :=   -- tympan/bad.Of
⟨(.seq (.reg false [zg1 4 (.mov (zi1 0))] [0, 1] [])
 (.seq (.reg false [zm1 5 0,
 zm1 6 1,
 zg1 7 (.call 251 [(.t 5), (.t 6)] false),
 zg1 8 (.call 250 [(.t 7)] false),
 zm1 4 8] [4] [])
 .ret)),
 [.tmp 4], false⟩
def ir193 : IFn :=   -- (*tympan/vlist.List).At
⟨(.seq (.reg false [zg1 4 (.al [zo1, zo1, zo1, zo1, zo1, zo1, zo1] true),
 zg1 5 (.mov zF1)] [0, 1, 4] [4])
 (.seq (.seq (.reg false [zm1 6 1,
 zg1 7 (.bin .lss (.t 6) (zi1 0)),
 zm1 8 7,
 zf1 9 8 (.mov (.t 1)),
 zf1 10 8 (.mov (.t 0)),
 zf1 11 8 (.call 78 [(.t 10)] false),
 zf1 12 8 (.bin .geq (.t 9) (.t 11)),
 zg1 13 (.pick (.t 8) zT1 (.t 12))] [0, 1, 4, 13] [4])
 (.cond (.t 13)
 (.seq (.reg false [zg1 14 (.bld [zo1, zo1, zo1, zo1, zo1, zo1, zo1] []),
 zn1 (.st (.t 4) (.t 14) 7),
 zg1 5 (.mov zF1)] [4, 5] [4])
 .ret)
 .skip))
 (.seq (.reg false [zm1 15 0,
 zg1 16 (.nck (.t 15)),
 zg1 17 (.off (.t 16) 0),
 zg1 18 (.ld (.t 17) 1 false),
 zm1 19 1,
 zg1 20 (.ixs (.t 18) (.t 19) 7),
 zg1 21 (.ld (.t 20) 7 true),
 zn1 (.st (.t 4) (.t 21) 7),
 zg1 5 (.mov zT1)] [4, 5] [4])
 .ret))),
 [.cell 4 7 true, .tmp 5], false⟩
def ir194 : IFn :=   -- (*tympan/vlist.List).May
⟨(.seq (.reg false [zg1 4 (.mov zF1)] [0, 1] [])
 (.seq (.reg false [zm1 8 0,
 zm1 9 1,
 zg1 10 (.call 193 [(.t 8), (.t 9)] false),
 zm1 7 10,
 zg1 11 (.ext (.t 7) 0),
 zg1 12 (.ext (.t 7) 1),
 zg1 5 (.al [zo1, zo1, zo1, zo1, zo1, zo1, zo1] true),
 zn1 (.st (.t 5) (.t 11) 7),
 zm1 6 12] [0, 1, 5, 6] [5])
 (.seq (.block 0 (.seq (.reg false [zm1 14 1,
 zg1 15 (.bin .lss (.t 14) (zi1 1)),
 zm1 16 15,
 zf1 17 16 (.mov (.t 1)),
 zf1 18 16 (.mov (.t 0)),
 zf1 19 16 (.call 78 [(.t 18)] false),
 zf1 20 16 (.bin .gtr (.t 17) (.t 19)),
 zg1 21 (.pick (.t 16) zT1 (.t 20)),
 zm1 13 21] [0, 1, 5, 6, 13] [5])
 (.cond (.t 13)
 (.seq (.reg false [zg1 4 (.mov zF1)] [4] [])
 .ret)
 (.seq (.reg false [zm1 23 6,
 zg1 24 (.un .not (.t 23)),
 zm1 22 24] [0, 1, 5, 22] [5])
 (.cond (.t 22)
 (.seq (.reg false [zg1 4 (.mov zT1)] [4] [])
 .ret)
 (.seq (.reg false [zg1 26 (.off (.t 5) 0),
 zg1 27 (.ld (.t 26) 1 false),
 zg1 28 (.bin .eql (.t 27) (zi1 2)),
 zm1 25 28] [0, 1, 5, 25] [5])
 (.cond (.t 25)
 (.seq (.reg false [zm1 29 0,
 zg1 30 (.nck (.t 29)),
 zg1 31 (.off (.t 30) 0),
 zg1 32 (.ld (.t 31) 1 false),
 zm1 33 1,
 zg1 34 (.bin .sub (.t 33) (zi1 1)),
 zg1 35 (.ixs (.t 32) (.t 34) 7),
 zg1 36 (.ld (.t 35) 7 true),
 zg1 37 (.call 235 [(.t 36)] false),
 zg1 38 (.un .not (.t 37)),
 zm1 4 38] [4] [])
 .ret)
 .skip)))))))
 (.seq (.reg false [zg1 39 (.off (.t 5) 0),
 zg1 40 (.ld (.t 39) 1 false),
 zg1 41 (.bin .eql (.t 40) (zi1 3)),
 zm1 42 41,
 zt1 43 42 (.ld (.t 5) 7 true),
 zt1 44 42 (.call 252 [(.t 43)] false),
 zt1 45 42 (.un .not (.t 44)),
 zg1 46 (.pick (.t 42) (.t 45) zF1),
 zm1 4 46] [4] [])
 .ret)))),
 [.tmp 4], false⟩
def ir195 : IFn :=   -- tympan/item.Forces
⟨(.seq (.reg false [zg1 1 (.bx (.t 0) 7 true),
 zg1 2 (.mov zF1)] [1] [1])
 (.seq (.reg false [zg1 3 (.off (.t 1) 0),
 zg1 4 (.ld (.t 3) 1 false),
 zg1 5 (.bin .eql (.t 4) (zi1 3)),
 zm1 6 5,
 zt1 7 6 (.off (.t 1) 6),
 zt1 8 6 (.ld (.t 7) 1 false),
 zt1 9 6 (.bin .leq (.t 8) (zi1 (-10000))),
 zg1 10 (.pick (.t 6) (.t 9) zF1),
 zm1 2 10] [2] [])
 .ret)),
 [.tmp 2], false⟩
end Go.EnvOf
