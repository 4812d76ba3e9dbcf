/- The engine's instructions for the functions, part 1. -/
import Derived.Test.YtpibjnnbploadaaGreatEngAll2
namespace Go.EnvOf
open Go Go.Eng
set_option maxRecDepth 100000
abbrev zm1 (d n : Nat) : GIns := ⟨some d, none, .mov (.t n)⟩
abbrev zT1 : Arg := .c (.p (.bool true))
abbrev zF1 : Arg := .c (.p (.bool false))
abbrev zg1 (d : Nat) (i : Ins) : GIns := ⟨some d, none, i⟩
abbrev zf1 (d k : Nat) (i : Ins) : GIns := ⟨some d, some (k, false), i⟩
abbrev zt1 (d k : Nat) (i : Ins) : GIns := ⟨some d, some (k, true), i⟩
abbrev zn1 (i : Ins) : GIns := ⟨none, none, i⟩
abbrev zi1 (n : Int) : Arg := .c (.p (.int .i64 n))
abbrev zo1 : V := .p (.int .i64 0)
def lp250_0 : IC :=
 (.reg false [zm1 5 9] [4, 5] [])
def lp250_1 : IC :=
 (.block 1 (.seq (.reg false [zm1 10 5,
 zn1 (.st (.t 4) (.t 10) 1)] [4] [])
 .ret))
def ir250 : IFn :=
⟨(.seq (.reg false [zg1 3 (.bx (.t 1) 4 true),
 zg1 4 (.al [.nils] false)] [0, 3, 4] [3])
 (.seq (.seq (.reg false [zm1 6 0,
 zg1 7 (.ld (.t 3) 4 true),
 zg1 8 (.call 365 [(.t 6), (.t 7)] false)] [4, 8] [])
 (.block 0 (.rangeFunc (.t 8) [9] lp250_0 lp250_1)))
 (.seq (.reg false [zn1 (.st (.t 4) (.c (.nils)) 1)] [4] [])
 .ret))),
 [.cell 4 1 false], false⟩
def lp251_0 : IC :=
 (.loop [0, 4, 5, 6, 14, 15] [4, 5, 6] (.seq (.reg false [zg1 16 (.bin .lss (.t 15) (zi1 3))] [0, 4, 5, 6, 14, 15, 16] [4, 5, 6])
 (.seq (.cond (.t 16)
 .skip
 (.exit 0))
 (.seq (.block 1 (.seq (.reg false [zm1 17 15,
 zg1 18 (.ixv (.t 14) (.t 15) 1 3 false),
 zm1 8 17,
 zm1 9 18] [0, 4, 5, 6, 8, 9, 14, 15] [4, 5, 6])
 (.seq (.reg false [zm1 19 8,
 zg1 20 (.ixa (.t 5) (.t 19) 1 3),
 zg1 21 (.ld (.t 20) 1 false),
 zm1 22 9,
 zg1 23 (.bin .gtr (.t 21) (.t 22))] [0, 4, 5, 6, 8, 14, 15, 23] [4, 5, 6])
 (.cond (.t 23)
 (.seq (.reg false [zg1 10 (.al [zo1, zo1, zo1] true)] [0, 4, 6, 8, 10] [4, 6, 10])
 (.seq (.reg false [zm1 24 8,
 zg1 25 (.ixa (.t 10) (.t 24) 1 3),
 zn1 (.st (.t 25) (zi1 1) 1)] [0, 4, 6, 10] [4, 6, 10])
 (.seq (.reg true [zm1 27 0,
 zg1 28 (.call 100 [(.t 27)] false),
 zg1 29 (.fldv (.t 28) 21 1 false),
 zg1 30 (.off (.t 4) 4),
 zg1 31 (.ldl 4 (.t 30) 3 true),
 zg1 32 (.ldl 10 (.t 10) 3 true),
 zg1 33 (.call 366 [(.t 29), (.t 31), (.t 32)] false),
 zm1 26 33,
 zg1 34 (.ext (.t 26) 0),
 zg1 35 (.ext (.t 26) 1),
 zm1 11 34,
 zm1 12 35] [4, 6, 11, 12] [4, 6])
 (.seq (.reg false [zg1 36 (.off (.t 4) 0),
 zg1 37 (.ld (.t 36) 1 false),
 zg1 38 (.off (.t 4) 0),
 zg1 39 (.ld (.t 38) 1 false),
 zm1 40 11,
 zg1 41 (.bld [zo1, zo1, zo1, .nils, .nils, .nils] [(0, 1, (zi1 2)), (1, 1, (.t 37)), (2, 1, (.t 39)), (4, 1, (.t 40))]),
 zm1 42 12,
 zn1 (.st (.t 6) (.t 41) 6),
 zm1 7 42] [6, 7] [6])
 .ret))))
 .skip))))
 (.reg false [zg1 43 (.bin .add (.t 15) (zi1 1)),
 zm1 15 43] [0, 4, 5, 6, 14, 15] [4, 5, 6])))))
def ir251 : IFn :=
⟨(.seq (.reg false [zg1 4 (.bx (.t 1) 7 true),
 zg1 5 (.bx (.t 2) 3 true),
 zg1 6 (.al [zo1, zo1, zo1, .nils, .nils, .nils] true),
 zg1 7 (.mov zF1)] [0, 4, 5, 6] [4, 5, 6])
 (.seq (.seq (.reg false [zg1 13 (.off (.t 4) 4),
 zg1 14 (.ld (.t 13) 3 true),
 zg1 15 (.mov (zi1 0))] [0, 4, 5, 6, 14, 15] [4, 5, 6])
 (.block 0 lp251_0))
 (.seq (.reg false [zg1 44 (.bld [zo1, zo1, zo1, .nils, .nils, .nils] []),
 zn1 (.st (.t 6) (.t 44) 6),
 zg1 7 (.mov zF1)] [6, 7] [6])
 .ret))),
 [.cell 6 6 true, .tmp 7], false⟩
def ir252 : IFn :=
⟨(.seq (.reg false [zg1 2 (.mov (.c (.p .nilp)))] [0] [])
 (.seq (.reg false [zm1 3 0,
 zg1 4 (.call 211 [(.t 3)] false),
 zg1 5 (.call 367 [(.t 4)] false),
 zm1 2 5] [2] [])
 .ret)),
 [.tmp 2], false⟩
def ir253 : IFn :=
⟨(.seq (.reg false [zg1 4 (.al [zo1, zo1, zo1] true)] [0, 1, 4] [4])
 (.seq (.reg false [zm1 7 0,
 zm1 8 1,
 zg1 9 (.call 202 [(.t 7), (.t 8)] false),
 zm1 6 9,
 zg1 10 (.ext (.t 6) 0),
 zg1 11 (.ext (.t 6) 1),
 zm1 1 10,
 zm1 5 11] [0, 1, 4, 5] [4])
 (.seq (.seq (.reg false [zm1 12 5,
 zg1 13 (.un .not (.t 12))] [0, 1, 4, 13] [4])
 (.cond (.t 13)
 (.seq (.reg false [zg1 14 (.bld [zo1, zo1, zo1] []),
 zn1 (.st (.t 4) (.t 14) 3)] [4] [4])
 .ret)
 .skip))
 (.seq (.reg false [zm1 15 0,
 zg1 16 (.nck (.t 15)),
 zg1 17 (.off (.t 16) 3),
 zg1 18 (.ld (.t 17) 1 false),
 zm1 19 1,
 zg1 20 (.ixs (.t 18) (.t 19) 3),
 zg1 21 (.ld (.t 20) 3 true),
 zn1 (.st (.t 4) (.t 21) 3)] [4] [4])
 .ret)))),
 [.cell 4 3 true], false⟩
def ir254 : IFn :=
⟨(.seq (.reg false [zg1 4 (.mov (zi1 0))] [0, 1] [])
 (.seq (.reg false [zm1 7 0,
 zm1 8 1,
 zg1 9 (.call 202 [(.t 7), (.t 8)] false),
 zm1 6 9,
 zg1 10 (.ext (.t 6) 0),
 zg1 11 (.ext (.t 6) 1),
 zm1 1 10,
 zm1 5 11] [0, 1, 5] [])
 (.seq (.seq (.reg false [zm1 12 5,
 zg1 13 (.un .not (.t 12))] [0, 1, 13] [])
 (.cond (.t 13)
 (.seq (.reg false [zg1 4 (.mov (zi1 0))] [4] [])
 .ret)
 .skip))
 (.seq (.reg false [zm1 14 0,
 zg1 15 (.nck (.t 14)),
 zg1 16 (.off (.t 15) 1),
 zg1 17 (.ld (.t 16) 1 false),
 zm1 18 1,
 zg1 19 (.ixs (.t 17) (.t 18) 1),
 zg1 20 (.ld (.t 19) 1 false),
 zm1 4 20] [4] [])
 .ret)))),
 [.tmp 4], false⟩
def lp255_0 : IC :=
 (.loop [2, 3, 4, 5, 8, 9, 11] [4, 5, 8, 9] (.seq (.reg false [zg1 12 (.bin .lss (.t 11) (zi1 3))] [2, 3, 4, 5, 8, 9, 11, 12] [4, 5, 8, 9])
 (.seq (.cond (.t 12)
 .skip
 (.exit 0))
 (.seq (.block 1 (.seq (.reg false [zm1 13 11,
 zm1 10 13] [2, 3, 4, 5, 8, 9, 10, 11] [4, 5, 8, 9])
 (.reg true [zm1 14 10,
 zm1 15 3,
 zm1 16 10,
 zg1 17 (.ixa (.t 4) (.t 16) 1 3),
 zg1 18 (.ldl 4 (.t 17) 1 false),
 zm1 19 2,
 zg1 20 (.call 291 [(.t 18), (.t 19), (zi1 1073741824)] false),
 zm1 21 10,
 zg1 22 (.ixa (.t 5) (.t 21) 1 3),
 zg1 23 (.ldl 5 (.t 22) 1 false),
 zm1 24 2,
 zg1 25 (.call 291 [(.t 23), (.t 24), (zi1 1073741824)] false),
 zg1 26 (.callv (.t 15) [(.t 20), (.t 25)] false),
 zm1 27 2,
 zg1 28 (.call 291 [(.t 26), (.t 27), (zi1 1073741824)] false),
 zg1 29 (.ixa (.t 9) (.t 14) 1 3),
 zn1 (.stl 9 (.t 29) (.t 28) 1)] [2, 3, 4, 5, 8, 9, 11] [4, 5, 8, 9])))
 (.reg false [zg1 30 (.bin .add (.t 11) (zi1 1)),
 zm1 11 30] [2, 3, 4, 5, 8, 9, 11] [4, 5, 8, 9])))))
def ir255 : IFn :=
⟨(.seq (.reg false [zg1 4 (.bx (.t 0) 3 true),
 zg1 5 (.bx (.t 1) 3 true),
 zg1 8 (.al [zo1, zo1, zo1] true)] [2, 3, 4, 5, 8] [4, 5, 8])
 (.seq (.reg false [zg1 9 (.al [zo1, zo1, zo1] true)] [2, 3, 4, 5, 8, 9] [4, 5, 8, 9])
 (.seq (.seq (.reg false [zg1 11 (.mov (zi1 0))] [2, 3, 4, 5, 8, 9, 11] [4, 5, 8, 9])
 (.block 0 lp255_0))
 (.seq (.reg false [zg1 31 (.ld (.t 9) 3 true),
 zn1 (.st (.t 8) (.t 31) 3)] [8] [8])
 .ret)))),
 [.cell 8 3 true], false⟩
def ir256 : IFn :=
⟨(.seq (.reg false [zg1 4 (.mov (zi1 0))] [0, 1] [])
 (.seq (.reg false [zm1 5 0,
 zm1 6 1,
 zg1 7 (.bin .add (.t 5) (.t 6)),
 zm1 4 7] [4] [])
 .ret)),
 [.tmp 4], false⟩
def ir257 : IFn :=
⟨(.seq (.reg false [zg1 1 (.bx (.t 0) 36 true),
 zg1 2 (.mov zF1)] [1] [1])
 (.seq (.reg false [zg1 3 (.off (.t 1) 8),
 zg1 4 (.off (.t 3) 3),
 zg1 5 (.ld (.t 4) 1 false),
 zg1 6 (.len (.t 5)),
 zg1 7 (.bin .gtr (.t 6) (zi1 0)),
 zm1 2 7] [2] [])
 .ret)),
 [.tmp 2], false⟩
def ir258 : IFn :=
⟨(.seq (.reg false [zg1 1 (.bx (.t 0) 36 true),
 zg1 2 (.mov zF1)] [1] [1])
 (.seq (.reg true [zg1 3 (.off (.t 1) 1),
 zg1 4 (.off (.t 3) 0),
 zg1 5 (.ldl 1 (.t 4) 1 false),
 zg1 6 (.off (.t 1) 0),
 zg1 7 (.ldl 1 (.t 6) 1 false),
 zg1 8 (.call 81 [(.t 7)] false),
 zg1 9 (.call 82 [(.t 8)] false),
 zg1 10 (.bin .eql (.t 5) (.t 9)),
 zm1 2 10] [2] [])
 .ret)),
 [.tmp 2], false⟩
def ir259 : IFn :=
⟨(.seq (.reg false [zg1 1 (.bx (.t 0) 36 true),
 zg1 2 (.mov zF1)] [1] [1])
 (.seq (.reg false [zg1 3 (.off (.t 1) 0),
 zg1 4 (.ld (.t 3) 1 false),
 zg1 5 (.off (.t 1) 1),
 zg1 6 (.ld (.t 5) 7 true),
 zg1 7 (.call 249 [(.t 4), (.t 6)] false),
 zg1 8 (.un .not (.t 7)),
 zm1 2 8] [2] [])
 .ret)),
 [.tmp 2], false⟩
def ir260 : IFn :=
⟨(.seq (.reg false [zg1 1 (.bx (.t 0) 36 true),
 zg1 2 (.mov zF1)] [1] [1])
 (.seq (.reg true [zg1 3 (.off (.t 1) 0),
 zg1 4 (.ldl 1 (.t 3) 1 false),
 zg1 5 (.call 81 [(.t 4)] false),
 zg1 6 (.off (.t 1) 1),
 zg1 7 (.off (.t 6) 0),
 zg1 8 (.ldl 1 (.t 7) 1 false),
 zg1 9 (.call 84 [(.t 5), (.t 8)] false),
 zg1 10 (.off (.t 1) 8),
 zg1 11 (.off (.t 10) 2),
 zg1 12 (.ldl 1 (.t 11) 1 false),
 zg1 13 (.call 89 [(.t 9), (.t 12)] false),
 zg1 14 (.un .not (.t 13)),
 zm1 2 14] [2] [])
 .ret)),
 [.tmp 2], false⟩
def ir261 : IFn :=
⟨(.seq (.reg false [zg1 1 (.bx (.t 0) 36 true),
 zg1 2 (.mov zF1)] [1] [1])
 (.seq (.reg true [zg1 3 (.off (.t 1) 14),
 zg1 4 (.off (.t 3) 20),
 zg1 5 (.ldl 1 (.t 4) 1 false),
 zg1 6 (.off (.t 1) 0),
 zg1 7 (.ldl 1 (.t 6) 1 false),
 zg1 8 (.off (.t 1) 1),
 zg1 9 (.ldl 1 (.t 8) 7 true),
 zg1 10 (.off (.t 1) 8),
 zg1 11 (.off (.t 10) 2),
 zg1 12 (.ldl 1 (.t 11) 1 false),
 zg1 13 (.call 121 [(.t 7), (.t 9), (.t 12)] false),
 zg1 14 (.off (.t 1) 8),
 zg1 15 (.off (.t 14) 3),
 zg1 16 (.ldl 1 (.t 15) 1 false),
 zg1 17 (.call 262 [(.t 5), (.t 13), (.t 16)] false),
 zg1 18 (.un .not (.t 17)),
 zm1 2 18] [2] [])
 .ret)),
 [.tmp 2], false⟩
def lp262_0 : IC :=
 (.reg false [zm1 7 11] [5, 6, 7] [])
def lp262_1 : IC :=
 (.block 1 (.seq (.reg false [zm1 12 7,
 zg1 13 (.ld (.t 5) 1 false),
 zg1 14 (.call 272 [(.t 12), (.t 13)] false)] [6, 14] [])
 (.cond (.t 14)
 (.seq (.reg false [zn1 (.st (.t 6) zT1 1)] [6] [])
 .ret)
 .skip)))
def ir262 : IFn :=
⟨(.seq (.reg false [zg1 4 (.bx (.t 1) 4 true),
 zg1 5 (.bx (.t 2) 1 false),
 zg1 6 (.al [.p (.bool false)] false)] [0, 4, 5, 6] [4])
 (.seq (.seq (.reg false [zm1 8 0,
 zg1 9 (.ld (.t 4) 4 true),
 zg1 10 (.call 365 [(.t 8), (.t 9)] false)] [5, 6, 10] [])
 (.block 0 (.rangeFunc (.t 10) [11] lp262_0 lp262_1)))
 (.seq (.reg false [zn1 (.st (.t 6) zF1 1)] [6] [])
 .ret))),
 [.cell 6 1 false], false⟩
def ir263 : IFn :=
⟨(.seq (.reg false [zg1 1 (.bx (.t 0) 36 true),
 zg1 2 (.mov zF1)] [1] [1])
 (.seq (.reg false [zg1 3 (.ld (.t 1) 36 true),
 zg1 4 (.off (.t 1) 8),
 zg1 5 (.off (.t 4) 2),
 zg1 6 (.ld (.t 5) 1 false),
 zg1 7 (.call 264 [(.t 3), (.t 6)] false),
 zg1 8 (.un .not (.t 7)),
 zm1 9 8,
 zf1 10 9 (.off (.t 1) 14),
 zf1 11 9 (.off (.t 10) 0),
 zf1 12 9 (.ld (.t 11) 19 true),
 zf1 13 9 (.off (.t 1) 14),
 zf1 14 9 (.off (.t 13) 21),
 zf1 15 9 (.ld (.t 14) 1 false),
 zf1 16 9 (.off (.t 1) 8),
 zf1 17 9 (.off (.t 16) 4),
 zf1 18 9 (.ld (.t 17) 1 false),
 zf1 19 9 (.off (.t 1) 8),
 zf1 20 9 (.off (.t 19) 5),
 zf1 21 9 (.ld (.t 20) 1 false),
 zf1 22 9 (.bld [.nils, .nils] [(0, 1, (.t 18)), (1, 1, (.t 21))]),
 zf1 23 9 (.call 265 [(.t 12), (.t 15), (.t 22)] false),
 zf1 24 9 (.un .not (.t 23)),
 zg1 25 (.pick (.t 9) zT1 (.t 24)),
 zm1 2 25] [2] [])
 .ret)),
 [.tmp 2], false⟩
def ir264 : IFn :=
⟨(.seq (.reg false [zg1 2 (.bx (.t 0) 36 true),
 zg1 4 (.mov zF1)] [1, 2] [2])
 (.seq (.reg false [zg1 8 (.off (.t 2) 14),
 zg1 9 (.off (.t 8) 21),
 zg1 10 (.ld (.t 9) 1 false),
 zm1 5 10] [1, 2, 5] [2])
 (.seq (.prep [6] (.reg true [zg1 11 (.off (.t 2) 1),
 zg1 12 (.off (.t 11) 4),
 zg1 13 (.ldl 2 (.t 12) 3 true),
 zm1 14 5,
 zg1 15 (.off (.t 2) 8),
 zg1 16 (.off (.t 15) 4),
 zg1 17 (.ldl 2 (.t 16) 1 false),
 zg1 18 (.call 123 [(.t 14), (.t 17)] false),
 zg1 19 (.call 122 [(.t 13), (.t 18)] false),
 zg1 6 (.alp [zo1, zo1, zo1]),
 zn1 (.stl 6 (.t 6) (.t 19) 3)] [1, 2, 5, 6] [2, 6]))
 (.seq (.prep [7] (.reg true [zg1 20 (.ldl 6 (.t 6) 3 true),
 zm1 21 5,
 zg1 22 (.off (.t 2) 8),
 zg1 23 (.off (.t 22) 5),
 zg1 24 (.ldl 2 (.t 23) 1 false),
 zg1 25 (.call 123 [(.t 21), (.t 24)] false),
 zg1 26 (.call 122 [(.t 20), (.t 25)] false),
 zg1 7 (.alp [zo1, zo1, zo1]),
 zn1 (.stl 7 (.t 7) (.t 26) 3)] [1, 2, 5, 6, 7] [2, 6, 7]))
 (.seq (.reg true [zm1 27 5,
 zg1 28 (.off (.t 2) 1),
 zg1 29 (.off (.t 28) 4),
 zg1 30 (.ldl 2 (.t 29) 3 true),
 zg1 31 (.off (.t 2) 8),
 zg1 32 (.off (.t 31) 4),
 zg1 33 (.ldl 2 (.t 32) 1 false),
 zg1 34 (.call 368 [(.t 27), (.t 30), (.t 33)] false),
 zm1 35 34,
 zt1 36 35 (.mov (.t 5)),
 zt1 37 35 (.ldl 6 (.t 6) 3 true),
 zt1 38 35 (.off (.t 2) 8),
 zt1 39 35 (.off (.t 38) 5),
 zt1 40 35 (.ldl 2 (.t 39) 1 false),
 zt1 41 35 (.call 368 [(.t 36), (.t 37), (.t 40)] false),
 zg1 42 (.pick (.t 35) (.t 41) zF1),
 zm1 43 42,
 zt1 44 43 (.ldl 7 (.t 7) 3 true),
 zt1 45 43 (.off (.t 2) 0),
 zt1 46 43 (.ldl 2 (.t 45) 1 false),
 zt1 47 43 (.call 252 [(.t 46)] false),
 zt1 48 43 (.mov (.t 1)),
 zt1 49 43 (.call 77 [(.t 47), (.t 48)] false),
 zt1 50 43 (.call 133 [(.t 44), (.t 49)] false),
 zg1 51 (.pick (.t 43) (.t 50) zF1),
 zm1 4 51] [4] [])
 .ret))))),
 [.tmp 4], false⟩
def ir265 : IFn :=
⟨(.seq (.reg false [zg1 3 (.bx (.t 0) 19 true),
 zg1 5 (.bx (.t 2) 2 true),
 zg1 6 (.mov zF1)] [1, 3, 5] [3, 5])
 (.seq (.reg true [zg1 7 (.ldl 3 (.t 3) 19 true),
 zg1 8 (.call 369 [(.t 7)] false),
 zg1 9 (.ldl 3 (.t 3) 19 true),
 zm1 10 1,
 zg1 11 (.off (.t 5) 0),
 zg1 12 (.ldl 5 (.t 11) 1 false),
 zg1 13 (.call 370 [(.t 8), (.t 9), (.t 10), (.t 12)] false),
 zm1 14 13,
 zt1 15 14 (.ldl 3 (.t 3) 19 true),
 zt1 16 14 (.call 371 [(.t 15)] false),
 zt1 17 14 (.ldl 3 (.t 3) 19 true),
 zt1 18 14 (.mov (.t 1)),
 zt1 19 14 (.off (.t 5) 1),
 zt1 20 14 (.ldl 5 (.t 19) 1 false),
 zt1 21 14 (.call 370 [(.t 16), (.t 17), (.t 18), (.t 20)] false),
 zg1 22 (.pick (.t 14) (.t 21) zF1),
 zm1 6 22] [6] [])
 .ret)),
 [.tmp 6], false⟩
def ir266 : IFn :=
⟨(.seq (.reg false [zg1 1 (.bx (.t 0) 36 true),
 zg1 2 (.mov zF1)] [1] [1])
 (.seq (.reg false [zg1 3 (.off (.t 1) 8),
 zg1 4 (.off (.t 3) 2),
 zg1 5 (.ld (.t 4) 1 false),
 zg1 6 (.off (.t 1) 1),
 zg1 7 (.off (.t 6) 0),
 zg1 8 (.ld (.t 7) 1 false),
 zg1 9 (.bin .neq (.t 5) (.t 8)),
 zm1 2 9] [2] [])
 .ret)),
 [.tmp 2], false⟩
def ir267 : IFn :=
⟨(.seq (.reg false [zg1 1 (.bx (.t 0) 36 true),
 zg1 2 (.mov zF1)] [1] [1])
 (.seq (.reg false [zg1 3 (.off (.t 1) 8),
 zg1 4 (.off (.t 3) 4),
 zg1 5 (.ld (.t 4) 1 false),
 zg1 6 (.len (.t 5)),
 zg1 7 (.bin .eql (.t 6) (zi1 0)),
 zm1 8 7,
 zf1 9 8 (.off (.t 1) 8),
 zf1 10 8 (.off (.t 9) 4),
 zf1 11 8 (.ld (.t 10) 1 false),
 zf1 12 8 (.len (.t 11)),
 zf1 13 8 (.bin .gtr (.t 12) (zi1 8)),
 zg1 14 (.pick (.t 8) zT1 (.t 13)),
 zm1 15 14,
 zf1 16 15 (.off (.t 1) 8),
 zf1 17 15 (.off (.t 16) 5),
 zf1 18 15 (.ld (.t 17) 1 false),
 zf1 19 15 (.len (.t 18)),
 zf1 20 15 (.bin .gtr (.t 19) (zi1 0)),
 zg1 21 (.pick (.t 15) zT1 (.t 20)),
 zm1 22 21,
 zf1 23 22 (.ld (.t 1) 36 true),
 zf1 24 22 (.off (.t 1) 1),
 zf1 25 22 (.off (.t 24) 0),
 zf1 26 22 (.ld (.t 25) 1 false),
 zf1 27 22 (.call 264 [(.t 23), (.t 26)] false),
 zf1 28 22 (.un .not (.t 27)),
 zg1 29 (.pick (.t 22) zT1 (.t 28)),
 zm1 30 29,
 zf1 31 30 (.ld (.t 1) 36 true),
 zf1 32 30 (.call 125 [(.t 31)] false),
 zg1 33 (.pick (.t 30) zT1 (.t 32)),
 zm1 2 33] [2] [])
 .ret)),
 [.tmp 2], false⟩
def ir268 : IFn :=
⟨(.seq (.reg false [zg1 1 (.bx (.t 0) 36 true),
 zg1 2 (.mov zF1)] [1] [1])
 (.seq (.reg false [zg1 3 (.ld (.t 1) 36 true),
 zg1 4 (.call 266 [(.t 3)] false),
 zm1 5 4,
 zf1 6 5 (.ld (.t 1) 36 true),
 zf1 7 5 (.call 258 [(.t 6)] false),
 zf1 8 5 (.un .not (.t 7)),
 zg1 9 (.pick (.t 5) zT1 (.t 8)),
 zm1 2 9] [2] [])
 .ret)),
 [.tmp 2], false⟩
def ir269 : IFn :=
⟨(.seq (.reg false [zg1 1 (.bx (.t 0) 36 true),
 zg1 2 (.mov zF1)] [1] [1])
 (.seq (.reg false [zg1 3 (.off (.t 1) 8),
 zg1 4 (.off (.t 3) 3),
 zg1 5 (.ld (.t 4) 1 false),
 zg1 6 (.len (.t 5)),
 zg1 7 (.bin .eql (.t 6) (zi1 0)),
 zm1 8 7,
 zf1 9 8 (.ld (.t 1) 36 true),
 zf1 10 8 (.call 270 [(.t 9)] false),
 zf1 11 8 (.un .not (.t 10)),
 zg1 12 (.pick (.t 8) zT1 (.t 11)),
 zm1 2 12] [2] [])
 .ret)),
 [.tmp 2], false⟩
def ir270 : IFn :=
⟨(.seq (.reg false [zg1 1 (.bx (.t 0) 36 true),
 zg1 2 (.mov zF1)] [1] [1])
 (.seq (.reg false [zg1 4 (.off (.t 1) 0),
 zg1 5 (.ld (.t 4) 1 false),
 zg1 6 (.off (.t 1) 1),
 zg1 7 (.ld (.t 6) 7 true),
 zg1 8 (.off (.t 1) 1),
 zg1 9 (.off (.t 8) 0),
 zg1 10 (.ld (.t 9) 1 false),
 zg1 11 (.call 121 [(.t 5), (.t 7), (.t 10)] false),
 zg1 3 (.al [zo1, zo1, zo1, .p (.bool false)] true),
 zn1 (.st (.t 3) (.t 11) 4)] [1, 3] [1, 3])
 (.seq (.reg false [zg1 12 (.off (.t 3) 3),
 zn1 (.st (.t 12) zT1 1)] [1, 3] [1, 3])
 (.seq (.reg false [zg1 13 (.off (.t 1) 14),
 zg1 14 (.off (.t 13) 20),
 zg1 15 (.ld (.t 14) 1 false),
 zg1 16 (.ld (.t 3) 4 true),
 zg1 17 (.off (.t 1) 8),
 zg1 18 (.off (.t 17) 3),
 zg1 19 (.ld (.t 18) 1 false),
 zg1 20 (.call 262 [(.t 15), (.t 16), (.t 19)] false),
 zm1 2 20] [2] [])
 .ret)))),
 [.tmp 2], false⟩
def ir271 : IFn :=
⟨(.seq (.reg false [zg1 1 (.bx (.t 0) 36 true),
 zg1 2 (.mov zF1)] [1] [1])
 (.seq (.reg false [zg1 3 (.off (.t 1) 8),
 zg1 4 (.off (.t 3) 4),
 zg1 5 (.ld (.t 4) 1 false),
 zg1 6 (.len (.t 5)),
 zg1 7 (.off (.t 1) 8),
 zg1 8 (.off (.t 7) 5),
 zg1 9 (.ld (.t 8) 1 false),
 zg1 10 (.len (.t 9)),
 zg1 11 (.bin .add (.t 6) (.t 10)),
 zg1 12 (.bin .gtr (.t 11) (zi1 0)),
 zm1 2 12] [2] [])
 .ret)),
 [.tmp 2], false⟩
def ir272 : IFn :=
⟨(.seq (.reg false [zg1 4 (.mov zF1)] [0, 1] [])
 (.seq (.reg false [zm1 5 0,
 zm1 6 1,
 zg1 7 (.call 372 [(.t 5), (.t 6)] false),
 zm1 4 7] [4] [])
 .ret)),
 [.tmp 4], false⟩
def lp273_0 : IC :=
 (.loop [0, 1, 12, 13] [] (.seq (.reg false [zg1 14 (.bin .lss (.t 13) (.t 12))] [0, 1, 12, 13, 14] [])
 (.seq (.cond (.t 14)
 .skip
 (.exit 0))
 (.seq (.block 1 (.seq (.reg false [zm1 15 13,
 zm1 5 15] [0, 1, 5, 12, 13] [])
 (.seq (.reg true [zm1 16 0,
 zm1 17 5,
 zg1 18 (.ixs (.t 16) (.t 17) 1),
 zg1 19 (.ld (.t 18) 1 false),
 zm1 20 1,
 zm1 21 5,
 zg1 22 (.ixs (.t 20) (.t 21) 1),
 zg1 23 (.ld (.t 22) 1 false),
 zg1 24 (.bin .neq (.t 19) (.t 23))] [0, 1, 12, 13, 24] [])
 (.cond (.t 24)
 (.seq (.reg false [zg1 4 (.mov zF1)] [4] [])
 .ret)
 .skip))))
 (.reg false [zg1 25 (.bin .add (.t 13) (zi1 1)),
 zm1 13 25] [0, 1, 12, 13] [])))))
def ir273 : IFn :=
⟨(.seq (.reg false [zg1 4 (.mov zF1)] [0, 1] [])
 (.seq (.seq (.reg false [zm1 6 0,
 zg1 7 (.len (.t 6)),
 zm1 8 1,
 zg1 9 (.len (.t 8)),
 zg1 10 (.bin .neq (.t 7) (.t 9))] [0, 1, 10] [])
 (.cond (.t 10)
 (.seq (.reg false [zg1 4 (.mov zF1)] [4] [])
 .ret)
 .skip))
 (.seq (.seq (.reg false [zm1 11 0,
 zg1 12 (.len (.t 11)),
 zg1 13 (.mov (zi1 0))] [0, 1, 12, 13] [])
 (.block 0 lp273_0))
 (.seq (.reg false [zg1 4 (.mov zT1)] [4] [])
 .ret)))),
 [.tmp 4], false⟩
def ir284 : IFn :=
⟨(.seq (.reg false [zg1 2 (.bx (.t 0) 2 true),
 zg1 4 (.mov zF1)] [1, 2] [2])
 (.seq (.reg false [zg1 5 (.ld (.t 2) 2 true),
 zm1 6 1,
 zg1 7 (.call 375 [(.t 5), (.t 6)] false),
 zm1 4 7] [4] [])
 .ret)),
 [.tmp 4], false⟩
def lp285_0 : IC :=
 (.loop [2, 3, 7, 8] [3] (.seq (.seq (.reg false [zm1 17 8,
 zm1 18 2,
 zg1 19 (.bin .lss (.t 17) (.t 18))] [2, 3, 7, 8, 19] [3])
 (.cond (.t 19)
 .skip
 (.exit 0)))
 (.seq (.block 1 (.reg false [zm1 22 7,
 zg1 23 (.off (.t 3) 0),
 zg1 24 (.ld (.t 23) 1 false),
 zm1 25 8,
 zg1 26 (.ixs (.t 24) (.t 25) 1),
 zg1 27 (.ld (.t 26) 1 false),
 zg1 28 (.mnmx true (.t 27) (zi1 0)),
 zg1 29 (.mnmx false (.t 28) (zi1 1125899906842624)),
 zg1 30 (.bin .add (.t 22) (.t 29)),
 zg1 31 (.mnmx false (.t 30) (zi1 1125899906842624)),
 zm1 7 31] [2, 3, 7, 8] [3]))
 (.reg false [zm1 20 8,
 zg1 21 (.bin .add (.t 20) (zi1 1)),
 zm1 8 21] [2, 3, 7, 8] [3]))))
def ir285 : IFn :=
⟨(.seq (.reg false [zg1 3 (.bx (.t 0) 2 true),
 zg1 6 (.mov (zi1 0))] [1, 2, 3] [3])
 (.seq (.reg true [zm1 9 1,
 zg1 10 (.mnmx true (.t 9) (zi1 0)),
 zm1 11 2,
 zg1 12 (.off (.t 3) 0),
 zg1 13 (.ldl 3 (.t 12) 1 false),
 zg1 14 (.len (.t 13)),
 zg1 15 (.mnmx false (.t 11) (.t 14)),
 zm1 1 10,
 zm1 2 15] [1, 2, 3] [3])
 (.seq (.reg false [zg1 7 (.mov (zi1 0))] [1, 2, 3, 7] [3])
 (.seq (.seq (.reg false [zm1 16 1,
 zm1 8 16] [2, 3, 7, 8] [3])
 (.block 0 lp285_0))
 (.seq (.reg false [zm1 32 7,
 zm1 6 32] [6] [])
 .ret))))),
 [.tmp 6], false⟩
def ir286 : IFn :=
⟨(.seq (.reg false [zg1 4 (.al [zo1, zo1, zo1, zo1, zo1, zo1, zo1] true),
 zg1 5 (.mov zF1)] [0, 1, 4] [4])
 (.seq (.seq (.reg false [zm1 6 1,
 zg1 7 (.bin .lss (.t 6) (zi1 0)),
 zm1 8 7,
 zf1 9 8 (.mov (.t 1)),
 zf1 10 8 (.mov (.t 0)),
 zf1 11 8 (.call 82 [(.t 10)] false),
 zf1 12 8 (.bin .geq (.t 9) (.t 11)),
 zg1 13 (.pick (.t 8) zT1 (.t 12))] [0, 1, 4, 13] [4])
 (.cond (.t 13)
 (.seq (.reg false [zg1 14 (.bld [zo1, zo1, zo1, zo1, zo1, zo1, zo1] []),
 zn1 (.st (.t 4) (.t 14) 7),
 zg1 5 (.mov zF1)] [4, 5] [4])
 .ret)
 .skip))
 (.seq (.reg false [zm1 15 0,
 zg1 16 (.nck (.t 15)),
 zg1 17 (.off (.t 16) 0),
 zg1 18 (.ld (.t 17) 1 false),
 zm1 19 1,
 zg1 20 (.ixs (.t 18) (.t 19) 7),
 zg1 21 (.ld (.t 20) 7 true),
 zn1 (.st (.t 4) (.t 21) 7),
 zg1 5 (.mov zT1)] [4, 5] [4])
 .ret))),
 [.cell 4 7 true, .tmp 5], false⟩
def ir287 : IFn :=
⟨(.seq (.reg false [zg1 1 (.bx (.t 0) 7 true),
 zg1 2 (.mov zF1)] [1] [1])
 (.seq (.reg false [zg1 3 (.off (.t 1) 0),
 zg1 4 (.ld (.t 3) 1 false),
 zg1 5 (.bin .eql (.t 4) (zi1 3)),
 zm1 6 5,
 zt1 7 6 (.off (.t 1) 6),
 zt1 8 6 (.ld (.t 7) 1 false),
 zt1 9 6 (.bin .leq (.t 8) (zi1 (-10000))),
 zg1 10 (.pick (.t 6) (.t 9) zF1),
 zm1 2 10] [2] [])
 .ret)),
 [.tmp 2], false⟩
def ir288 : IFn :=
⟨(.seq (.reg false [zg1 2 (.bx (.t 0) 6 true),
 zg1 4 (.mov zF1)] [1, 2] [2])
 (.seq (.reg false [zg1 5 (.ld (.t 2) 6 true),
 zg1 6 (.call 232 [(.t 5)] false),
 zm1 7 6,
 zt1 8 7 (.mov (.t 1)),
 zt1 9 7 (.bin .geq (.t 8) (zi1 (-1125899906842624))),
 zg1 10 (.pick (.t 7) (.t 9) zF1),
 zm1 11 10,
 zt1 12 11 (.mov (.t 1)),
 zt1 13 11 (.bin .leq (.t 12) (zi1 1125899906842624)),
 zg1 14 (.pick (.t 11) (.t 13) zF1),
 zm1 4 14] [4] [])
 .ret)),
 [.tmp 4], false⟩
def lp289_0 : IC :=
 (.loop [1, 3] [1] (.seq (.seq (.reg false [zm1 4 3,
 zg1 5 (.bin .gtr (.t 4) (zi1 0))] [1, 3, 5] [1])
 (.cond (.t 5)
 .skip
 (.exit 0)))
 (.seq (.block 1 (.seq (.reg false [zm1 8 3,
 zg1 9 (.off (.t 1) 1),
 zg1 10 (.ixa (.t 9) (.t 8) 1 4),
 zg1 11 (.ld (.t 10) 1 false),
 zg1 12 (.bin .neq (.t 11) (zi1 0))] [1, 3, 12] [1])
 (.cond (.t 12)
 (.seq (.reg false [zm1 13 3,
 zm1 2 13] [2] [])
 .ret)
 .skip)))
 (.reg false [zm1 6 3,
 zg1 7 (.bin .sub (.t 6) (zi1 1)),
 zm1 3 7] [1, 3] [1]))))
def ir289 : IFn :=
⟨(.seq (.reg false [zg1 1 (.bx (.t 0) 6 true),
 zg1 2 (.mov (zi1 0))] [1] [1])
 (.seq (.seq (.reg false [zg1 3 (.mov (zi1 3))] [1, 3] [1])
 (.block 0 lp289_0))
 (.seq (.reg false [zg1 2 (.mov (zi1 0))] [2] [])
 .ret))),
 [.tmp 2], false⟩
def ir290 : IFn :=
⟨(.seq (.reg false [zg1 2 (.bx (.t 0) 6 true),
 zg1 3 (.bx (.t 1) 6 true),
 zg1 4 (.al [zo1, zo1, zo1, zo1, zo1, zo1] true),
 zg1 5 (.mov zF1)] [2, 3, 4] [2, 3, 4])
 (.seq (.reg false [zg1 6 (.ld (.t 2) 6 true),
 zg1 7 (.ld (.t 3) 6 true),
 zg1 8 (.call 337 [(.t 6), (.t 7), (.c (.p (.fn 376)))] false),
 zg1 9 (.ext (.t 8) 0),
 zg1 10 (.ext (.t 8) 1),
 zn1 (.st (.t 4) (.t 9) 6),
 zm1 5 10] [4, 5] [4])
 .ret)),
 [.cell 4 6 true, .tmp 5], false⟩
def ir291 : IFn :=
⟨(.seq (.reg false [zg1 6 (.mov (zi1 0))] [0, 1, 2] [])
 (.seq (.reg false [zm1 7 0,
 zm1 8 1,
 zg1 9 (.mnmx true (.t 7) (.t 8)),
 zm1 10 2,
 zg1 11 (.mnmx false (.t 9) (.t 10)),
 zm1 6 11] [6] [])
 .ret)),
 [.tmp 6], false⟩
def ir316 : IFn :=
⟨(.seq (.reg false [zg1 4 (.mov zF1)] [0, 1] [])
 (.seq (.reg false [zm1 8 0,
 zm1 9 1,
 zg1 10 (.call 286 [(.t 8), (.t 9)] false),
 zm1 7 10,
 zg1 11 (.ext (.t 7) 0),
 zg1 12 (.ext (.t 7) 1),
 zg1 5 (.al [zo1, zo1, zo1, zo1, zo1, zo1, zo1] true),
 zn1 (.st (.t 5) (.t 11) 7),
 zm1 6 12] [0, 1, 5, 6] [5])
 (.seq (.block 0 (.seq (.reg false [zm1 14 1,
 zg1 15 (.bin .lss (.t 14) (zi1 1)),
 zm1 16 15,
 zf1 17 16 (.mov (.t 1)),
 zf1 18 16 (.mov (.t 0)),
 zf1 19 16 (.call 82 [(.t 18)] false),
 zf1 20 16 (.bin .gtr (.t 17) (.t 19)),
 zg1 21 (.pick (.t 16) zT1 (.t 20)),
 zm1 13 21] [0, 1, 5, 6, 13] [5])
 (.cond (.t 13)
 (.seq (.reg false [zg1 4 (.mov zF1)] [4] [])
 .ret)
 (.seq (.reg false [zm1 23 6,
 zg1 24 (.un .not (.t 23)),
 zm1 22 24] [0, 1, 5, 22] [5])
 (.cond (.t 22)
 (.seq (.reg false [zg1 4 (.mov zT1)] [4] [])
 .ret)
 (.seq (.reg false [zg1 26 (.off (.t 5) 0),
 zg1 27 (.ld (.t 26) 1 false),
 zg1 28 (.bin .eql (.t 27) (zi1 2)),
 zm1 25 28] [0, 1, 5, 25] [5])
 (.cond (.t 25)
 (.seq (.reg false [zm1 29 0,
 zg1 30 (.nck (.t 29)),
 zg1 31 (.off (.t 30) 0),
 zg1 32 (.ld (.t 31) 1 false),
 zm1 33 1,
 zg1 34 (.bin .sub (.t 33) (zi1 1)),
 zg1 35 (.ixs (.t 32) (.t 34) 7),
 zg1 36 (.ld (.t 35) 7 true),
 zg1 37 (.call 347 [(.t 36)] false),
 zg1 38 (.un .not (.t 37)),
 zm1 4 38] [4] [])
 .ret)
 .skip)))))))
 (.seq (.reg false [zg1 39 (.off (.t 5) 0),
 zg1 40 (.ld (.t 39) 1 false),
 zg1 41 (.bin .eql (.t 40) (zi1 3)),
 zm1 42 41,
 zt1 43 42 (.ld (.t 5) 7 true),
 zt1 44 42 (.call 385 [(.t 43)] false),
 zt1 45 42 (.un .not (.t 44)),
 zg1 46 (.pick (.t 42) (.t 45) zF1),
 zm1 4 46] [4] [])
 .ret)))),
 [.tmp 4], false⟩
def ir329 : IFn :=
⟨(.seq (.reg false [zg1 0 (.mov (.c (.nils)))] [] [])
 (.seq (.reg false [zg1 1 (.call 393 [(.c (.p (.fn 394)))] false),
 zg1 2 (.bld [zo1, .p .nilf] [(0, 1, (zi1 3)), (1, 1, (.t 1))]),
 zg1 3 (.call 393 [(.c (.p (.fn 395)))] false),
 zg1 4 (.bld [zo1, .p .nilf] [(0, 1, (zi1 4)), (1, 1, (.t 3))]),
 zg1 5 (.call 393 [(.c (.p (.fn 396)))] false),
 zg1 6 (.bld [zo1, .p .nilf] [(0, 1, (zi1 5)), (1, 1, (.t 5))]),
 zg1 7 (.call 393 [(.c (.p (.fn 397)))] false),
 zg1 8 (.bld [zo1, .p .nilf] [(0, 1, (zi1 6)), (1, 1, (.t 7))]),
 zg1 9 (.call 393 [(.c (.p (.fn 399)))] false),
 zg1 10 (.bld [zo1, .p .nilf] [(0, 1, (zi1 7)), (1, 1, (.t 9))]),
 zg1 11 (.bld [zo1, .p .nilf] [(0, 1, (zi1 8)), (1, 1, (.c (.p (.fn 400))))]),
 zg1 12 (.bld [zo1, .p .nilf] [(0, 1, (zi1 9)), (1, 1, (.c (.p (.fn 403))))]),
 zg1 13 (.bld [zo1, .p .nilf] [(0, 1, (zi1 10)), (1, 1, (.c (.p (.fn 406))))]),
 zg1 14 (.bld [zo1, .p .nilf] [(0, 1, (zi1 11)), (1, 1, (.c (.p (.fn 409))))]),
 zg1 15 (.bld [zo1, .p .nilf] [(0, 1, (zi1 12)), (1, 1, (.c (.p (.fn 410))))]),
 zg1 16 (.bsl 2 10 [zo1, .p .nilf] [(0, (.t 2)), (1, (.t 4)), (2, (.t 6)), (3, (.t 8)), (4, (.t 10)), (5, (.t 11)), (6, (.t 12)), (7, (.t 13)), (8, (.t 14)), (9, (.t 15))]),
 zm1 0 16] [0] [])
 .ret)),
 [.tmp 0], false⟩
def ir330 : IFn :=
⟨(.seq (.reg false [zg1 4 (.mov (zi1 0))] [0, 1] [])
 (.seq (.seq (.reg false [zm1 6 1,
 zg1 7 (.bin .lss (.t 6) (zi1 1))] [0, 1, 7] [])
 (.cond (.t 7)
 (.seq (.reg false [zm1 8 0,
 zm1 4 8] [4] [])
 .ret)
 .skip))
 (.seq (.reg false [zm1 9 0,
 zm1 10 1,
 zg1 11 (.bin .rem (.t 9) (.t 10)),
 zm1 5 11] [0, 1, 5] [])
 (.seq (.seq (.reg false [zm1 12 5,
 zg1 13 (.bin .lss (.t 12) (zi1 0))] [0, 1, 5, 13] [])
 (.cond (.t 13)
 (.reg false [zm1 14 5,
 zm1 15 1,
 zg1 16 (.bin .add (.t 14) (.t 15)),
 zm1 5 16] [0, 1, 5] [])
 .skip))
 (.seq (.seq (.reg false [zm1 17 5,
 zm1 18 1,
 zm1 19 5,
 zg1 20 (.bin .sub (.t 18) (.t 19)),
 zg1 21 (.bin .lss (.t 17) (.t 20))] [0, 1, 21] [])
 (.cond (.t 21)
 (.seq (.reg false [zm1 22 0,
 zm1 23 1,
 zg1 24 (.call 196 [(.t 22), (.t 23)] false),
 zm1 4 24] [4] [])
 .ret)
 .skip))
 (.seq (.reg false [zm1 25 0,
 zm1 26 1,
 zg1 27 (.call 197 [(.t 25), (.t 26)] false),
 zm1 4 27] [4] [])
 .ret)))))),
 [.tmp 4], false⟩
def ir331 : IFn :=
⟨(.seq (.reg false [zg1 6 (.mov (zi1 0))] [0, 1, 2] [])
 (.seq (.seq (.reg false [zm1 10 2,
 zm1 11 0,
 zm1 12 1,
 zg1 13 (.callv (.t 10) [(.t 11), (.t 12)] false),
 zm1 9 13,
 zg1 14 (.ext (.t 9) 0),
 zg1 15 (.ext (.t 9) 1),
 zm1 7 14,
 zm1 8 15] [0, 7, 8] [])
 (.seq (.reg false [zm1 16 8] [0, 7, 16] [])
 (.cond (.t 16)
 (.seq (.reg false [zm1 17 7,
 zm1 6 17] [6] [])
 .ret)
 .skip)))
 (.seq (.reg false [zm1 18 0,
 zm1 6 18] [6] [])
 .ret))),
 [.tmp 6], false⟩
def ir332 : IFn :=
⟨(.seq (.reg false [zg1 4 (.mov (zi1 0)),
 zg1 5 (.mov zF1)] [0, 1] [])
 (.seq (.seq (.reg false [zm1 6 1,
 zg1 7 (.bin .lss (.t 6) (zi1 1))] [0, 1, 7] [])
 (.cond (.t 7)
 (.seq (.reg false [zg1 4 (.mov (zi1 0)),
 zg1 5 (.mov zF1)] [4, 5] [])
 .ret)
 .skip))
 (.seq (.reg false [zm1 8 0,
 zm1 9 0,
 zm1 10 1,
 zg1 11 (.call 411 [(.t 9), (.t 10)] false),
 zg1 12 (.call 376 [(.t 8), (.t 11)] false),
 zg1 13 (.ext (.t 12) 0),
 zg1 14 (.ext (.t 12) 1),
 zm1 4 13,
 zm1 5 14] [4, 5] [])
 .ret))),
 [.tmp 4, .tmp 5], false⟩
def ir333 : IFn :=
⟨(.seq (.reg false [zg1 4 (.mov (zi1 0)),
 zg1 5 (.mov zF1)] [0, 1] [])
 (.seq (.seq (.reg false [zm1 7 1,
 zg1 8 (.bin .lss (.t 7) (zi1 1))] [0, 1, 8] [])
 (.cond (.t 8)
 (.seq (.reg false [zg1 4 (.mov (zi1 0)),
 zg1 5 (.mov zF1)] [4, 5] [])
 .ret)
 .skip))
 (.seq (.seq (.reg false [zm1 9 0,
 zm1 10 1,
 zg1 11 (.call 411 [(.t 9), (.t 10)] false),
 zm1 6 11] [0, 1, 6] [])
 (.seq (.reg false [zm1 12 6,
 zg1 13 (.bin .gtr (.t 12) (zi1 0))] [0, 1, 6, 13] [])
 (.cond (.t 13)
 (.seq (.reg false [zm1 14 0,
 zm1 15 1,
 zm1 16 6,
 zg1 17 (.bin .sub (.t 15) (.t 16)),
 zg1 18 (.call 338 [(.t 14), (.t 17)] false),
 zg1 19 (.ext (.t 18) 0),
 zg1 20 (.ext (.t 18) 1),
 zm1 4 19,
 zm1 5 20] [4, 5] [])
 .ret)
 .skip)))
 (.seq (.reg false [zm1 21 0,
 zm1 4 21,
 zg1 5 (.mov zT1)] [4, 5] [])
 .ret)))),
 [.tmp 4, .tmp 5], false⟩
def ir334 : IFn :=
⟨(.seq (.reg false [zg1 2 (.al [zo1, zo1, zo1, zo1, zo1, zo1] true)] [0, 2] [2])
 (.seq (.reg false [zm1 3 0,
 zg1 4 (.bld [zo1, zo1, zo1, zo1, zo1, zo1] [(0, 1, (.t 3))]),
 zn1 (.st (.t 2) (.t 4) 6)] [2] [2])
 .ret)),
 [.cell 2 6 true], false⟩
def ir335 : IFn :=
⟨(.seq (.reg false [zg1 8 (.al [zo1, zo1, zo1, zo1, zo1, zo1] true)] [0, 1, 2, 3, 8] [8])
 (.seq (.reg false [zm1 10 0,
 zm1 11 3,
 zg1 12 (.bld [zo1, zo1, zo1, zo1, zo1, zo1] [(0, 1, (.t 10)), (5, 1, (.t 11))]),
 zg1 9 (.al [zo1, zo1, zo1, zo1, zo1, zo1] true),
 zn1 (.st (.t 9) (.t 12) 6)] [1, 2, 8, 9] [8, 9])
 (.seq (.seq (.reg false [zm1 13 2,
 zg1 14 (.bin .geq (.t 13) (zi1 0)),
 zm1 15 14,
 zt1 16 15 (.mov (.t 2)),
 zt1 17 15 (.bin .lss (.t 16) (zi1 4)),
 zg1 18 (.pick (.t 15) (.t 17) zF1)] [1, 2, 8, 9, 18] [8, 9])
 (.cond (.t 18)
 (.reg false [zm1 19 2,
 zm1 20 1,
 zg1 21 (.off (.t 9) 1),
 zg1 22 (.ixa (.t 21) (.t 19) 1 4),
 zn1 (.st (.t 22) (.t 20) 1)] [8, 9] [8, 9])
 .skip))
 (.seq (.reg false [zg1 23 (.ld (.t 9) 6 true),
 zn1 (.st (.t 8) (.t 23) 6)] [8] [8])
 .ret)))),
 [.cell 8 6 true], false⟩
def ir336 : IFn :=
⟨(.seq (.reg false [zg1 2 (.mov zF1)] [0] [])
 (.seq (.reg false [zm1 3 0,
 zg1 4 (.bin .geq (.t 3) (zi1 0)),
 zm1 5 4,
 zt1 6 5 (.mov (.t 0)),
 zt1 7 5 (.bin .leq (.t 6) (zi1 4294967296)),
 zg1 8 (.pick (.t 5) (.t 7) zF1),
 zm1 2 8] [2] [])
 .ret)),
 [.tmp 2], false⟩
def lp337_0 : IC :=
 (.loop [3, 4, 6, 8, 9, 10, 26] [3, 4, 6, 10] (.seq (.reg false [zg1 27 (.bin .lss (.t 26) (zi1 4))] [3, 4, 6, 8, 9, 10, 26, 27] [3, 4, 6, 10])
 (.seq (.cond (.t 27)
 .skip
 (.exit 0))
 (.seq (.block 1 (.seq (.reg false [zm1 28 26,
 zm1 11 28] [3, 4, 6, 8, 9, 10, 11, 26] [3, 4, 6, 10])
 (.reg true [zm1 29 11,
 zm1 30 9,
 zm1 31 11,
 zg1 32 (.off (.t 3) 1),
 zg1 33 (.ixa (.t 32) (.t 31) 1 4),
 zg1 34 (.ldl 3 (.t 33) 1 false),
 zm1 35 11,
 zg1 36 (.off (.t 4) 1),
 zg1 37 (.ixa (.t 36) (.t 35) 1 4),
 zg1 38 (.ldl 4 (.t 37) 1 false),
 zg1 39 (.callv (.t 30) [(.t 34), (.t 38)] false),
 zg1 40 (.off (.t 10) 1),
 zg1 41 (.ixa (.t 40) (.t 29) 1 4),
 zn1 (.stl 10 (.t 41) (.t 39) 1)] [3, 4, 6, 8, 9, 10, 26] [3, 4, 6, 10])))
 (.reg false [zg1 42 (.bin .add (.t 26) (zi1 1)),
 zm1 26 42] [3, 4, 6, 8, 9, 10, 26] [3, 4, 6, 10])))))
def ir337 : IFn :=
⟨(.seq (.reg false [zg1 3 (.bx (.t 0) 6 true),
 zg1 4 (.bx (.t 1) 6 true),
 zg1 5 (.bx (.t 2) 1 false),
 zg1 6 (.al [zo1, zo1, zo1, zo1, zo1, zo1] true),
 zg1 7 (.mov zF1)] [3, 4, 5, 6] [3, 4, 6])
 (.seq (.reg false [zg1 8 (.al [.p (.bool false)] false),
 zn1 (.st (.t 8) zT1 1)] [3, 4, 5, 6, 8] [3, 4, 6])
 (.seq (.reg false [zg1 12 (.mkf (.func 412) [] [(.t 5), (.t 8)]),
 zm1 9 12] [3, 4, 6, 8, 9] [3, 4, 6])
 (.seq (.prep [10] (.reg true [zm1 13 9,
 zg1 14 (.off (.t 3) 0),
 zg1 15 (.ldl 3 (.t 14) 1 false),
 zg1 16 (.off (.t 4) 0),
 zg1 17 (.ldl 4 (.t 16) 1 false),
 zg1 18 (.callv (.t 13) [(.t 15), (.t 17)] false),
 zm1 19 9,
 zg1 20 (.off (.t 3) 5),
 zg1 21 (.ldl 3 (.t 20) 1 false),
 zg1 22 (.off (.t 4) 5),
 zg1 23 (.ldl 4 (.t 22) 1 false),
 zg1 24 (.callv (.t 19) [(.t 21), (.t 23)] false),
 zg1 25 (.bld [zo1, zo1, zo1, zo1, zo1, zo1] [(0, 1, (.t 18)), (5, 1, (.t 24))]),
 zg1 10 (.alp [zo1, zo1, zo1, zo1, zo1, zo1]),
 zn1 (.stl 10 (.t 10) (.t 25) 6)] [3, 4, 6, 8, 9, 10] [3, 4, 6, 10]))
 (.seq (.seq (.reg false [zg1 26 (.mov (zi1 0))] [3, 4, 6, 8, 9, 10, 26] [3, 4, 6, 10])
 (.block 0 lp337_0))
 (.seq (.seq (.reg false [zg1 43 (.ld (.t 8) 1 false),
 zg1 44 (.un .not (.t 43))] [6, 10, 44] [6, 10])
 (.cond (.t 44)
 (.seq (.reg false [zg1 45 (.bld [zo1, zo1, zo1, zo1, zo1, zo1] []),
 zn1 (.st (.t 6) (.t 45) 6),
 zg1 7 (.mov zF1)] [6, 7] [6])
 .ret)
 .skip))
 (.seq (.reg false [zg1 46 (.ld (.t 10) 6 true),
 zn1 (.st (.t 6) (.t 46) 6),
 zg1 7 (.mov zT1)] [6, 7] [6])
 .ret))))))),
 [.cell 6 6 true, .tmp 7], false⟩
def ir338 : IFn :=
⟨(.seq (.reg false [zg1 4 (.mov (zi1 0)),
 zg1 5 (.mov zF1)] [0, 1] [])
 (.seq (.reg false [zm1 7 0,
 zm1 8 1,
 zg1 9 (.bin .add (.t 7) (.t 8)),
 zm1 6 9] [0, 1, 6] [])
 (.seq (.seq (.reg false [zm1 10 6,
 zm1 11 0,
 zg1 12 (.bin .gtr (.t 10) (.t 11)),
 zm1 13 1,
 zg1 14 (.bin .gtr (.t 13) (zi1 0)),
 zg1 15 (.eqb true (.t 12) (.t 14)),
 zm1 16 15,
 zt1 17 16 (.mov (.t 1)),
 zt1 18 16 (.bin .neq (.t 17) (zi1 0)),
 zg1 19 (.pick (.t 16) (.t 18) zF1)] [6, 19] [])
 (.cond (.t 19)
 (.seq (.reg false [zg1 4 (.mov (zi1 0)),
 zg1 5 (.mov zF1)] [4, 5] [])
 .ret)
 .skip))
 (.seq (.reg false [zm1 20 6,
 zm1 4 20,
 zg1 5 (.mov zT1)] [4, 5] [])
 .ret)))),
 [.tmp 4, .tmp 5], false⟩
def ir344 : IFn :=
⟨(.seq (.reg false [zg1 4 (.mov zF1)] [0, 1] [])
 (.seq (.reg false [zm1 8 0,
 zm1 9 1,
 zg1 10 (.call 286 [(.t 8), (.t 9)] false),
 zm1 7 10,
 zg1 11 (.ext (.t 7) 0),
 zg1 12 (.ext (.t 7) 1),
 zg1 5 (.al [zo1, zo1, zo1, zo1, zo1, zo1, zo1] true),
 zn1 (.st (.t 5) (.t 11) 7),
 zm1 6 12] [5, 6] [5])
 (.seq (.reg false [zm1 13 6,
 zg1 14 (.un .not (.t 13)),
 zm1 15 14,
 zf1 16 15 (.ld (.t 5) 7 true),
 zf1 17 15 (.call 287 [(.t 16)] false),
 zg1 18 (.pick (.t 15) zT1 (.t 17)),
 zm1 4 18] [4] [])
 .ret))),
 [.tmp 4], false⟩
def ir345 : IFn :=
⟨(.seq (.reg false [zg1 2 (.mov (zi1 0))] [0] [])
 (.seq (.reg false [zm1 3 0,
 zg1 4 (.mnmx true (.t 3) (zi1 0)),
 zg1 5 (.mnmx false (.t 4) (zi1 1125899906842624)),
 zm1 2 5] [2] [])
 .ret)),
 [.tmp 2], false⟩
def ir346 : IFn :=
⟨(.seq (.reg false [zg1 2 (.mov (zi1 0))] [0] [])
 (.seq (.reg false [zm1 3 0,
 zg1 4 (.mnmx true (.t 3) (zi1 0)),
 zg1 5 (.mnmx false (.t 4) (zi1 1125899906842624)),
 zm1 2 5] [2] [])
 .ret)),
 [.tmp 2], false⟩
def ir347 : IFn :=
⟨(.seq (.reg false [zg1 1 (.bx (.t 0) 7 true),
 zg1 2 (.mov zF1)] [1] [1])
 (.seq (.reg false [zg1 3 (.off (.t 1) 0),
 zg1 4 (.ld (.t 3) 1 false),
 zg1 5 (.bin .eql (.t 4) (zi1 2)),
 zm1 6 5,
 zf1 7 6 (.off (.t 1) 0),
 zf1 8 6 (.ld (.t 7) 1 false),
 zf1 9 6 (.bin .eql (.t 8) (zi1 3)),
 zg1 10 (.pick (.t 6) zT1 (.t 9)),
 zm1 2 10] [2] [])
 .ret)),
 [.tmp 2], false⟩
def ir359 : IFn :=
⟨(.seq (.reg false [zg1 2 (.mov (zi1 0))] [0] [])
 (.seq (.seq (.reg false [zm1 3 0,
 zg1 4 (.eqn .ptr false (.t 3))] [0, 4] [])
 (.cond (.t 4)
 (.seq (.reg false [zg1 2 (.mov (zi1 0))] [2] [])
 .ret)
 .skip))
 (.seq (.reg false [zm1 5 0,
 zg1 6 (.nck (.t 5)),
 zg1 7 (.off (.t 6) 0),
 zg1 8 (.ld (.t 7) 1 false),
 zg1 9 (.len (.t 8)),
 zm1 2 9] [2] [])
 .ret))),
 [.tmp 2], false⟩
def ir365 : IFn :=
⟨(.seq (.reg false [zg1 2 (.bx (.t 0) 1 false),
 zg1 3 (.bx (.t 1) 4 false),
 zg1 4 (.mov (.c (.p .nilf)))] [2, 3] [])
 (.seq (.reg false [zg1 5 (.mkf (.func 423) [] [(.t 3), (.t 2)]),
 zm1 4 5] [4] [])
 .ret)),
 [.tmp 4], false⟩
def lp366_0 : IC :=
 (.loop [0, 4, 5, 8, 11] [4, 5] (.seq (.reg false [zg1 12 (.bin .lss (.t 11) (zi1 3))] [0, 4, 5, 8, 11, 12] [4, 5])
 (.seq (.cond (.t 12)
 .skip
 (.exit 0))
 (.seq (.block 1 (.seq (.reg false [zm1 13 11,
 zm1 9 13] [0, 4, 5, 8, 9, 11] [4, 5])
 (.seq (.reg false [zm1 14 0,
 zm1 15 9,
 zg1 16 (.call 427 [(.t 14), (.t 15)] false),
 zm1 10 16] [0, 4, 5, 8, 9, 10, 11] [4, 5])
 (.seq (.seq (.reg true [zm1 17 9,
 zg1 18 (.ixa (.t 4) (.t 17) 1 3),
 zg1 19 (.ldl 4 (.t 18) 1 false),
 zg1 20 (.bin .lss (.t 19) (zi1 0)),
 zm1 21 20,
 zf1 22 21 (.mov (.t 9)),
 zf1 23 21 (.ixa (.t 5) (.t 22) 1 3),
 zf1 24 21 (.ldl 5 (.t 23) 1 false),
 zf1 25 21 (.bin .lss (.t 24) (zi1 0)),
 zg1 26 (.pick (.t 21) zT1 (.t 25)),
 zm1 27 26,
 zf1 28 27 (.mov (.t 9)),
 zf1 29 27 (.ixa (.t 4) (.t 28) 1 3),
 zf1 30 27 (.ldl 4 (.t 29) 1 false),
 zf1 31 27 (.mov (.t 10)),
 zf1 32 27 (.len (.t 31)),
 zf1 33 27 (.bin .gtr (.t 30) (.t 32)),
 zg1 34 (.pick (.t 27) zT1 (.t 33)),
 zm1 35 34,
 zf1 36 35 (.mov (.t 9)),
 zf1 37 35 (.ixa (.t 5) (.t 36) 1 3),
 zf1 38 35 (.ldl 5 (.t 37) 1 false),
 zf1 39 35 (.mov (.t 10)),
 zf1 40 35 (.len (.t 39)),
 zf1 41 35 (.mov (.t 9)),
 zf1 42 35 (.ixa (.t 4) (.t 41) 1 3),
 zf1 43 35 (.ldl 4 (.t 42) 1 false),
 zf1 44 35 (.bin .sub (.t 40) (.t 43)),
 zf1 45 35 (.bin .gtr (.t 38) (.t 44)),
 zg1 46 (.pick (.t 35) zT1 (.t 45))] [0, 4, 5, 8, 9, 10, 11, 46] [4, 5])
 (.cond (.t 46)
 (.seq (.reg false [zg1 6 (.mov (.c (.nils))),
 zg1 7 (.mov zF1)] [6, 7] [])
 .ret)
 .skip))
 (.reg true [zm1 47 8,
 zm1 48 10,
 zm1 49 9,
 zg1 50 (.ixa (.t 4) (.t 49) 1 3),
 zg1 51 (.ldl 4 (.t 50) 1 false),
 zm1 52 9,
 zg1 53 (.ixa (.t 4) (.t 52) 1 3),
 zg1 54 (.ldl 4 (.t 53) 1 false),
 zm1 55 9,
 zg1 56 (.ixa (.t 5) (.t 55) 1 3),
 zg1 57 (.ldl 5 (.t 56) 1 false),
 zg1 58 (.bin .add (.t 54) (.t 57)),
 zg1 59 (.slc (.t 48) (some (.t 51)) (some (.t 58)) 1),
 zg1 60 (.app (.t 47) (.t 59) 1),
 zm1 8 60] [0, 4, 5, 8, 11] [4, 5])))))
 (.reg false [zg1 61 (.bin .add (.t 11) (zi1 1)),
 zm1 11 61] [0, 4, 5, 8, 11] [4, 5])))))
def ir366 : IFn :=
⟨(.seq (.reg false [zg1 4 (.bx (.t 1) 3 true),
 zg1 5 (.bx (.t 2) 3 true),
 zg1 6 (.mov (.c (.nils))),
 zg1 7 (.mov zF1)] [0, 4, 5] [4, 5])
 (.seq (.reg false [zg1 8 (.nrow 1)] [0, 4, 5, 8] [4, 5])
 (.seq (.seq (.reg false [zg1 11 (.mov (zi1 0))] [0, 4, 5, 8, 11] [4, 5])
 (.block 0 lp366_0))
 (.seq (.reg false [zm1 62 8,
 zg1 63 (.call 428 [(.t 62)] false)] [8] [])
 (.seq (.reg false [zm1 64 8,
 zm1 6 64,
 zg1 7 (.mov zT1)] [6, 7] [])
 .ret))))),
 [.tmp 6, .tmp 7], false⟩
def ir367 : IFn :=
⟨(.seq (.reg false [zg1 2 (.mov (.c (.p .nilp)))] [0] [])
 (.seq (.seq (.reg false [zm1 3 0,
 zg1 4 (.eqn .ptr false (.t 3))] [0, 4] [])
 (.cond (.t 4)
 (.seq (.reg false [zg1 2 (.mov (.c (.p .nilp)))] [2] [])
 .ret)
 .skip))
 (.seq (.reg false [zm1 5 0,
 zg1 6 (.nck (.t 5)),
 zg1 7 (.off (.t 6) 2),
 zg1 8 (.ld (.t 7) 1 false),
 zm1 2 8] [2] [])
 .ret))),
 [.tmp 2], false⟩
def ir368 : IFn :=
⟨(.seq (.reg false [zg1 4 (.bx (.t 1) 3 true),
 zg1 6 (.mov zF1)] [0, 2, 4] [4])
 (.seq (.reg true [zm1 10 0,
 zg1 11 (.ldl 4 (.t 4) 3 true),
 zm1 12 0,
 zm1 13 2,
 zg1 14 (.call 123 [(.t 12), (.t 13)] false),
 zg1 15 (.call 366 [(.t 10), (.t 11), (.t 14)] false),
 zm1 9 15,
 zg1 16 (.ext (.t 9) 0),
 zg1 17 (.ext (.t 9) 1),
 zm1 7 16,
 zm1 8 17] [2, 7, 8] [])
 (.seq (.reg false [zm1 18 8,
 zm1 19 18,
 zt1 20 19 (.mov (.t 7)),
 zt1 21 19 (.mov (.t 2)),
 zt1 22 19 (.call 273 [(.t 20), (.t 21)] false),
 zg1 23 (.pick (.t 19) (.t 22) zF1),
 zm1 6 23] [6] [])
 .ret))),
 [.tmp 6], false⟩
def ir369 : IFn :=
⟨(.seq (.reg false [zg1 1 (.bx (.t 0) 19 true),
 zg1 2 (.al [zo1, zo1, .p .nilf] true)] [1, 2] [1, 2])
 (.seq (.reg false [zg1 3 (.off (.t 1) 11),
 zg1 4 (.ld (.t 3) 1 false),
 zg1 5 (.off (.t 1) 9),
 zg1 6 (.ld (.t 5) 1 false),
 zg1 7 (.bld [zo1, zo1, .p .nilf] [(0, 1, (.t 4)), (1, 1, (.t 6)), (2, 1, (.c (.p (.fn 429))))]),
 zn1 (.st (.t 2) (.t 7) 3)] [2] [2])
 .ret)),
 [.cell 2 3 true], false⟩
def lp370_0 : IC :=
 (.loop [2, 3, 4, 5, 18, 19, 20] [4, 5] (.seq (.reg false [zg1 21 (.bin .lss (.t 20) (.t 19))] [2, 3, 4, 5, 18, 19, 20, 21] [4, 5])
 (.seq (.cond (.t 21)
 .skip
 (.exit 0))
 (.seq (.block 1 (.seq (.reg false [zg1 22 (.ixs (.t 18) (.t 20) 1),
 zg1 23 (.ld (.t 22) 1 false),
 zm1 10 23] [2, 3, 4, 5, 10, 18, 19, 20] [4, 5])
 (.seq (.reg false [zm1 25 2,
 zm1 26 10,
 zg1 27 (.call 201 [(.t 25), (.t 26)] false),
 zm1 24 27,
 zg1 28 (.ext (.t 24) 0),
 zg1 29 (.ext (.t 24) 1),
 zg1 11 (.al [zo1, zo1, zo1] true),
 zn1 (.st (.t 11) (.t 28) 3),
 zm1 12 29] [2, 3, 4, 5, 11, 12, 18, 19, 20] [4, 5, 11])
 (.seq (.reg false [zm1 30 12,
 zg1 31 (.un .not (.t 30)),
 zm1 32 31,
 zf1 33 32 (.off (.t 4) 2),
 zf1 34 32 (.ld (.t 33) 1 false),
 zf1 35 32 (.ld (.t 11) 3 true),
 zf1 36 32 (.callv (.t 34) [(.t 35)] false),
 zf1 37 32 (.un .not (.t 36)),
 zg1 38 (.pick (.t 32) zT1 (.t 37))] [2, 3, 4, 5, 18, 19, 20, 38] [4, 5])
 (.cond (.t 38)
 (.seq (.reg false [zg1 8 (.mov zF1)] [8] [])
 .ret)
 .skip)))))
 (.reg false [zg1 39 (.bin .add (.t 20) (zi1 1)),
 zm1 20 39] [2, 3, 4, 5, 18, 19, 20] [4, 5])))))
def ir370 : IFn :=
⟨(.seq (.reg false [zg1 4 (.bx (.t 0) 3 true),
 zg1 5 (.bx (.t 1) 19 true),
 zg1 8 (.mov zF1)] [2, 3, 4, 5] [4, 5])
 (.seq (.seq (.reg false [zm1 13 3,
 zg1 14 (.len (.t 13)),
 zg1 15 (.off (.t 4) 0),
 zg1 16 (.ld (.t 15) 1 false),
 zg1 17 (.bin .gtr (.t 14) (.t 16))] [2, 3, 4, 5, 17] [4, 5])
 (.cond (.t 17)
 (.seq (.reg false [zg1 8 (.mov zF1)] [8] [])
 .ret)
 .skip))
 (.seq (.seq (.reg false [zm1 18 3,
 zg1 19 (.len (.t 18)),
 zg1 20 (.mov (zi1 0))] [2, 3, 4, 5, 18, 19, 20] [4, 5])
 (.block 0 lp370_0))
 (.seq (.reg true [zm1 40 2,
 zm1 41 3,
 zg1 42 (.off (.t 5) 7),
 zg1 43 (.ldl 5 (.t 42) 1 false),
 zg1 44 (.call 107 [(.t 40), (.t 41), (.t 43)] false),
 zg1 45 (.off (.t 4) 1),
 zg1 46 (.ldl 4 (.t 45) 1 false),
 zg1 47 (.bin .leq (.t 44) (.t 46)),
 zm1 8 47] [8] [])
 .ret)))),
 [.tmp 8], false⟩
def ir371 : IFn :=
⟨(.seq (.reg false [zg1 1 (.bx (.t 0) 19 true),
 zg1 2 (.al [zo1, zo1, .p .nilf] true)] [1, 2] [1, 2])
 (.seq (.reg false [zg1 3 (.off (.t 1) 12),
 zg1 4 (.ld (.t 3) 1 false),
 zg1 5 (.off (.t 1) 10),
 zg1 6 (.ld (.t 5) 1 false),
 zg1 7 (.bld [zo1, zo1, .p .nilf] [(0, 1, (.t 4)), (1, 1, (.t 6)), (2, 1, (.c (.p (.fn 430))))]),
 zn1 (.st (.t 2) (.t 7) 3)] [2] [2])
 .ret)),
 [.cell 2 3 true], false⟩
def lp372_0 : IC :=
 (.loop [0, 1, 12, 13] [] (.seq (.reg false [zg1 14 (.bin .lss (.t 13) (.t 12))] [0, 1, 12, 13, 14] [])
 (.seq (.cond (.t 14)
 .skip
 (.exit 0))
 (.seq (.block 1 (.seq (.reg false [zm1 15 13,
 zm1 5 15] [0, 1, 5, 12, 13] [])
 (.seq (.reg true [zm1 16 0,
 zm1 17 5,
 zg1 18 (.ixs (.t 16) (.t 17) 3),
 zg1 19 (.ld (.t 18) 3 true),
 zm1 20 1,
 zm1 21 5,
 zg1 22 (.ixs (.t 20) (.t 21) 3),
 zg1 23 (.ld (.t 22) 3 true),
 zg1 24 (.eqa true [true, true, true] (.t 19) (.t 23))] [0, 1, 12, 13, 24] [])
 (.cond (.t 24)
 (.seq (.reg false [zg1 4 (.mov zF1)] [4] [])
 .ret)
 .skip))))
 (.reg false [zg1 25 (.bin .add (.t 13) (zi1 1)),
 zm1 13 25] [0, 1, 12, 13] [])))))
def ir372 : IFn :=
⟨(.seq (.reg false [zg1 4 (.mov zF1)] [0, 1] [])
 (.seq (.seq (.reg false [zm1 6 0,
 zg1 7 (.len (.t 6)),
 zm1 8 1,
 zg1 9 (.len (.t 8)),
 zg1 10 (.bin .neq (.t 7) (.t 9))] [0, 1, 10] [])
 (.cond (.t 10)
 (.seq (.reg false [zg1 4 (.mov zF1)] [4] [])
 .ret)
 .skip))
 (.seq (.seq (.reg false [zm1 11 0,
 zg1 12 (.len (.t 11)),
 zg1 13 (.mov (zi1 0))] [0, 1, 12, 13] [])
 (.block 0 lp372_0))
 (.seq (.reg false [zg1 4 (.mov zT1)] [4] [])
 .ret)))),
 [.tmp 4], false⟩
def ir375 : IFn :=
⟨(.seq (.reg false [zg1 2 (.bx (.t 0) 2 true),
 zg1 4 (.mov zF1)] [1, 2] [2])
 (.seq (.reg false [zm1 5 1,
 zg1 6 (.off (.t 2) 0),
 zg1 7 (.ld (.t 6) 1 false),
 zg1 8 (.len (.t 7)),
 zg1 9 (.bin .eql (.t 5) (.t 8)),
 zm1 10 9,
 zf1 11 10 (.ld (.t 2) 2 true),
 zf1 12 10 (.mov (.t 1)),
 zf1 13 10 (.call 389 [(.t 11), (.t 12)] false),
 zg1 14 (.pick (.t 10) zT1 (.t 13)),
 zm1 4 14] [4] [])
 .ret)),
 [.tmp 4], false⟩
def ir376 : IFn :=
⟨(.seq (.reg false [zg1 4 (.mov (zi1 0)),
 zg1 5 (.mov zF1)] [0, 1] [])
 (.seq (.reg false [zm1 7 0,
 zm1 8 1,
 zg1 9 (.bin .sub (.t 7) (.t 8)),
 zm1 6 9] [0, 1, 6] [])
 (.seq (.seq (.reg false [zm1 10 6,
 zm1 11 0,
 zg1 12 (.bin .lss (.t 10) (.t 11)),
 zm1 13 1,
 zg1 14 (.bin .gtr (.t 13) (zi1 0)),
 zg1 15 (.eqb true (.t 12) (.t 14)),
 zm1 16 15,
 zt1 17 16 (.mov (.t 1)),
 zt1 18 16 (.bin .neq (.t 17) (zi1 0)),
 zg1 19 (.pick (.t 16) (.t 18) zF1)] [6, 19] [])
 (.cond (.t 19)
 (.seq (.reg false [zg1 4 (.mov (zi1 0)),
 zg1 5 (.mov zF1)] [4, 5] [])
 .ret)
 .skip))
 (.seq (.reg false [zm1 20 6,
 zm1 4 20,
 zg1 5 (.mov zT1)] [4, 5] [])
 .ret)))),
 [.tmp 4, .tmp 5], false⟩
def ir385 : IFn :=
⟨(.seq (.reg false [zg1 1 (.bx (.t 0) 7 true),
 zg1 2 (.mov zF1)] [1] [1])
 (.seq (.reg false [zg1 3 (.off (.t 1) 0),
 zg1 4 (.ld (.t 3) 1 false),
 zg1 5 (.bin .eql (.t 4) (zi1 3)),
 zm1 6 5,
 zt1 7 6 (.off (.t 1) 6),
 zt1 8 6 (.ld (.t 7) 1 false),
 zt1 9 6 (.bin .geq (.t 8) (zi1 10000)),
 zg1 10 (.pick (.t 6) (.t 9) zF1),
 zm1 2 10] [2] [])
 .ret)),
 [.tmp 2], false⟩
def ir389 : IFn :=
⟨(.seq (.reg false [zg1 2 (.bx (.t 0) 2 true),
 zg1 4 (.mov zF1)] [1, 2] [2])
 (.seq (.reg false [zm1 5 1,
 zg1 6 (.bin .gtr (.t 5) (zi1 0)),
 zm1 7 6,
 zt1 8 7 (.mov (.t 1)),
 zt1 9 7 (.off (.t 2) 0),
 zt1 10 7 (.ld (.t 9) 1 false),
 zt1 11 7 (.len (.t 10)),
 zt1 12 7 (.bin .lss (.t 8) (.t 11)),
 zg1 13 (.pick (.t 7) (.t 12) zF1),
 zm1 14 13,
 zt1 15 14 (.mov (.t 1)),
 zt1 16 14 (.off (.t 2) 1),
 zt1 17 14 (.ld (.t 16) 1 false),
 zt1 18 14 (.len (.t 17)),
 zt1 19 14 (.bin .leq (.t 15) (.t 18)),
 zg1 20 (.pick (.t 14) (.t 19) zF1),
 zm1 21 20,
 zt1 22 21 (.off (.t 2) 1),
 zt1 23 21 (.ld (.t 22) 1 false),
 zt1 24 21 (.mov (.t 1)),
 zt1 25 21 (.bin .sub (.t 24) (zi1 1)),
 zt1 26 21 (.ixs (.t 23) (.t 25) 1),
 zt1 27 21 (.ld (.t 26) 1 false),
 zt1 28 21 (.bin .lss (.t 27) (zi1 10000)),
 zg1 29 (.pick (.t 21) (.t 28) zF1),
 zm1 4 29] [4] [])
 .ret)),
 [.tmp 4], false⟩
def ir393 : IFn :=
⟨(.seq (.reg false [zg1 1 (.bx (.t 0) 1 false),
 zg1 2 (.mov (.c (.p .nilf)))] [1] [])
 (.seq (.reg false [zg1 3 (.mkf (.func 436) [] [(.t 1)]),
 zm1 2 3] [2] [])
 .ret)),
 [.tmp 2], false⟩
def ir394 : IFn :=
⟨(.seq (.reg false [zg1 1 (.bx (.t 0) 22 true),
 zg1 2 (.mov zF1)] [1] [1])
 (.seq (.reg false [zg1 3 (.off (.t 1) 19),
 zg1 4 (.ld (.t 3) 1 false),
 zg1 5 (.len (.t 4)),
 zg1 6 (.bin .gtr (.t 5) (zi1 4096)),
 zm1 2 6] [2] [])
 .ret)),
 [.tmp 2], false⟩
def ir395 : IFn :=
⟨(.seq (.reg false [zg1 1 (.bx (.t 0) 22 true),
 zg1 2 (.mov zF1)] [1] [1])
 (.seq (.reg false [zg1 3 (.off (.t 1) 21),
 zg1 4 (.ld (.t 3) 1 false),
 zg1 5 (.len (.t 4)),
 zg1 6 (.bin .gtr (.t 5) (zi1 256)),
 zm1 2 6] [2] [])
 .ret)),
 [.tmp 2], false⟩
def ir396 : IFn :=
⟨(.seq (.reg false [zg1 1 (.bx (.t 0) 22 true),
 zg1 2 (.mov zF1)] [1] [1])
 (.seq (.reg false [zg1 3 (.off (.t 1) 20),
 zg1 4 (.ld (.t 3) 1 false),
 zg1 5 (.len (.t 4)),
 zg1 6 (.bin .gtr (.t 5) (zi1 512)),
 zm1 2 6] [2] [])
 .ret)),
 [.tmp 2], false⟩
def ir397 : IFn :=
⟨(.seq (.reg false [zg1 1 (.bx (.t 0) 22 true),
 zg1 2 (.mov zF1)] [1] [1])
 (.seq (.reg false [zg1 3 (.off (.t 1) 0),
 zg1 4 (.ld (.t 3) 19 true),
 zg1 5 (.call 398 [(.t 4)] false),
 zg1 6 (.bin .eql (.t 5) (zi1 6)),
 zm1 2 6] [2] [])
 .ret)),
 [.tmp 2], false⟩
def ir398 : IFn :=
⟨(.seq (.reg false [zg1 1 (.bx (.t 0) 19 true),
 zg1 2 (.mov (zi1 0))] [1] [1])
 (.seq (.seq (.reg true [zg1 8 (.call 437 [(zi1 1), (zi1 8)] false),
 zg1 9 (.off (.t 1) 0),
 zg1 10 (.ldl 1 (.t 9) 1 false),
 zg1 11 (.bsl 1 1 [zo1] [(0, (.t 10))]),
 zg1 12 (.callv (.t 8) [(.t 11)] false),
 zg1 13 (.un .not (.t 12))] [1, 13] [1])
 (.cond (.t 13)
 (.seq (.reg false [zg1 2 (.mov (zi1 6))] [2] [])
 .ret)
 .skip))
 (.seq (.reg false [zg1 14 (.call 438 [(zi1 1), (zi1 1073741823)] false),
 zg1 15 (.call 438 [(zi1 0), (zi1 1073741823)] false),
 zg1 16 (.call 438 [(zi1 0), (zi1 536870912)] false),
 zm1 3 14,
 zm1 4 15,
 zm1 5 16] [1, 3, 4, 5] [1])
 (.seq (.reg false [zg1 17 (.off (.t 1) 2),
 zg1 18 (.ld (.t 17) 1 false),
 zg1 19 (.off (.t 1) 8),
 zg1 20 (.ld (.t 19) 1 false),
 zg1 21 (.off (.t 1) 9),
 zg1 22 (.ld (.t 21) 1 false),
 zg1 23 (.off (.t 1) 10),
 zg1 24 (.ld (.t 23) 1 false),
 zg1 25 (.bld [zo1, zo1, zo1, zo1] [(0, 1, (.t 18)), (1, 1, (.t 20)), (2, 1, (.t 22)), (3, 1, (.t 24))]),
 zg1 6 (.al [zo1, zo1, zo1, zo1] false),
 zn1 (.st (.t 6) (.t 25) 4)] [1, 3, 4, 5, 6] [1])
 (.seq (.reg false [zg1 26 (.off (.t 1) 13),
 zg1 27 (.ld (.t 26) 1 false),
 zg1 28 (.off (.t 1) 14),
 zg1 29 (.ld (.t 28) 1 false),
 zg1 30 (.off (.t 1) 15),
 zg1 31 (.ld (.t 30) 1 false),
 zg1 32 (.off (.t 1) 16),
 zg1 33 (.ld (.t 32) 1 false),
 zg1 34 (.off (.t 1) 17),
 zg1 35 (.ld (.t 34) 1 false),
 zg1 36 (.bld [zo1, zo1, zo1, zo1, zo1] [(0, 1, (.t 27)), (1, 1, (.t 29)), (2, 1, (.t 31)), (3, 1, (.t 33)), (4, 1, (.t 35))]),
 zg1 7 (.al [zo1, zo1, zo1, zo1, zo1] false),
 zn1 (.st (.t 7) (.t 36) 5)] [1, 3, 4, 5, 6, 7] [1])
 (.seq (.block 0 (.seq (.seq (.reg false [zm1 38 3,
 zg1 39 (.off (.t 1) 1),
 zg1 40 (.ld (.t 39) 1 false),
 zg1 41 (.off (.t 1) 3),
 zg1 42 (.ld (.t 41) 1 false),
 zg1 43 (.bsl 1 2 [zo1] [(0, (.t 40)), (1, (.t 42))]),
 zg1 44 (.callv (.t 38) [(.t 43)] false),
 zg1 45 (.un .not (.t 44)),
 zm1 37 45] [1, 4, 5, 6, 7, 37] [1])
 (.cond (.t 37)
 .skip
 (.seq (.reg false [zm1 46 4,
 zg1 47 (.slca (.t 6) none 1 4),
 zg1 48 (.callv (.t 46) [(.t 47)] false),
 zg1 49 (.un .not (.t 48)),
 zm1 37 49] [1, 5, 7, 37] [1])
 (.cond (.t 37)
 .skip
 (.reg false [zm1 50 5,
 zg1 51 (.off (.t 1) 6),
 zg1 52 (.ld (.t 51) 1 false),
 zg1 53 (.off (.t 1) 7),
 zg1 54 (.ld (.t 53) 1 false),
 zg1 55 (.off (.t 1) 5),
 zg1 56 (.ld (.t 55) 1 false),
 zg1 57 (.bsl 1 3 [zo1] [(0, (.t 52)), (1, (.t 54)), (2, (.t 56))]),
 zg1 58 (.callv (.t 50) [(.t 57)] false),
 zg1 59 (.un .not (.t 58)),
 zm1 37 59] [1, 7, 37] [1])))))
 (.cond (.t 37)
 (.seq (.reg false [zg1 2 (.mov (zi1 7))] [2] [])
 .ret)
 (.seq (.seq (.reg true [zg1 61 (.off (.t 1) 3),
 zg1 62 (.ldl 1 (.t 61) 1 false),
 zg1 63 (.call 438 [(zi1 1), (.t 62)] false),
 zg1 64 (.off (.t 1) 4),
 zg1 65 (.ldl 1 (.t 64) 1 false),
 zg1 66 (.bsl 1 1 [zo1] [(0, (.t 65))]),
 zg1 67 (.callv (.t 63) [(.t 66)] false),
 zg1 68 (.un .not (.t 67)),
 zm1 60 68] [1, 7, 60] [1])
 (.cond (.t 60)
 .skip
 (.reg true [zg1 69 (.off (.t 1) 4),
 zg1 70 (.ldl 1 (.t 69) 1 false),
 zg1 71 (.call 438 [(zi1 0), (.t 70)] false),
 zg1 72 (.off (.t 1) 5),
 zg1 73 (.ldl 1 (.t 72) 1 false),
 zg1 74 (.bsl 1 1 [zo1] [(0, (.t 73))]),
 zg1 75 (.callv (.t 71) [(.t 74)] false),
 zg1 76 (.un .not (.t 75)),
 zm1 60 76] [1, 7, 60] [1])))
 (.cond (.t 60)
 (.seq (.reg false [zg1 2 (.mov (zi1 7))] [2] [])
 .ret)
 (.seq (.seq (.reg true [zg1 78 (.call 437 [(zi1 0), (zi1 4)] false),
 zg1 79 (.off (.t 1) 11),
 zg1 80 (.ldl 1 (.t 79) 1 false),
 zg1 81 (.off (.t 1) 12),
 zg1 82 (.ldl 1 (.t 81) 1 false),
 zg1 83 (.bsl 1 2 [zo1] [(0, (.t 80)), (1, (.t 82))]),
 zg1 84 (.callv (.t 78) [(.t 83)] false),
 zg1 85 (.un .not (.t 84)),
 zm1 77 85] [7, 77] [])
 (.cond (.t 77)
 .skip
 (.reg true [zg1 86 (.call 437 [(zi1 0), (zi1 1048576)] false),
 zg1 87 (.slca (.t 7) none 1 5),
 zg1 88 (.callv (.t 86) [(.t 87)] false),
 zg1 89 (.un .not (.t 88)),
 zm1 77 89] [77] [])))
 (.cond (.t 77)
 (.seq (.reg false [zg1 2 (.mov (zi1 7))] [2] [])
 .ret)
 .skip)))))))
 (.seq (.reg false [zg1 2 (.mov (zi1 0))] [2] [])
 .ret))))))),
 [.tmp 2], false⟩
def ir399 : IFn :=
⟨(.seq (.reg false [zg1 1 (.bx (.t 0) 22 true),
 zg1 2 (.mov zF1)] [1] [1])
 (.seq (.reg false [zg1 3 (.off (.t 1) 0),
 zg1 4 (.ld (.t 3) 19 true),
 zg1 5 (.call 398 [(.t 4)] false),
 zg1 6 (.bin .eql (.t 5) (zi1 7)),
 zm1 2 6] [2] [])
 .ret)),
 [.tmp 2], false⟩
def ir400 : IFn :=
⟨(.seq (.reg false [zg1 1 (.bx (.t 0) 22 true),
 zg1 2 (.mov (zi1 0))] [1] [1])
 (.seq (.reg true [zg1 3 (.call 401 [(.c (.p (.fn 402)))] false),
 zg1 4 (.off (.t 1) 19),
 zg1 5 (.ldl 1 (.t 4) 1 false),
 zg1 6 (.callv (.t 3) [(.t 5)] false),
 zm1 2 6] [2] [])
 .ret)),
 [.tmp 2], false⟩
def ir401 : IFn :=
⟨(.seq (.reg false [zg1 1 (.bx (.t 0) 1 false),
 zg1 2 (.mov (.c (.p .nilf)))] [1] [])
 (.seq (.reg false [zg1 3 (.mkf (.func 439) [] [(.t 1)]),
 zm1 2 3] [2] [])
 .ret)),
 [.tmp 2], false⟩
def ir402 : IFn :=
⟨(.seq (.reg false [zg1 1 (.bx (.t 0) 7 true),
 zg1 2 (.mov (zi1 0))] [1] [1])
 (.seq (.seq (.reg false [zg1 5 (.off (.t 1) 0),
 zg1 6 (.ld (.t 5) 1 false),
 zg1 7 (.bin .lss (.t 6) (zi1 1)),
 zm1 8 7,
 zf1 9 8 (.off (.t 1) 0),
 zf1 10 8 (.ld (.t 9) 1 false),
 zf1 11 8 (.bin .gtr (.t 10) (zi1 7)),
 zg1 12 (.pick (.t 8) zT1 (.t 11))] [1, 12] [1])
 (.cond (.t 12)
 (.seq (.reg false [zg1 2 (.mov (zi1 8))] [2] [])
 .ret)
 .skip))
 (.seq (.prep [3] (.reg true [zg1 13 (.call 442 [] false),
 zg1 14 (.off (.t 1) 0),
 zg1 15 (.ldl 1 (.t 14) 1 false),
 zg1 16 (.bin .sub (.t 15) (zi1 1)),
 zg1 17 (.ixs (.t 13) (.t 16) 2),
 zg1 18 (.ld (.t 17) 2 true),
 zg1 3 (.alp [.p .nilf, .p .nilf]),
 zn1 (.stl 3 (.t 3) (.t 18) 2)] [1, 3] [1, 3]))
 (.seq (.reg false [zg1 19 (.call 443 [(zi1 3)] false),
 zm1 4 19] [1, 3, 4] [1, 3])
 (.seq (.seq (.reg true [zg1 20 (.off (.t 3) 0),
 zg1 21 (.ldl 3 (.t 20) 1 false),
 zg1 22 (.ldl 1 (.t 1) 7 true),
 zg1 23 (.callv (.t 21) [(.t 22)] false),
 zg1 24 (.ldl 1 (.t 1) 7 true),
 zg1 25 (.eqa true [true, true, true, true, true, true, true] (.t 23) (.t 24)),
 zm1 26 25,
 zf1 27 26 (.off (.t 3) 1),
 zf1 28 26 (.ldl 3 (.t 27) 1 false),
 zf1 29 26 (.off (.t 1) 6),
 zf1 30 26 (.ldl 1 (.t 29) 1 false),
 zf1 31 26 (.callv (.t 28) [(.t 30)] false),
 zf1 32 26 (.un .not (.t 31)),
 zg1 33 (.pick (.t 26) zT1 (.t 32)),
 zm1 34 33,
 zf1 35 34 (.off (.t 1) 1),
 zf1 36 34 (.ldl 1 (.t 35) 1 false),
 zf1 37 34 (.off (.t 1) 3),
 zf1 38 34 (.ldl 1 (.t 37) 1 false),
 zf1 39 34 (.off (.t 1) 5),
 zf1 40 34 (.ldl 1 (.t 39) 1 false),
 zf1 41 34 (.bsl 1 3 [zo1] [(0, (.t 36)), (1, (.t 38)), (2, (.t 40))]),
 zf1 42 34 (.call 444 [(.t 41)] false),
 zf1 43 34 (.un .not (.t 42)),
 zg1 44 (.pick (.t 34) zT1 (.t 43)),
 zm1 45 44,
 zf1 46 45 (.mov (.t 4)),
 zf1 47 45 (.off (.t 1) 2),
 zf1 48 45 (.ldl 1 (.t 47) 1 false),
 zf1 49 45 (.callv (.t 46) [(.t 48)] false),
 zf1 50 45 (.un .not (.t 49)),
 zg1 51 (.pick (.t 45) zT1 (.t 50)),
 zm1 52 51,
 zf1 53 52 (.mov (.t 4)),
 zf1 54 52 (.off (.t 1) 4),
 zf1 55 52 (.ldl 1 (.t 54) 1 false),
 zf1 56 52 (.callv (.t 53) [(.t 55)] false),
 zf1 57 52 (.un .not (.t 56)),
 zg1 58 (.pick (.t 52) zT1 (.t 57)),
 zm1 59 58,
 zf1 60 59 (.off (.t 1) 0),
 zf1 61 59 (.ldl 1 (.t 60) 1 false),
 zf1 62 59 (.bin .eql (.t 61) (zi1 2)),
 zf1 63 59 (.mov (.t 62)),
 zt1 64 63 (.off (.t 1) 5),
 zt1 65 63 (.ldl 1 (.t 64) 1 false),
 zt1 66 63 (.off (.t 1) 1),
 zt1 67 63 (.ldl 1 (.t 66) 1 false),
 zt1 68 63 (.bin .gtr (.t 65) (.t 67)),
 zf1 69 59 (.pick (.t 63) (.t 68) zF1),
 zg1 70 (.pick (.t 59) zT1 (.t 69))] [70] [])
 (.cond (.t 70)
 (.seq (.reg false [zg1 2 (.mov (zi1 8))] [2] [])
 .ret)
 .skip))
 (.seq (.reg false [zg1 2 (.mov (zi1 0))] [2] [])
 .ret)))))),
 [.tmp 2], false⟩
def ir403 : IFn :=
⟨(.seq (.reg false [zg1 1 (.bx (.t 0) 22 true),
 zg1 2 (.mov (zi1 0))] [1] [1])
 (.seq (.reg true [zg1 3 (.call 404 [(.c (.p (.fn 405)))] false),
 zg1 4 (.off (.t 1) 20),
 zg1 5 (.ldl 1 (.t 4) 1 false),
 zg1 6 (.callv (.t 3) [(.t 5)] false),
 zm1 2 6] [2] [])
 .ret)),
 [.tmp 2], false⟩
def ir404 : IFn :=
⟨(.seq (.reg false [zg1 1 (.bx (.t 0) 1 false),
 zg1 2 (.mov (.c (.p .nilf)))] [1] [])
 (.seq (.reg false [zg1 3 (.mkf (.func 445) [] [(.t 1)]),
 zm1 2 3] [2] [])
 .ret)),
 [.tmp 2], false⟩
def lp405_0 : IC :=
 (.loop [1, 3, 29, 30, 31] [1] (.seq (.reg false [zg1 32 (.bin .lss (.t 31) (.t 30))] [1, 3, 29, 30, 31, 32] [1])
 (.seq (.cond (.t 32)
 .skip
 (.exit 0))
 (.seq (.block 1 (.seq (.reg false [zg1 33 (.ixs (.t 29) (.t 31) 1),
 zg1 34 (.ld (.t 33) 1 false),
 zm1 5 34] [1, 3, 5, 29, 30, 31] [1])
 (.reg false [zm1 35 3,
 zm1 36 35,
 zf1 37 36 (.mov (.t 5)),
 zf1 38 36 (.bin .lss (.t 37) (zi1 1)),
 zg1 39 (.pick (.t 36) zT1 (.t 38)),
 zm1 40 39,
 zf1 41 40 (.mov (.t 5)),
 zf1 42 40 (.bin .gtr (.t 41) (zi1 1073741823)),
 zg1 43 (.pick (.t 40) zT1 (.t 42)),
 zm1 3 43] [1, 3, 29, 30, 31] [1])))
 (.reg false [zg1 44 (.bin .add (.t 31) (zi1 1)),
 zm1 31 44] [1, 3, 29, 30, 31] [1])))))
def lp405_1 : IC :=
 (.loop [3, 46, 47, 48] [] (.seq (.reg false [zg1 49 (.bin .lss (.t 48) (.t 47))] [3, 46, 47, 48, 49] [])
 (.seq (.cond (.t 49)
 .skip
 (.exit 2))
 (.seq (.block 3 (.seq (.reg false [zg1 50 (.ixs (.t 46) (.t 48) 1),
 zg1 51 (.ld (.t 50) 1 false),
 zm1 7 51] [3, 7, 46, 47, 48] [])
 (.reg false [zm1 52 3,
 zm1 53 52,
 zf1 54 53 (.mov (.t 7)),
 zf1 55 53 (.bin .lss (.t 54) (zi1 0)),
 zg1 56 (.pick (.t 53) zT1 (.t 55)),
 zm1 57 56,
 zf1 58 57 (.mov (.t 7)),
 zf1 59 57 (.bin .gtr (.t 58) (zi1 10000)),
 zg1 60 (.pick (.t 57) zT1 (.t 59)),
 zm1 3 60] [3, 46, 47, 48] [])))
 (.reg false [zg1 61 (.bin .add (.t 48) (zi1 1)),
 zm1 48 61] [3, 46, 47, 48] [])))))
def ir405 : IFn :=
⟨(.seq (.reg false [zg1 1 (.bx (.t 0) 2 true),
 zg1 2 (.mov (zi1 0))] [1] [1])
 (.seq (.reg false [zg1 8 (.off (.t 1) 0),
 zg1 9 (.ld (.t 8) 1 false),
 zg1 10 (.len (.t 9)),
 zg1 11 (.bin .lss (.t 10) (zi1 1)),
 zm1 12 11,
 zf1 13 12 (.off (.t 1) 0),
 zf1 14 12 (.ld (.t 13) 1 false),
 zf1 15 12 (.len (.t 14)),
 zf1 16 12 (.bin .gtr (.t 15) (zi1 64)),
 zg1 17 (.pick (.t 12) zT1 (.t 16)),
 zm1 18 17,
 zf1 19 18 (.off (.t 1) 1),
 zf1 20 18 (.ld (.t 19) 1 false),
 zf1 21 18 (.len (.t 20)),
 zf1 22 18 (.off (.t 1) 0),
 zf1 23 18 (.ld (.t 22) 1 false),
 zf1 24 18 (.len (.t 23)),
 zf1 25 18 (.bin .sub (.t 24) (zi1 1)),
 zf1 26 18 (.bin .neq (.t 21) (.t 25)),
 zg1 27 (.pick (.t 18) zT1 (.t 26)),
 zm1 3 27] [1, 3] [1])
 (.seq (.seq (.reg false [zg1 28 (.off (.t 1) 0),
 zg1 29 (.ld (.t 28) 1 false),
 zg1 30 (.len (.t 29)),
 zg1 31 (.mov (zi1 0))] [1, 3, 29, 30, 31] [1])
 (.block 0 lp405_0))
 (.seq (.seq (.reg false [zg1 45 (.off (.t 1) 1),
 zg1 46 (.ld (.t 45) 1 false),
 zg1 47 (.len (.t 46)),
 zg1 48 (.mov (zi1 0))] [3, 46, 47, 48] [])
 (.block 2 lp405_1))
 (.seq (.seq (.reg false [zm1 62 3] [62] [])
 (.cond (.t 62)
 (.seq (.reg false [zg1 2 (.mov (zi1 9))] [2] [])
 .ret)
 .skip))
 (.seq (.reg false [zg1 2 (.mov (zi1 0))] [2] [])
 .ret)))))),
 [.tmp 2], false⟩
def ir406 : IFn :=
⟨(.seq (.reg false [zg1 1 (.bx (.t 0) 22 true),
 zg1 2 (.mov (zi1 0))] [1] [1])
 (.seq (.reg true [zg1 3 (.call 407 [(.c (.p (.fn 408)))] false),
 zg1 4 (.off (.t 1) 21),
 zg1 5 (.ldl 1 (.t 4) 1 false),
 zg1 6 (.callv (.t 3) [(.t 5)] false),
 zm1 2 6] [2] [])
 .ret)),
 [.tmp 2], false⟩
def ir407 : IFn :=
⟨(.seq (.reg false [zg1 1 (.bx (.t 0) 1 false),
 zg1 2 (.mov (.c (.p .nilf)))] [1] [])
 (.seq (.reg false [zg1 3 (.mkf (.func 448) [] [(.t 1)]),
 zm1 2 3] [2] [])
 .ret)),
 [.tmp 2], false⟩
def ir408 : IFn :=
⟨(.seq (.reg false [zg1 1 (.bx (.t 0) 3 true),
 zg1 2 (.mov (zi1 0))] [1] [1])
 (.seq (.seq (.reg false [zg1 3 (.off (.t 1) 0),
 zg1 4 (.ld (.t 3) 1 false),
 zg1 5 (.bin .lss (.t 4) (zi1 0)),
 zm1 6 5,
 zf1 7 6 (.off (.t 1) 0),
 zf1 8 6 (.ld (.t 7) 1 false),
 zf1 9 6 (.bin .geq (.t 8) (zi1 3)),
 zg1 10 (.pick (.t 6) zT1 (.t 9)),
 zm1 11 10,
 zf1 12 11 (.off (.t 1) 1),
 zf1 13 11 (.ld (.t 12) 1 false),
 zf1 14 11 (.bin .lss (.t 13) (zi1 1)),
 zg1 15 (.pick (.t 11) zT1 (.t 14)),
 zm1 16 15,
 zf1 17 16 (.off (.t 1) 1),
 zf1 18 16 (.ld (.t 17) 1 false),
 zf1 19 16 (.bin .gtr (.t 18) (zi1 1073741823)),
 zg1 20 (.pick (.t 16) zT1 (.t 19)),
 zm1 21 20,
 zf1 22 21 (.off (.t 1) 2),
 zf1 23 21 (.ld (.t 22) 1 false),
 zf1 24 21 (.bin .lss (.t 23) (zi1 0)),
 zg1 25 (.pick (.t 21) zT1 (.t 24)),
 zm1 26 25,
 zf1 27 26 (.off (.t 1) 2),
 zf1 28 26 (.ld (.t 27) 1 false),
 zf1 29 26 (.bin .gtr (.t 28) (zi1 3)),
 zg1 30 (.pick (.t 26) zT1 (.t 29))] [30] [])
 (.cond (.t 30)
 (.seq (.reg false [zg1 2 (.mov (zi1 10))] [2] [])
 .ret)
 .skip))
 (.seq (.reg false [zg1 2 (.mov (zi1 0))] [2] [])
 .ret))),
 [.tmp 2], false⟩
def ir409 : IFn :=
⟨(.seq (.reg false [zg1 1 (.bx (.t 0) 22 true),
 zg1 2 (.mov (zi1 0))] [1] [1])
 (.seq (.reg true [zg1 5 (.off (.t 1) 19),
 zg1 6 (.ldl 1 (.t 5) 1 false),
 zg1 7 (.off (.t 1) 20),
 zg1 8 (.ldl 1 (.t 7) 1 false),
 zg1 9 (.len (.t 8)),
 zg1 10 (.call 451 [(.t 6), (zi1 5), (.t 9)] false),
 zg1 11 (.off (.t 1) 19),
 zg1 12 (.ldl 1 (.t 11) 1 false),
 zg1 13 (.off (.t 1) 21),
 zg1 14 (.ldl 1 (.t 13) 1 false),
 zg1 15 (.len (.t 14)),
 zg1 16 (.call 451 [(.t 12), (zi1 6), (.t 15)] false),
 zm1 3 10,
 zm1 4 16] [3, 4] [])
 (.seq (.seq (.reg false [zm1 17 3,
 zg1 18 (.bin .lss (.t 17) (zi1 0)),
 zm1 19 18,
 zf1 20 19 (.mov (.t 4)),
 zf1 21 19 (.bin .lss (.t 20) (zi1 0)),
 zg1 22 (.pick (.t 19) zT1 (.t 21))] [3, 4, 22] [])
 (.cond (.t 22)
 (.seq (.reg false [zm1 23 3,
 zm1 24 4,
 zg1 25 (.mnmx true (.t 23) (.t 24)),
 zm1 2 25] [2] [])
 .ret)
 .skip))
 (.seq (.reg false [zm1 26 3,
 zm1 27 4,
 zg1 28 (.mnmx false (.t 26) (.t 27)),
 zm1 2 28] [2] [])
 .ret)))),
 [.tmp 2], false⟩
def ir410 : IFn :=
⟨(.seq (.reg false [zg1 1 (.bx (.t 0) 22 true),
 zg1 2 (.mov (zi1 0))] [1] [1])
 (.seq (.reg false [zg1 4 (.ld (.t 1) 22 true),
 zg1 5 (.call 73 [(.t 4)] false),
 zg1 3 (.al [zo1, zo1, zo1, zo1, zo1, zo1, zo1, zo1, zo1, zo1, zo1, zo1, zo1, zo1, zo1, zo1, zo1, zo1, .p (.bool false), .nils, .nils, .nils] false),
 zn1 (.st (.t 3) (.t 5) 22)] [3] [])
 (.seq (.reg false [zg1 6 (.off (.t 3) 21),
 zg1 7 (.ld (.t 6) 1 false),
 zg1 8 (.mkf (.func 452) [] [(.t 3)]),
 zg1 9 (.call 449 [(.t 7), (.t 8)] false),
 zm1 2 9] [2] [])
 .ret))),
 [.tmp 2], false⟩
def ir411 : IFn :=
⟨(.seq (.reg false [zg1 4 (.mov (zi1 0))] [0, 1] [])
 (.seq (.reg false [zm1 6 0,
 zm1 7 1,
 zg1 8 (.bin .rem (.t 6) (.t 7)),
 zm1 5 8] [1, 5] [])
 (.seq (.seq (.reg false [zm1 9 5,
 zg1 10 (.bin .lss (.t 9) (zi1 0))] [1, 5, 10] [])
 (.cond (.t 10)
 (.reg false [zm1 11 5,
 zm1 12 1,
 zg1 13 (.bin .add (.t 11) (.t 12)),
 zm1 5 13] [5] [])
 .skip))
 (.seq (.reg false [zm1 14 5,
 zm1 4 14] [4] [])
 .ret)))),
 [.tmp 4], false⟩
def ir412 : IFn :=
⟨(.seq (.reg false [zg1 6 (.mov (zi1 0))] [0, 1, 2, 3] [])
 (.seq (.reg false [zg1 10 (.ld (.t 2) 1 false),
 zm1 11 0,
 zm1 12 1,
 zg1 13 (.callv (.t 10) [(.t 11), (.t 12)] false),
 zm1 9 13,
 zg1 14 (.ext (.t 9) 0),
 zg1 15 (.ext (.t 9) 1),
 zm1 7 14,
 zm1 8 15] [3, 7, 8] [])
 (.seq (.reg false [zg1 16 (.ld (.t 3) 1 false),
 zm1 17 16,
 zt1 18 17 (.mov (.t 8)),
 zg1 19 (.pick (.t 17) (.t 18) zF1),
 zn1 (.st (.t 3) (.t 19) 1)] [7] [])
 (.seq (.reg false [zm1 20 7,
 zm1 6 20] [6] [])
 .ret)))),
 [.tmp 6], false⟩
def lp423_0 : IC :=
 (.loop [0, 1, 2, 4, 5, 6, 42, 43, 44] [] (.seq (.reg false [zg1 45 (.bin .lss (.t 44) (.t 43))] [0, 1, 2, 4, 5, 6, 42, 43, 44, 45] [])
 (.seq (.cond (.t 45)
 .skip
 (.exit 0))
 (.seq (.block 1 (.seq (.reg false [zm1 46 44,
 zg1 47 (.ixs (.t 42) (.t 44) 2),
 zg1 48 (.ld (.t 47) 2 true),
 zg1 8 (.al [.nils, .nils] true),
 zm1 7 46,
 zn1 (.st (.t 8) (.t 48) 2)] [0, 1, 2, 4, 5, 6, 7, 8, 42, 43, 44] [8])
 (.seq (.reg false [zm1 49 5,
 zg1 50 (.off (.t 1) 0),
 zg1 51 (.ld (.t 50) 1 false),
 zm1 52 7,
 zg1 53 (.bin .add (.t 51) (.t 52)),
 zm1 54 6,
 zg1 55 (.off (.t 8) 0),
 zg1 56 (.ld (.t 55) 1 false),
 zg1 57 (.len (.t 56)),
 zg1 58 (.bld [zo1, zo1, zo1] [(0, 1, (.t 53)), (1, 1, (.t 54)), (2, 1, (.t 57))]),
 zg1 59 (.bsl 3 1 [zo1, zo1, zo1] [(0, (.t 58))]),
 zg1 60 (.app (.t 49) (.t 59) 3),
 zm1 5 60] [0, 1, 2, 4, 5, 42, 43, 44] [])
 (.reg false [zg1 6 (.mov (zi1 0))] [0, 1, 2, 4, 5, 6, 42, 43, 44] []))))
 (.reg false [zg1 61 (.bin .add (.t 44) (zi1 1)),
 zm1 44 61] [0, 1, 2, 4, 5, 6, 42, 43, 44] [])))))
def lp423_1 : IC :=
 (.loop [0, 5, 6, 9, 72, 73, 74] [] (.seq (.reg false [zg1 75 (.bin .lss (.t 74) (.t 73))] [0, 5, 6, 9, 72, 73, 74, 75] [])
 (.seq (.cond (.t 75)
 .skip
 (.exit 2))
 (.seq (.block 3 (.seq (.reg false [zg1 76 (.ixs (.t 72) (.t 74) 1),
 zg1 77 (.ld (.t 76) 1 false),
 zm1 11 77] [0, 5, 6, 9, 11, 72, 73, 74] [])
 (.seq (.reg false [zm1 78 5,
 zg1 79 (.call 426 [(.t 78)] false),
 zm1 80 9,
 zm1 81 6,
 zm1 82 11,
 zg1 83 (.bld [zo1, zo1, zo1] [(0, 1, (.t 80)), (1, 1, (.t 81)), (2, 1, (.t 82))]),
 zg1 84 (.bsl 3 1 [zo1, zo1, zo1] [(0, (.t 83))]),
 zg1 85 (.app (.t 79) (.t 84) 3),
 zm1 12 85] [0, 5, 6, 9, 12, 72, 73, 74] [])
 (.seq (.reg false [zm1 86 0,
 zm1 87 12,
 zg1 88 (.callv (.t 86) [(.t 87)] false),
 zg1 89 (.un .not (.t 88))] [0, 5, 6, 9, 72, 73, 74, 89] [])
 (.cond (.t 89)
 .ret
 .skip)))))
 (.reg false [zg1 90 (.bin .add (.t 74) (zi1 1)),
 zm1 74 90] [0, 5, 6, 9, 72, 73, 74] [])))))
def ir423 : IFn :=
⟨(.seq (.reg false [zg1 13 (.ld (.t 1) 4 true),
 zg1 14 (.ld (.t 2) 1 false),
 zg1 15 (.call 424 [(.t 13), (.t 14)] false),
 zm1 4 15] [0, 1, 2, 4] [])
 (.seq (.seq (.reg false [zm1 16 4,
 zg1 17 (.bin .eql (.t 16) (zi1 0)),
 zm1 18 17,
 zf1 19 18 (.off (.t 1) 3),
 zf1 20 18 (.ld (.t 19) 1 false),
 zf1 21 18 (.un .not (.t 20)),
 zg1 22 (.pick (.t 18) zT1 (.t 21)),
 zm1 23 22,
 zt1 24 23 (.mov (.t 0)),
 zt1 25 23 (.callv (.t 24) [(.c (.nils))] false),
 zt1 26 23 (.un .not (.t 25)),
 zg1 27 (.pick (.t 23) (.t 26) zF1),
 zm1 28 27,
 zf1 29 28 (.mov (.t 4)),
 zf1 30 28 (.bin .eql (.t 29) (zi1 0)),
 zg1 31 (.pick (.t 28) zT1 (.t 30))] [0, 1, 2, 4, 31] [])
 (.cond (.t 31)
 .ret
 .skip))
 (.seq (.reg false [zg1 5 (.nrow 3)] [0, 1, 2, 4, 5] [])
 (.seq (.reg false [zg1 32 (.off (.t 1) 1),
 zg1 33 (.ld (.t 32) 1 false),
 zm1 6 33] [0, 1, 2, 4, 5, 6] [])
 (.seq (.seq (.reg false [zg1 34 (.ld (.t 2) 1 false),
 zg1 35 (.off (.t 1) 0),
 zg1 36 (.ld (.t 35) 1 false),
 zg1 37 (.off (.t 1) 0),
 zg1 38 (.ld (.t 37) 1 false),
 zm1 39 4,
 zg1 40 (.bin .add (.t 38) (.t 39)),
 zg1 41 (.bin .sub (.t 40) (zi1 1)),
 zg1 42 (.slc (.t 34) (some (.t 36)) (some (.t 41)) 2),
 zg1 43 (.len (.t 42)),
 zg1 44 (.mov (zi1 0))] [0, 1, 2, 4, 5, 6, 42, 43, 44] [])
 (.block 0 lp423_0))
 (.seq (.reg false [zg1 62 (.off (.t 1) 0),
 zg1 63 (.ld (.t 62) 1 false),
 zm1 64 4,
 zg1 65 (.bin .add (.t 63) (.t 64)),
 zg1 66 (.bin .sub (.t 65) (zi1 1)),
 zm1 9 66] [0, 2, 5, 6, 9] [])
 (.seq (.reg false [zg1 67 (.ld (.t 2) 1 false),
 zm1 68 9,
 zg1 69 (.ixs (.t 67) (.t 68) 2),
 zg1 70 (.ld (.t 69) 2 true),
 zm1 71 6,
 zg1 72 (.call 425 [(.t 70), (.t 71)] false),
 zg1 73 (.len (.t 72)),
 zg1 74 (.mov (zi1 0))] [0, 5, 6, 9, 72, 73, 74] [])
 (.block 2 lp423_1)))))))),
 [], false⟩
def ir424 : IFn :=
⟨(.seq (.reg false [zg1 2 (.bx (.t 0) 4 true),
 zg1 4 (.mov (zi1 0))] [1, 2] [2])
 (.seq (.seq (.reg false [zg1 5 (.off (.t 2) 0),
 zg1 6 (.ld (.t 5) 1 false),
 zg1 7 (.bin .lss (.t 6) (zi1 0)),
 zm1 8 7,
 zf1 9 8 (.off (.t 2) 1),
 zf1 10 8 (.ld (.t 9) 1 false),
 zf1 11 8 (.bin .lss (.t 10) (zi1 0)),
 zg1 12 (.pick (.t 8) zT1 (.t 11))] [1, 2, 12] [2])
 (.cond (.t 12)
 (.seq (.reg false [zg1 4 (.mov (zi1 0))] [4] [])
 .ret)
 .skip))
 (.seq (.reg false [zg1 13 (.off (.t 2) 2),
 zg1 14 (.ld (.t 13) 1 false),
 zm1 15 1,
 zg1 16 (.len (.t 15)),
 zg1 17 (.mnmx false (.t 14) (.t 16)),
 zg1 18 (.mnmx true (.t 17) (zi1 0)),
 zg1 19 (.off (.t 2) 0),
 zg1 20 (.ld (.t 19) 1 false),
 zg1 21 (.bin .sub (.t 18) (.t 20)),
 zg1 22 (.mnmx true (.t 21) (zi1 0)),
 zm1 4 22] [4] [])
 .ret))),
 [.tmp 4], false⟩
def ir425 : IFn :=
⟨(.seq (.reg false [zg1 2 (.bx (.t 0) 2 true),
 zg1 4 (.mov (.c (.nils)))] [1, 2] [2])
 (.seq (.reg false [zm1 5 1,
 zg1 6 (.mnmx true (.t 5) (zi1 (-1))),
 zg1 7 (.off (.t 2) 0),
 zg1 8 (.ld (.t 7) 1 false),
 zg1 9 (.len (.t 8)),
 zg1 10 (.mnmx false (.t 6) (.t 9)),
 zm1 1 10] [1, 2] [2])
 (.seq (.reg false [zm1 11 1,
 zg1 12 (.bin .add (.t 11) (zi1 1)),
 zg1 13 (.off (.t 2) 0),
 zg1 14 (.ld (.t 13) 1 false),
 zg1 15 (.len (.t 14)),
 zg1 16 (.ld (.t 2) 2 true),
 zg1 17 (.mkf (.func 375) [(.t 16)] []),
 zg1 18 (.call 459 [(.t 12), (.t 15), (.t 17)] false),
 zm1 4 18] [4] [])
 .ret))),
 [.tmp 4], false⟩
def ir426 : IFn :=
⟨(.seq (.reg false [zg1 2 (.mov (.c (.nils)))] [0] [])
 (.seq (.seq (.reg false [zm1 3 0,
 zg1 4 (.eqn .sl false (.t 3))] [0, 4] [])
 (.cond (.t 4)
 (.seq (.reg false [zg1 2 (.mov (.c (.nils)))] [2] [])
 .ret)
 .skip))
 (.seq (.reg false [zg1 5 (.bsl 3 0 [zo1, zo1, zo1] []),
 zm1 6 0,
 zg1 7 (.app (.t 5) (.t 6) 3),
 zm1 2 7] [2] [])
 .ret))),
 [.tmp 2], true⟩
def lp427_0 : IC :=
 (.loop [1, 5, 8, 9, 10] [] (.seq (.reg false [zg1 11 (.bin .lss (.t 10) (.t 9))] [1, 5, 8, 9, 10, 11] [])
 (.seq (.cond (.t 11)
 .skip
 (.exit 0))
 (.seq (.block 1 (.seq (.reg false [zm1 12 10,
 zg1 13 (.ixs (.t 8) (.t 10) 3),
 zg1 14 (.ld (.t 13) 3 true),
 zg1 7 (.al [zo1, zo1, zo1] true),
 zm1 6 12,
 zn1 (.st (.t 7) (.t 14) 3)] [1, 5, 6, 7, 8, 9, 10] [7])
 (.seq (.reg false [zg1 15 (.off (.t 7) 0),
 zg1 16 (.ld (.t 15) 1 false),
 zm1 17 1,
 zg1 18 (.bin .eql (.t 16) (.t 17))] [1, 5, 6, 8, 9, 10, 18] [])
 (.cond (.t 18)
 (.reg false [zm1 19 5,
 zm1 20 6,
 zg1 21 (.bsl 1 1 [zo1] [(0, (.t 20))]),
 zg1 22 (.app (.t 19) (.t 21) 1),
 zm1 5 22] [1, 5, 8, 9, 10] [])
 .skip))))
 (.reg false [zg1 23 (.bin .add (.t 10) (zi1 1)),
 zm1 10 23] [1, 5, 8, 9, 10] [])))))
def ir427 : IFn :=
⟨(.seq (.reg false [zg1 4 (.mov (.c (.nils)))] [0, 1] [])
 (.seq (.reg false [zg1 5 (.nrow 1)] [0, 1, 5] [])
 (.seq (.seq (.reg false [zm1 8 0,
 zg1 9 (.len (.t 8)),
 zg1 10 (.mov (zi1 0))] [1, 5, 8, 9, 10] [])
 (.block 0 lp427_0))
 (.seq (.reg false [zm1 24 5,
 zm1 4 24] [4] [])
 .ret)))),
 [.tmp 4], false⟩
def ir429 : IFn :=
⟨(.seq (.reg false [zg1 1 (.bx (.t 0) 3 true),
 zg1 2 (.mov zF1)] [1] [1])
 (.seq (.reg false [zg1 3 (.ld (.t 1) 3 true),
 zg1 4 (.call 462 [(.t 3), (.c (.p (.fn 463)))] false),
 zm1 2 4] [2] [])
 .ret)),
 [.tmp 2], false⟩
def ir430 : IFn :=
⟨(.seq (.reg false [zg1 1 (.bx (.t 0) 3 true),
 zg1 2 (.mov zF1)] [1] [1])
 (.seq (.reg false [zg1 3 (.ld (.t 1) 3 true),
 zg1 4 (.call 462 [(.t 3), (.c (.p (.fn 464)))] false),
 zm1 2 4] [2] [])
 .ret)),
 [.tmp 2], false⟩
def ir436 : IFn :=
⟨(.seq (.reg false [zg1 2 (.bx (.t 0) 22 true),
 zg1 3 (.mov (zi1 0))] [1, 2] [2])
 (.seq (.seq (.reg false [zg1 4 (.ld (.t 1) 1 false),
 zg1 5 (.ld (.t 2) 22 true),
 zg1 6 (.callv (.t 4) [(.t 5)] false)] [6] [])
 (.cond (.t 6)
 (.seq (.reg false [zg1 3 (.mov (zi1 0))] [3] [])
 .ret)
 .skip))
 (.seq (.reg false [zg1 3 (.mov (zi1 (-1)))] [3] [])
 .ret))),
 [.tmp 3], false⟩
def ir437 : IFn :=
⟨(.seq (.reg false [zg1 2 (.bx (.t 0) 1 false),
 zg1 3 (.bx (.t 1) 1 false),
 zg1 4 (.mov (.c (.p .nilf)))] [2, 3] [])
 (.seq (.reg false [zg1 5 (.mkf (.func 473) [] [(.t 2), (.t 3)]),
 zm1 4 5] [4] [])
 .ret)),
 [.tmp 4], false⟩
def ir438 : IFn :=
⟨(.seq (.reg false [zg1 2 (.bx (.t 0) 1 false),
 zg1 3 (.bx (.t 1) 1 false),
 zg1 4 (.mov (.c (.p .nilf)))] [2, 3] [])
 (.seq (.reg false [zg1 5 (.mkf (.func 474) [] [(.t 2), (.t 3)]),
 zm1 4 5] [4] [])
 .ret)),
 [.tmp 4], false⟩
def ir439 : IFn :=
⟨(.seq (.reg false [zg1 3 (.mov (zi1 0))] [0, 1] [])
 (.seq (.reg false [zm1 4 0,
 zg1 5 (.mkf (.func 441) [] [(.t 1)]),
 zg1 6 (.call 440 [(.t 4), (.t 5)] false),
 zm1 3 6] [3] [])
 .ret)),
 [.tmp 3], false⟩
def lp440_0 : IC :=
 (.loop [0, 1, 7, 8] [] (.seq (.reg false [zg1 9 (.bin .lss (.t 8) (.t 7))] [0, 1, 7, 8, 9] [])
 (.seq (.cond (.t 9)
 .skip
 (.exit 0))
 (.seq (.block 1 (.seq (.reg false [zm1 10 8,
 zm1 5 10] [0, 1, 5, 7, 8] [])
 (.seq (.reg false [zm1 11 1,
 zm1 12 0,
 zm1 13 5,
 zg1 14 (.ixs (.t 12) (.t 13) 7),
 zg1 15 (.ld (.t 14) 7 true),
 zg1 16 (.callv (.t 11) [(.t 15)] false)] [0, 1, 5, 7, 8, 16] [])
 (.cond (.t 16)
 (.seq (.reg false [zm1 17 5,
 zm1 4 17] [4] [])
 .ret)
 .skip))))
 (.reg false [zg1 18 (.bin .add (.t 8) (zi1 1)),
 zm1 8 18] [0, 1, 7, 8] [])))))
def ir440 : IFn :=
⟨(.seq (.reg false [zg1 4 (.mov (zi1 0))] [0, 1] [])
 (.seq (.seq (.reg false [zm1 6 0,
 zg1 7 (.len (.t 6)),
 zg1 8 (.mov (zi1 0))] [0, 1, 7, 8] [])
 (.block 0 lp440_0))
 (.seq (.reg false [zg1 4 (.mov (zi1 (-1)))] [4] [])
 .ret))),
 [.tmp 4], false⟩
def ir441 : IFn :=
⟨(.seq (.reg false [zg1 2 (.bx (.t 0) 7 true),
 zg1 3 (.mov zF1)] [1, 2] [2])
 (.seq (.reg false [zg1 4 (.ld (.t 1) 1 false),
 zg1 5 (.ld (.t 2) 7 true),
 zg1 6 (.callv (.t 4) [(.t 5)] false),
 zg1 7 (.bin .neq (.t 6) (zi1 0)),
 zm1 3 7] [3] [])
 .ret)),
 [.tmp 3], false⟩
def ir442 : IFn :=
⟨(.seq (.reg false [zg1 0 (.mov (.c (.nils)))] [] [])
 (.seq (.reg false [zg1 1 (.mov (.c (.p (.fn 475))))] [1] [])
 (.seq (.reg false [zg1 2 (.call 443 [(zi1 0)] false),
 zg1 3 (.bld [.p .nilf, .p .nilf] [(0, 1, (.c (.p (.fn 477)))), (1, 1, (.t 2))]),
 zg1 4 (.call 443 [(zi1 0)] false),
 zg1 5 (.bld [.p .nilf, .p .nilf] [(0, 1, (.c (.p (.fn 479)))), (1, 1, (.t 4))]),
 zm1 6 1,
 zg1 7 (.callv (.t 6) [(.c (.p (.fn 481)))] false),
 zg1 8 (.bld [.p .nilf, .p .nilf] [(0, 1, (.t 7)), (1, 1, (.c (.p (.fn 482))))]),
 zm1 9 1,
 zg1 10 (.callv (.t 9) [(.c (.p (.fn 483)))] false),
 zg1 11 (.call 443 [(zi1 1048576)] false),
 zg1 12 (.bld [.p .nilf, .p .nilf] [(0, 1, (.t 10)), (1, 1, (.t 11))]),
 zm1 13 1,
 zg1 14 (.callv (.t 13) [(.c (.p (.fn 484)))] false),
 zg1 15 (.call 443 [(zi1 511)] false),
 zg1 16 (.bld [.p .nilf, .p .nilf] [(0, 1, (.t 14)), (1, 1, (.t 15))]),
 zm1 17 1,
 zg1 18 (.callv (.t 17) [(.c (.p (.fn 485)))] false),
 zg1 19 (.call 443 [(zi1 255)] false),
 zg1 20 (.bld [.p .nilf, .p .nilf] [(0, 1, (.t 18)), (1, 1, (.t 19))]),
 zg1 21 (.call 443 [(zi1 0)] false),
 zg1 22 (.bld [.p .nilf, .p .nilf] [(0, 1, (.c (.p (.fn 486)))), (1, 1, (.t 21))]),
 zg1 23 (.bsl 2 7 [.p .nilf, .p .nilf] [(0, (.t 3)), (1, (.t 5)), (2, (.t 8)), (3, (.t 12)), (4, (.t 16)), (5, (.t 20)), (6, (.t 22))]),
 zm1 0 23] [0] [])
 .ret))),
 [.tmp 0], false⟩
def ir443 : IFn :=
⟨(.seq (.reg false [zg1 1 (.bx (.t 0) 1 false),
 zg1 2 (.mov (.c (.p .nilf)))] [1] [])
 (.seq (.reg false [zg1 3 (.mkf (.func 488) [] [(.t 1)]),
 zm1 2 3] [2] [])
 .ret)),
 [.tmp 2], false⟩
def ir444 : IFn :=
⟨(.seq (.reg false [zg1 2 (.mov zF1)] [0] [])
 (.seq (.reg false [zm1 3 0,
 zg1 4 (.call 489 [(.t 3), (.c (.p (.fn 490)))] false),
 zg1 5 (.un .not (.t 4)),
 zm1 2 5] [2] [])
 .ret)),
 [.tmp 2], false⟩
def ir445 : IFn :=
⟨(.seq (.reg false [zg1 3 (.mov (zi1 0))] [0, 1] [])
 (.seq (.reg false [zm1 4 0,
 zg1 5 (.mkf (.func 447) [] [(.t 1)]),
 zg1 6 (.call 446 [(.t 4), (.t 5)] false),
 zm1 3 6] [3] [])
 .ret)),
 [.tmp 3], false⟩
def lp446_0 : IC :=
 (.loop [0, 1, 7, 8] [] (.seq (.reg false [zg1 9 (.bin .lss (.t 8) (.t 7))] [0, 1, 7, 8, 9] [])
 (.seq (.cond (.t 9)
 .skip
 (.exit 0))
 (.seq (.block 1 (.seq (.reg false [zm1 10 8,
 zm1 5 10] [0, 1, 5, 7, 8] [])
 (.seq (.reg false [zm1 11 1,
 zm1 12 0,
 zm1 13 5,
 zg1 14 (.ixs (.t 12) (.t 13) 2),
 zg1 15 (.ld (.t 14) 2 true),
 zg1 16 (.callv (.t 11) [(.t 15)] false)] [0, 1, 5, 7, 8, 16] [])
 (.cond (.t 16)
 (.seq (.reg false [zm1 17 5,
 zm1 4 17] [4] [])
 .ret)
 .skip))))
 (.reg false [zg1 18 (.bin .add (.t 8) (zi1 1)),
 zm1 8 18] [0, 1, 7, 8] [])))))
def ir446 : IFn :=
⟨(.seq (.reg false [zg1 4 (.mov (zi1 0))] [0, 1] [])
 (.seq (.seq (.reg false [zm1 6 0,
 zg1 7 (.len (.t 6)),
 zg1 8 (.mov (zi1 0))] [0, 1, 7, 8] [])
 (.block 0 lp446_0))
 (.seq (.reg false [zg1 4 (.mov (zi1 (-1)))] [4] [])
 .ret))),
 [.tmp 4], false⟩
def ir447 : IFn :=
⟨(.seq (.reg false [zg1 2 (.bx (.t 0) 2 true),
 zg1 3 (.mov zF1)] [1, 2] [2])
 (.seq (.reg false [zg1 4 (.ld (.t 1) 1 false),
 zg1 5 (.ld (.t 2) 2 true),
 zg1 6 (.callv (.t 4) [(.t 5)] false),
 zg1 7 (.bin .neq (.t 6) (zi1 0)),
 zm1 3 7] [3] [])
 .ret)),
 [.tmp 3], false⟩
def ir448 : IFn :=
⟨(.seq (.reg false [zg1 3 (.mov (zi1 0))] [0, 1] [])
 (.seq (.reg false [zm1 4 0,
 zg1 5 (.mkf (.func 450) [] [(.t 1)]),
 zg1 6 (.call 449 [(.t 4), (.t 5)] false),
 zm1 3 6] [3] [])
 .ret)),
 [.tmp 3], false⟩
def lp449_0 : IC :=
 (.loop [0, 1, 7, 8] [] (.seq (.reg false [zg1 9 (.bin .lss (.t 8) (.t 7))] [0, 1, 7, 8, 9] [])
 (.seq (.cond (.t 9)
 .skip
 (.exit 0))
 (.seq (.block 1 (.seq (.reg false [zm1 10 8,
 zm1 5 10] [0, 1, 5, 7, 8] [])
 (.seq (.reg false [zm1 11 1,
 zm1 12 0,
 zm1 13 5,
 zg1 14 (.ixs (.t 12) (.t 13) 3),
 zg1 15 (.ld (.t 14) 3 true),
 zg1 16 (.callv (.t 11) [(.t 15)] false)] [0, 1, 5, 7, 8, 16] [])
 (.cond (.t 16)
 (.seq (.reg false [zm1 17 5,
 zm1 4 17] [4] [])
 .ret)
 .skip))))
 (.reg false [zg1 18 (.bin .add (.t 8) (zi1 1)),
 zm1 8 18] [0, 1, 7, 8] [])))))
def ir449 : IFn :=
⟨(.seq (.reg false [zg1 4 (.mov (zi1 0))] [0, 1] [])
 (.seq (.seq (.reg false [zm1 6 0,
 zg1 7 (.len (.t 6)),
 zg1 8 (.mov (zi1 0))] [0, 1, 7, 8] [])
 (.block 0 lp449_0))
 (.seq (.reg false [zg1 4 (.mov (zi1 (-1)))] [4] [])
 .ret))),
 [.tmp 4], false⟩
def ir450 : IFn :=
⟨(.seq (.reg false [zg1 2 (.bx (.t 0) 3 true),
 zg1 3 (.mov zF1)] [1, 2] [2])
 (.seq (.reg false [zg1 4 (.ld (.t 1) 1 false),
 zg1 5 (.ld (.t 2) 3 true),
 zg1 6 (.callv (.t 4) [(.t 5)] false),
 zg1 7 (.bin .neq (.t 6) (zi1 0)),
 zm1 3 7] [3] [])
 .ret)),
 [.tmp 3], false⟩
def lp451_0 : IC :=
 (.loop [0, 1, 2, 7, 8, 14, 15, 16] [] (.seq (.reg false [zg1 17 (.bin .lss (.t 16) (.t 15))] [0, 1, 2, 7, 8, 14, 15, 16, 17] [])
 (.seq (.cond (.t 17)
 .skip
 (.exit 0))
 (.seq (.block 1 (.seq (.reg false [zm1 18 16,
 zg1 19 (.ixs (.t 14) (.t 16) 7),
 zg1 20 (.ld (.t 19) 7 true),
 zg1 10 (.al [zo1, zo1, zo1, zo1, zo1, zo1, zo1] true),
 zm1 9 18,
 zn1 (.st (.t 10) (.t 20) 7)] [0, 1, 2, 7, 8, 9, 10, 14, 15, 16] [10])
 (.seq (.seq (.reg false [zm1 21 9,
 zm1 22 7,
 zg1 23 (.bin .eql (.t 21) (.t 22)),
 zm1 24 23,
 zf1 25 24 (.off (.t 10) 0),
 zf1 26 24 (.ld (.t 25) 1 false),
 zf1 27 24 (.mov (.t 1)),
 zf1 28 24 (.bin .eql (.t 26) (.t 27)),
 zf1 29 24 (.mov (.t 28)),
 zt1 30 29 (.mov (.t 8)),
 zt1 31 29 (.mov (.t 2)),
 zt1 32 29 (.bin .eql (.t 30) (.t 31)),
 zf1 33 24 (.pick (.t 29) (.t 32) zF1),
 zg1 34 (.pick (.t 24) zT1 (.t 33))] [0, 1, 2, 7, 8, 9, 10, 14, 15, 16, 34] [10])
 (.cond (.t 34)
 (.seq (.reg false [zm1 35 9,
 zm1 6 35] [6] [])
 .ret)
 .skip))
 (.seq (.reg false [zg1 36 (.off (.t 10) 0),
 zg1 37 (.ld (.t 36) 1 false),
 zm1 38 1,
 zg1 39 (.bin .eql (.t 37) (.t 38))] [0, 1, 2, 7, 8, 14, 15, 16, 39] [])
 (.cond (.t 39)
 (.reg false [zm1 40 8,
 zg1 41 (.bin .add (.t 40) (zi1 1)),
 zm1 8 41] [0, 1, 2, 7, 8, 14, 15, 16] [])
 .skip)))))
 (.reg false [zg1 42 (.bin .add (.t 16) (zi1 1)),
 zm1 16 42] [0, 1, 2, 7, 8, 14, 15, 16] [])))))
def ir451 : IFn :=
⟨(.seq (.reg false [zg1 6 (.mov (zi1 0))] [0, 1, 2] [])
 (.seq (.reg false [zm1 11 0,
 zm1 12 1,
 zg1 13 (.call 491 [(.t 11), (.t 12)] false),
 zm1 7 13] [0, 1, 2, 7] [])
 (.seq (.reg false [zg1 8 (.mov (zi1 0))] [0, 1, 2, 7, 8] [])
 (.seq (.seq (.reg false [zm1 14 0,
 zg1 15 (.len (.t 14)),
 zg1 16 (.mov (zi1 0))] [0, 1, 2, 7, 8, 14, 15, 16] [])
 (.block 0 lp451_0))
 (.seq (.seq (.reg false [zm1 43 8,
 zm1 44 2,
 zg1 45 (.bin .lss (.t 43) (.t 44))] [0, 45] [])
 (.cond (.t 45)
 (.seq (.reg false [zm1 46 0,
 zg1 47 (.len (.t 46)),
 zm1 6 47] [6] [])
 .ret)
 .skip))
 (.seq (.reg false [zg1 6 (.mov (zi1 (-1)))] [6] [])
 .ret)))))),
 [.tmp 6], false⟩
def ir452 : IFn :=
⟨(.seq (.reg false [zg1 2 (.bx (.t 0) 3 true),
 zg1 3 (.mov zF1)] [1, 2] [2])
 (.seq (.reg false [zg1 4 (.off (.t 2) 1),
 zg1 5 (.ld (.t 4) 1 false),
 zg1 6 (.off (.t 1) 0),
 zg1 7 (.off (.t 6) 4),
 zg1 8 (.ld (.t 7) 1 false),
 zg1 9 (.bin .gtr (.t 5) (.t 8)),
 zm1 3 9] [3] [])
 .ret)),
 [.tmp 3], false⟩
def lp459_0 : IC :=
 (.loop [1, 2, 7, 8] [] (.seq (.seq (.reg false [zm1 10 8,
 zm1 11 1,
 zg1 12 (.bin .leq (.t 10) (.t 11))] [1, 2, 7, 8, 12] [])
 (.cond (.t 12)
 .skip
 (.exit 0)))
 (.seq (.block 1 (.seq (.reg false [zm1 15 2,
 zm1 16 8,
 zg1 17 (.callv (.t 15) [(.t 16)] false)] [1, 2, 7, 8, 17] [])
 (.cond (.t 17)
 (.reg false [zm1 18 7,
 zm1 19 8,
 zg1 20 (.bsl 1 1 [zo1] [(0, (.t 19))]),
 zg1 21 (.app (.t 18) (.t 20) 1),
 zm1 7 21] [1, 2, 7, 8] [])
 .skip)))
 (.reg false [zm1 13 8,
 zg1 14 (.bin .add (.t 13) (zi1 1)),
 zm1 8 14] [1, 2, 7, 8] []))))
def ir459 : IFn :=
⟨(.seq (.reg false [zg1 6 (.mov (.c (.nils)))] [0, 1, 2] [])
 (.seq (.reg false [zg1 7 (.nrow 1)] [0, 1, 2, 7] [])
 (.seq (.seq (.reg false [zm1 9 0,
 zm1 8 9] [1, 2, 7, 8] [])
 (.block 0 lp459_0))
 (.seq (.reg false [zm1 22 7,
 zm1 6 22] [6] [])
 .ret)))),
 [.tmp 6], false⟩
def ir462 : IFn :=
⟨(.seq (.reg false [zg1 2 (.bx (.t 0) 3 true),
 zg1 4 (.mov zF1)] [1, 2] [2])
 (.seq (.reg false [zm1 5 1,
 zg1 6 (.off (.t 2) 2),
 zg1 7 (.ld (.t 6) 1 false),
 zg1 8 (.callv (.t 5) [(.t 7)] false),
 zm1 4 8] [4] [])
 .ret)),
 [.tmp 4], false⟩
def ir463 : IFn :=
⟨(.seq (.reg false [zg1 2 (.mov zF1)] [0] [])
 (.seq (.reg false [zm1 3 0,
 zg1 4 (.bin .and (.t 3) (zi1 1)),
 zg1 5 (.bin .neq (.t 4) (zi1 0)),
 zm1 2 5] [2] [])
 .ret)),
 [.tmp 2], false⟩
def ir464 : IFn :=
⟨(.seq (.reg false [zg1 2 (.mov zF1)] [0] [])
 (.seq (.reg false [zm1 3 0,
 zg1 4 (.bin .and (.t 3) (zi1 2)),
 zg1 5 (.bin .neq (.t 4) (zi1 0)),
 zm1 2 5] [2] [])
 .ret)),
 [.tmp 2], false⟩
def lp473_0 : IC :=
 (.loop [1, 2, 7, 8, 9] [] (.seq (.reg false [zg1 10 (.bin .lss (.t 9) (.t 8))] [1, 2, 7, 8, 9, 10] [])
 (.seq (.cond (.t 10)
 .skip
 (.exit 0))
 (.seq (.block 1 (.seq (.reg false [zg1 11 (.ixs (.t 7) (.t 9) 1),
 zg1 12 (.ld (.t 11) 1 false),
 zm1 6 12] [1, 2, 6, 7, 8, 9] [])
 (.seq (.reg false [zm1 13 6,
 zg1 14 (.ld (.t 1) 1 false),
 zg1 15 (.bin .lss (.t 13) (.t 14)),
 zm1 16 15,
 zf1 17 16 (.mov (.t 6)),
 zf1 18 16 (.ld (.t 2) 1 false),
 zf1 19 16 (.bin .gtr (.t 17) (.t 18)),
 zg1 20 (.pick (.t 16) zT1 (.t 19))] [1, 2, 7, 8, 9, 20] [])
 (.cond (.t 20)
 (.seq (.reg false [zg1 4 (.mov zF1)] [4] [])
 .ret)
 .skip))))
 (.reg false [zg1 21 (.bin .add (.t 9) (zi1 1)),
 zm1 9 21] [1, 2, 7, 8, 9] [])))))
def ir473 : IFn :=
⟨(.seq (.reg false [zg1 4 (.mov zF1)] [0, 1, 2] [])
 (.seq (.seq (.reg false [zm1 7 0,
 zg1 8 (.len (.t 7)),
 zg1 9 (.mov (zi1 0))] [1, 2, 7, 8, 9] [])
 (.block 0 lp473_0))
 (.seq (.reg false [zg1 4 (.mov zT1)] [4] [])
 .ret))),
 [.tmp 4], false⟩
def lp474_0 : IC :=
 (.loop [1, 2, 7, 8, 9] [] (.seq (.reg false [zg1 10 (.bin .lss (.t 9) (.t 8))] [1, 2, 7, 8, 9, 10] [])
 (.seq (.cond (.t 10)
 .skip
 (.exit 0))
 (.seq (.block 1 (.seq (.reg false [zg1 11 (.ixs (.t 7) (.t 9) 1),
 zg1 12 (.ld (.t 11) 1 false),
 zm1 6 12] [1, 2, 6, 7, 8, 9] [])
 (.seq (.reg false [zm1 13 6,
 zg1 14 (.ld (.t 1) 1 false),
 zg1 15 (.bin .lss (.t 13) (.t 14)),
 zm1 16 15,
 zf1 17 16 (.mov (.t 6)),
 zf1 18 16 (.ld (.t 2) 1 false),
 zf1 19 16 (.bin .gtr (.t 17) (.t 18)),
 zg1 20 (.pick (.t 16) zT1 (.t 19))] [1, 2, 7, 8, 9, 20] [])
 (.cond (.t 20)
 (.seq (.reg false [zg1 4 (.mov zF1)] [4] [])
 .ret)
 .skip))))
 (.reg false [zg1 21 (.bin .add (.t 9) (zi1 1)),
 zm1 9 21] [1, 2, 7, 8, 9] [])))))
def ir474 : IFn :=
⟨(.seq (.reg false [zg1 4 (.mov zF1)] [0, 1, 2] [])
 (.seq (.seq (.reg false [zm1 7 0,
 zg1 8 (.len (.t 7)),
 zg1 9 (.mov (zi1 0))] [1, 2, 7, 8, 9] [])
 (.block 0 lp474_0))
 (.seq (.reg false [zg1 4 (.mov zT1)] [4] [])
 .ret))),
 [.tmp 4], false⟩
def ir475 : IFn :=
⟨(.seq (.reg false [zg1 1 (.bx (.t 0) 1 false),
 zg1 2 (.mov (.c (.p .nilf)))] [1] [])
 (.seq (.reg false [zg1 3 (.mkf (.func 476) [] [(.t 1)]),
 zm1 2 3] [2] [])
 .ret)),
 [.tmp 2], false⟩
def ir476 : IFn :=
⟨(.seq (.reg false [zg1 2 (.bx (.t 0) 7 true),
 zg1 3 (.al [zo1, zo1, zo1, zo1, zo1, zo1, zo1] true)] [1, 2, 3] [2, 3])
 (.seq (.reg false [zg1 4 (.ld (.t 1) 1 false),
 zg1 5 (.off (.t 2) 6),
 zg1 6 (.ld (.t 5) 1 false),
 zg1 7 (.callv (.t 4) [(.t 6)] false),
 zn1 (.st (.t 3) (.t 7) 7)] [3] [3])
 .ret)),
 [.cell 3 7 true], false⟩
def ir477 : IFn :=
⟨(.seq (.reg false [zg1 1 (.bx (.t 0) 7 true),
 zg1 2 (.al [zo1, zo1, zo1, zo1, zo1, zo1, zo1] true)] [1, 2] [1, 2])
 (.seq (.reg false [zg1 3 (.off (.t 1) 1),
 zg1 4 (.ld (.t 3) 1 false),
 zg1 5 (.off (.t 1) 2),
 zg1 6 (.ld (.t 5) 1 false),
 zg1 7 (.call 478 [(.t 4), (.t 6)] false),
 zn1 (.st (.t 2) (.t 7) 7)] [2] [2])
 .ret)),
 [.cell 2 7 true], false⟩
def ir478 : IFn :=
⟨(.seq (.reg false [zg1 4 (.al [zo1, zo1, zo1, zo1, zo1, zo1, zo1] true)] [0, 1, 4] [4])
 (.seq (.reg false [zm1 5 0,
 zm1 6 1,
 zg1 7 (.bld [zo1, zo1, zo1, zo1, zo1, zo1, zo1] [(0, 1, (zi1 1)), (1, 1, (.t 5)), (2, 1, (.t 6))]),
 zn1 (.st (.t 4) (.t 7) 7)] [4] [4])
 .ret)),
 [.cell 4 7 true], false⟩
def ir479 : IFn :=
⟨(.seq (.reg false [zg1 1 (.bx (.t 0) 7 true),
 zg1 2 (.al [zo1, zo1, zo1, zo1, zo1, zo1, zo1] true)] [1, 2] [1, 2])
 (.seq (.reg false [zg1 3 (.off (.t 1) 1),
 zg1 4 (.ld (.t 3) 1 false),
 zg1 5 (.off (.t 1) 3),
 zg1 6 (.ld (.t 5) 1 false),
 zg1 7 (.off (.t 1) 4),
 zg1 8 (.ld (.t 7) 1 false),
 zg1 9 (.off (.t 1) 5),
 zg1 10 (.ld (.t 9) 1 false),
 zg1 11 (.call 480 [(.t 4), (.t 6), (.t 8), (.t 10)] false),
 zn1 (.st (.t 2) (.t 11) 7)] [2] [2])
 .ret)),
 [.cell 2 7 true], false⟩
def ir480 : IFn :=
⟨(.seq (.reg false [zg1 8 (.al [zo1, zo1, zo1, zo1, zo1, zo1, zo1] true)] [0, 1, 2, 3, 8] [8])
 (.seq (.reg false [zm1 9 0,
 zm1 10 1,
 zm1 11 2,
 zm1 12 3,
 zg1 13 (.bld [zo1, zo1, zo1, zo1, zo1, zo1, zo1] [(0, 1, (zi1 2)), (1, 1, (.t 9)), (3, 1, (.t 10)), (4, 1, (.t 11)), (5, 1, (.t 12))]),
 zn1 (.st (.t 8) (.t 13) 7)] [8] [8])
 .ret)),
 [.cell 8 7 true], false⟩
def ir481 : IFn :=
⟨(.seq (.reg false [zg1 2 (.al [zo1, zo1, zo1, zo1, zo1, zo1, zo1] true)] [0, 2] [2])
 (.seq (.reg false [zm1 3 0,
 zg1 4 (.bld [zo1, zo1, zo1, zo1, zo1, zo1, zo1] [(0, 1, (zi1 3)), (6, 1, (.t 3))]),
 zn1 (.st (.t 2) (.t 4) 7)] [2] [2])
 .ret)),
 [.cell 2 7 true], false⟩
def ir482 : IFn :=
⟨(.seq (.reg false [zg1 2 (.mov zF1)] [0] [])
 (.seq (.reg false [zm1 3 0,
 zg1 4 (.bin .eql (.t 3) (zi1 (-10000))),
 zm1 5 4,
 zf1 6 5 (.call 443 [(zi1 10000)] false),
 zf1 7 5 (.mov (.t 0)),
 zf1 8 5 (.callv (.t 6) [(.t 7)] false),
 zg1 9 (.pick (.t 5) zT1 (.t 8)),
 zm1 2 9] [2] [])
 .ret)),
 [.tmp 2], false⟩
def ir483 : IFn :=
⟨(.seq (.reg false [zg1 2 (.al [zo1, zo1, zo1, zo1, zo1, zo1, zo1] true)] [0, 2] [2])
 (.seq (.reg false [zm1 3 0,
 zg1 4 (.bld [zo1, zo1, zo1, zo1, zo1, zo1, zo1] [(0, 1, (zi1 4)), (6, 1, (.t 3))]),
 zn1 (.st (.t 2) (.t 4) 7)] [2] [2])
 .ret)),
 [.cell 2 7 true], false⟩
def ir484 : IFn :=
⟨(.seq (.reg false [zg1 2 (.al [zo1, zo1, zo1, zo1, zo1, zo1, zo1] true)] [0, 2] [2])
 (.seq (.reg false [zm1 3 0,
 zg1 4 (.bld [zo1, zo1, zo1, zo1, zo1, zo1, zo1] [(0, 1, (zi1 5)), (6, 1, (.t 3))]),
 zn1 (.st (.t 2) (.t 4) 7)] [2] [2])
 .ret)),
 [.cell 2 7 true], false⟩
def ir485 : IFn :=
⟨(.seq (.reg false [zg1 2 (.al [zo1, zo1, zo1, zo1, zo1, zo1, zo1] true)] [0, 2] [2])
 (.seq (.reg false [zm1 3 0,
 zg1 4 (.bld [zo1, zo1, zo1, zo1, zo1, zo1, zo1] [(0, 1, (zi1 6)), (6, 1, (.t 3))]),
 zn1 (.st (.t 2) (.t 4) 7)] [2] [2])
 .ret)),
 [.cell 2 7 true], false⟩
def ir486 : IFn :=
⟨(.seq (.reg false [zg1 1 (.bx (.t 0) 7 true),
 zg1 2 (.al [zo1, zo1, zo1, zo1, zo1, zo1, zo1] true)] [2] [2])
 (.seq (.reg false [zg1 3 (.call 487 [] false),
 zn1 (.st (.t 2) (.t 3) 7)] [2] [2])
 .ret)),
 [.cell 2 7 true], false⟩
def ir487 : IFn :=
⟨(.seq (.reg false [zg1 0 (.al [zo1, zo1, zo1, zo1, zo1, zo1, zo1] true)] [0] [0])
 (.seq (.reg false [zg1 1 (.bld [zo1, zo1, zo1, zo1, zo1, zo1, zo1] [(0, 1, (zi1 7))]),
 zn1 (.st (.t 0) (.t 1) 7)] [0] [0])
 .ret)),
 [.cell 0 7 true], false⟩
def ir488 : IFn :=
⟨(.seq (.reg false [zg1 3 (.mov zF1)] [0, 1] [])
 (.seq (.reg false [zm1 4 0,
 zg1 5 (.bin .geq (.t 4) (zi1 0)),
 zm1 6 5,
 zt1 7 6 (.mov (.t 0)),
 zt1 8 6 (.ld (.t 1) 1 false),
 zt1 9 6 (.bin .leq (.t 7) (.t 8)),
 zg1 10 (.pick (.t 6) (.t 9) zF1),
 zm1 3 10] [3] [])
 .ret)),
 [.tmp 3], false⟩
def ir489 : IFn :=
⟨(.seq (.reg false [zg1 4 (.mov zF1)] [0, 1] [])
 (.seq (.reg false [zm1 5 0,
 zm1 6 1,
 zg1 7 (.call 509 [(.t 5), (.t 6)] false),
 zg1 8 (.bin .geq (.t 7) (zi1 0)),
 zm1 4 8] [4] [])
 .ret)),
 [.tmp 4], false⟩
def ir490 : IFn :=
⟨(.seq (.reg false [zg1 2 (.mov zF1)] [0] [])
 (.seq (.reg false [zm1 3 0,
 zg1 4 (.bin .lss (.t 3) (zi1 0)),
 zm1 5 4,
 zf1 6 5 (.mov (.t 0)),
 zf1 7 5 (.bin .gtr (.t 6) (zi1 1073741823)),
 zg1 8 (.pick (.t 5) zT1 (.t 7)),
 zm1 2 8] [2] [])
 .ret)),
 [.tmp 2], false⟩
def ir491 : IFn :=
⟨(.seq (.reg false [zg1 3 (.bx (.t 1) 1 false),
 zg1 4 (.mov (zi1 0))] [0, 3] [])
 (.seq (.reg false [zg1 5 (.al [zo1] false),
 zn1 (.st (.t 5) (zi1 0) 1)] [0, 3, 5] [])
 (.seq (.reg false [zm1 6 0,
 zg1 7 (.mkf (.func 510) [] [(.t 3), (.t 5)]),
 zg1 8 (.call 440 [(.t 6), (.t 7)] false),
 zm1 4 8] [4] [])
 .ret))),
 [.tmp 4], false⟩
def lp509_0 : IC :=
 (.loop [0, 1, 7, 8] [] (.seq (.reg false [zg1 9 (.bin .lss (.t 8) (.t 7))] [0, 1, 7, 8, 9] [])
 (.seq (.cond (.t 9)
 .skip
 (.exit 0))
 (.seq (.block 1 (.seq (.reg false [zm1 10 8,
 zm1 5 10] [0, 1, 5, 7, 8] [])
 (.seq (.reg false [zm1 11 1,
 zm1 12 0,
 zm1 13 5,
 zg1 14 (.ixs (.t 12) (.t 13) 1),
 zg1 15 (.ld (.t 14) 1 false),
 zg1 16 (.callv (.t 11) [(.t 15)] false)] [0, 1, 5, 7, 8, 16] [])
 (.cond (.t 16)
 (.seq (.reg false [zm1 17 5,
 zm1 4 17] [4] [])
 .ret)
 .skip))))
 (.reg false [zg1 18 (.bin .add (.t 8) (zi1 1)),
 zm1 8 18] [0, 1, 7, 8] [])))))
def ir509 : IFn :=
⟨(.seq (.reg false [zg1 4 (.mov (zi1 0))] [0, 1] [])
 (.seq (.seq (.reg false [zm1 6 0,
 zg1 7 (.len (.t 6)),
 zg1 8 (.mov (zi1 0))] [0, 1, 7, 8] [])
 (.block 0 lp509_0))
 (.seq (.reg false [zg1 4 (.mov (zi1 (-1)))] [4] [])
 .ret))),
 [.tmp 4], false⟩
def ir510 : IFn :=
⟨(.seq (.reg false [zg1 3 (.bx (.t 0) 7 true),
 zg1 4 (.mov zF1)] [1, 2, 3] [3])
 (.seq (.seq (.reg false [zg1 5 (.off (.t 3) 0),
 zg1 6 (.ld (.t 5) 1 false),
 zg1 7 (.ld (.t 1) 1 false),
 zg1 8 (.bin .neq (.t 6) (.t 7))] [2, 3, 8] [3])
 (.cond (.t 8)
 (.seq (.reg false [zg1 4 (.mov zF1)] [4] [])
 .ret)
 .skip))
 (.seq (.reg false [zg1 9 (.ld (.t 2) 1 false),
 zg1 10 (.bin .add (.t 9) (zi1 1)),
 zn1 (.st (.t 2) (.t 10) 1)] [2, 3] [3])
 (.seq (.reg false [zg1 11 (.off (.t 3) 6),
 zg1 12 (.ld (.t 11) 1 false),
 zg1 13 (.ld (.t 2) 1 false),
 zg1 14 (.bin .sub (.t 13) (zi1 1)),
 zg1 15 (.bin .neq (.t 12) (.t 14)),
 zm1 4 15] [4] [])
 .ret)))),
 [.tmp 4], false⟩
end Go.EnvOf
