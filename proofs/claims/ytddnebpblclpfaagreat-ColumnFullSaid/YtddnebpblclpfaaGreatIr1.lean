/- The engine's instructions for the functions, part 1. -/
import Derived.Test.YtddnebpblclpfaaGreatEngAll2
namespace Go.EnvOf
open Go Go.Eng
set_option maxRecDepth 100000
abbrev zm1 (d n : Nat) : GIns := ⟨some d, none, .mov (.t n)⟩
abbrev zT1 : Arg := .c (.p (.bool true))
abbrev zF1 : Arg := .c (.p (.bool false))
abbrev zg1 (d : Nat) (i : Ins) : GIns := ⟨some d, none, i⟩
abbrev zf1 (d k : Nat) (i : Ins) : GIns := ⟨some d, some (k, false), i⟩
abbrev zt1 (d k : Nat) (i : Ins) : GIns := ⟨some d, some (k, true), i⟩
abbrev zn1 (i : Ins) : GIns := ⟨none, none, i⟩
abbrev zi1 (n : Int) : Arg := .c (.p (.int .i64 n))
abbrev zo1 : V := .p (.int .i64 0)
def ir109 : IFn :=   -- tympan/column.Cost$1
⟨(.seq (.reg false [zg1 2 (.mov (zi1 0))] [0, 1] [])
 (.seq (.reg false [zg1 3 (.off (.t 0) 5),
 zg1 4 (.ld (.t 3) 5 true),
 zg1 5 (.off (.t 1) 0),
 zg1 6 (.off (.t 5) 5),
 zg1 7 (.ld (.t 6) 1 false),
 zg1 8 (.off (.t 0) 3),
 zg1 9 (.ld (.t 8) 1 false),
 zg1 10 (.call 110 [(.t 4), (.t 7), (.t 9)] false),
 zm1 2 10] [2] [])
 .ret)),
 [.tmp 2], false⟩
def ir110 : IFn :=   -- tympan/gset.Bad
⟨(.seq (.reg false [zg1 3 (.bx (.t 0) 5 true),
 zg1 6 (.mov (zi1 0))] [1, 2, 3] [3])
 (.seq (.reg false [zm1 7 1,
 zg1 8 (.mnmx true (.t 7) (zi1 0)),
 zg1 9 (.mnmx false (.t 8) (zi1 1125899906842624)),
 zm1 1 9] [1, 2, 3] [3])
 (.seq (.seq (.reg false [zg1 10 (.off (.t 3) 0),
 zg1 11 (.ld (.t 10) 1 false)] [1, 2, 3, 11] [3])
 (.block 0 (.seq (.block 3 (.seq (.block 2 (.seq (.block 1 (.seq (.seq (.seq (.reg false [zg1 13 (.bin .eql (.t 11) (zi1 0)),
 zm1 12 13] [1, 2, 3, 11, 12] [3])
 (.cond (.t 12)
 (.exit 1)
 .skip))
 (.seq (.seq (.reg false [zg1 15 (.bin .eql (.t 11) (zi1 1)),
 zm1 14 15] [1, 3, 11, 14] [3])
 (.cond (.t 14)
 (.exit 2)
 .skip))
 (.seq (.reg false [zg1 17 (.bin .eql (.t 11) (zi1 2)),
 zm1 16 17] [3, 16] [3])
 (.cond (.t 16)
 (.exit 3)
 .skip))))
 (.exit 0)))
 (.seq (.seq (.seq (.reg false [zg1 18 (.off (.t 3) 4),
 zg1 19 (.ld (.t 18) 1 false),
 zg1 20 (.bin .eql (.t 19) (zi1 0)),
 zm1 21 20,
 zf1 22 21 (.mov (.t 2)),
 zg1 23 (.pick (.t 21) zT1 (.t 22))] [1, 3, 23] [3])
 (.cond (.t 23)
 (.seq (.reg false [zg1 6 (.mov (zi1 0))] [6] [])
 .ret)
 .skip))
 (.seq (.reg false [zg1 24 (.off (.t 3) 4),
 zg1 25 (.ld (.t 24) 1 false),
 zm1 26 1,
 zg1 27 (.call 192 [(.t 25), (.t 26)] false),
 zm1 6 27] [6] [])
 .ret))
 (.exit 0))))
 (.seq (.seq (.reg false [zg1 28 (.off (.t 3) 1),
 zg1 29 (.ld (.t 28) 1 false),
 zg1 30 (.bin .gtr (.t 29) (zi1 0))] [1, 3, 30] [3])
 (.cond (.t 30)
 (.seq (.reg false [zg1 6 (.mov (zi1 0))] [6] [])
 .ret)
 .skip))
 (.reg false [zg1 31 (.off (.t 3) 3),
 zg1 32 (.ld (.t 31) 1 false),
 zm1 33 1,
 zg1 34 (.bin .add (.t 32) (.t 33)),
 zg1 35 (.off (.t 3) 3),
 zn1 (.st (.t 35) (.t 34) 1)] [3] [3]))))
 (.seq (.seq (.reg false [zg1 36 (.off (.t 3) 2),
 zg1 37 (.ld (.t 36) 1 false),
 zg1 38 (.off (.t 3) 3),
 zg1 39 (.ld (.t 38) 1 false),
 zg1 40 (.call 192 [(.t 37), (.t 39)] false),
 zm1 6 40] [6] [])
 .ret)
 (.exit 0)))))
 (.seq (.reg false [zg1 6 (.mov (zi1 10000))] [6] [])
 .ret)))),
 [.tmp 6], false⟩
def ir111 : IFn :=   -- tympan/column.Cost$2
⟨(.seq (.reg false [zg1 3 (.mov (zi1 0))] [0, 1, 2] [])
 (.seq (.reg true [zg1 4 (.off (.t 0) 0),
 zg1 5 (.ld (.t 4) 19 true),
 zg1 6 (.ld (.t 1) 1 false),
 zg1 7 (.call 26 [(.t 6)] true),
 zg1 8 (.off (.t 2) 2),
 zg1 9 (.ld (.t 8) 1 false),
 zg1 10 (.call 112 [(.t 5), (.t 7), (.t 9)] false),
 zm1 3 10] [3] [])
 .ret)),
 [.tmp 3], false⟩
def ir112 : IFn :=   -- tympan/para.Of
⟨(.seq (.reg false [zg1 3 (.bx (.t 0) 19 true),
 zg1 6 (.mov (zi1 0))] [1, 2, 3] [3])
 (.seq (.reg false [zm1 11 1,
 zm1 12 2,
 zg1 13 (.call 193 [(.t 11), (.t 12)] false),
 zm1 10 13,
 zg1 14 (.ext (.t 10) 0),
 zg1 15 (.ext (.t 10) 1),
 zg1 7 (.al [zo1, zo1, zo1, zo1, zo1, zo1, zo1] true),
 zn1 (.st (.t 7) (.t 14) 7),
 zm1 8 15] [1, 2, 3, 7, 8] [3, 7])
 (.seq (.seq (.reg false [zm1 16 8,
 zg1 17 (.un .not (.t 16)),
 zm1 18 17,
 zf1 19 18 (.mov (.t 1)),
 zf1 20 18 (.mov (.t 2)),
 zf1 21 18 (.call 194 [(.t 19), (.t 20)] false),
 zf1 22 18 (.un .not (.t 21)),
 zg1 23 (.pick (.t 18) zT1 (.t 22)),
 zm1 24 23,
 zf1 25 24 (.ld (.t 7) 7 true),
 zf1 26 24 (.call 195 [(.t 25)] false),
 zg1 27 (.pick (.t 24) zT1 (.t 26))] [1, 2, 3, 7, 27] [3, 7])
 (.cond (.t 27)
 (.seq (.reg false [zg1 6 (.mov (zi1 0))] [6] [])
 .ret)
 .skip))
 (.seq (.reg false [zg1 9 (.mov (zi1 0))] [1, 2, 3, 7, 9] [3, 7])
 (.seq (.seq (.reg false [zg1 28 (.off (.t 7) 0),
 zg1 29 (.ld (.t 28) 1 false),
 zg1 30 (.bin .eql (.t 29) (zi1 3))] [1, 2, 3, 7, 9, 30] [3, 7])
 (.cond (.t 30)
 (.reg false [zg1 31 (.off (.t 7) 6),
 zg1 32 (.ld (.t 31) 1 false),
 zg1 33 (.mnmx true (.t 32) (zi1 0)),
 zm1 9 33] [1, 2, 3, 9] [3])
 .skip))
 (.seq (.seq (.reg false [zm1 34 1,
 zm1 35 2,
 zg1 36 (.call 196 [(.t 34), (.t 35)] false)] [1, 2, 3, 9, 36] [3])
 (.cond (.t 36)
 (.reg false [zm1 37 9,
 zg1 38 (.off (.t 3) 13),
 zg1 39 (.ld (.t 38) 1 false),
 zg1 40 (.mnmx true (.t 39) (zi1 0)),
 zg1 41 (.bin .add (.t 37) (.t 40)),
 zm1 9 41] [1, 2, 3, 9] [3])
 .skip))
 (.seq (.seq (.reg false [zm1 42 1,
 zm1 43 2,
 zg1 44 (.call 197 [(.t 42), (.t 43)] false)] [3, 9, 44] [3])
 (.cond (.t 44)
 (.reg false [zm1 45 9,
 zg1 46 (.off (.t 3) 14),
 zg1 47 (.ld (.t 46) 1 false),
 zg1 48 (.mnmx true (.t 47) (zi1 0)),
 zg1 49 (.bin .add (.t 45) (.t 48)),
 zm1 9 49] [9] [])
 .skip))
 (.seq (.reg false [zm1 50 9,
 zm1 6 50] [6] [])
 .ret)))))))),
 [.tmp 6], false⟩
def ir113 : IFn :=   -- tympan/column.Cost$3
⟨(.seq (.reg false [zg1 1 (.mov (zi1 0))] [0] [])
 (.seq (.reg false [zg1 2 (.off (.t 0) 0),
 zg1 3 (.off (.t 2) 17),
 zg1 4 (.ld (.t 3) 1 false),
 zm1 1 4] [1] [])
 .ret)),
 [.tmp 1], false⟩
def ir114 : IFn :=   -- tympan/column.Cost$4
⟨(.seq (.reg false [zg1 2 (.mov (zi1 0))] [0, 1] [])
 (.seq (.reg true [zg1 3 (.off (.t 0) 0),
 zg1 4 (.off (.t 3) 15),
 zg1 5 (.ld (.t 4) 1 false),
 zg1 6 (.ld (.t 0) 22 true),
 zg1 7 (.off (.t 1) 3),
 zg1 8 (.ld (.t 7) 1 false),
 zg1 9 (.call 115 [(.t 6), (.t 8)] true),
 zg1 10 (.bin .add (.t 5) (.t 9)),
 zm1 2 10] [2] [])
 .ret)),
 [.tmp 2], false⟩
def ir115 : IFn :=   -- tympan/column.torn
⟨(.seq (.reg false [zg1 2 (.bx (.t 0) 22 true),
 zg1 4 (.mov (zi1 0))] [1, 2] [2])
 (.seq (.reg false [zm1 6 1,
 zm1 7 1,
 zg1 8 (.len (.t 7)),
 zg1 9 (.bin .sub (.t 8) (zi1 1)),
 zg1 10 (.ixs (.t 6) (.t 9) 3),
 zg1 11 (.ld (.t 10) 3 true),
 zg1 5 (.al [zo1, zo1, zo1] true),
 zn1 (.st (.t 5) (.t 11) 3)] [2, 5] [2, 5])
 (.seq (.seq (.reg false [zg1 12 (.off (.t 5) 0),
 zg1 13 (.ld (.t 12) 1 false),
 zg1 14 (.bin .lss (.t 13) (zi1 0)),
 zm1 15 14,
 zf1 16 15 (.off (.t 5) 0),
 zf1 17 15 (.ld (.t 16) 1 false),
 zf1 18 15 (.off (.t 2) 20),
 zf1 19 15 (.ld (.t 18) 1 false),
 zf1 20 15 (.len (.t 19)),
 zf1 21 15 (.bin .geq (.t 17) (.t 20)),
 zg1 22 (.pick (.t 15) zT1 (.t 21))] [2, 5, 22] [2, 5])
 (.cond (.t 22)
 (.seq (.reg false [zg1 4 (.mov (zi1 0))] [4] [])
 .ret)
 .skip))
 (.seq (.reg true [zg1 23 (.off (.t 2) 20),
 zg1 24 (.ldl 2 (.t 23) 1 false),
 zg1 25 (.off (.t 5) 0),
 zg1 26 (.ldl 5 (.t 25) 1 false),
 zg1 27 (.ixs (.t 24) (.t 26) 2),
 zg1 28 (.ld (.t 27) 2 true),
 zg1 29 (.off (.t 5) 2),
 zg1 30 (.ldl 5 (.t 29) 1 false),
 zg1 31 (.call 198 [(.t 28), (.t 30)] false),
 zm1 4 31] [4] [])
 .ret)))),
 [.tmp 4], false⟩
def ir116 : IFn :=   -- tympan/column.Cost$5
⟨(.seq (.reg false [zg1 3 (.mov (zi1 0))] [0, 1, 2] [])
 (.seq (.reg true [zg1 4 (.off (.t 0) 0),
 zg1 5 (.off (.t 4) 16),
 zg1 6 (.ld (.t 5) 1 false),
 zg1 7 (.ld (.t 1) 1 false),
 zg1 8 (.ld (.t 2) 7 true),
 zg1 9 (.call 25 [(.t 7), (.t 8)] true),
 zg1 10 (.call 82 [(.t 9)] true),
 zg1 11 (.bin .mul (.t 6) (.t 10)),
 zm1 3 11] [3] [])
 .ret)),
 [.tmp 3], false⟩
def lp117_0 : IC :=
 (.loop [4, 5, 6, 14, 15, 16] [4] (.seq (.reg false [zg1 17 (.bin .lss (.t 16) (.t 15))] [4, 5, 6, 14, 15, 16, 17] [4])
 (.seq (.cond (.t 17)
 .skip
 (.exit 0))
 (.seq (.block 1 (.seq (.reg false [zg1 18 (.ixs (.t 14) (.t 16) 1),
 zg1 19 (.ld (.t 18) 1 false),
 zm1 8 19] [4, 5, 6, 8, 14, 15, 16] [4])
 (.reg false [zm1 20 6,
 zm1 21 8,
 zg1 22 (.bld [zo1, zo1] [(1, 1, (.t 21))]),
 zg1 23 (.callv (.t 20) [(.t 22)] false)] [4, 5, 6, 14, 15, 16] [4])))
 (.reg false [zg1 24 (.bin .add (.t 16) (zi1 1)),
 zm1 16 24] [4, 5, 6, 14, 15, 16] [4])))))
def ir117 : IFn :=   -- tympan/cost.Of
⟨(.seq (.reg false [zg1 4 (.al [zo1, zo1] true)] [0, 1, 4] [4])
 (.seq (.reg false [zg1 5 (.al [zo1, zo1] false)] [0, 1, 4, 5] [4])
 (.seq (.reg false [zg1 9 (.mkf (.func 199) [(.t 5)] []),
 zm1 6 9] [0, 1, 4, 5, 6] [4])
 (.seq (.seq (.reg false [zm1 10 0] [1, 4, 5, 6, 10] [4])
 (.cond (.t 10)
 (.reg false [zm1 11 6,
 zg1 12 (.bld [zo1, zo1] [(0, 1, (zi1 1))]),
 zg1 13 (.callv (.t 11) [(.t 12)] false)] [1, 4, 5, 6] [4])
 .skip))
 (.seq (.seq (.reg false [zm1 14 1,
 zg1 15 (.len (.t 14)),
 zg1 16 (.mov (zi1 0))] [4, 5, 6, 14, 15, 16] [4])
 (.block 0 lp117_0))
 (.seq (.reg false [zg1 25 (.call 200 [(.t 5)] false),
 zn1 (.st (.t 4) (.t 25) 2)] [4] [4])
 .ret)))))),
 [.cell 4 2 true], false⟩
def lp118_0 : IC :=
 (.loop [0, 7, 16, 17, 18] [] (.seq (.reg false [zg1 19 (.bin .lss (.t 18) (.t 17))] [0, 7, 16, 17, 18, 19] [])
 (.seq (.cond (.t 19)
 .skip
 (.exit 0))
 (.seq (.block 1 (.seq (.reg false [zg1 20 (.ixs (.t 16) (.t 18) 3),
 zg1 21 (.ld (.t 20) 3 true),
 zg1 9 (.al [zo1, zo1, zo1] true),
 zn1 (.st (.t 9) (.t 21) 3)] [0, 7, 9, 16, 17, 18] [9])
 (.seq (.reg false [zg1 22 (.off (.t 9) 0),
 zg1 23 (.ld (.t 22) 1 false),
 zg1 24 (.bin .geq (.t 23) (zi1 0)),
 zm1 25 24,
 zt1 26 25 (.off (.t 9) 0),
 zt1 27 25 (.ld (.t 26) 1 false),
 zt1 28 25 (.mov (.t 0)),
 zt1 29 25 (.len (.t 28)),
 zt1 30 25 (.bin .lss (.t 27) (.t 29)),
 zg1 31 (.pick (.t 25) (.t 30) zF1)] [0, 7, 9, 16, 17, 18, 31] [9])
 (.cond (.t 31)
 (.reg true [zm1 32 7,
 zm1 33 0,
 zg1 34 (.off (.t 9) 0),
 zg1 35 (.ldl 9 (.t 34) 1 false),
 zg1 36 (.ixs (.t 33) (.t 35) 2),
 zg1 37 (.ld (.t 36) 2 true),
 zg1 38 (.off (.t 9) 1),
 zg1 39 (.ldl 9 (.t 38) 1 false),
 zg1 40 (.off (.t 9) 2),
 zg1 41 (.ldl 9 (.t 40) 1 false),
 zg1 42 (.call 201 [(.t 37), (.t 39), (.t 41)] false),
 zg1 43 (.bin .add (.t 32) (.t 42)),
 zg1 44 (.mnmx false (.t 43) (zi1 1125899906842624)),
 zm1 7 44] [0, 7, 16, 17, 18] [])
 .skip))))
 (.reg false [zg1 45 (.bin .add (.t 18) (zi1 1)),
 zm1 18 45] [0, 7, 16, 17, 18] [])))))
def ir118 : IFn :=   -- tympan/split.High
⟨(.seq (.reg false [zg1 6 (.mov (zi1 0))] [0, 1, 2] [])
 (.seq (.seq (.reg false [zm1 10 1,
 zg1 11 (.len (.t 10)),
 zg1 12 (.bin .eql (.t 11) (zi1 0))] [0, 1, 2, 12] [])
 (.cond (.t 12)
 (.seq (.reg false [zg1 6 (.mov (zi1 0))] [6] [])
 .ret)
 .skip))
 (.seq (.reg false [zm1 13 2,
 zg1 14 (.mnmx true (.t 13) (zi1 0)),
 zg1 15 (.mnmx false (.t 14) (zi1 1125899906842624)),
 zm1 7 15] [0, 1, 7] [])
 (.seq (.seq (.reg false [zm1 16 1,
 zg1 17 (.len (.t 16)),
 zg1 18 (.mov (zi1 0))] [0, 7, 16, 17, 18] [])
 (.block 0 lp118_0))
 (.seq (.reg false [zm1 46 7,
 zm1 6 46] [6] [])
 .ret))))),
 [.tmp 6], false⟩
def ir119 : IFn :=   -- tympan/area.High
⟨(.seq (.reg false [zg1 3 (.bx (.t 0) 19 true),
 zg1 5 (.bx (.t 2) 2 true),
 zg1 6 (.mov (zi1 0))] [1, 3, 5] [3, 5])
 (.seq (.reg true [zm1 7 1,
 zg1 8 (.off (.t 5) 0),
 zg1 9 (.ldl 5 (.t 8) 1 false),
 zg1 10 (.off (.t 3) 7),
 zg1 11 (.ldl 3 (.t 10) 1 false),
 zg1 12 (.call 128 [(.t 7), (.t 9), (.t 11)] false),
 zm1 13 1,
 zg1 14 (.off (.t 5) 1),
 zg1 15 (.ldl 5 (.t 14) 1 false),
 zg1 16 (.off (.t 3) 7),
 zg1 17 (.ldl 3 (.t 16) 1 false),
 zg1 18 (.call 128 [(.t 13), (.t 15), (.t 17)] false),
 zg1 19 (.bin .add (.t 12) (.t 18)),
 zm1 6 19] [6] [])
 .ret)),
 [.tmp 6], false⟩
def ir120 : IFn :=   -- tympan/area.Stack
⟨(.seq (.reg false [zg1 3 (.bx (.t 0) 19 true),
 zg1 6 (.mov (zi1 0))] [1, 2, 3] [3])
 (.seq (.reg false [zm1 8 1,
 zm1 9 2,
 zg1 10 (.off (.t 3) 7),
 zg1 11 (.ld (.t 10) 1 false),
 zg1 12 (.call 128 [(.t 8), (.t 9), (.t 11)] false),
 zm1 7 12] [3, 7] [3])
 (.seq (.seq (.reg false [zm1 13 7,
 zg1 14 (.bin .eql (.t 13) (zi1 0))] [3, 7, 14] [3])
 (.cond (.t 14)
 (.seq (.reg false [zg1 6 (.mov (zi1 0))] [6] [])
 .ret)
 .skip))
 (.seq (.reg false [zm1 15 7,
 zg1 16 (.off (.t 3) 7),
 zg1 17 (.ld (.t 16) 1 false),
 zg1 18 (.mnmx true (.t 17) (zi1 0)),
 zg1 19 (.mnmx false (.t 18) (zi1 1125899906842624)),
 zg1 20 (.bin .sub (.t 15) (.t 19)),
 zm1 6 20] [6] [])
 .ret)))),
 [.tmp 6], false⟩
def ir121 : IFn :=   -- tympan/column.last
⟨(.seq (.reg false [zg1 3 (.bx (.t 1) 6 true),
 zg1 4 (.mov zF1)] [0, 3] [3])
 (.seq (.seq (.reg false [zg1 7 (.off (.t 3) 0),
 zg1 8 (.ld (.t 7) 1 false),
 zg1 9 (.bin .neq (.t 8) (zi1 1))] [0, 3, 9] [3])
 (.cond (.t 9)
 (.seq (.reg false [zg1 4 (.mov zF1)] [4] [])
 .ret)
 .skip))
 (.seq (.prep [5] (.reg true [zm1 11 0,
 zg1 12 (.call 26 [(.t 11)] false),
 zg1 13 (.off (.t 3) 2),
 zg1 14 (.ldl 3 (.t 13) 1 false),
 zg1 15 (.call 193 [(.t 12), (.t 14)] false),
 zm1 10 15,
 zg1 16 (.ext (.t 10) 0),
 zg1 17 (.ext (.t 10) 1),
 zg1 5 (.alp [zo1, zo1, zo1, zo1, zo1, zo1, zo1]),
 zn1 (.stl 5 (.t 5) (.t 16) 7),
 zm1 6 17] [0, 3, 5, 6] [3, 5]))
 (.seq (.reg true [zg1 18 (.off (.t 3) 2),
 zg1 19 (.ldl 3 (.t 18) 1 false),
 zm1 20 0,
 zg1 21 (.call 26 [(.t 20)] false),
 zg1 22 (.call 78 [(.t 21)] false),
 zg1 23 (.bin .eql (.t 19) (.t 22)),
 zm1 24 23,
 zf1 25 24 (.mov (.t 6)),
 zf1 26 24 (.mov (.t 25)),
 zt1 27 26 (.off (.t 3) 2),
 zt1 28 26 (.ldl 3 (.t 27) 1 false),
 zt1 29 26 (.bin .gtr (.t 28) (zi1 0)),
 zf1 30 24 (.pick (.t 26) (.t 29) zF1),
 zf1 31 24 (.mov (.t 30)),
 zt1 32 31 (.ldl 5 (.t 5) 7 true),
 zt1 33 31 (.call 195 [(.t 32)] false),
 zf1 34 24 (.pick (.t 31) (.t 33) zF1),
 zg1 35 (.pick (.t 24) zT1 (.t 34)),
 zm1 4 35] [4] [])
 .ret)))),
 [.tmp 4], false⟩
def ir122 : IFn :=   -- tympan/gset.Of
⟨(.seq (.reg false [zg1 3 (.bx (.t 0) 6 true),
 zg1 6 (.al [zo1, zo1, zo1, zo1, zo1] true)] [1, 2, 3, 6] [3, 6])
 (.seq (.seq (.reg false [zg1 9 (.ld (.t 3) 6 true),
 zm1 10 1,
 zg1 11 (.call 202 [(.t 9), (.t 10)] false),
 zg1 12 (.un .not (.t 11))] [1, 2, 3, 6, 12] [3, 6])
 (.cond (.t 12)
 (.seq (.reg false [zg1 13 (.bld [zo1, zo1, zo1, zo1, zo1] []),
 zn1 (.st (.t 6) (.t 13) 5)] [6] [6])
 .ret)
 .skip))
 (.seq (.reg true [zm1 14 1,
 zg1 15 (.off (.t 3) 0),
 zg1 16 (.ldl 3 (.t 15) 1 false),
 zg1 17 (.bin .sub (.t 14) (.t 16)),
 zg1 18 (.ldl 3 (.t 3) 6 true),
 zg1 19 (.call 203 [(.t 18)] false),
 zm1 7 17,
 zm1 8 19] [2, 3, 6, 7, 8] [3, 6])
 (.seq (.block 0 (.seq (.reg false [zm1 21 7,
 zg1 22 (.bin .eql (.t 21) (zi1 0)),
 zm1 20 22] [2, 3, 6, 7, 8, 20] [3, 6])
 (.cond (.t 20)
 (.seq (.reg false [zg1 23 (.bld [zo1, zo1, zo1, zo1, zo1] []),
 zn1 (.st (.t 6) (.t 23) 5)] [6] [6])
 .ret)
 (.seq (.reg false [zm1 25 7,
 zg1 26 (.bin .gtr (.t 25) (zi1 0)),
 zm1 27 26,
 zt1 28 27 (.mov (.t 8)),
 zt1 29 27 (.off (.t 3) 1),
 zt1 30 27 (.ixa (.t 29) (.t 28) 1 4),
 zt1 31 27 (.ld (.t 30) 1 false),
 zt1 32 27 (.bin .gtr (.t 31) (zi1 0)),
 zg1 33 (.pick (.t 27) (.t 32) zF1),
 zm1 34 33,
 zt1 35 34 (.mov (.t 2)),
 zt1 36 34 (.mov (.t 35)),
 zt1 37 36 (.mov (.t 8)),
 zt1 38 36 (.bin .eql (.t 37) (zi1 0)),
 zt1 39 34 (.pick (.t 36) (.t 38) zF1),
 zt1 40 34 (.un .not (.t 39)),
 zg1 41 (.pick (.t 34) (.t 40) zF1),
 zm1 24 41] [3, 6, 7, 8, 24] [3, 6])
 (.cond (.t 24)
 (.seq (.reg false [zm1 42 8,
 zm1 43 7,
 zm1 44 8,
 zg1 45 (.off (.t 3) 1),
 zg1 46 (.ixa (.t 45) (.t 44) 1 4),
 zg1 47 (.ld (.t 46) 1 false),
 zg1 48 (.bld [zo1, zo1, zo1, zo1, zo1] [(0, 1, (zi1 1)), (1, 1, (.t 42)), (2, 1, (.t 43)), (3, 1, (.t 47))]),
 zn1 (.st (.t 6) (.t 48) 5)] [6] [6])
 .ret)
 (.seq (.reg false [zm1 50 7,
 zg1 51 (.bin .gtr (.t 50) (zi1 0)),
 zm1 49 51] [3, 6, 7, 49] [3, 6])
 (.cond (.t 49)
 (.seq (.reg false [zm1 52 7,
 zg1 53 (.bld [zo1, zo1, zo1, zo1, zo1] [(4, 1, (.t 52))]),
 zn1 (.st (.t 6) (.t 53) 5)] [6] [6])
 .ret)
 (.seq (.reg false [zg1 55 (.off (.t 3) 5),
 zg1 56 (.ld (.t 55) 1 false),
 zm1 57 7,
 zg1 58 (.bin .add (.t 56) (.t 57)),
 zg1 59 (.bin .geq (.t 58) (zi1 0)),
 zm1 54 59] [3, 6, 7, 54] [3, 6])
 (.cond (.t 54)
 (.seq (.reg false [zm1 60 7,
 zg1 61 (.un .neg (.t 60)),
 zg1 62 (.off (.t 3) 5),
 zg1 63 (.ld (.t 62) 1 false),
 zg1 64 (.bld [zo1, zo1, zo1, zo1, zo1] [(0, 1, (zi1 2)), (2, 1, (.t 61)), (3, 1, (.t 63))]),
 zn1 (.st (.t 6) (.t 64) 5)] [6] [6])
 .ret)
 .skip)))))))))
 (.seq (.reg false [zg1 65 (.off (.t 3) 5),
 zg1 66 (.ld (.t 65) 1 false),
 zg1 67 (.off (.t 3) 5),
 zg1 68 (.ld (.t 67) 1 false),
 zg1 69 (.off (.t 3) 5),
 zg1 70 (.ld (.t 69) 1 false),
 zm1 71 7,
 zg1 72 (.bin .add (.t 70) (.t 71)),
 zg1 73 (.bld [zo1, zo1, zo1, zo1, zo1] [(0, 1, (zi1 3)), (2, 1, (.t 66)), (3, 1, (.t 68)), (4, 1, (.t 72))]),
 zn1 (.st (.t 6) (.t 73) 5)] [6] [6])
 .ret))))),
 [.cell 6 5 true], false⟩
def ir123 : IFn :=   -- (*tympan/sums.Sums).Of
⟨(.seq (.reg false [zg1 6 (.al [zo1, zo1, zo1, zo1, zo1, zo1] true)] [0, 1, 2, 6] [6])
 (.seq (.reg false [zm1 11 0,
 zm1 12 1,
 zm1 13 2,
 zg1 14 (.call 204 [(.t 11), (.t 12), (.t 13)] false),
 zm1 10 14,
 zg1 15 (.ext (.t 10) 0),
 zg1 16 (.ext (.t 10) 1),
 zg1 17 (.ext (.t 10) 2),
 zm1 1 15,
 zm1 2 16,
 zm1 7 17] [0, 1, 2, 6, 7] [6])
 (.seq (.seq (.reg false [zm1 18 7,
 zg1 19 (.un .not (.t 18))] [0, 1, 2, 6, 19] [6])
 (.cond (.t 19)
 (.seq (.reg false [zg1 20 (.bld [zo1, zo1, zo1, zo1, zo1, zo1] []),
 zn1 (.st (.t 6) (.t 20) 6)] [6] [6])
 .ret)
 .skip))
 (.seq (.prep [8] (.reg true [zm1 22 0,
 zg1 23 (.nck (.t 22)),
 zg1 24 (.off (.t 23) 1),
 zg1 25 (.ld (.t 24) 1 false),
 zm1 26 2,
 zg1 27 (.ixs (.t 25) (.t 26) 6),
 zg1 28 (.ld (.t 27) 6 true),
 zm1 29 0,
 zg1 30 (.nck (.t 29)),
 zg1 31 (.off (.t 30) 1),
 zg1 32 (.ld (.t 31) 1 false),
 zm1 33 1,
 zg1 34 (.ixs (.t 32) (.t 33) 6),
 zg1 35 (.ld (.t 34) 6 true),
 zg1 36 (.call 205 [(.t 28), (.t 35)] false),
 zm1 21 36,
 zg1 37 (.ext (.t 21) 0),
 zg1 38 (.ext (.t 21) 1),
 zg1 8 (.alp [zo1, zo1, zo1, zo1, zo1, zo1]),
 zn1 (.stl 8 (.t 8) (.t 37) 6),
 zm1 9 38] [6, 8] [6, 8]))
 (.seq (.reg false [zg1 39 (.ld (.t 8) 6 true),
 zn1 (.st (.t 6) (.t 39) 6)] [6] [6])
 .ret))))),
 [.cell 6 6 true], false⟩
def lp128_0 : IC :=
 (.loop [0, 2, 7, 8, 13, 14, 15] [] (.seq (.reg false [zg1 16 (.bin .lss (.t 15) (.t 14))] [0, 2, 7, 8, 13, 14, 15, 16] [])
 (.seq (.cond (.t 16)
 .skip
 (.exit 0))
 (.seq (.block 1 (.seq (.reg false [zg1 17 (.ixs (.t 13) (.t 15) 1),
 zg1 18 (.ld (.t 17) 1 false),
 zm1 10 18] [0, 2, 7, 8, 10, 13, 14, 15] [])
 (.seq (.reg false [zm1 20 0,
 zm1 21 10,
 zg1 22 (.call 155 [(.t 20), (.t 21)] false),
 zm1 19 22,
 zg1 23 (.ext (.t 19) 0),
 zg1 24 (.ext (.t 19) 1),
 zg1 11 (.al [zo1, zo1, zo1] true),
 zn1 (.st (.t 11) (.t 23) 3),
 zm1 12 24] [0, 2, 7, 8, 11, 12, 13, 14, 15] [11])
 (.seq (.reg false [zm1 25 12] [0, 2, 7, 8, 11, 13, 14, 15, 25] [11])
 (.cond (.t 25)
 (.reg false [zm1 26 7,
 zm1 27 8,
 zm1 28 7,
 zg1 29 (.off (.t 11) 1),
 zg1 30 (.ld (.t 29) 1 false),
 zg1 31 (.callv (.t 28) [(.t 30)] false),
 zg1 32 (.bin .add (.t 27) (.t 31)),
 zm1 33 7,
 zm1 34 2,
 zg1 35 (.callv (.t 33) [(.t 34)] false),
 zg1 36 (.bin .add (.t 32) (.t 35)),
 zg1 37 (.callv (.t 26) [(.t 36)] false),
 zm1 8 37] [0, 2, 7, 8, 13, 14, 15] [])
 .skip)))))
 (.reg false [zg1 38 (.bin .add (.t 15) (zi1 1)),
 zm1 15 38] [0, 2, 7, 8, 13, 14, 15] [])))))
def ir128 : IFn :=   -- tympan/figure.High
⟨(.seq (.reg false [zg1 6 (.mov (zi1 0))] [0, 1, 2] [])
 (.seq (.reg false [zg1 7 (.mov (.c (.p (.fn 212))))] [0, 1, 2, 7] [])
 (.seq (.reg false [zg1 8 (.mov (zi1 0))] [0, 1, 2, 7, 8] [])
 (.seq (.seq (.reg false [zm1 13 1,
 zg1 14 (.len (.t 13)),
 zg1 15 (.mov (zi1 0))] [0, 2, 7, 8, 13, 14, 15] [])
 (.block 0 lp128_0))
 (.seq (.reg false [zm1 39 8,
 zm1 6 39] [6] [])
 .ret))))),
 [.tmp 6], false⟩
def lp142_0 : IC :=
 (.loop [1, 7, 8, 9] [1] (.seq (.reg false [zg1 10 (.bin .lss (.t 9) (.t 8))] [1, 7, 8, 9, 10] [1])
 (.seq (.cond (.t 10)
 .skip
 (.exit 0))
 (.seq (.block 1 (.seq (.reg false [zg1 11 (.ixs (.t 7) (.t 9) 2),
 zg1 12 (.ld (.t 11) 2 true),
 zg1 5 (.al [zo1, .p .nilf] true),
 zn1 (.st (.t 5) (.t 12) 2)] [1, 5, 7, 8, 9] [1, 5])
 (.seq (.reg false [zg1 13 (.off (.t 5) 1),
 zg1 14 (.ld (.t 13) 1 false),
 zg1 15 (.ld (.t 1) 22 true),
 zg1 16 (.callv (.t 14) [(.t 15)] false),
 zm1 6 16] [1, 5, 6, 7, 8, 9] [1, 5])
 (.seq (.reg false [zm1 17 6,
 zg1 18 (.bin .geq (.t 17) (zi1 0))] [1, 5, 6, 7, 8, 9, 18] [1, 5])
 (.cond (.t 18)
 (.seq (.reg false [zg1 19 (.off (.t 5) 0),
 zg1 20 (.ld (.t 19) 1 false),
 zm1 21 6,
 zm1 2 20,
 zm1 3 21] [2, 3] [])
 .ret)
 .skip)))))
 (.reg false [zg1 22 (.bin .add (.t 9) (zi1 1)),
 zm1 9 22] [1, 7, 8, 9] [1])))))
def ir142 : IFn :=   -- tympan/valid.Check
⟨(.seq (.reg false [zg1 1 (.bx (.t 0) 22 true),
 zg1 2 (.mov (zi1 0)),
 zg1 3 (.mov (zi1 0))] [1] [1])
 (.seq (.seq (.reg false [zg1 7 (.call 221 [] false),
 zg1 8 (.len (.t 7)),
 zg1 9 (.mov (zi1 0))] [1, 7, 8, 9] [1])
 (.block 0 lp142_0))
 (.seq (.reg false [zg1 2 (.mov (zi1 0)),
 zg1 3 (.mov (zi1 0))] [2, 3] [])
 .ret))),
 [.tmp 2, .tmp 3], false⟩
def ir143 : IFn :=   -- slices.Clone[[]tympan/api.Item,tympan/api.Item]
⟨(.seq (.reg false [zg1 2 (.mov (.c (.nils)))] [0] [])
 (.seq (.seq (.reg false [zm1 3 0,
 zg1 4 (.eqn .sl false (.t 3))] [0, 4] [])
 (.cond (.t 4)
 (.seq (.reg false [zg1 2 (.mov (.c (.nils)))] [2] [])
 .ret)
 .skip))
 (.seq (.reg false [zg1 5 (.bsl 7 0 [zo1, zo1, zo1, zo1, zo1, zo1, zo1] []),
 zm1 6 0,
 zg1 7 (.app (.t 5) (.t 6) 7),
 zm1 2 7] [2] [])
 .ret))),
 [.tmp 2], true⟩
def ir144 : IFn :=   -- slices.Clone[[]tympan/api.Float,tympan/api.Float]
⟨(.seq (.reg false [zg1 2 (.mov (.c (.nils)))] [0] [])
 (.seq (.seq (.reg false [zm1 3 0,
 zg1 4 (.eqn .sl false (.t 3))] [0, 4] [])
 (.cond (.t 4)
 (.seq (.reg false [zg1 2 (.mov (.c (.nils)))] [2] [])
 .ret)
 .skip))
 (.seq (.reg false [zg1 5 (.bsl 3 0 [zo1, zo1, zo1] []),
 zm1 6 0,
 zg1 7 (.app (.t 5) (.t 6) 3),
 zm1 2 7] [2] [])
 .ret))),
 [.tmp 2], true⟩
def ir145 : IFn :=   -- slices.Clone[[]tympan/api.Sp,tympan/api.Sp]
⟨(.seq (.reg false [zg1 2 (.mov (.c (.nils)))] [0] [])
 (.seq (.seq (.reg false [zm1 3 0,
 zg1 4 (.eqn .sl false (.t 3))] [0, 4] [])
 (.cond (.t 4)
 (.seq (.reg false [zg1 2 (.mov (.c (.nils)))] [2] [])
 .ret)
 .skip))
 (.seq (.reg false [zg1 5 (.bsl 1 0 [zo1] []),
 zm1 6 0,
 zg1 7 (.app (.t 5) (.t 6) 1),
 zm1 2 7] [2] [])
 .ret))),
 [.tmp 2], true⟩
def ir146 : IFn :=   -- slices.Clone[[]int,int]
⟨(.seq (.reg false [zg1 2 (.mov (.c (.nils)))] [0] [])
 (.seq (.seq (.reg false [zm1 3 0,
 zg1 4 (.eqn .sl false (.t 3))] [0, 4] [])
 (.cond (.t 4)
 (.seq (.reg false [zg1 2 (.mov (.c (.nils)))] [2] [])
 .ret)
 .skip))
 (.seq (.reg false [zg1 5 (.bsl 1 0 [zo1] []),
 zm1 6 0,
 zg1 7 (.app (.t 5) (.t 6) 1),
 zm1 2 7] [2] [])
 .ret))),
 [.tmp 2], true⟩
def lp147_0 : IC :=
 (.loop [2, 5, 11, 12] [2] (.seq (.reg false [zg1 13 (.bin .lss (.t 12) (.t 11))] [2, 5, 11, 12, 13] [2])
 (.seq (.cond (.t 13)
 .skip
 (.exit 0))
 (.seq (.block 1 (.seq (.reg false [zm1 14 12,
 zm1 6 14] [2, 5, 6, 11, 12] [2])
 (.seq (.reg false [zm1 15 5,
 zm1 16 6,
 zg1 17 (.ixs (.t 15) (.t 16) 7),
 zm1 7 17] [2, 5, 7, 11, 12] [2])
 (.seq (.reg false [zm1 18 7,
 zg1 19 (.nck (.t 18)),
 zg1 20 (.off (.t 19) 0),
 zg1 21 (.ld (.t 20) 1 false)] [2, 5, 7, 11, 12, 21] [2])
 (.block 2 (.seq (.reg false [zg1 23 (.bin .eql (.t 21) (zi1 1)),
 zm1 22 23] [2, 5, 7, 11, 12, 21, 22] [2])
 (.cond (.t 22)
 (.reg true [zg1 24 (.ldl 2 (.t 2) 1 true),
 zm1 25 7,
 zg1 26 (.nck (.t 25)),
 zg1 27 (.off (.t 26) 1),
 zg1 28 (.bsl 1 1 [.p .nilp] [(0, (.t 27))]),
 zg1 29 (.call 149 [(.t 24), (.c (.p (.fn 151))), (.t 28)] false)] [2, 5, 11, 12] [2])
 (.seq (.reg false [zg1 31 (.bin .eql (.t 21) (zi1 2)),
 zm1 30 31] [2, 5, 7, 11, 12, 30] [2])
 (.cond (.t 30)
 (.seq (.reg true [zg1 32 (.ldl 2 (.t 2) 1 true),
 zm1 33 7,
 zg1 34 (.nck (.t 33)),
 zg1 35 (.off (.t 34) 1),
 zg1 36 (.bsl 1 1 [.p .nilp] [(0, (.t 35))]),
 zg1 37 (.call 149 [(.t 32), (.c (.p (.fn 222))), (.t 36)] false)] [2, 5, 7, 11, 12] [2])
 (.reg false [zm1 38 7,
 zm1 39 7,
 zm1 40 7,
 zg1 41 (.nck (.t 38)),
 zg1 42 (.off (.t 41) 3),
 zn1 (.st (.t 42) (zi1 0) 1),
 zg1 43 (.nck (.t 39)),
 zg1 44 (.off (.t 43) 4),
 zn1 (.st (.t 44) (zi1 0) 1),
 zg1 45 (.nck (.t 40)),
 zg1 46 (.off (.t 45) 5),
 zn1 (.st (.t 46) (zi1 0) 1)] [2, 5, 11, 12] [2]))
 .skip)))))))))
 (.reg false [zg1 47 (.bin .add (.t 12) (zi1 1)),
 zm1 12 47] [2, 5, 11, 12] [2])))))
def ir147 : IFn :=   -- (tympan/grid.snapper).items
⟨(.seq (.reg false [zg1 2 (.bx (.t 0) 1 true),
 zg1 4 (.mov (.c (.nils)))] [1, 2] [2])
 (.seq (.reg false [zm1 8 1,
 zg1 9 (.call 143 [(.t 8)] false),
 zm1 5 9] [2, 5] [2])
 (.seq (.seq (.reg false [zm1 10 5,
 zg1 11 (.len (.t 10)),
 zg1 12 (.mov (zi1 0))] [2, 5, 11, 12] [2])
 (.block 0 lp147_0))
 (.seq (.reg false [zm1 48 5,
 zm1 4 48] [4] [])
 .ret)))),
 [.tmp 4], false⟩
def lp148_0 : IC :=
 (.loop [2, 5, 6, 12, 13, 14, 34, 35] [2] (.seq (.reg false [zg1 36 (.bin .lss (.t 35) (.t 34))] [2, 5, 6, 12, 13, 14, 34, 35, 36] [2])
 (.seq (.cond (.t 36)
 .skip
 (.exit 2))
 (.seq (.block 3 (.seq (.reg false [zm1 37 35,
 zm1 8 37] [2, 5, 6, 8, 12, 13, 14, 34, 35] [2])
 (.reg true [zg1 38 (.ldl 2 (.t 2) 1 true),
 zm1 39 5,
 zm1 40 6,
 zg1 41 (.ixs (.t 39) (.t 40) 2),
 zg1 42 (.off (.t 41) 0),
 zg1 43 (.ld (.t 42) 1 false),
 zm1 44 8,
 zg1 45 (.ixs (.t 43) (.t 44) 1),
 zg1 46 (.bsl 1 1 [.p .nilp] [(0, (.t 45))]),
 zg1 47 (.call 149 [(.t 38), (.c (.p (.fn 151))), (.t 46)] false)] [2, 5, 6, 12, 13, 14, 34, 35] [2])))
 (.reg false [zg1 48 (.bin .add (.t 35) (zi1 1)),
 zm1 35 48] [2, 5, 6, 12, 13, 14, 34, 35] [2])))))
def lp148_1 : IC :=
 (.loop [2, 5, 12, 13, 14] [2] (.seq (.reg false [zg1 15 (.bin .lss (.t 14) (.t 13))] [2, 5, 12, 13, 14, 15] [2])
 (.seq (.cond (.t 15)
 .skip
 (.exit 0))
 (.seq (.block 1 (.seq (.reg false [zm1 16 14,
 zg1 17 (.ixs (.t 12) (.t 14) 2),
 zg1 18 (.ld (.t 17) 2 true),
 zg1 7 (.al [.nils, .nils] true),
 zm1 6 16,
 zn1 (.st (.t 7) (.t 18) 2)] [2, 5, 6, 7, 12, 13, 14] [2, 7])
 (.seq (.reg true [zm1 19 5,
 zm1 20 6,
 zg1 21 (.off (.t 7) 0),
 zg1 22 (.ldl 7 (.t 21) 1 false),
 zg1 23 (.call 145 [(.t 22)] false),
 zg1 24 (.off (.t 7) 1),
 zg1 25 (.ldl 7 (.t 24) 1 false),
 zg1 26 (.call 146 [(.t 25)] false),
 zg1 27 (.bld [.nils, .nils] [(0, 1, (.t 23)), (1, 1, (.t 26))]),
 zg1 28 (.ixs (.t 19) (.t 20) 2),
 zn1 (.st (.t 28) (.t 27) 2)] [2, 5, 6, 12, 13, 14] [2])
 (.seq (.reg false [zm1 29 5,
 zm1 30 6,
 zg1 31 (.ixs (.t 29) (.t 30) 2),
 zg1 32 (.off (.t 31) 0),
 zg1 33 (.ld (.t 32) 1 false),
 zg1 34 (.len (.t 33)),
 zg1 35 (.mov (zi1 0))] [2, 5, 6, 12, 13, 14, 34, 35] [2])
 (.block 2 lp148_0)))))
 (.reg false [zg1 49 (.bin .add (.t 14) (zi1 1)),
 zm1 14 49] [2, 5, 12, 13, 14] [2])))))
def ir148 : IFn :=   -- (tympan/grid.snapper).notes
⟨(.seq (.reg false [zg1 2 (.bx (.t 0) 1 true),
 zg1 4 (.mov (.c (.nils)))] [1, 2] [2])
 (.seq (.reg false [zm1 9 1,
 zg1 10 (.len (.t 9)),
 zg1 11 (.mks 2 [.nils, .nils] (.t 10)),
 zm1 5 11] [1, 2, 5] [2])
 (.seq (.seq (.reg false [zm1 12 1,
 zg1 13 (.len (.t 12)),
 zg1 14 (.mov (zi1 0))] [2, 5, 12, 13, 14] [2])
 (.block 0 lp148_1))
 (.seq (.reg false [zm1 50 5,
 zm1 4 50] [4] [])
 .ret)))),
 [.tmp 4], false⟩
def lp149_0 : IC :=
 (.loop [1, 3, 8, 9, 10] [3] (.seq (.reg false [zg1 11 (.bin .lss (.t 10) (.t 9))] [1, 3, 8, 9, 10, 11] [3])
 (.seq (.cond (.t 11)
 .skip
 (.exit 0))
 (.seq (.block 1 (.seq (.reg false [zg1 12 (.ixs (.t 8) (.t 10) 1),
 zg1 13 (.ld (.t 12) 1 false),
 zm1 7 13] [1, 3, 7, 8, 9, 10] [3])
 (.reg true [zm1 14 7,
 zm1 15 1,
 zm1 16 7,
 zg1 17 (.nck (.t 16)),
 zg1 18 (.ld (.t 17) 1 false),
 zg1 19 (.off (.t 3) 0),
 zg1 20 (.ldl 3 (.t 19) 1 false),
 zg1 21 (.callv (.t 15) [(.t 18), (.t 20)] false),
 zg1 22 (.nck (.t 14)),
 zn1 (.st (.t 22) (.t 21) 1)] [1, 3, 8, 9, 10] [3])))
 (.reg false [zg1 23 (.bin .add (.t 10) (zi1 1)),
 zm1 10 23] [1, 3, 8, 9, 10] [3])))))
def ir149 : IFn :=   -- (tympan/grid.snapper).turn
⟨(.seq (.reg false [zg1 3 (.bx (.t 0) 1 true)] [1, 2, 3] [3])
 (.seq (.reg false [zm1 8 2,
 zg1 9 (.len (.t 8)),
 zg1 10 (.mov (zi1 0))] [1, 3, 8, 9, 10] [3])
 (.block 0 lp149_0))),
 [], false⟩
def ir150 : IFn :=   -- tympan/grid.Down
⟨(.seq (.reg false [zg1 4 (.mov (zi1 0))] [0, 1] [])
 (.seq (.reg false [zm1 5 0,
 zm1 6 1,
 zg1 7 (.call 223 [(.t 5), (.t 6), (.c (.p (.fn 224)))] false),
 zm1 4 7] [4] [])
 .ret)),
 [.tmp 4], false⟩
def ir151 : IFn :=   -- tympan/grid.Up
⟨(.seq (.reg false [zg1 4 (.mov (zi1 0))] [0, 1] [])
 (.seq (.reg false [zm1 5 0,
 zm1 6 1,
 zg1 7 (.call 223 [(.t 5), (.t 6), (.c (.p (.fn 225)))] false),
 zm1 4 7] [4] [])
 .ret)),
 [.tmp 4], false⟩
def ir152 : IFn :=   -- tympan/item.Total
⟨(.seq (.reg false [zg1 1 (.bx (.t 0) 7 true),
 zg1 2 (.al [zo1, zo1, zo1, zo1, zo1, zo1] true)] [1, 2] [1, 2])
 (.seq (.seq (.reg false [zg1 3 (.off (.t 1) 0),
 zg1 4 (.ld (.t 3) 1 false)] [1, 2, 4] [1, 2])
 (.block 0 (.seq (.reg false [zg1 6 (.bin .eql (.t 4) (zi1 1)),
 zm1 5 6] [1, 2, 4, 5] [1, 2])
 (.cond (.t 5)
 (.seq (.reg false [zg1 7 (.off (.t 1) 1),
 zg1 8 (.ld (.t 7) 1 false),
 zg1 9 (.call 226 [(.t 8)] false),
 zn1 (.st (.t 2) (.t 9) 6)] [2] [2])
 .ret)
 (.seq (.reg false [zg1 11 (.bin .eql (.t 4) (zi1 2)),
 zm1 10 11] [1, 2, 10] [1, 2])
 (.cond (.t 10)
 (.seq (.reg false [zg1 12 (.off (.t 1) 1),
 zg1 13 (.ld (.t 12) 1 false),
 zg1 14 (.off (.t 1) 3),
 zg1 15 (.ld (.t 14) 1 false),
 zg1 16 (.off (.t 1) 4),
 zg1 17 (.ld (.t 16) 1 false),
 zg1 18 (.off (.t 1) 5),
 zg1 19 (.ld (.t 18) 1 false),
 zg1 20 (.call 227 [(.t 13), (.t 15), (.t 17), (.t 19)] false),
 zn1 (.st (.t 2) (.t 20) 6)] [2] [2])
 .ret)
 .skip))))))
 (.seq (.reg false [zg1 21 (.bld [zo1, zo1, zo1, zo1, zo1, zo1] []),
 zn1 (.st (.t 2) (.t 21) 6)] [2] [2])
 .ret))),
 [.cell 2 6 true], false⟩
def lp153_0 : IC :=
 (.loop [1, 3, 5] [1] (.seq (.reg false [zg1 6 (.bin .lss (.t 5) (zi1 4))] [1, 3, 5, 6] [1])
 (.seq (.cond (.t 6)
 .skip
 (.exit 0))
 (.seq (.block 1 (.seq (.reg false [zm1 7 5,
 zm1 4 7] [1, 3, 4, 5] [1])
 (.seq (.reg false [zm1 8 3,
 zm1 9 4,
 zg1 10 (.off (.t 1) 1),
 zg1 11 (.ixa (.t 10) (.t 9) 1 4),
 zg1 12 (.ld (.t 11) 1 false),
 zg1 13 (.callv (.t 8) [(.t 12)] false),
 zg1 14 (.un .not (.t 13))] [1, 3, 5, 14] [1])
 (.cond (.t 14)
 (.seq (.reg false [zg1 2 (.mov zF1)] [2] [])
 .ret)
 .skip))))
 (.reg false [zg1 15 (.bin .add (.t 5) (zi1 1)),
 zm1 5 15] [1, 3, 5] [1])))))
def ir153 : IFn :=   -- tympan/sums.fair
⟨(.seq (.reg false [zg1 1 (.bx (.t 0) 6 true),
 zg1 2 (.mov zF1)] [1] [1])
 (.seq (.reg false [zg1 3 (.mov (.c (.p (.fn 228))))] [1, 3] [1])
 (.seq (.seq (.reg false [zg1 5 (.mov (zi1 0))] [1, 3, 5] [1])
 (.block 0 lp153_0))
 (.seq (.reg false [zm1 16 3,
 zg1 17 (.off (.t 1) 0),
 zg1 18 (.ld (.t 17) 1 false),
 zg1 19 (.callv (.t 16) [(.t 18)] false),
 zm1 20 19,
 zt1 21 20 (.mov (.t 3)),
 zt1 22 20 (.off (.t 1) 5),
 zt1 23 20 (.ld (.t 22) 1 false),
 zt1 24 20 (.callv (.t 21) [(.t 23)] false),
 zg1 25 (.pick (.t 20) (.t 24) zF1),
 zm1 2 25] [2] [])
 .ret)))),
 [.tmp 2], false⟩
def ir154 : IFn :=   -- tympan/total.Add
⟨(.seq (.reg false [zg1 2 (.bx (.t 0) 6 true),
 zg1 3 (.bx (.t 1) 6 true),
 zg1 4 (.al [zo1, zo1, zo1, zo1, zo1, zo1] true),
 zg1 5 (.mov zF1)] [2, 3, 4] [2, 3, 4])
 (.seq (.reg false [zg1 6 (.ld (.t 2) 6 true),
 zg1 7 (.ld (.t 3) 6 true),
 zg1 8 (.call 229 [(.t 6), (.t 7), (.c (.p (.fn 230)))] false),
 zg1 9 (.ext (.t 8) 0),
 zg1 10 (.ext (.t 8) 1),
 zn1 (.st (.t 4) (.t 9) 6),
 zm1 5 10] [4, 5] [4])
 .ret)),
 [.cell 4 6 true, .tmp 5], false⟩
def ir155 : IFn :=   -- tympan/figure.At
⟨(.seq (.reg false [zg1 4 (.al [zo1, zo1, zo1] true),
 zg1 5 (.mov zF1)] [0, 1, 4] [4])
 (.seq (.seq (.reg false [zm1 6 1,
 zg1 7 (.bin .lss (.t 6) (zi1 0)),
 zm1 8 7,
 zf1 9 8 (.mov (.t 1)),
 zf1 10 8 (.mov (.t 0)),
 zf1 11 8 (.len (.t 10)),
 zf1 12 8 (.bin .geq (.t 9) (.t 11)),
 zg1 13 (.pick (.t 8) zT1 (.t 12))] [0, 1, 4, 13] [4])
 (.cond (.t 13)
 (.seq (.reg false [zg1 14 (.bld [zo1, zo1, zo1] []),
 zn1 (.st (.t 4) (.t 14) 3),
 zg1 5 (.mov zF1)] [4, 5] [4])
 .ret)
 .skip))
 (.seq (.reg false [zm1 15 0,
 zm1 16 1,
 zg1 17 (.ixs (.t 15) (.t 16) 3),
 zg1 18 (.ld (.t 17) 3 true),
 zn1 (.st (.t 4) (.t 18) 3),
 zg1 5 (.mov zT1)] [4, 5] [4])
 .ret))),
 [.cell 4 3 true, .tmp 5], false⟩
def ir156 : IFn :=   -- (*tympan/anchor.Map).place
⟨(.seq (.reg false [zg1 4 (.mov (zi1 0)),
 zg1 5 (.mov zF1)] [0, 1] [])
 (.seq (.seq (.reg false [zm1 6 0,
 zg1 7 (.eqn .ptr false (.t 6))] [0, 1, 7] [])
 (.cond (.t 7)
 (.seq (.reg false [zg1 4 (.mov (zi1 0)),
 zg1 5 (.mov zF1)] [4, 5] [])
 .ret)
 .skip))
 (.seq (.reg false [zm1 8 1,
 zg1 9 (.mnmx true (.t 8) (zi1 0)),
 zm1 10 0,
 zg1 11 (.nck (.t 10)),
 zg1 12 (.off (.t 11) 0),
 zg1 13 (.ld (.t 12) 1 false),
 zg1 14 (.len (.t 13)),
 zg1 15 (.mnmx false (.t 9) (.t 14)),
 zm1 4 15,
 zg1 5 (.mov zT1)] [4, 5] [])
 .ret))),
 [.tmp 4, .tmp 5], false⟩
def ir157 : IFn :=   -- tympan/tympanref14.Down
⟨(.seq (.reg false [zg1 4 (.mov (zi1 0))] [0, 1] [])
 (.seq (.reg false [zm1 5 0,
 zm1 6 1,
 zg1 7 (.call 232 [(.t 5), (.t 6)] false),
 zm1 8 0,
 zg1 9 (.call 231 [(.t 7), (.t 8)] false),
 zm1 4 9] [4] [])
 .ret)),
 [.tmp 4], false⟩
def ir158 : IFn :=   -- tympan/tympanref14.Up
⟨(.seq (.reg false [zg1 4 (.mov (zi1 0))] [0, 1] [])
 (.seq (.reg false [zm1 5 0,
 zm1 6 1,
 zg1 7 (.call 233 [(.t 5), (.t 6)] false),
 zm1 8 0,
 zg1 9 (.call 231 [(.t 7), (.t 8)] false),
 zm1 4 9] [4] [])
 .ret)),
 [.tmp 4], false⟩
def ir159 : IFn :=   -- tympan/tympanref14.item
⟨(.seq (.reg false [zg1 2 (.bx (.t 0) 7 true),
 zg1 4 (.al [zo1, zo1, zo1, zo1, zo1, zo1, zo1] true)] [1, 2, 4] [2, 4])
 (.seq (.seq (.reg false [zg1 5 (.off (.t 2) 0),
 zg1 6 (.ld (.t 5) 1 false),
 zg1 7 (.bin .eql (.t 6) (zi1 1))] [1, 2, 4, 7] [2, 4])
 (.cond (.t 7)
 (.reg false [zg1 8 (.off (.t 2) 1),
 zg1 9 (.ld (.t 8) 1 false),
 zm1 10 1,
 zg1 11 (.call 158 [(.t 9), (.t 10)] false),
 zg1 12 (.off (.t 2) 1),
 zn1 (.st (.t 12) (.t 11) 1)] [1, 2, 4] [2, 4])
 .skip))
 (.seq (.seq (.reg false [zg1 13 (.off (.t 2) 0),
 zg1 14 (.ld (.t 13) 1 false),
 zg1 15 (.bin .eql (.t 14) (zi1 2))] [1, 2, 4, 15] [2, 4])
 (.cond (.t 15)
 (.seq (.reg false [zg1 16 (.off (.t 2) 1),
 zg1 17 (.ld (.t 16) 1 false),
 zm1 18 1,
 zg1 19 (.call 234 [(.t 17), (.t 18)] false),
 zg1 20 (.off (.t 2) 1),
 zn1 (.st (.t 20) (.t 19) 1)] [2, 4] [2, 4])
 (.seq (.reg false [zg1 21 (.off (.t 2) 3),
 zn1 (.st (.t 21) (zi1 0) 1)] [2, 4] [2, 4])
 (.seq (.reg false [zg1 22 (.off (.t 2) 4),
 zn1 (.st (.t 22) (zi1 0) 1)] [2, 4] [2, 4])
 (.reg false [zg1 23 (.off (.t 2) 5),
 zn1 (.st (.t 23) (zi1 0) 1)] [2, 4] [2, 4]))))
 .skip))
 (.seq (.reg false [zg1 24 (.ld (.t 2) 7 true),
 zn1 (.st (.t 4) (.t 24) 7)] [4] [4])
 .ret)))),
 [.cell 4 7 true], false⟩
def lp160_0 : IC :=
 (.loop [0, 2, 7] [] (.seq (.seq (.reg false [zm1 9 7,
 zm1 10 0,
 zg1 11 (.call 78 [(.t 10)] false),
 zg1 12 (.bin .leq (.t 9) (.t 11))] [0, 2, 7, 12] [])
 (.cond (.t 12)
 .skip
 (.exit 0)))
 (.seq (.block 1 (.seq (.reg false [zm1 15 2,
 zm1 16 7,
 zg1 17 (.callv (.t 15) [(.t 16)] false)] [0, 2, 7, 17] [])
 (.cond (.t 17)
 (.seq (.reg false [zm1 18 7,
 zm1 6 18] [6] [])
 .ret)
 .skip)))
 (.reg false [zm1 13 7,
 zg1 14 (.bin .add (.t 13) (zi1 1)),
 zm1 7 14] [0, 2, 7] []))))
def ir160 : IFn :=   -- (*tympan/vlist.List).seek
⟨(.seq (.reg false [zg1 6 (.mov (zi1 0))] [0, 1, 2] [])
 (.seq (.seq (.reg false [zm1 8 1,
 zm1 7 8] [0, 2, 7] [])
 (.block 0 lp160_0))
 (.seq (.reg false [zg1 6 (.mov (zi1 (-1)))] [6] [])
 .ret))),
 [.tmp 6], false⟩
def ir161 : IFn :=   -- (*tympan/vlist.List).stays
⟨(.seq (.reg false [zg1 4 (.mov zF1)] [0, 1] [])
 (.seq (.reg false [zm1 8 0,
 zm1 9 1,
 zg1 10 (.call 193 [(.t 8), (.t 9)] false),
 zm1 7 10,
 zg1 11 (.ext (.t 7) 0),
 zg1 12 (.ext (.t 7) 1),
 zg1 5 (.al [zo1, zo1, zo1, zo1, zo1, zo1, zo1] true),
 zn1 (.st (.t 5) (.t 11) 7),
 zm1 6 12] [5, 6] [5])
 (.seq (.reg false [zm1 13 6,
 zg1 14 (.un .not (.t 13)),
 zm1 15 14,
 zf1 16 15 (.ld (.t 5) 7 true),
 zf1 17 15 (.call 235 [(.t 16)] false),
 zf1 18 15 (.un .not (.t 17)),
 zg1 19 (.pick (.t 15) zT1 (.t 18)),
 zm1 4 19] [4] [])
 .ret))),
 [.tmp 4], false⟩
def lp162_0 : IC :=
 (.loop [2, 3, 4, 5, 8, 9, 11] [4, 5, 8, 9] (.seq (.reg false [zg1 12 (.bin .lss (.t 11) (zi1 3))] [2, 3, 4, 5, 8, 9, 11, 12] [4, 5, 8, 9])
 (.seq (.cond (.t 12)
 .skip
 (.exit 0))
 (.seq (.block 1 (.seq (.reg false [zm1 13 11,
 zm1 10 13] [2, 3, 4, 5, 8, 9, 10, 11] [4, 5, 8, 9])
 (.reg true [zm1 14 10,
 zm1 15 3,
 zm1 16 10,
 zg1 17 (.ixa (.t 4) (.t 16) 1 3),
 zg1 18 (.ldl 4 (.t 17) 1 false),
 zm1 19 2,
 zg1 20 (.call 172 [(.t 18), (.t 19), (zi1 1073741824)] false),
 zm1 21 10,
 zg1 22 (.ixa (.t 5) (.t 21) 1 3),
 zg1 23 (.ldl 5 (.t 22) 1 false),
 zm1 24 2,
 zg1 25 (.call 172 [(.t 23), (.t 24), (zi1 1073741824)] false),
 zg1 26 (.callv (.t 15) [(.t 20), (.t 25)] false),
 zm1 27 2,
 zg1 28 (.call 172 [(.t 26), (.t 27), (zi1 1073741824)] false),
 zg1 29 (.ixa (.t 9) (.t 14) 1 3),
 zn1 (.stl 9 (.t 29) (.t 28) 1)] [2, 3, 4, 5, 8, 9, 11] [4, 5, 8, 9])))
 (.reg false [zg1 30 (.bin .add (.t 11) (zi1 1)),
 zm1 11 30] [2, 3, 4, 5, 8, 9, 11] [4, 5, 8, 9])))))
def ir162 : IFn :=   -- tympan/queue.zip
⟨(.seq (.reg false [zg1 4 (.bx (.t 0) 3 true),
 zg1 5 (.bx (.t 1) 3 true),
 zg1 8 (.al [zo1, zo1, zo1] true)] [2, 3, 4, 5, 8] [4, 5, 8])
 (.seq (.reg false [zg1 9 (.al [zo1, zo1, zo1] true)] [2, 3, 4, 5, 8, 9] [4, 5, 8, 9])
 (.seq (.seq (.reg false [zg1 11 (.mov (zi1 0))] [2, 3, 4, 5, 8, 9, 11] [4, 5, 8, 9])
 (.block 0 lp162_0))
 (.seq (.reg false [zg1 31 (.ld (.t 9) 3 true),
 zn1 (.st (.t 8) (.t 31) 3)] [8] [8])
 .ret)))),
 [.cell 8 3 true], false⟩
def ir163 : IFn :=   -- (tympan/queue.Counts).Add$1
⟨(.seq (.reg false [zg1 4 (.mov (zi1 0))] [0, 1] [])
 (.seq (.reg false [zm1 5 0,
 zm1 6 1,
 zg1 7 (.bin .add (.t 5) (.t 6)),
 zm1 4 7] [4] [])
 .ret)),
 [.tmp 4], false⟩
def ir171 : IFn :=   -- tympan/note.May
⟨(.seq (.reg false [zg1 2 (.bx (.t 0) 2 true),
 zg1 4 (.mov zF1)] [1, 2] [2])
 (.seq (.reg false [zg1 5 (.ld (.t 2) 2 true),
 zm1 6 1,
 zg1 7 (.call 238 [(.t 5), (.t 6)] false),
 zm1 4 7] [4] [])
 .ret)),
 [.tmp 4], false⟩
def ir172 : IFn :=   -- tympan/queue.held
⟨(.seq (.reg false [zg1 6 (.mov (zi1 0))] [0, 1, 2] [])
 (.seq (.reg false [zm1 7 0,
 zm1 8 1,
 zg1 9 (.mnmx true (.t 7) (.t 8)),
 zm1 10 2,
 zg1 11 (.mnmx false (.t 9) (.t 10)),
 zm1 6 11] [6] [])
 .ret)),
 [.tmp 6], false⟩
def ir173 : IFn :=   -- tympan/queue.Ready$1
⟨(.seq (.reg false [zg1 4 (.mov (zi1 0))] [0, 1] [])
 (.seq (.reg false [zm1 5 1,
 zm1 6 0,
 zg1 7 (.bin .sub (.t 5) (.t 6)),
 zm1 4 7] [4] [])
 .ret)),
 [.tmp 4], false⟩
def ir174 : IFn :=   -- tympan/tympanref10.Long
⟨(.seq (.reg false [zg1 2 (.mov zF1)] [0] [])
 (.seq (.reg false [zm1 3 0,
 zg1 4 (.bin .geq (.t 3) (zi1 0)),
 zm1 5 4,
 zt1 6 5 (.mov (.t 0)),
 zt1 7 5 (.bin .leq (.t 6) (zi1 1073741823)),
 zg1 8 (.pick (.t 5) (.t 7) zF1),
 zm1 2 8] [2] [])
 .ret)),
 [.tmp 2], false⟩
def ir177 : IFn :=   -- tympan/cost.add[int]
⟨(.seq (.reg false [zg1 4 (.mov (zi1 0))] [0, 1] [])
 (.seq (.reg false [zg1 5 (.mov (.c (.p (.fn 240))))] [0, 1, 5] [])
 (.seq (.reg false [zm1 6 5,
 zm1 7 5,
 zm1 8 0,
 zg1 9 (.callv (.t 7) [(.t 8)] false),
 zm1 10 5,
 zm1 11 1,
 zg1 12 (.callv (.t 10) [(.t 11)] false),
 zg1 13 (.bin .add (.t 9) (.t 12)),
 zg1 14 (.callv (.t 6) [(.t 13)] false),
 zm1 4 14] [4] [])
 .ret))),
 [.tmp 4], false⟩
def ir178 : IFn :=   -- tympan/cost.add[int64]
⟨(.seq (.reg false [zg1 4 (.mov (zi1 0))] [0, 1] [])
 (.seq (.reg false [zg1 5 (.mov (.c (.p (.fn 241))))] [0, 1, 5] [])
 (.seq (.reg false [zm1 6 5,
 zm1 7 5,
 zm1 8 0,
 zg1 9 (.callv (.t 7) [(.t 8)] false),
 zm1 10 5,
 zm1 11 1,
 zg1 12 (.callv (.t 10) [(.t 11)] false),
 zg1 13 (.bin .add (.t 9) (.t 12)),
 zg1 14 (.callv (.t 6) [(.t 13)] false),
 zm1 4 14] [4] [])
 .ret))),
 [.tmp 4], false⟩
def ir192 : IFn :=   -- tympan/bad.Of
⟨(.seq (.reg false [zg1 4 (.mov (zi1 0))] [0, 1] [])
 (.seq (.reg false [zm1 5 0,
 zm1 6 1,
 zg1 7 (.call 251 [(.t 5), (.t 6)] false),
 zg1 8 (.call 250 [(.t 7)] false),
 zm1 4 8] [4] [])
 .ret)),
 [.tmp 4], false⟩
def ir193 : IFn :=   -- (*tympan/vlist.List).At
⟨(.seq (.reg false [zg1 4 (.al [zo1, zo1, zo1, zo1, zo1, zo1, zo1] true),
 zg1 5 (.mov zF1)] [0, 1, 4] [4])
 (.seq (.seq (.reg false [zm1 6 1,
 zg1 7 (.bin .lss (.t 6) (zi1 0)),
 zm1 8 7,
 zf1 9 8 (.mov (.t 1)),
 zf1 10 8 (.mov (.t 0)),
 zf1 11 8 (.call 78 [(.t 10)] false),
 zf1 12 8 (.bin .geq (.t 9) (.t 11)),
 zg1 13 (.pick (.t 8) zT1 (.t 12))] [0, 1, 4, 13] [4])
 (.cond (.t 13)
 (.seq (.reg false [zg1 14 (.bld [zo1, zo1, zo1, zo1, zo1, zo1, zo1] []),
 zn1 (.st (.t 4) (.t 14) 7),
 zg1 5 (.mov zF1)] [4, 5] [4])
 .ret)
 .skip))
 (.seq (.reg false [zm1 15 0,
 zg1 16 (.nck (.t 15)),
 zg1 17 (.off (.t 16) 0),
 zg1 18 (.ld (.t 17) 1 false),
 zm1 19 1,
 zg1 20 (.ixs (.t 18) (.t 19) 7),
 zg1 21 (.ld (.t 20) 7 true),
 zn1 (.st (.t 4) (.t 21) 7),
 zg1 5 (.mov zT1)] [4, 5] [4])
 .ret))),
 [.cell 4 7 true, .tmp 5], false⟩
def ir194 : IFn :=   -- (*tympan/vlist.List).May
⟨(.seq (.reg false [zg1 4 (.mov zF1)] [0, 1] [])
 (.seq (.reg false [zm1 8 0,
 zm1 9 1,
 zg1 10 (.call 193 [(.t 8), (.t 9)] false),
 zm1 7 10,
 zg1 11 (.ext (.t 7) 0),
 zg1 12 (.ext (.t 7) 1),
 zg1 5 (.al [zo1, zo1, zo1, zo1, zo1, zo1, zo1] true),
 zn1 (.st (.t 5) (.t 11) 7),
 zm1 6 12] [0, 1, 5, 6] [5])
 (.seq (.block 0 (.seq (.reg false [zm1 14 1,
 zg1 15 (.bin .lss (.t 14) (zi1 1)),
 zm1 16 15,
 zf1 17 16 (.mov (.t 1)),
 zf1 18 16 (.mov (.t 0)),
 zf1 19 16 (.call 78 [(.t 18)] false),
 zf1 20 16 (.bin .gtr (.t 17) (.t 19)),
 zg1 21 (.pick (.t 16) zT1 (.t 20)),
 zm1 13 21] [0, 1, 5, 6, 13] [5])
 (.cond (.t 13)
 (.seq (.reg false [zg1 4 (.mov zF1)] [4] [])
 .ret)
 (.seq (.reg false [zm1 23 6,
 zg1 24 (.un .not (.t 23)),
 zm1 22 24] [0, 1, 5, 22] [5])
 (.cond (.t 22)
 (.seq (.reg false [zg1 4 (.mov zT1)] [4] [])
 .ret)
 (.seq (.reg false [zg1 26 (.off (.t 5) 0),
 zg1 27 (.ld (.t 26) 1 false),
 zg1 28 (.bin .eql (.t 27) (zi1 2)),
 zm1 25 28] [0, 1, 5, 25] [5])
 (.cond (.t 25)
 (.seq (.reg false [zm1 29 0,
 zg1 30 (.nck (.t 29)),
 zg1 31 (.off (.t 30) 0),
 zg1 32 (.ld (.t 31) 1 false),
 zm1 33 1,
 zg1 34 (.bin .sub (.t 33) (zi1 1)),
 zg1 35 (.ixs (.t 32) (.t 34) 7),
 zg1 36 (.ld (.t 35) 7 true),
 zg1 37 (.call 235 [(.t 36)] false),
 zg1 38 (.un .not (.t 37)),
 zm1 4 38] [4] [])
 .ret)
 .skip)))))))
 (.seq (.reg false [zg1 39 (.off (.t 5) 0),
 zg1 40 (.ld (.t 39) 1 false),
 zg1 41 (.bin .eql (.t 40) (zi1 3)),
 zm1 42 41,
 zt1 43 42 (.ld (.t 5) 7 true),
 zt1 44 42 (.call 252 [(.t 43)] false),
 zt1 45 42 (.un .not (.t 44)),
 zg1 46 (.pick (.t 42) (.t 45) zF1),
 zm1 4 46] [4] [])
 .ret)))),
 [.tmp 4], false⟩
def ir195 : IFn :=   -- tympan/item.Forces
⟨(.seq (.reg false [zg1 1 (.bx (.t 0) 7 true),
 zg1 2 (.mov zF1)] [1] [1])
 (.seq (.reg false [zg1 3 (.off (.t 1) 0),
 zg1 4 (.ld (.t 3) 1 false),
 zg1 5 (.bin .eql (.t 4) (zi1 3)),
 zm1 6 5,
 zt1 7 6 (.off (.t 1) 6),
 zt1 8 6 (.ld (.t 7) 1 false),
 zt1 9 6 (.bin .leq (.t 8) (zi1 (-10000))),
 zg1 10 (.pick (.t 6) (.t 9) zF1),
 zm1 2 10] [2] [])
 .ret)),
 [.tmp 2], false⟩
def ir196 : IFn :=   -- tympan/para.Club
⟨(.seq (.reg false [zg1 4 (.mov zF1)] [0, 1] [])
 (.seq (.reg false [zm1 5 0,
 zg1 6 (.call 253 [(.t 5), (zi1 1)] false),
 zm1 7 0,
 zm1 8 1,
 zg1 9 (.call 254 [(.t 7), (.t 8)] false),
 zg1 10 (.callv (.t 6) [(.t 9)] false),
 zm1 4 10] [4] [])
 .ret)),
 [.tmp 4], false⟩
def ir197 : IFn :=   -- tympan/para.Widow
⟨(.seq (.reg false [zg1 4 (.mov zF1)] [0, 1] [])
 (.seq (.reg false [zm1 5 0,
 zg1 6 (.call 253 [(.t 5), (zi1 2)] false),
 zm1 7 0,
 zm1 8 1,
 zg1 9 (.call 255 [(.t 7), (.t 8)] false),
 zg1 10 (.callv (.t 6) [(.t 9)] false),
 zm1 4 10] [4] [])
 .ret)),
 [.tmp 4], false⟩
def ir198 : IFn :=   -- tympan/note.Pen
⟨(.seq (.reg false [zg1 2 (.bx (.t 0) 2 true),
 zg1 4 (.mov (zi1 0))] [1, 2] [2])
 (.seq (.seq (.reg false [zg1 5 (.ld (.t 2) 2 true),
 zm1 6 1,
 zg1 7 (.call 256 [(.t 5), (.t 6)] false)] [1, 2, 7] [2])
 (.cond (.t 7)
 (.seq (.reg false [zg1 8 (.off (.t 2) 1),
 zg1 9 (.ld (.t 8) 1 false),
 zm1 10 1,
 zg1 11 (.bin .sub (.t 10) (zi1 1)),
 zg1 12 (.ixs (.t 9) (.t 11) 1),
 zg1 13 (.ld (.t 12) 1 false),
 zm1 4 13] [4] [])
 .ret)
 .skip))
 (.seq (.reg false [zg1 4 (.mov (zi1 0))] [4] [])
 .ret))),
 [.tmp 4], false⟩
def ir199 : IFn :=   -- (*tympan/cost.Sum).Put
⟨(.seq (.reg false [zg1 3 (.bx (.t 1) 2 true)] [0, 3] [3])
 (.seq (.reg false [zm1 4 0,
 zg1 5 (.eqn .ptr true (.t 4))] [0, 3, 5] [3])
 (.cond (.t 5)
 (.reg true [zm1 6 0,
 zm1 7 0,
 zg1 8 (.nck (.t 7)),
 zg1 9 (.off (.t 8) 0),
 zg1 10 (.ld (.t 9) 2 true),
 zg1 11 (.ldl 3 (.t 3) 2 true),
 zg1 12 (.call 98 [(.t 10), (.t 11)] false),
 zg1 13 (.nck (.t 6)),
 zg1 14 (.off (.t 13) 0),
 zn1 (.st (.t 14) (.t 12) 2)] [] [])
 .skip))),
 [], false⟩
def ir200 : IFn :=   -- (*tympan/cost.Sum).Cost
⟨(.seq (.reg false [zg1 2 (.al [zo1, zo1] true)] [0, 2] [2])
 (.seq (.seq (.reg false [zm1 3 0,
 zg1 4 (.eqn .ptr false (.t 3))] [0, 2, 4] [2])
 (.cond (.t 4)
 (.seq (.reg false [zg1 5 (.bld [zo1, zo1] []),
 zn1 (.st (.t 2) (.t 5) 2)] [2] [2])
 .ret)
 .skip))
 (.seq (.reg false [zm1 6 0,
 zg1 7 (.nck (.t 6)),
 zg1 8 (.off (.t 7) 0),
 zg1 9 (.ld (.t 8) 2 true),
 zn1 (.st (.t 2) (.t 9) 2)] [2] [2])
 .ret))),
 [.cell 2 2 true], false⟩
def lp201_0 : IC :=
 (.loop [2, 3, 7, 8] [3] (.seq (.seq (.reg false [zm1 17 8,
 zm1 18 2,
 zg1 19 (.bin .lss (.t 17) (.t 18))] [2, 3, 7, 8, 19] [3])
 (.cond (.t 19)
 .skip
 (.exit 0)))
 (.seq (.block 1 (.reg false [zm1 22 7,
 zg1 23 (.off (.t 3) 0),
 zg1 24 (.ld (.t 23) 1 false),
 zm1 25 8,
 zg1 26 (.ixs (.t 24) (.t 25) 1),
 zg1 27 (.ld (.t 26) 1 false),
 zg1 28 (.mnmx true (.t 27) (zi1 0)),
 zg1 29 (.mnmx false (.t 28) (zi1 1125899906842624)),
 zg1 30 (.bin .add (.t 22) (.t 29)),
 zg1 31 (.mnmx false (.t 30) (zi1 1125899906842624)),
 zm1 7 31] [2, 3, 7, 8] [3]))
 (.reg false [zm1 20 8,
 zg1 21 (.bin .add (.t 20) (zi1 1)),
 zm1 8 21] [2, 3, 7, 8] [3]))))
def ir201 : IFn :=   -- tympan/note.High
⟨(.seq (.reg false [zg1 3 (.bx (.t 0) 2 true),
 zg1 6 (.mov (zi1 0))] [1, 2, 3] [3])
 (.seq (.reg true [zm1 9 1,
 zg1 10 (.mnmx true (.t 9) (zi1 0)),
 zm1 11 2,
 zg1 12 (.off (.t 3) 0),
 zg1 13 (.ldl 3 (.t 12) 1 false),
 zg1 14 (.len (.t 13)),
 zg1 15 (.mnmx false (.t 11) (.t 14)),
 zm1 1 10,
 zm1 2 15] [1, 2, 3] [3])
 (.seq (.reg false [zg1 7 (.mov (zi1 0))] [1, 2, 3, 7] [3])
 (.seq (.seq (.reg false [zm1 16 1,
 zm1 8 16] [2, 3, 7, 8] [3])
 (.block 0 lp201_0))
 (.seq (.reg false [zm1 32 7,
 zm1 6 32] [6] [])
 .ret))))),
 [.tmp 6], false⟩
def ir202 : IFn :=   -- tympan/gset.Right
⟨(.seq (.reg false [zg1 2 (.bx (.t 0) 6 true),
 zg1 4 (.mov zF1)] [1, 2] [2])
 (.seq (.reg false [zg1 5 (.ld (.t 2) 6 true),
 zg1 6 (.call 209 [(.t 5)] false),
 zm1 7 6,
 zt1 8 7 (.mov (.t 1)),
 zt1 9 7 (.bin .geq (.t 8) (zi1 (-1125899906842624))),
 zg1 10 (.pick (.t 7) (.t 9) zF1),
 zm1 11 10,
 zt1 12 11 (.mov (.t 1)),
 zt1 13 11 (.bin .leq (.t 12) (zi1 1125899906842624)),
 zg1 14 (.pick (.t 11) (.t 13) zF1),
 zm1 4 14] [4] [])
 .ret)),
 [.tmp 4], false⟩
def lp203_0 : IC :=
 (.loop [1, 3] [1] (.seq (.seq (.reg false [zm1 4 3,
 zg1 5 (.bin .gtr (.t 4) (zi1 0))] [1, 3, 5] [1])
 (.cond (.t 5)
 .skip
 (.exit 0)))
 (.seq (.block 1 (.seq (.reg false [zm1 8 3,
 zg1 9 (.off (.t 1) 1),
 zg1 10 (.ixa (.t 9) (.t 8) 1 4),
 zg1 11 (.ld (.t 10) 1 false),
 zg1 12 (.bin .neq (.t 11) (zi1 0))] [1, 3, 12] [1])
 (.cond (.t 12)
 (.seq (.reg false [zm1 13 3,
 zm1 2 13] [2] [])
 .ret)
 .skip)))
 (.reg false [zm1 6 3,
 zg1 7 (.bin .sub (.t 6) (zi1 1)),
 zm1 3 7] [1, 3] [1]))))
def ir203 : IFn :=   -- tympan/total.Order
⟨(.seq (.reg false [zg1 1 (.bx (.t 0) 6 true),
 zg1 2 (.mov (zi1 0))] [1] [1])
 (.seq (.seq (.reg false [zg1 3 (.mov (zi1 3))] [1, 3] [1])
 (.block 0 lp203_0))
 (.seq (.reg false [zg1 2 (.mov (zi1 0))] [2] [])
 .ret))),
 [.tmp 2], false⟩
def ir204 : IFn :=   -- (*tympan/sums.Sums).within
⟨(.seq (.reg false [zg1 6 (.mov (zi1 0)),
 zg1 7 (.mov (zi1 0)),
 zg1 8 (.mov zF1)] [0, 1, 2] [])
 (.seq (.reg false [zm1 9 1,
 zg1 10 (.mnmx true (.t 9) (zi1 0)),
 zm1 11 2,
 zm1 12 0,
 zg1 13 (.call 257 [(.t 12)] false),
 zg1 14 (.mnmx false (.t 11) (.t 13)),
 zm1 1 10,
 zm1 2 14] [1, 2] [])
 (.seq (.reg false [zm1 15 1,
 zm1 16 2,
 zm1 17 1,
 zm1 18 2,
 zg1 19 (.bin .lss (.t 17) (.t 18)),
 zm1 6 15,
 zm1 7 16,
 zm1 8 19] [6, 7, 8] [])
 .ret))),
 [.tmp 6, .tmp 7, .tmp 8], false⟩
def ir205 : IFn :=   -- tympan/total.Sub
⟨(.seq (.reg false [zg1 2 (.bx (.t 0) 6 true),
 zg1 3 (.bx (.t 1) 6 true),
 zg1 4 (.al [zo1, zo1, zo1, zo1, zo1, zo1] true),
 zg1 5 (.mov zF1)] [2, 3, 4] [2, 3, 4])
 (.seq (.reg false [zg1 6 (.ld (.t 2) 6 true),
 zg1 7 (.ld (.t 3) 6 true),
 zg1 8 (.call 229 [(.t 6), (.t 7), (.c (.p (.fn 258)))] false),
 zg1 9 (.ext (.t 8) 0),
 zg1 10 (.ext (.t 8) 1),
 zn1 (.st (.t 4) (.t 9) 6),
 zm1 5 10] [4, 5] [4])
 .ret)),
 [.cell 4 6 true, .tmp 5], false⟩
def ir208 : IFn :=   -- tympan/gset.fair
⟨(.seq (.reg false [zg1 2 (.mov zF1)] [0] [])
 (.seq (.reg false [zm1 3 0,
 zg1 4 (.bin .geq (.t 3) (zi1 0)),
 zm1 5 4,
 zt1 6 5 (.mov (.t 0)),
 zt1 7 5 (.bin .leq (.t 6) (zi1 1125899906842624)),
 zg1 8 (.pick (.t 5) (.t 7) zF1),
 zm1 2 8] [2] [])
 .ret)),
 [.tmp 2], false⟩
def lp209_0 : IC :=
 (.loop [1, 6, 7] [1] (.seq (.reg false [zg1 8 (.bin .lss (.t 7) (zi1 4))] [1, 6, 7, 8] [1])
 (.seq (.cond (.t 8)
 .skip
 (.exit 0))
 (.seq (.block 1 (.seq (.reg false [zg1 9 (.ixv (.t 6) (.t 7) 1 4 false),
 zm1 4 9] [1, 4, 6, 7] [1])
 (.seq (.reg false [zm1 10 4,
 zg1 11 (.call 208 [(.t 10)] false),
 zg1 12 (.un .not (.t 11))] [1, 6, 7, 12] [1])
 (.cond (.t 12)
 (.seq (.reg false [zg1 2 (.mov zF1)] [2] [])
 .ret)
 .skip))))
 (.reg false [zg1 13 (.bin .add (.t 7) (zi1 1)),
 zm1 7 13] [1, 6, 7] [1])))))
def ir209 : IFn :=   -- tympan/gset.fields
⟨(.seq (.reg false [zg1 1 (.bx (.t 0) 6 true),
 zg1 2 (.mov zF1)] [1] [1])
 (.seq (.seq (.reg false [zg1 5 (.off (.t 1) 1),
 zg1 6 (.ld (.t 5) 4 true),
 zg1 7 (.mov (zi1 0))] [1, 6, 7] [1])
 (.block 0 lp209_0))
 (.seq (.reg false [zg1 14 (.off (.t 1) 0),
 zg1 15 (.ld (.t 14) 1 false),
 zg1 16 (.call 208 [(.t 15)] false),
 zm1 17 16,
 zt1 18 17 (.off (.t 1) 5),
 zt1 19 17 (.ld (.t 18) 1 false),
 zt1 20 17 (.call 208 [(.t 19)] false),
 zg1 21 (.pick (.t 17) (.t 20) zF1),
 zm1 2 21] [2] [])
 .ret))),
 [.tmp 2], false⟩
def ir212 : IFn :=   -- tympan/figure.High$1
⟨(.seq (.reg false [zg1 2 (.mov (zi1 0))] [0] [])
 (.seq (.reg false [zm1 3 0,
 zg1 4 (.mnmx true (.t 3) (zi1 0)),
 zg1 5 (.mnmx false (.t 4) (zi1 1125899906842624)),
 zm1 2 5] [2] [])
 .ret)),
 [.tmp 2], false⟩
def ir221 : IFn :=   -- tympan/valid.clauses
⟨(.seq (.reg false [zg1 0 (.mov (.c (.nils)))] [] [])
 (.seq (.reg false [zg1 1 (.call 266 [(.c (.p (.fn 267)))] false),
 zg1 2 (.bld [zo1, .p .nilf] [(0, 1, (zi1 3)), (1, 1, (.t 1))]),
 zg1 3 (.call 266 [(.c (.p (.fn 268)))] false),
 zg1 4 (.bld [zo1, .p .nilf] [(0, 1, (zi1 4)), (1, 1, (.t 3))]),
 zg1 5 (.call 266 [(.c (.p (.fn 269)))] false),
 zg1 6 (.bld [zo1, .p .nilf] [(0, 1, (zi1 5)), (1, 1, (.t 5))]),
 zg1 7 (.call 266 [(.c (.p (.fn 270)))] false),
 zg1 8 (.bld [zo1, .p .nilf] [(0, 1, (zi1 6)), (1, 1, (.t 7))]),
 zg1 9 (.call 266 [(.c (.p (.fn 272)))] false),
 zg1 10 (.bld [zo1, .p .nilf] [(0, 1, (zi1 7)), (1, 1, (.t 9))]),
 zg1 11 (.bld [zo1, .p .nilf] [(0, 1, (zi1 8)), (1, 1, (.c (.p (.fn 273))))]),
 zg1 12 (.bld [zo1, .p .nilf] [(0, 1, (zi1 9)), (1, 1, (.c (.p (.fn 276))))]),
 zg1 13 (.bld [zo1, .p .nilf] [(0, 1, (zi1 10)), (1, 1, (.c (.p (.fn 279))))]),
 zg1 14 (.bld [zo1, .p .nilf] [(0, 1, (zi1 11)), (1, 1, (.c (.p (.fn 282))))]),
 zg1 15 (.bld [zo1, .p .nilf] [(0, 1, (zi1 12)), (1, 1, (.c (.p (.fn 283))))]),
 zg1 16 (.bsl 2 10 [zo1, .p .nilf] [(0, (.t 2)), (1, (.t 4)), (2, (.t 6)), (3, (.t 8)), (4, (.t 10)), (5, (.t 11)), (6, (.t 12)), (7, (.t 13)), (8, (.t 14)), (9, (.t 15))]),
 zm1 0 16] [0] [])
 .ret)),
 [.tmp 0], false⟩
def ir222 : IFn :=   -- tympan/grid.Near
⟨(.seq (.reg false [zg1 4 (.mov (zi1 0))] [0, 1] [])
 (.seq (.seq (.reg false [zm1 6 1,
 zg1 7 (.bin .lss (.t 6) (zi1 1))] [0, 1, 7] [])
 (.cond (.t 7)
 (.seq (.reg false [zm1 8 0,
 zm1 4 8] [4] [])
 .ret)
 .skip))
 (.seq (.reg false [zm1 9 0,
 zm1 10 1,
 zg1 11 (.bin .rem (.t 9) (.t 10)),
 zm1 5 11] [0, 1, 5] [])
 (.seq (.seq (.reg false [zm1 12 5,
 zg1 13 (.bin .lss (.t 12) (zi1 0))] [0, 1, 5, 13] [])
 (.cond (.t 13)
 (.reg false [zm1 14 5,
 zm1 15 1,
 zg1 16 (.bin .add (.t 14) (.t 15)),
 zm1 5 16] [0, 1, 5] [])
 .skip))
 (.seq (.seq (.reg false [zm1 17 5,
 zm1 18 1,
 zm1 19 5,
 zg1 20 (.bin .sub (.t 18) (.t 19)),
 zg1 21 (.bin .lss (.t 17) (.t 20))] [0, 1, 21] [])
 (.cond (.t 21)
 (.seq (.reg false [zm1 22 0,
 zm1 23 1,
 zg1 24 (.call 150 [(.t 22), (.t 23)] false),
 zm1 4 24] [4] [])
 .ret)
 .skip))
 (.seq (.reg false [zm1 25 0,
 zm1 26 1,
 zg1 27 (.call 151 [(.t 25), (.t 26)] false),
 zm1 4 27] [4] [])
 .ret)))))),
 [.tmp 4], false⟩
def ir223 : IFn :=   -- tympan/grid.or
⟨(.seq (.reg false [zg1 6 (.mov (zi1 0))] [0, 1, 2] [])
 (.seq (.seq (.reg false [zm1 10 2,
 zm1 11 0,
 zm1 12 1,
 zg1 13 (.callv (.t 10) [(.t 11), (.t 12)] false),
 zm1 9 13,
 zg1 14 (.ext (.t 9) 0),
 zg1 15 (.ext (.t 9) 1),
 zm1 7 14,
 zm1 8 15] [0, 7, 8] [])
 (.seq (.reg false [zm1 16 8] [0, 7, 16] [])
 (.cond (.t 16)
 (.seq (.reg false [zm1 17 7,
 zm1 6 17] [6] [])
 .ret)
 .skip)))
 (.seq (.reg false [zm1 18 0,
 zm1 6 18] [6] [])
 .ret))),
 [.tmp 6], false⟩
def ir224 : IFn :=   -- tympan/sp.Down
⟨(.seq (.reg false [zg1 4 (.mov (zi1 0)),
 zg1 5 (.mov zF1)] [0, 1] [])
 (.seq (.seq (.reg false [zm1 6 1,
 zg1 7 (.bin .lss (.t 6) (zi1 1))] [0, 1, 7] [])
 (.cond (.t 7)
 (.seq (.reg false [zg1 4 (.mov (zi1 0)),
 zg1 5 (.mov zF1)] [4, 5] [])
 .ret)
 .skip))
 (.seq (.reg false [zm1 8 0,
 zm1 9 0,
 zm1 10 1,
 zg1 11 (.call 284 [(.t 9), (.t 10)] false),
 zg1 12 (.call 258 [(.t 8), (.t 11)] false),
 zg1 13 (.ext (.t 12) 0),
 zg1 14 (.ext (.t 12) 1),
 zm1 4 13,
 zm1 5 14] [4, 5] [])
 .ret))),
 [.tmp 4, .tmp 5], false⟩
def ir225 : IFn :=   -- tympan/sp.Up
⟨(.seq (.reg false [zg1 4 (.mov (zi1 0)),
 zg1 5 (.mov zF1)] [0, 1] [])
 (.seq (.seq (.reg false [zm1 7 1,
 zg1 8 (.bin .lss (.t 7) (zi1 1))] [0, 1, 8] [])
 (.cond (.t 8)
 (.seq (.reg false [zg1 4 (.mov (zi1 0)),
 zg1 5 (.mov zF1)] [4, 5] [])
 .ret)
 .skip))
 (.seq (.seq (.reg false [zm1 9 0,
 zm1 10 1,
 zg1 11 (.call 284 [(.t 9), (.t 10)] false),
 zm1 6 11] [0, 1, 6] [])
 (.seq (.reg false [zm1 12 6,
 zg1 13 (.bin .gtr (.t 12) (zi1 0))] [0, 1, 6, 13] [])
 (.cond (.t 13)
 (.seq (.reg false [zm1 14 0,
 zm1 15 1,
 zm1 16 6,
 zg1 17 (.bin .sub (.t 15) (.t 16)),
 zg1 18 (.call 230 [(.t 14), (.t 17)] false),
 zg1 19 (.ext (.t 18) 0),
 zg1 20 (.ext (.t 18) 1),
 zm1 4 19,
 zm1 5 20] [4, 5] [])
 .ret)
 .skip)))
 (.seq (.reg false [zm1 21 0,
 zm1 4 21,
 zg1 5 (.mov zT1)] [4, 5] [])
 .ret)))),
 [.tmp 4, .tmp 5], false⟩
def ir226 : IFn :=   -- tympan/total.Box
⟨(.seq (.reg false [zg1 2 (.al [zo1, zo1, zo1, zo1, zo1, zo1] true)] [0, 2] [2])
 (.seq (.reg false [zm1 3 0,
 zg1 4 (.bld [zo1, zo1, zo1, zo1, zo1, zo1] [(0, 1, (.t 3))]),
 zn1 (.st (.t 2) (.t 4) 6)] [2] [2])
 .ret)),
 [.cell 2 6 true], false⟩
def ir227 : IFn :=   -- tympan/total.Glue
⟨(.seq (.reg false [zg1 8 (.al [zo1, zo1, zo1, zo1, zo1, zo1] true)] [0, 1, 2, 3, 8] [8])
 (.seq (.reg false [zm1 10 0,
 zm1 11 3,
 zg1 12 (.bld [zo1, zo1, zo1, zo1, zo1, zo1] [(0, 1, (.t 10)), (5, 1, (.t 11))]),
 zg1 9 (.al [zo1, zo1, zo1, zo1, zo1, zo1] true),
 zn1 (.st (.t 9) (.t 12) 6)] [1, 2, 8, 9] [8, 9])
 (.seq (.seq (.reg false [zm1 13 2,
 zg1 14 (.bin .geq (.t 13) (zi1 0)),
 zm1 15 14,
 zt1 16 15 (.mov (.t 2)),
 zt1 17 15 (.bin .lss (.t 16) (zi1 4)),
 zg1 18 (.pick (.t 15) (.t 17) zF1)] [1, 2, 8, 9, 18] [8, 9])
 (.cond (.t 18)
 (.reg false [zm1 19 2,
 zm1 20 1,
 zg1 21 (.off (.t 9) 1),
 zg1 22 (.ixa (.t 21) (.t 19) 1 4),
 zn1 (.st (.t 22) (.t 20) 1)] [8, 9] [8, 9])
 .skip))
 (.seq (.reg false [zg1 23 (.ld (.t 9) 6 true),
 zn1 (.st (.t 8) (.t 23) 6)] [8] [8])
 .ret)))),
 [.cell 8 6 true], false⟩
def ir228 : IFn :=   -- tympan/sums.fair$1
⟨(.seq (.reg false [zg1 2 (.mov zF1)] [0] [])
 (.seq (.reg false [zm1 3 0,
 zg1 4 (.bin .geq (.t 3) (zi1 0)),
 zm1 5 4,
 zt1 6 5 (.mov (.t 0)),
 zt1 7 5 (.bin .leq (.t 6) (zi1 4294967296)),
 zg1 8 (.pick (.t 5) (.t 7) zF1),
 zm1 2 8] [2] [])
 .ret)),
 [.tmp 2], false⟩
def lp229_0 : IC :=
 (.loop [3, 4, 6, 8, 9, 10, 26] [3, 4, 6, 10] (.seq (.reg false [zg1 27 (.bin .lss (.t 26) (zi1 4))] [3, 4, 6, 8, 9, 10, 26, 27] [3, 4, 6, 10])
 (.seq (.cond (.t 27)
 .skip
 (.exit 0))
 (.seq (.block 1 (.seq (.reg false [zm1 28 26,
 zm1 11 28] [3, 4, 6, 8, 9, 10, 11, 26] [3, 4, 6, 10])
 (.reg true [zm1 29 11,
 zm1 30 9,
 zm1 31 11,
 zg1 32 (.off (.t 3) 1),
 zg1 33 (.ixa (.t 32) (.t 31) 1 4),
 zg1 34 (.ldl 3 (.t 33) 1 false),
 zm1 35 11,
 zg1 36 (.off (.t 4) 1),
 zg1 37 (.ixa (.t 36) (.t 35) 1 4),
 zg1 38 (.ldl 4 (.t 37) 1 false),
 zg1 39 (.callv (.t 30) [(.t 34), (.t 38)] false),
 zg1 40 (.off (.t 10) 1),
 zg1 41 (.ixa (.t 40) (.t 29) 1 4),
 zn1 (.stl 10 (.t 41) (.t 39) 1)] [3, 4, 6, 8, 9, 10, 26] [3, 4, 6, 10])))
 (.reg false [zg1 42 (.bin .add (.t 26) (zi1 1)),
 zm1 26 42] [3, 4, 6, 8, 9, 10, 26] [3, 4, 6, 10])))))
def ir229 : IFn :=   -- tympan/total.both
⟨(.seq (.reg false [zg1 3 (.bx (.t 0) 6 true),
 zg1 4 (.bx (.t 1) 6 true),
 zg1 5 (.bx (.t 2) 1 false),
 zg1 6 (.al [zo1, zo1, zo1, zo1, zo1, zo1] true),
 zg1 7 (.mov zF1)] [3, 4, 5, 6] [3, 4, 6])
 (.seq (.reg false [zg1 8 (.al [.p (.bool false)] false),
 zn1 (.st (.t 8) zT1 1)] [3, 4, 5, 6, 8] [3, 4, 6])
 (.seq (.reg false [zg1 12 (.mkf (.func 285) [] [(.t 5), (.t 8)]),
 zm1 9 12] [3, 4, 6, 8, 9] [3, 4, 6])
 (.seq (.prep [10] (.reg true [zm1 13 9,
 zg1 14 (.off (.t 3) 0),
 zg1 15 (.ldl 3 (.t 14) 1 false),
 zg1 16 (.off (.t 4) 0),
 zg1 17 (.ldl 4 (.t 16) 1 false),
 zg1 18 (.callv (.t 13) [(.t 15), (.t 17)] false),
 zm1 19 9,
 zg1 20 (.off (.t 3) 5),
 zg1 21 (.ldl 3 (.t 20) 1 false),
 zg1 22 (.off (.t 4) 5),
 zg1 23 (.ldl 4 (.t 22) 1 false),
 zg1 24 (.callv (.t 19) [(.t 21), (.t 23)] false),
 zg1 25 (.bld [zo1, zo1, zo1, zo1, zo1, zo1] [(0, 1, (.t 18)), (5, 1, (.t 24))]),
 zg1 10 (.alp [zo1, zo1, zo1, zo1, zo1, zo1]),
 zn1 (.stl 10 (.t 10) (.t 25) 6)] [3, 4, 6, 8, 9, 10] [3, 4, 6, 10]))
 (.seq (.seq (.reg false [zg1 26 (.mov (zi1 0))] [3, 4, 6, 8, 9, 10, 26] [3, 4, 6, 10])
 (.block 0 lp229_0))
 (.seq (.seq (.reg false [zg1 43 (.ld (.t 8) 1 false),
 zg1 44 (.un .not (.t 43))] [6, 10, 44] [6, 10])
 (.cond (.t 44)
 (.seq (.reg false [zg1 45 (.bld [zo1, zo1, zo1, zo1, zo1, zo1] []),
 zn1 (.st (.t 6) (.t 45) 6),
 zg1 7 (.mov zF1)] [6, 7] [6])
 .ret)
 .skip))
 (.seq (.reg false [zg1 46 (.ld (.t 10) 6 true),
 zn1 (.st (.t 6) (.t 46) 6),
 zg1 7 (.mov zT1)] [6, 7] [6])
 .ret))))))),
 [.cell 6 6 true, .tmp 7], false⟩
def ir230 : IFn :=   -- tympan/sp.Add
⟨(.seq (.reg false [zg1 4 (.mov (zi1 0)),
 zg1 5 (.mov zF1)] [0, 1] [])
 (.seq (.reg false [zm1 7 0,
 zm1 8 1,
 zg1 9 (.bin .add (.t 7) (.t 8)),
 zm1 6 9] [0, 1, 6] [])
 (.seq (.seq (.reg false [zm1 10 6,
 zm1 11 0,
 zg1 12 (.bin .gtr (.t 10) (.t 11)),
 zm1 13 1,
 zg1 14 (.bin .gtr (.t 13) (zi1 0)),
 zg1 15 (.eqb true (.t 12) (.t 14)),
 zm1 16 15,
 zt1 17 16 (.mov (.t 1)),
 zt1 18 16 (.bin .neq (.t 17) (zi1 0)),
 zg1 19 (.pick (.t 16) (.t 18) zF1)] [6, 19] [])
 (.cond (.t 19)
 (.seq (.reg false [zg1 4 (.mov (zi1 0)),
 zg1 5 (.mov zF1)] [4, 5] [])
 .ret)
 .skip))
 (.seq (.reg false [zm1 20 6,
 zm1 4 20,
 zg1 5 (.mov zT1)] [4, 5] [])
 .ret)))),
 [.tmp 4, .tmp 5], false⟩
def ir231 : IFn :=   -- tympan/tympanref14.got
⟨(.seq (.reg false [zg1 2 (.bx (.t 0) 2 true),
 zg1 4 (.mov (zi1 0))] [1, 2] [2])
 (.seq (.seq (.reg false [zg1 5 (.off (.t 2) 1),
 zg1 6 (.ld (.t 5) 1 false)] [1, 2, 6] [2])
 (.cond (.t 6)
 (.seq (.reg false [zg1 7 (.off (.t 2) 0),
 zg1 8 (.ld (.t 7) 1 false),
 zm1 4 8] [4] [])
 .ret)
 .skip))
 (.seq (.reg false [zm1 9 1,
 zm1 4 9] [4] [])
 .ret))),
 [.tmp 4], false⟩
def ir232 : IFn :=   -- tympan/tympanref01.Down
⟨(.seq (.reg false [zg1 4 (.al [zo1, .p (.bool false)] true)] [0, 1, 4] [4])
 (.seq (.seq (.reg false [zm1 6 1,
 zg1 7 (.bin .lss (.t 6) (zi1 1))] [0, 1, 4, 7] [4])
 (.cond (.t 7)
 (.seq (.reg false [zg1 8 (.bld [zo1, .p (.bool false)] []),
 zn1 (.st (.t 4) (.t 8) 2)] [4] [4])
 .ret)
 .skip))
 (.seq (.reg false [zm1 9 0,
 zm1 10 1,
 zg1 11 (.bin .rem (.t 9) (.t 10)),
 zm1 5 11] [0, 1, 4, 5] [4])
 (.seq (.seq (.reg false [zm1 12 5,
 zg1 13 (.bin .lss (.t 12) (zi1 0))] [0, 1, 4, 5, 13] [4])
 (.cond (.t 13)
 (.reg false [zm1 14 5,
 zm1 15 1,
 zg1 16 (.bin .add (.t 14) (.t 15)),
 zm1 5 16] [0, 4, 5] [4])
 .skip))
 (.seq (.reg false [zm1 17 0,
 zm1 18 5,
 zg1 19 (.call 286 [(.t 17), (.t 18)] false),
 zn1 (.st (.t 4) (.t 19) 2)] [4] [4])
 .ret))))),
 [.cell 4 2 true], false⟩
def ir233 : IFn :=   -- tympan/tympanref01.Up
⟨(.seq (.reg false [zg1 4 (.al [zo1, .p (.bool false)] true)] [0, 1, 4] [4])
 (.seq (.seq (.reg false [zm1 6 1,
 zg1 7 (.bin .lss (.t 6) (zi1 1))] [0, 1, 4, 7] [4])
 (.cond (.t 7)
 (.seq (.reg false [zg1 8 (.bld [zo1, .p (.bool false)] []),
 zn1 (.st (.t 4) (.t 8) 2)] [4] [4])
 .ret)
 .skip))
 (.seq (.reg false [zm1 9 0,
 zm1 10 1,
 zg1 11 (.bin .rem (.t 9) (.t 10)),
 zm1 5 11] [0, 1, 4, 5] [4])
 (.seq (.seq (.reg false [zm1 12 5,
 zg1 13 (.bin .lss (.t 12) (zi1 0))] [0, 1, 4, 5, 13] [4])
 (.cond (.t 13)
 (.reg false [zm1 14 5,
 zm1 15 1,
 zg1 16 (.bin .add (.t 14) (.t 15)),
 zm1 5 16] [0, 1, 4, 5] [4])
 .skip))
 (.seq (.seq (.reg false [zm1 17 5,
 zg1 18 (.bin .eql (.t 17) (zi1 0))] [0, 1, 4, 5, 18] [4])
 (.cond (.t 18)
 (.seq (.reg false [zm1 19 0,
 zg1 20 (.bld [zo1, .p (.bool false)] [(0, 1, (.t 19)), (1, 1, zT1)]),
 zn1 (.st (.t 4) (.t 20) 2)] [4] [4])
 .ret)
 .skip))
 (.seq (.reg false [zm1 21 0,
 zm1 22 1,
 zm1 23 5,
 zg1 24 (.bin .sub (.t 22) (.t 23)),
 zg1 25 (.call 244 [(.t 21), (.t 24)] false),
 zn1 (.st (.t 4) (.t 25) 2)] [4] [4])
 .ret)))))),
 [.cell 4 2 true], false⟩
def ir234 : IFn :=   -- tympan/tympanref14.Near
⟨(.seq (.reg false [zg1 4 (.mov (zi1 0))] [0, 1] [])
 (.seq (.seq (.reg false [zm1 8 1,
 zg1 9 (.bin .lss (.t 8) (zi1 1))] [0, 1, 9] [])
 (.cond (.t 9)
 (.seq (.reg false [zm1 10 0,
 zm1 4 10] [4] [])
 .ret)
 .skip))
 (.seq (.reg false [zm1 11 0,
 zm1 12 1,
 zg1 13 (.call 232 [(.t 11), (.t 12)] false),
 zm1 14 0,
 zm1 15 1,
 zg1 16 (.call 233 [(.t 14), (.t 15)] false),
 zg1 5 (.al [zo1, .p (.bool false)] true),
 zg1 6 (.al [zo1, .p (.bool false)] true),
 zn1 (.st (.t 5) (.t 13) 2),
 zn1 (.st (.t 6) (.t 16) 2)] [0, 1, 5, 6] [5, 6])
 (.seq (.reg false [zm1 17 0,
 zm1 18 1,
 zg1 19 (.bin .rem (.t 17) (.t 18)),
 zm1 7 19] [0, 1, 5, 6, 7] [5, 6])
 (.seq (.seq (.reg false [zm1 20 7,
 zg1 21 (.bin .lss (.t 20) (zi1 0))] [0, 1, 5, 6, 7, 21] [5, 6])
 (.cond (.t 21)
 (.reg false [zm1 22 7,
 zm1 23 1,
 zg1 24 (.bin .add (.t 22) (.t 23)),
 zm1 7 24] [0, 1, 5, 6, 7] [5, 6])
 .skip))
 (.seq (.seq (.reg false [zm1 25 7,
 zm1 26 1,
 zm1 27 7,
 zg1 28 (.bin .sub (.t 26) (.t 27)),
 zg1 29 (.bin .lss (.t 25) (.t 28))] [0, 5, 6, 7, 29] [5, 6])
 (.cond (.t 29)
 (.seq (.reg false [zg1 30 (.ld (.t 5) 2 true),
 zm1 31 0,
 zg1 32 (.call 231 [(.t 30), (.t 31)] false),
 zm1 4 32] [4] [])
 .ret)
 .skip))
 (.seq (.seq (.reg false [zm1 33 7,
 zg1 34 (.bin .eql (.t 33) (zi1 0))] [0, 6, 34] [6])
 (.cond (.t 34)
 (.seq (.reg false [zm1 35 0,
 zm1 4 35] [4] [])
 .ret)
 .skip))
 (.seq (.reg false [zg1 36 (.ld (.t 6) 2 true),
 zm1 37 0,
 zg1 38 (.call 231 [(.t 36), (.t 37)] false),
 zm1 4 38] [4] [])
 .ret)))))))),
 [.tmp 4], false⟩
def ir235 : IFn :=   -- tympan/item.Loose
⟨(.seq (.reg false [zg1 1 (.bx (.t 0) 7 true),
 zg1 2 (.mov zF1)] [1] [1])
 (.seq (.reg false [zg1 3 (.off (.t 1) 0),
 zg1 4 (.ld (.t 3) 1 false),
 zg1 5 (.bin .eql (.t 4) (zi1 2)),
 zm1 6 5,
 zf1 7 6 (.off (.t 1) 0),
 zf1 8 6 (.ld (.t 7) 1 false),
 zf1 9 6 (.bin .eql (.t 8) (zi1 3)),
 zg1 10 (.pick (.t 6) zT1 (.t 9)),
 zm1 2 10] [2] [])
 .ret)),
 [.tmp 2], false⟩
def ir238 : IFn :=   -- (tympan/note.places).stop
⟨(.seq (.reg false [zg1 2 (.bx (.t 0) 2 true),
 zg1 4 (.mov zF1)] [1, 2] [2])
 (.seq (.reg false [zm1 5 1,
 zg1 6 (.off (.t 2) 0),
 zg1 7 (.ld (.t 6) 1 false),
 zg1 8 (.len (.t 7)),
 zg1 9 (.bin .eql (.t 5) (.t 8)),
 zm1 10 9,
 zf1 11 10 (.ld (.t 2) 2 true),
 zf1 12 10 (.mov (.t 1)),
 zf1 13 10 (.call 256 [(.t 11), (.t 12)] false),
 zg1 14 (.pick (.t 10) zT1 (.t 13)),
 zm1 4 14] [4] [])
 .ret)),
 [.tmp 4], false⟩
def ir240 : IFn :=   -- tympan/cost.add[int]$1
⟨(.seq (.reg false [zg1 2 (.mov (zi1 0))] [0] [])
 (.seq (.reg false [zm1 3 0,
 zg1 4 (.mnmx true (.t 3) (zi1 0)),
 zg1 5 (.mnmx false (.t 4) (zi1 1125899906842624)),
 zm1 2 5] [2] [])
 .ret)),
 [.tmp 2], false⟩
def ir241 : IFn :=   -- tympan/cost.add[int64]$1
⟨(.seq (.reg false [zg1 2 (.mov (zi1 0))] [0] [])
 (.seq (.reg false [zm1 3 0,
 zg1 4 (.mnmx true (.t 3) (zi1 0)),
 zg1 5 (.mnmx false (.t 4) (zi1 1125899906842624)),
 zm1 2 5] [2] [])
 .ret)),
 [.tmp 2], false⟩
def ir244 : IFn :=   -- tympan/tympanref01.Add
⟨(.seq (.reg false [zg1 4 (.al [zo1, .p (.bool false)] true)] [0, 1, 4] [4])
 (.seq (.seq (.reg false [zm1 5 1,
 zg1 6 (.bin .gtr (.t 5) (zi1 0)),
 zm1 7 6,
 zt1 8 7 (.mov (.t 0)),
 zt1 9 7 (.mov (.t 1)),
 zt1 10 7 (.bin .sub (zi1 9223372036854775807) (.t 9)),
 zt1 11 7 (.bin .gtr (.t 8) (.t 10)),
 zg1 12 (.pick (.t 7) (.t 11) zF1),
 zm1 13 12,
 zf1 14 13 (.mov (.t 1)),
 zf1 15 13 (.bin .lss (.t 14) (zi1 0)),
 zf1 16 13 (.mov (.t 15)),
 zt1 17 16 (.mov (.t 0)),
 zt1 18 16 (.mov (.t 1)),
 zt1 19 16 (.bin .sub (zi1 (-9223372036854775808)) (.t 18)),
 zt1 20 16 (.bin .lss (.t 17) (.t 19)),
 zf1 21 13 (.pick (.t 16) (.t 20) zF1),
 zg1 22 (.pick (.t 13) zT1 (.t 21))] [0, 1, 4, 22] [4])
 (.cond (.t 22)
 (.seq (.reg false [zg1 23 (.bld [zo1, .p (.bool false)] []),
 zn1 (.st (.t 4) (.t 23) 2)] [4] [4])
 .ret)
 .skip))
 (.seq (.reg false [zm1 24 0,
 zm1 25 1,
 zg1 26 (.bin .add (.t 24) (.t 25)),
 zg1 27 (.bld [zo1, .p (.bool false)] [(0, 1, (.t 26)), (1, 1, zT1)]),
 zn1 (.st (.t 4) (.t 27) 2)] [4] [4])
 .ret))),
 [.cell 4 2 true], false⟩
def ir250 : IFn :=   -- tympan/bad.Cube
⟨(.seq (.reg false [zg1 2 (.mov (zi1 0))] [0] [])
 (.seq (.block 0 (.seq (.reg false [zm1 4 0,
 zg1 5 (.bin .gtr (.t 4) (zi1 1290)),
 zm1 3 5] [0, 3] [])
 (.cond (.t 3)
 (.seq (.reg false [zg1 2 (.mov (zi1 10000))] [2] [])
 .ret)
 (.seq (.reg false [zm1 7 0,
 zg1 8 (.bin .lss (.t 7) (zi1 1)),
 zm1 6 8] [0, 6] [])
 (.cond (.t 6)
 (.seq (.reg false [zg1 2 (.mov (zi1 0))] [2] [])
 .ret)
 .skip)))))
 (.seq (.reg false [zm1 9 0,
 zm1 10 0,
 zg1 11 (.bin .mul (.t 9) (.t 10)),
 zm1 12 0,
 zg1 13 (.bin .mul (.t 11) (.t 12)),
 zg1 14 (.bin .add (.t 13) (zi1 131072)),
 zg1 15 (.bin .shr (.t 14) (.c (.p (.int .u64 18)))),
 zm1 2 15] [2] [])
 .ret))),
 [.tmp 2], false⟩
def lp251_0 : IC :=
 (.loop [0, 1, 5, 9, 10, 11] [] (.seq (.reg false [zg1 12 (.bin .lss (.t 11) (.t 10))] [0, 1, 5, 9, 10, 11, 12] [])
 (.seq (.cond (.t 12)
 .skip
 (.exit 0))
 (.seq (.block 1 (.seq (.reg false [zg1 13 (.ixs (.t 9) (.t 11) 2),
 zg1 14 (.ld (.t 13) 2 true),
 zg1 7 (.al [.p .nilf, .p .nilf] true),
 zn1 (.st (.t 7) (.t 14) 2)] [0, 1, 5, 7, 9, 10, 11] [7])
 (.seq (.reg false [zg1 15 (.off (.t 7) 0),
 zg1 16 (.ld (.t 15) 1 false),
 zm1 17 0,
 zm1 18 1,
 zg1 19 (.callv (.t 16) [(.t 17), (.t 18)] false)] [0, 1, 5, 7, 9, 10, 11, 19] [7])
 (.cond (.t 19)
 (.seq (.reg false [zg1 20 (.off (.t 7) 1),
 zg1 21 (.ld (.t 20) 1 false),
 zm1 22 0,
 zm1 23 1,
 zg1 24 (.callv (.t 21) [(.t 22), (.t 23)] false),
 zm1 5 24] [5] [])
 (.exit 0))
 .skip))))
 (.reg false [zg1 25 (.bin .add (.t 11) (zi1 1)),
 zm1 11 25] [0, 1, 5, 9, 10, 11] [])))))
def ir251 : IFn :=   -- tympan/bad.Quarter
⟨(.seq (.reg false [zg1 4 (.mov (zi1 0))] [0, 1] [])
 (.seq (.reg false [zm1 8 0,
 zm1 5 8] [0, 1, 5] [])
 (.seq (.seq (.reg false [zg1 9 (.call 288 [] false),
 zg1 10 (.len (.t 9)),
 zg1 11 (.mov (zi1 0))] [0, 1, 5, 9, 10, 11] [])
 (.block 0 lp251_0))
 (.seq (.reg false [zm1 26 5,
 zg1 27 (.mnmx false (.t 26) (zi1 1291)),
 zm1 4 27] [4] [])
 .ret)))),
 [.tmp 4], false⟩
def ir252 : IFn :=   -- tympan/item.Forbids
⟨(.seq (.reg false [zg1 1 (.bx (.t 0) 7 true),
 zg1 2 (.mov zF1)] [1] [1])
 (.seq (.reg false [zg1 3 (.off (.t 1) 0),
 zg1 4 (.ld (.t 3) 1 false),
 zg1 5 (.bin .eql (.t 4) (zi1 3)),
 zm1 6 5,
 zt1 7 6 (.off (.t 1) 6),
 zt1 8 6 (.ld (.t 7) 1 false),
 zt1 9 6 (.bin .geq (.t 8) (zi1 10000)),
 zg1 10 (.pick (.t 6) (.t 9) zF1),
 zm1 2 10] [2] [])
 .ret)),
 [.tmp 2], false⟩
def ir253 : IFn :=   -- tympan/para.is
⟨(.seq (.reg false [zg1 2 (.bx (.t 0) 1 false),
 zg1 3 (.bx (.t 1) 1 false),
 zg1 4 (.mov (.c (.p .nilf)))] [2, 3] [])
 (.seq (.reg false [zg1 5 (.mkf (.func 289) [] [(.t 2), (.t 3)]),
 zm1 4 5] [4] [])
 .ret)),
 [.tmp 4], false⟩
def ir254 : IFn :=   -- tympan/para.Ahead
⟨(.seq (.reg false [zg1 4 (.mov (zi1 0))] [0, 1] [])
 (.seq (.seq (.reg false [zm1 5 1,
 zg1 6 (.bin .lss (.t 5) (zi1 1))] [0, 1, 6] [])
 (.cond (.t 6)
 (.seq (.reg false [zg1 4 (.mov (zi1 (-1)))] [4] [])
 .ret)
 .skip))
 (.seq (.reg false [zm1 7 0,
 zm1 8 1,
 zm1 9 0,
 zg1 10 (.call 78 [(.t 9)] false),
 zg1 11 (.mnmx false (.t 8) (.t 10)),
 zg1 12 (.bin .sub (.t 11) (zi1 1)),
 zg1 13 (.call 290 [(.t 7), (.t 12), (zi1 (-1))] false),
 zm1 4 13] [4] [])
 .ret))),
 [.tmp 4], false⟩
def ir255 : IFn :=   -- tympan/para.Behind
⟨(.seq (.reg false [zg1 4 (.mov (zi1 0))] [0, 1] [])
 (.seq (.reg false [zm1 5 0,
 zm1 6 1,
 zg1 7 (.mnmx true (.t 6) (zi1 0)),
 zg1 8 (.call 290 [(.t 5), (.t 7), (zi1 1)] false),
 zm1 4 8] [4] [])
 .ret)),
 [.tmp 4], false⟩
def ir256 : IFn :=   -- (tympan/note.places).split
⟨(.seq (.reg false [zg1 2 (.bx (.t 0) 2 true),
 zg1 4 (.mov zF1)] [1, 2] [2])
 (.seq (.reg false [zm1 5 1,
 zg1 6 (.bin .gtr (.t 5) (zi1 0)),
 zm1 7 6,
 zt1 8 7 (.mov (.t 1)),
 zt1 9 7 (.off (.t 2) 0),
 zt1 10 7 (.ld (.t 9) 1 false),
 zt1 11 7 (.len (.t 10)),
 zt1 12 7 (.bin .lss (.t 8) (.t 11)),
 zg1 13 (.pick (.t 7) (.t 12) zF1),
 zm1 14 13,
 zt1 15 14 (.mov (.t 1)),
 zt1 16 14 (.off (.t 2) 1),
 zt1 17 14 (.ld (.t 16) 1 false),
 zt1 18 14 (.len (.t 17)),
 zt1 19 14 (.bin .leq (.t 15) (.t 18)),
 zg1 20 (.pick (.t 14) (.t 19) zF1),
 zm1 21 20,
 zt1 22 21 (.off (.t 2) 1),
 zt1 23 21 (.ld (.t 22) 1 false),
 zt1 24 21 (.mov (.t 1)),
 zt1 25 21 (.bin .sub (.t 24) (zi1 1)),
 zt1 26 21 (.ixs (.t 23) (.t 25) 1),
 zt1 27 21 (.ld (.t 26) 1 false),
 zt1 28 21 (.bin .lss (.t 27) (zi1 10000)),
 zg1 29 (.pick (.t 21) (.t 28) zF1),
 zm1 4 29] [4] [])
 .ret)),
 [.tmp 4], false⟩
def ir257 : IFn :=   -- (*tympan/sums.Sums).Len
⟨(.seq (.reg false [zg1 2 (.mov (zi1 0))] [0] [])
 (.seq (.seq (.reg false [zm1 3 0,
 zg1 4 (.eqn .ptr false (.t 3))] [0, 4] [])
 (.cond (.t 4)
 (.seq (.reg false [zg1 2 (.mov (zi1 0))] [2] [])
 .ret)
 .skip))
 (.seq (.reg false [zm1 5 0,
 zg1 6 (.nck (.t 5)),
 zg1 7 (.off (.t 6) 0),
 zg1 8 (.ld (.t 7) 1 false),
 zg1 9 (.len (.t 8)),
 zm1 2 9] [2] [])
 .ret))),
 [.tmp 2], false⟩
def ir258 : IFn :=   -- tympan/sp.Sub
⟨(.seq (.reg false [zg1 4 (.mov (zi1 0)),
 zg1 5 (.mov zF1)] [0, 1] [])
 (.seq (.reg false [zm1 7 0,
 zm1 8 1,
 zg1 9 (.bin .sub (.t 7) (.t 8)),
 zm1 6 9] [0, 1, 6] [])
 (.seq (.seq (.reg false [zm1 10 6,
 zm1 11 0,
 zg1 12 (.bin .lss (.t 10) (.t 11)),
 zm1 13 1,
 zg1 14 (.bin .gtr (.t 13) (zi1 0)),
 zg1 15 (.eqb true (.t 12) (.t 14)),
 zm1 16 15,
 zt1 17 16 (.mov (.t 1)),
 zt1 18 16 (.bin .neq (.t 17) (zi1 0)),
 zg1 19 (.pick (.t 16) (.t 18) zF1)] [6, 19] [])
 (.cond (.t 19)
 (.seq (.reg false [zg1 4 (.mov (zi1 0)),
 zg1 5 (.mov zF1)] [4, 5] [])
 .ret)
 .skip))
 (.seq (.reg false [zm1 20 6,
 zm1 4 20,
 zg1 5 (.mov zT1)] [4, 5] [])
 .ret)))),
 [.tmp 4, .tmp 5], false⟩
def ir266 : IFn :=   -- tympan/valid.when
⟨(.seq (.reg false [zg1 1 (.bx (.t 0) 1 false),
 zg1 2 (.mov (.c (.p .nilf)))] [1] [])
 (.seq (.reg false [zg1 3 (.mkf (.func 298) [] [(.t 1)]),
 zm1 2 3] [2] [])
 .ret)),
 [.tmp 2], false⟩
def ir267 : IFn :=   -- tympan/valid.clauses$1
⟨(.seq (.reg false [zg1 1 (.bx (.t 0) 22 true),
 zg1 2 (.mov zF1)] [1] [1])
 (.seq (.reg false [zg1 3 (.off (.t 1) 19),
 zg1 4 (.ld (.t 3) 1 false),
 zg1 5 (.len (.t 4)),
 zg1 6 (.bin .gtr (.t 5) (zi1 4096)),
 zm1 2 6] [2] [])
 .ret)),
 [.tmp 2], false⟩
def ir268 : IFn :=   -- tympan/valid.clauses$2
⟨(.seq (.reg false [zg1 1 (.bx (.t 0) 22 true),
 zg1 2 (.mov zF1)] [1] [1])
 (.seq (.reg false [zg1 3 (.off (.t 1) 21),
 zg1 4 (.ld (.t 3) 1 false),
 zg1 5 (.len (.t 4)),
 zg1 6 (.bin .gtr (.t 5) (zi1 256)),
 zm1 2 6] [2] [])
 .ret)),
 [.tmp 2], false⟩
def ir269 : IFn :=   -- tympan/valid.clauses$3
⟨(.seq (.reg false [zg1 1 (.bx (.t 0) 22 true),
 zg1 2 (.mov zF1)] [1] [1])
 (.seq (.reg false [zg1 3 (.off (.t 1) 20),
 zg1 4 (.ld (.t 3) 1 false),
 zg1 5 (.len (.t 4)),
 zg1 6 (.bin .gtr (.t 5) (zi1 512)),
 zm1 2 6] [2] [])
 .ret)),
 [.tmp 2], false⟩
def ir270 : IFn :=   -- tympan/valid.clauses$4
⟨(.seq (.reg false [zg1 1 (.bx (.t 0) 22 true),
 zg1 2 (.mov zF1)] [1] [1])
 (.seq (.reg false [zg1 3 (.off (.t 1) 0),
 zg1 4 (.ld (.t 3) 19 true),
 zg1 5 (.call 271 [(.t 4)] false),
 zg1 6 (.bin .eql (.t 5) (zi1 6)),
 zm1 2 6] [2] [])
 .ret)),
 [.tmp 2], false⟩
def ir271 : IFn :=   -- tympan/geom.Check
⟨(.seq (.reg false [zg1 1 (.bx (.t 0) 19 true),
 zg1 2 (.mov (zi1 0))] [1] [1])
 (.seq (.seq (.reg true [zg1 8 (.call 299 [(zi1 1), (zi1 8)] false),
 zg1 9 (.off (.t 1) 0),
 zg1 10 (.ldl 1 (.t 9) 1 false),
 zg1 11 (.bsl 1 1 [zo1] [(0, (.t 10))]),
 zg1 12 (.callv (.t 8) [(.t 11)] false),
 zg1 13 (.un .not (.t 12))] [1, 13] [1])
 (.cond (.t 13)
 (.seq (.reg false [zg1 2 (.mov (zi1 6))] [2] [])
 .ret)
 .skip))
 (.seq (.reg false [zg1 14 (.call 300 [(zi1 1), (zi1 1073741823)] false),
 zg1 15 (.call 300 [(zi1 0), (zi1 1073741823)] false),
 zg1 16 (.call 300 [(zi1 0), (zi1 536870912)] false),
 zm1 3 14,
 zm1 4 15,
 zm1 5 16] [1, 3, 4, 5] [1])
 (.seq (.reg false [zg1 17 (.off (.t 1) 2),
 zg1 18 (.ld (.t 17) 1 false),
 zg1 19 (.off (.t 1) 8),
 zg1 20 (.ld (.t 19) 1 false),
 zg1 21 (.off (.t 1) 9),
 zg1 22 (.ld (.t 21) 1 false),
 zg1 23 (.off (.t 1) 10),
 zg1 24 (.ld (.t 23) 1 false),
 zg1 25 (.bld [zo1, zo1, zo1, zo1] [(0, 1, (.t 18)), (1, 1, (.t 20)), (2, 1, (.t 22)), (3, 1, (.t 24))]),
 zg1 6 (.al [zo1, zo1, zo1, zo1] false),
 zn1 (.st (.t 6) (.t 25) 4)] [1, 3, 4, 5, 6] [1])
 (.seq (.reg false [zg1 26 (.off (.t 1) 13),
 zg1 27 (.ld (.t 26) 1 false),
 zg1 28 (.off (.t 1) 14),
 zg1 29 (.ld (.t 28) 1 false),
 zg1 30 (.off (.t 1) 15),
 zg1 31 (.ld (.t 30) 1 false),
 zg1 32 (.off (.t 1) 16),
 zg1 33 (.ld (.t 32) 1 false),
 zg1 34 (.off (.t 1) 17),
 zg1 35 (.ld (.t 34) 1 false),
 zg1 36 (.bld [zo1, zo1, zo1, zo1, zo1] [(0, 1, (.t 27)), (1, 1, (.t 29)), (2, 1, (.t 31)), (3, 1, (.t 33)), (4, 1, (.t 35))]),
 zg1 7 (.al [zo1, zo1, zo1, zo1, zo1] false),
 zn1 (.st (.t 7) (.t 36) 5)] [1, 3, 4, 5, 6, 7] [1])
 (.seq (.block 0 (.seq (.seq (.reg false [zm1 38 3,
 zg1 39 (.off (.t 1) 1),
 zg1 40 (.ld (.t 39) 1 false),
 zg1 41 (.off (.t 1) 3),
 zg1 42 (.ld (.t 41) 1 false),
 zg1 43 (.bsl 1 2 [zo1] [(0, (.t 40)), (1, (.t 42))]),
 zg1 44 (.callv (.t 38) [(.t 43)] false),
 zg1 45 (.un .not (.t 44)),
 zm1 37 45] [1, 4, 5, 6, 7, 37] [1])
 (.cond (.t 37)
 .skip
 (.seq (.reg false [zm1 46 4,
 zg1 47 (.slca (.t 6) none 1 4),
 zg1 48 (.callv (.t 46) [(.t 47)] false),
 zg1 49 (.un .not (.t 48)),
 zm1 37 49] [1, 5, 7, 37] [1])
 (.cond (.t 37)
 .skip
 (.reg false [zm1 50 5,
 zg1 51 (.off (.t 1) 6),
 zg1 52 (.ld (.t 51) 1 false),
 zg1 53 (.off (.t 1) 7),
 zg1 54 (.ld (.t 53) 1 false),
 zg1 55 (.off (.t 1) 5),
 zg1 56 (.ld (.t 55) 1 false),
 zg1 57 (.bsl 1 3 [zo1] [(0, (.t 52)), (1, (.t 54)), (2, (.t 56))]),
 zg1 58 (.callv (.t 50) [(.t 57)] false),
 zg1 59 (.un .not (.t 58)),
 zm1 37 59] [1, 7, 37] [1])))))
 (.cond (.t 37)
 (.seq (.reg false [zg1 2 (.mov (zi1 7))] [2] [])
 .ret)
 (.seq (.seq (.reg true [zg1 61 (.off (.t 1) 3),
 zg1 62 (.ldl 1 (.t 61) 1 false),
 zg1 63 (.call 300 [(zi1 1), (.t 62)] false),
 zg1 64 (.off (.t 1) 4),
 zg1 65 (.ldl 1 (.t 64) 1 false),
 zg1 66 (.bsl 1 1 [zo1] [(0, (.t 65))]),
 zg1 67 (.callv (.t 63) [(.t 66)] false),
 zg1 68 (.un .not (.t 67)),
 zm1 60 68] [1, 7, 60] [1])
 (.cond (.t 60)
 .skip
 (.reg true [zg1 69 (.off (.t 1) 4),
 zg1 70 (.ldl 1 (.t 69) 1 false),
 zg1 71 (.call 300 [(zi1 0), (.t 70)] false),
 zg1 72 (.off (.t 1) 5),
 zg1 73 (.ldl 1 (.t 72) 1 false),
 zg1 74 (.bsl 1 1 [zo1] [(0, (.t 73))]),
 zg1 75 (.callv (.t 71) [(.t 74)] false),
 zg1 76 (.un .not (.t 75)),
 zm1 60 76] [1, 7, 60] [1])))
 (.cond (.t 60)
 (.seq (.reg false [zg1 2 (.mov (zi1 7))] [2] [])
 .ret)
 (.seq (.seq (.reg true [zg1 78 (.call 299 [(zi1 0), (zi1 4)] false),
 zg1 79 (.off (.t 1) 11),
 zg1 80 (.ldl 1 (.t 79) 1 false),
 zg1 81 (.off (.t 1) 12),
 zg1 82 (.ldl 1 (.t 81) 1 false),
 zg1 83 (.bsl 1 2 [zo1] [(0, (.t 80)), (1, (.t 82))]),
 zg1 84 (.callv (.t 78) [(.t 83)] false),
 zg1 85 (.un .not (.t 84)),
 zm1 77 85] [7, 77] [])
 (.cond (.t 77)
 .skip
 (.reg true [zg1 86 (.call 299 [(zi1 0), (zi1 1048576)] false),
 zg1 87 (.slca (.t 7) none 1 5),
 zg1 88 (.callv (.t 86) [(.t 87)] false),
 zg1 89 (.un .not (.t 88)),
 zm1 77 89] [77] [])))
 (.cond (.t 77)
 (.seq (.reg false [zg1 2 (.mov (zi1 7))] [2] [])
 .ret)
 .skip)))))))
 (.seq (.reg false [zg1 2 (.mov (zi1 0))] [2] [])
 .ret))))))),
 [.tmp 2], false⟩
def ir272 : IFn :=   -- tympan/valid.clauses$5
⟨(.seq (.reg false [zg1 1 (.bx (.t 0) 22 true),
 zg1 2 (.mov zF1)] [1] [1])
 (.seq (.reg false [zg1 3 (.off (.t 1) 0),
 zg1 4 (.ld (.t 3) 19 true),
 zg1 5 (.call 271 [(.t 4)] false),
 zg1 6 (.bin .eql (.t 5) (zi1 7)),
 zm1 2 6] [2] [])
 .ret)),
 [.tmp 2], false⟩
def ir273 : IFn :=   -- tympan/valid.clauses$6
⟨(.seq (.reg false [zg1 1 (.bx (.t 0) 22 true),
 zg1 2 (.mov (zi1 0))] [1] [1])
 (.seq (.reg true [zg1 3 (.call 274 [(.c (.p (.fn 275)))] false),
 zg1 4 (.off (.t 1) 19),
 zg1 5 (.ldl 1 (.t 4) 1 false),
 zg1 6 (.callv (.t 3) [(.t 5)] false),
 zm1 2 6] [2] [])
 .ret)),
 [.tmp 2], false⟩
def ir274 : IFn :=   -- tympan/valid.first[tympan/api.Item]
⟨(.seq (.reg false [zg1 1 (.bx (.t 0) 1 false),
 zg1 2 (.mov (.c (.p .nilf)))] [1] [])
 (.seq (.reg false [zg1 3 (.mkf (.func 301) [] [(.t 1)]),
 zm1 2 3] [2] [])
 .ret)),
 [.tmp 2], false⟩
def ir275 : IFn :=   -- tympan/item.Check
⟨(.seq (.reg false [zg1 1 (.bx (.t 0) 7 true),
 zg1 2 (.mov (zi1 0))] [1] [1])
 (.seq (.seq (.reg false [zg1 5 (.off (.t 1) 0),
 zg1 6 (.ld (.t 5) 1 false),
 zg1 7 (.bin .lss (.t 6) (zi1 1)),
 zm1 8 7,
 zf1 9 8 (.off (.t 1) 0),
 zf1 10 8 (.ld (.t 9) 1 false),
 zf1 11 8 (.bin .gtr (.t 10) (zi1 7)),
 zg1 12 (.pick (.t 8) zT1 (.t 11))] [1, 12] [1])
 (.cond (.t 12)
 (.seq (.reg false [zg1 2 (.mov (zi1 8))] [2] [])
 .ret)
 .skip))
 (.seq (.prep [3] (.reg true [zg1 13 (.call 304 [] false),
 zg1 14 (.off (.t 1) 0),
 zg1 15 (.ldl 1 (.t 14) 1 false),
 zg1 16 (.bin .sub (.t 15) (zi1 1)),
 zg1 17 (.ixs (.t 13) (.t 16) 2),
 zg1 18 (.ld (.t 17) 2 true),
 zg1 3 (.alp [.p .nilf, .p .nilf]),
 zn1 (.stl 3 (.t 3) (.t 18) 2)] [1, 3] [1, 3]))
 (.seq (.reg false [zg1 19 (.call 305 [(zi1 3)] false),
 zm1 4 19] [1, 3, 4] [1, 3])
 (.seq (.seq (.reg true [zg1 20 (.off (.t 3) 0),
 zg1 21 (.ldl 3 (.t 20) 1 false),
 zg1 22 (.ldl 1 (.t 1) 7 true),
 zg1 23 (.callv (.t 21) [(.t 22)] false),
 zg1 24 (.ldl 1 (.t 1) 7 true),
 zg1 25 (.eqa true [true, true, true, true, true, true, true] (.t 23) (.t 24)),
 zm1 26 25,
 zf1 27 26 (.off (.t 3) 1),
 zf1 28 26 (.ldl 3 (.t 27) 1 false),
 zf1 29 26 (.off (.t 1) 6),
 zf1 30 26 (.ldl 1 (.t 29) 1 false),
 zf1 31 26 (.callv (.t 28) [(.t 30)] false),
 zf1 32 26 (.un .not (.t 31)),
 zg1 33 (.pick (.t 26) zT1 (.t 32)),
 zm1 34 33,
 zf1 35 34 (.off (.t 1) 1),
 zf1 36 34 (.ldl 1 (.t 35) 1 false),
 zf1 37 34 (.off (.t 1) 3),
 zf1 38 34 (.ldl 1 (.t 37) 1 false),
 zf1 39 34 (.off (.t 1) 5),
 zf1 40 34 (.ldl 1 (.t 39) 1 false),
 zf1 41 34 (.bsl 1 3 [zo1] [(0, (.t 36)), (1, (.t 38)), (2, (.t 40))]),
 zf1 42 34 (.call 306 [(.t 41)] false),
 zf1 43 34 (.un .not (.t 42)),
 zg1 44 (.pick (.t 34) zT1 (.t 43)),
 zm1 45 44,
 zf1 46 45 (.mov (.t 4)),
 zf1 47 45 (.off (.t 1) 2),
 zf1 48 45 (.ldl 1 (.t 47) 1 false),
 zf1 49 45 (.callv (.t 46) [(.t 48)] false),
 zf1 50 45 (.un .not (.t 49)),
 zg1 51 (.pick (.t 45) zT1 (.t 50)),
 zm1 52 51,
 zf1 53 52 (.mov (.t 4)),
 zf1 54 52 (.off (.t 1) 4),
 zf1 55 52 (.ldl 1 (.t 54) 1 false),
 zf1 56 52 (.callv (.t 53) [(.t 55)] false),
 zf1 57 52 (.un .not (.t 56)),
 zg1 58 (.pick (.t 52) zT1 (.t 57)),
 zm1 59 58,
 zf1 60 59 (.off (.t 1) 0),
 zf1 61 59 (.ldl 1 (.t 60) 1 false),
 zf1 62 59 (.bin .eql (.t 61) (zi1 2)),
 zf1 63 59 (.mov (.t 62)),
 zt1 64 63 (.off (.t 1) 5),
 zt1 65 63 (.ldl 1 (.t 64) 1 false),
 zt1 66 63 (.off (.t 1) 1),
 zt1 67 63 (.ldl 1 (.t 66) 1 false),
 zt1 68 63 (.bin .gtr (.t 65) (.t 67)),
 zf1 69 59 (.pick (.t 63) (.t 68) zF1),
 zg1 70 (.pick (.t 59) zT1 (.t 69))] [70] [])
 (.cond (.t 70)
 (.seq (.reg false [zg1 2 (.mov (zi1 8))] [2] [])
 .ret)
 .skip))
 (.seq (.reg false [zg1 2 (.mov (zi1 0))] [2] [])
 .ret)))))),
 [.tmp 2], false⟩
def ir276 : IFn :=   -- tympan/valid.clauses$7
⟨(.seq (.reg false [zg1 1 (.bx (.t 0) 22 true),
 zg1 2 (.mov (zi1 0))] [1] [1])
 (.seq (.reg true [zg1 3 (.call 277 [(.c (.p (.fn 278)))] false),
 zg1 4 (.off (.t 1) 20),
 zg1 5 (.ldl 1 (.t 4) 1 false),
 zg1 6 (.callv (.t 3) [(.t 5)] false),
 zm1 2 6] [2] [])
 .ret)),
 [.tmp 2], false⟩
def ir277 : IFn :=   -- tympan/valid.first[tympan/api.Note]
⟨(.seq (.reg false [zg1 1 (.bx (.t 0) 1 false),
 zg1 2 (.mov (.c (.p .nilf)))] [1] [])
 (.seq (.reg false [zg1 3 (.mkf (.func 307) [] [(.t 1)]),
 zm1 2 3] [2] [])
 .ret)),
 [.tmp 2], false⟩
def lp278_0 : IC :=
 (.loop [1, 3, 29, 30, 31] [1] (.seq (.reg false [zg1 32 (.bin .lss (.t 31) (.t 30))] [1, 3, 29, 30, 31, 32] [1])
 (.seq (.cond (.t 32)
 .skip
 (.exit 0))
 (.seq (.block 1 (.seq (.reg false [zg1 33 (.ixs (.t 29) (.t 31) 1),
 zg1 34 (.ld (.t 33) 1 false),
 zm1 5 34] [1, 3, 5, 29, 30, 31] [1])
 (.reg false [zm1 35 3,
 zm1 36 35,
 zf1 37 36 (.mov (.t 5)),
 zf1 38 36 (.bin .lss (.t 37) (zi1 1)),
 zg1 39 (.pick (.t 36) zT1 (.t 38)),
 zm1 40 39,
 zf1 41 40 (.mov (.t 5)),
 zf1 42 40 (.bin .gtr (.t 41) (zi1 1073741823)),
 zg1 43 (.pick (.t 40) zT1 (.t 42)),
 zm1 3 43] [1, 3, 29, 30, 31] [1])))
 (.reg false [zg1 44 (.bin .add (.t 31) (zi1 1)),
 zm1 31 44] [1, 3, 29, 30, 31] [1])))))
def lp278_1 : IC :=
 (.loop [3, 46, 47, 48] [] (.seq (.reg false [zg1 49 (.bin .lss (.t 48) (.t 47))] [3, 46, 47, 48, 49] [])
 (.seq (.cond (.t 49)
 .skip
 (.exit 2))
 (.seq (.block 3 (.seq (.reg false [zg1 50 (.ixs (.t 46) (.t 48) 1),
 zg1 51 (.ld (.t 50) 1 false),
 zm1 7 51] [3, 7, 46, 47, 48] [])
 (.reg false [zm1 52 3,
 zm1 53 52,
 zf1 54 53 (.mov (.t 7)),
 zf1 55 53 (.bin .lss (.t 54) (zi1 0)),
 zg1 56 (.pick (.t 53) zT1 (.t 55)),
 zm1 57 56,
 zf1 58 57 (.mov (.t 7)),
 zf1 59 57 (.bin .gtr (.t 58) (zi1 10000)),
 zg1 60 (.pick (.t 57) zT1 (.t 59)),
 zm1 3 60] [3, 46, 47, 48] [])))
 (.reg false [zg1 61 (.bin .add (.t 48) (zi1 1)),
 zm1 48 61] [3, 46, 47, 48] [])))))
def ir278 : IFn :=   -- tympan/note.Check
⟨(.seq (.reg false [zg1 1 (.bx (.t 0) 2 true),
 zg1 2 (.mov (zi1 0))] [1] [1])
 (.seq (.reg false [zg1 8 (.off (.t 1) 0),
 zg1 9 (.ld (.t 8) 1 false),
 zg1 10 (.len (.t 9)),
 zg1 11 (.bin .lss (.t 10) (zi1 1)),
 zm1 12 11,
 zf1 13 12 (.off (.t 1) 0),
 zf1 14 12 (.ld (.t 13) 1 false),
 zf1 15 12 (.len (.t 14)),
 zf1 16 12 (.bin .gtr (.t 15) (zi1 64)),
 zg1 17 (.pick (.t 12) zT1 (.t 16)),
 zm1 18 17,
 zf1 19 18 (.off (.t 1) 1),
 zf1 20 18 (.ld (.t 19) 1 false),
 zf1 21 18 (.len (.t 20)),
 zf1 22 18 (.off (.t 1) 0),
 zf1 23 18 (.ld (.t 22) 1 false),
 zf1 24 18 (.len (.t 23)),
 zf1 25 18 (.bin .sub (.t 24) (zi1 1)),
 zf1 26 18 (.bin .neq (.t 21) (.t 25)),
 zg1 27 (.pick (.t 18) zT1 (.t 26)),
 zm1 3 27] [1, 3] [1])
 (.seq (.seq (.reg false [zg1 28 (.off (.t 1) 0),
 zg1 29 (.ld (.t 28) 1 false),
 zg1 30 (.len (.t 29)),
 zg1 31 (.mov (zi1 0))] [1, 3, 29, 30, 31] [1])
 (.block 0 lp278_0))
 (.seq (.seq (.reg false [zg1 45 (.off (.t 1) 1),
 zg1 46 (.ld (.t 45) 1 false),
 zg1 47 (.len (.t 46)),
 zg1 48 (.mov (zi1 0))] [3, 46, 47, 48] [])
 (.block 2 lp278_1))
 (.seq (.seq (.reg false [zm1 62 3] [62] [])
 (.cond (.t 62)
 (.seq (.reg false [zg1 2 (.mov (zi1 9))] [2] [])
 .ret)
 .skip))
 (.seq (.reg false [zg1 2 (.mov (zi1 0))] [2] [])
 .ret)))))),
 [.tmp 2], false⟩
def ir279 : IFn :=   -- tympan/valid.clauses$8
⟨(.seq (.reg false [zg1 1 (.bx (.t 0) 22 true),
 zg1 2 (.mov (zi1 0))] [1] [1])
 (.seq (.reg true [zg1 3 (.call 280 [(.c (.p (.fn 281)))] false),
 zg1 4 (.off (.t 1) 21),
 zg1 5 (.ldl 1 (.t 4) 1 false),
 zg1 6 (.callv (.t 3) [(.t 5)] false),
 zm1 2 6] [2] [])
 .ret)),
 [.tmp 2], false⟩
def ir280 : IFn :=   -- tympan/valid.first[tympan/api.Float]
⟨(.seq (.reg false [zg1 1 (.bx (.t 0) 1 false),
 zg1 2 (.mov (.c (.p .nilf)))] [1] [])
 (.seq (.reg false [zg1 3 (.mkf (.func 310) [] [(.t 1)]),
 zm1 2 3] [2] [])
 .ret)),
 [.tmp 2], false⟩
def ir281 : IFn :=   -- tympan/figure.Check
⟨(.seq (.reg false [zg1 1 (.bx (.t 0) 3 true),
 zg1 2 (.mov (zi1 0))] [1] [1])
 (.seq (.seq (.reg false [zg1 3 (.off (.t 1) 0),
 zg1 4 (.ld (.t 3) 1 false),
 zg1 5 (.bin .lss (.t 4) (zi1 0)),
 zm1 6 5,
 zf1 7 6 (.off (.t 1) 0),
 zf1 8 6 (.ld (.t 7) 1 false),
 zf1 9 6 (.bin .geq (.t 8) (zi1 3)),
 zg1 10 (.pick (.t 6) zT1 (.t 9)),
 zm1 11 10,
 zf1 12 11 (.off (.t 1) 1),
 zf1 13 11 (.ld (.t 12) 1 false),
 zf1 14 11 (.bin .lss (.t 13) (zi1 1)),
 zg1 15 (.pick (.t 11) zT1 (.t 14)),
 zm1 16 15,
 zf1 17 16 (.off (.t 1) 1),
 zf1 18 16 (.ld (.t 17) 1 false),
 zf1 19 16 (.bin .gtr (.t 18) (zi1 1073741823)),
 zg1 20 (.pick (.t 16) zT1 (.t 19)),
 zm1 21 20,
 zf1 22 21 (.off (.t 1) 2),
 zf1 23 21 (.ld (.t 22) 1 false),
 zf1 24 21 (.bin .lss (.t 23) (zi1 0)),
 zg1 25 (.pick (.t 21) zT1 (.t 24)),
 zm1 26 25,
 zf1 27 26 (.off (.t 1) 2),
 zf1 28 26 (.ld (.t 27) 1 false),
 zf1 29 26 (.bin .gtr (.t 28) (zi1 3)),
 zg1 30 (.pick (.t 26) zT1 (.t 29))] [30] [])
 (.cond (.t 30)
 (.seq (.reg false [zg1 2 (.mov (zi1 10))] [2] [])
 .ret)
 .skip))
 (.seq (.reg false [zg1 2 (.mov (zi1 0))] [2] [])
 .ret))),
 [.tmp 2], false⟩
def ir282 : IFn :=   -- tympan/valid.loose
⟨(.seq (.reg false [zg1 1 (.bx (.t 0) 22 true),
 zg1 2 (.mov (zi1 0))] [1] [1])
 (.seq (.reg true [zg1 5 (.off (.t 1) 19),
 zg1 6 (.ldl 1 (.t 5) 1 false),
 zg1 7 (.off (.t 1) 20),
 zg1 8 (.ldl 1 (.t 7) 1 false),
 zg1 9 (.len (.t 8)),
 zg1 10 (.call 313 [(.t 6), (zi1 5), (.t 9)] false),
 zg1 11 (.off (.t 1) 19),
 zg1 12 (.ldl 1 (.t 11) 1 false),
 zg1 13 (.off (.t 1) 21),
 zg1 14 (.ldl 1 (.t 13) 1 false),
 zg1 15 (.len (.t 14)),
 zg1 16 (.call 313 [(.t 12), (zi1 6), (.t 15)] false),
 zm1 3 10,
 zm1 4 16] [3, 4] [])
 (.seq (.seq (.reg false [zm1 17 3,
 zg1 18 (.bin .lss (.t 17) (zi1 0)),
 zm1 19 18,
 zf1 20 19 (.mov (.t 4)),
 zf1 21 19 (.bin .lss (.t 20) (zi1 0)),
 zg1 22 (.pick (.t 19) zT1 (.t 21))] [3, 4, 22] [])
 (.cond (.t 22)
 (.seq (.reg false [zm1 23 3,
 zm1 24 4,
 zg1 25 (.mnmx true (.t 23) (.t 24)),
 zm1 2 25] [2] [])
 .ret)
 .skip))
 (.seq (.reg false [zm1 26 3,
 zm1 27 4,
 zg1 28 (.mnmx false (.t 26) (.t 27)),
 zm1 2 28] [2] [])
 .ret)))),
 [.tmp 2], false⟩
def ir283 : IFn :=   -- tympan/valid.tall
⟨(.seq (.reg false [zg1 1 (.bx (.t 0) 22 true),
 zg1 2 (.mov (zi1 0))] [1] [1])
 (.seq (.reg false [zg1 4 (.ld (.t 1) 22 true),
 zg1 5 (.call 58 [(.t 4)] false),
 zg1 3 (.al [zo1, zo1, zo1, zo1, zo1, zo1, zo1, zo1, zo1, zo1, zo1, zo1, zo1, zo1, zo1, zo1, zo1, zo1, .p (.bool false), .nils, .nils, .nils] false),
 zn1 (.st (.t 3) (.t 5) 22)] [3] [])
 (.seq (.reg false [zg1 6 (.off (.t 3) 21),
 zg1 7 (.ld (.t 6) 1 false),
 zg1 8 (.mkf (.func 314) [] [(.t 3)]),
 zg1 9 (.call 311 [(.t 7), (.t 8)] false),
 zm1 2 9] [2] [])
 .ret))),
 [.tmp 2], false⟩
def ir284 : IFn :=   -- tympan/sp.above
⟨(.seq (.reg false [zg1 4 (.mov (zi1 0))] [0, 1] [])
 (.seq (.reg false [zm1 6 0,
 zm1 7 1,
 zg1 8 (.bin .rem (.t 6) (.t 7)),
 zm1 5 8] [1, 5] [])
 (.seq (.seq (.reg false [zm1 9 5,
 zg1 10 (.bin .lss (.t 9) (zi1 0))] [1, 5, 10] [])
 (.cond (.t 10)
 (.reg false [zm1 11 5,
 zm1 12 1,
 zg1 13 (.bin .add (.t 11) (.t 12)),
 zm1 5 13] [5] [])
 .skip))
 (.seq (.reg false [zm1 14 5,
 zm1 4 14] [4] [])
 .ret)))),
 [.tmp 4], false⟩
def ir285 : IFn :=   -- tympan/total.both$1
⟨(.seq (.reg false [zg1 6 (.mov (zi1 0))] [0, 1, 2, 3] [])
 (.seq (.reg false [zg1 10 (.ld (.t 2) 1 false),
 zm1 11 0,
 zm1 12 1,
 zg1 13 (.callv (.t 10) [(.t 11), (.t 12)] false),
 zm1 9 13,
 zg1 14 (.ext (.t 9) 0),
 zg1 15 (.ext (.t 9) 1),
 zm1 7 14,
 zm1 8 15] [3, 7, 8] [])
 (.seq (.reg false [zg1 16 (.ld (.t 3) 1 false),
 zm1 17 16,
 zt1 18 17 (.mov (.t 8)),
 zg1 19 (.pick (.t 17) (.t 18) zF1),
 zn1 (.st (.t 3) (.t 19) 1)] [7] [])
 (.seq (.reg false [zm1 20 7,
 zm1 6 20] [6] [])
 .ret)))),
 [.tmp 6], false⟩
def ir286 : IFn :=   -- tympan/tympanref01.Sub
⟨(.seq (.reg false [zg1 4 (.al [zo1, .p (.bool false)] true)] [0, 1, 4] [4])
 (.seq (.seq (.reg false [zm1 5 1,
 zg1 6 (.bin .lss (.t 5) (zi1 0)),
 zm1 7 6,
 zt1 8 7 (.mov (.t 0)),
 zt1 9 7 (.mov (.t 1)),
 zt1 10 7 (.bin .add (zi1 9223372036854775807) (.t 9)),
 zt1 11 7 (.bin .gtr (.t 8) (.t 10)),
 zg1 12 (.pick (.t 7) (.t 11) zF1),
 zm1 13 12,
 zf1 14 13 (.mov (.t 1)),
 zf1 15 13 (.bin .gtr (.t 14) (zi1 0)),
 zf1 16 13 (.mov (.t 15)),
 zt1 17 16 (.mov (.t 0)),
 zt1 18 16 (.mov (.t 1)),
 zt1 19 16 (.bin .add (zi1 (-9223372036854775808)) (.t 18)),
 zt1 20 16 (.bin .lss (.t 17) (.t 19)),
 zf1 21 13 (.pick (.t 16) (.t 20) zF1),
 zg1 22 (.pick (.t 13) zT1 (.t 21))] [0, 1, 4, 22] [4])
 (.cond (.t 22)
 (.seq (.reg false [zg1 23 (.bld [zo1, .p (.bool false)] []),
 zn1 (.st (.t 4) (.t 23) 2)] [4] [4])
 .ret)
 .skip))
 (.seq (.reg false [zm1 24 0,
 zm1 25 1,
 zg1 26 (.bin .sub (.t 24) (.t 25)),
 zg1 27 (.bld [zo1, .p (.bool false)] [(0, 1, (.t 26)), (1, 1, zT1)]),
 zn1 (.st (.t 4) (.t 27) 2)] [4] [4])
 .ret))),
 [.cell 4 2 true], false⟩
def ir288 : IFn :=   -- tympan/bad.rules
⟨(.seq (.reg false [zg1 0 (.mov (.c (.nils)))] [] [])
 (.seq (.reg false [zg1 1 (.bld [.p .nilf, .p .nilf] [(0, 1, (.c (.p (.fn 315)))), (1, 1, (.c (.p (.fn 316))))]),
 zg1 2 (.bld [.p .nilf, .p .nilf] [(0, 1, (.c (.p (.fn 317)))), (1, 1, (.c (.p (.fn 318))))]),
 zg1 3 (.bld [.p .nilf, .p .nilf] [(0, 1, (.c (.p (.fn 319)))), (1, 1, (.c (.p (.fn 320))))]),
 zg1 4 (.bld [.p .nilf, .p .nilf] [(0, 1, (.c (.p (.fn 321)))), (1, 1, (.c (.p (.fn 322))))]),
 zg1 5 (.bsl 2 4 [.p .nilf, .p .nilf] [(0, (.t 1)), (1, (.t 2)), (2, (.t 3)), (3, (.t 4))]),
 zm1 0 5] [0] [])
 .ret)),
 [.tmp 0], false⟩
def ir289 : IFn :=   -- tympan/para.is$1
⟨(.seq (.reg false [zg1 4 (.mov zF1)] [0, 1, 2] [])
 (.seq (.reg false [zg1 8 (.ld (.t 1) 1 false),
 zm1 9 0,
 zg1 10 (.call 193 [(.t 8), (.t 9)] false),
 zm1 7 10,
 zg1 11 (.ext (.t 7) 0),
 zg1 12 (.ext (.t 7) 1),
 zg1 5 (.al [zo1, zo1, zo1, zo1, zo1, zo1, zo1] true),
 zn1 (.st (.t 5) (.t 11) 7),
 zm1 6 12] [2, 5, 6] [5])
 (.seq (.reg false [zm1 13 6,
 zm1 14 13,
 zt1 15 14 (.off (.t 5) 2),
 zt1 16 14 (.ld (.t 15) 1 false),
 zt1 17 14 (.ld (.t 2) 1 false),
 zt1 18 14 (.bin .eql (.t 16) (.t 17)),
 zg1 19 (.pick (.t 14) (.t 18) zF1),
 zm1 4 19] [4] [])
 .ret))),
 [.tmp 4], false⟩
def lp290_0 : IC :=
 (.loop [0, 2, 7, 8] [] (.seq (.seq (.reg false [zm1 12 8,
 zg1 13 (.bin .geq (.t 12) (zi1 0)),
 zm1 14 13,
 zt1 15 14 (.mov (.t 8)),
 zt1 16 14 (.mov (.t 0)),
 zt1 17 14 (.call 78 [(.t 16)] false),
 zt1 18 14 (.bin .lss (.t 15) (.t 17)),
 zg1 19 (.pick (.t 14) (.t 18) zF1)] [0, 2, 7, 8, 19] [])
 (.cond (.t 19)
 .skip
 (.exit 0)))
 (.seq (.block 1 (.seq (.reg false [zm1 24 0,
 zm1 25 8,
 zg1 26 (.call 193 [(.t 24), (.t 25)] false),
 zm1 23 26,
 zg1 27 (.ext (.t 23) 0),
 zg1 28 (.ext (.t 23) 1),
 zg1 9 (.al [zo1, zo1, zo1, zo1, zo1, zo1, zo1] true),
 zn1 (.st (.t 9) (.t 27) 7),
 zm1 10 28] [0, 2, 7, 8, 9] [9])
 (.seq (.reg false [zg1 29 (.off (.t 9) 0),
 zg1 30 (.ld (.t 29) 1 false)] [0, 2, 7, 8, 30] [])
 (.block 2 (.seq (.reg false [zg1 32 (.bin .eql (.t 30) (zi1 1)),
 zm1 31 32] [0, 2, 7, 8, 31] [])
 (.cond (.t 31)
 (.seq (.reg false [zm1 33 8,
 zm1 7 33] [7] [])
 (.exit 0))
 .skip))))))
 (.reg false [zm1 20 8,
 zm1 21 2,
 zg1 22 (.bin .add (.t 20) (.t 21)),
 zm1 8 22] [0, 2, 7, 8] []))))
def ir290 : IFn :=   -- tympan/para.seek
⟨(.seq (.reg false [zg1 6 (.mov (zi1 0))] [0, 1, 2] [])
 (.scope (.seq (.reg false [zg1 7 (.mov (zi1 (-1)))] [0, 1, 2, 7] [])
 (.seq (.label 0)
 (.seq (.seq (.reg false [zm1 11 1,
 zm1 8 11] [0, 2, 7, 8] [])
 (.block 0 lp290_0))
 (.seq (.reg false [zm1 34 7,
 zm1 6 34] [6] [])
 .ret)))))),
 [.tmp 6], false⟩
def ir298 : IFn :=   -- tympan/valid.when$1
⟨(.seq (.reg false [zg1 2 (.bx (.t 0) 22 true),
 zg1 3 (.mov (zi1 0))] [1, 2] [2])
 (.seq (.seq (.reg false [zg1 4 (.ld (.t 1) 1 false),
 zg1 5 (.ld (.t 2) 22 true),
 zg1 6 (.callv (.t 4) [(.t 5)] false)] [6] [])
 (.cond (.t 6)
 (.seq (.reg false [zg1 3 (.mov (zi1 0))] [3] [])
 .ret)
 .skip))
 (.seq (.reg false [zg1 3 (.mov (zi1 (-1)))] [3] [])
 .ret))),
 [.tmp 3], false⟩
def ir299 : IFn :=   -- tympan/geom.within[int]
⟨(.seq (.reg false [zg1 2 (.bx (.t 0) 1 false),
 zg1 3 (.bx (.t 1) 1 false),
 zg1 4 (.mov (.c (.p .nilf)))] [2, 3] [])
 (.seq (.reg false [zg1 5 (.mkf (.func 329) [] [(.t 2), (.t 3)]),
 zm1 4 5] [4] [])
 .ret)),
 [.tmp 4], false⟩
def ir300 : IFn :=   -- tympan/geom.within[tympan/api.Sp]
⟨(.seq (.reg false [zg1 2 (.bx (.t 0) 1 false),
 zg1 3 (.bx (.t 1) 1 false),
 zg1 4 (.mov (.c (.p .nilf)))] [2, 3] [])
 (.seq (.reg false [zg1 5 (.mkf (.func 330) [] [(.t 2), (.t 3)]),
 zm1 4 5] [4] [])
 .ret)),
 [.tmp 4], false⟩
def ir301 : IFn :=   -- tympan/valid.first[tympan/api.Item]$1
⟨(.seq (.reg false [zg1 3 (.mov (zi1 0))] [0, 1] [])
 (.seq (.reg false [zm1 4 0,
 zg1 5 (.mkf (.func 303) [] [(.t 1)]),
 zg1 6 (.call 302 [(.t 4), (.t 5)] false),
 zm1 3 6] [3] [])
 .ret)),
 [.tmp 3], false⟩
def lp302_0 : IC :=
 (.loop [0, 1, 7, 8] [] (.seq (.reg false [zg1 9 (.bin .lss (.t 8) (.t 7))] [0, 1, 7, 8, 9] [])
 (.seq (.cond (.t 9)
 .skip
 (.exit 0))
 (.seq (.block 1 (.seq (.reg false [zm1 10 8,
 zm1 5 10] [0, 1, 5, 7, 8] [])
 (.seq (.reg false [zm1 11 1,
 zm1 12 0,
 zm1 13 5,
 zg1 14 (.ixs (.t 12) (.t 13) 7),
 zg1 15 (.ld (.t 14) 7 true),
 zg1 16 (.callv (.t 11) [(.t 15)] false)] [0, 1, 5, 7, 8, 16] [])
 (.cond (.t 16)
 (.seq (.reg false [zm1 17 5,
 zm1 4 17] [4] [])
 .ret)
 .skip))))
 (.reg false [zg1 18 (.bin .add (.t 8) (zi1 1)),
 zm1 8 18] [0, 1, 7, 8] [])))))
def ir302 : IFn :=   -- slices.IndexFunc[[]tympan/api.Item,tympan/api.Item]
⟨(.seq (.reg false [zg1 4 (.mov (zi1 0))] [0, 1] [])
 (.seq (.seq (.reg false [zm1 6 0,
 zg1 7 (.len (.t 6)),
 zg1 8 (.mov (zi1 0))] [0, 1, 7, 8] [])
 (.block 0 lp302_0))
 (.seq (.reg false [zg1 4 (.mov (zi1 (-1)))] [4] [])
 .ret))),
 [.tmp 4], false⟩
def ir303 : IFn :=   -- tympan/valid.first[tympan/api.Item]$1$1
⟨(.seq (.reg false [zg1 2 (.bx (.t 0) 7 true),
 zg1 3 (.mov zF1)] [1, 2] [2])
 (.seq (.reg false [zg1 4 (.ld (.t 1) 1 false),
 zg1 5 (.ld (.t 2) 7 true),
 zg1 6 (.callv (.t 4) [(.t 5)] false),
 zg1 7 (.bin .neq (.t 6) (zi1 0)),
 zm1 3 7] [3] [])
 .ret)),
 [.tmp 3], false⟩
def ir304 : IFn :=   -- tympan/item.forms
⟨(.seq (.reg false [zg1 0 (.mov (.c (.nils)))] [] [])
 (.seq (.reg false [zg1 1 (.mov (.c (.p (.fn 331))))] [1] [])
 (.seq (.reg false [zg1 2 (.call 305 [(zi1 0)] false),
 zg1 3 (.bld [.p .nilf, .p .nilf] [(0, 1, (.c (.p (.fn 333)))), (1, 1, (.t 2))]),
 zg1 4 (.call 305 [(zi1 0)] false),
 zg1 5 (.bld [.p .nilf, .p .nilf] [(0, 1, (.c (.p (.fn 335)))), (1, 1, (.t 4))]),
 zm1 6 1,
 zg1 7 (.callv (.t 6) [(.c (.p (.fn 337)))] false),
 zg1 8 (.bld [.p .nilf, .p .nilf] [(0, 1, (.t 7)), (1, 1, (.c (.p (.fn 338))))]),
 zm1 9 1,
 zg1 10 (.callv (.t 9) [(.c (.p (.fn 339)))] false),
 zg1 11 (.call 305 [(zi1 1048576)] false),
 zg1 12 (.bld [.p .nilf, .p .nilf] [(0, 1, (.t 10)), (1, 1, (.t 11))]),
 zm1 13 1,
 zg1 14 (.callv (.t 13) [(.c (.p (.fn 340)))] false),
 zg1 15 (.call 305 [(zi1 511)] false),
 zg1 16 (.bld [.p .nilf, .p .nilf] [(0, 1, (.t 14)), (1, 1, (.t 15))]),
 zm1 17 1,
 zg1 18 (.callv (.t 17) [(.c (.p (.fn 341)))] false),
 zg1 19 (.call 305 [(zi1 255)] false),
 zg1 20 (.bld [.p .nilf, .p .nilf] [(0, 1, (.t 18)), (1, 1, (.t 19))]),
 zg1 21 (.call 305 [(zi1 0)] false),
 zg1 22 (.bld [.p .nilf, .p .nilf] [(0, 1, (.c (.p (.fn 342)))), (1, 1, (.t 21))]),
 zg1 23 (.bsl 2 7 [.p .nilf, .p .nilf] [(0, (.t 3)), (1, (.t 5)), (2, (.t 8)), (3, (.t 12)), (4, (.t 16)), (5, (.t 20)), (6, (.t 22))]),
 zm1 0 23] [0] [])
 .ret))),
 [.tmp 0], false⟩
def ir305 : IFn :=   -- tympan/item.upTo
⟨(.seq (.reg false [zg1 1 (.bx (.t 0) 1 false),
 zg1 2 (.mov (.c (.p .nilf)))] [1] [])
 (.seq (.reg false [zg1 3 (.mkf (.func 344) [] [(.t 1)]),
 zm1 2 3] [2] [])
 .ret)),
 [.tmp 2], false⟩
def ir306 : IFn :=   -- tympan/item.long
⟨(.seq (.reg false [zg1 2 (.mov zF1)] [0] [])
 (.seq (.reg false [zm1 3 0,
 zg1 4 (.call 345 [(.t 3), (.c (.p (.fn 346)))] false),
 zg1 5 (.un .not (.t 4)),
 zm1 2 5] [2] [])
 .ret)),
 [.tmp 2], false⟩
def ir307 : IFn :=   -- tympan/valid.first[tympan/api.Note]$1
⟨(.seq (.reg false [zg1 3 (.mov (zi1 0))] [0, 1] [])
 (.seq (.reg false [zm1 4 0,
 zg1 5 (.mkf (.func 309) [] [(.t 1)]),
 zg1 6 (.call 308 [(.t 4), (.t 5)] false),
 zm1 3 6] [3] [])
 .ret)),
 [.tmp 3], false⟩
def lp308_0 : IC :=
 (.loop [0, 1, 7, 8] [] (.seq (.reg false [zg1 9 (.bin .lss (.t 8) (.t 7))] [0, 1, 7, 8, 9] [])
 (.seq (.cond (.t 9)
 .skip
 (.exit 0))
 (.seq (.block 1 (.seq (.reg false [zm1 10 8,
 zm1 5 10] [0, 1, 5, 7, 8] [])
 (.seq (.reg false [zm1 11 1,
 zm1 12 0,
 zm1 13 5,
 zg1 14 (.ixs (.t 12) (.t 13) 2),
 zg1 15 (.ld (.t 14) 2 true),
 zg1 16 (.callv (.t 11) [(.t 15)] false)] [0, 1, 5, 7, 8, 16] [])
 (.cond (.t 16)
 (.seq (.reg false [zm1 17 5,
 zm1 4 17] [4] [])
 .ret)
 .skip))))
 (.reg false [zg1 18 (.bin .add (.t 8) (zi1 1)),
 zm1 8 18] [0, 1, 7, 8] [])))))
def ir308 : IFn :=   -- slices.IndexFunc[[]tympan/api.Note,tympan/api.Note]
⟨(.seq (.reg false [zg1 4 (.mov (zi1 0))] [0, 1] [])
 (.seq (.seq (.reg false [zm1 6 0,
 zg1 7 (.len (.t 6)),
 zg1 8 (.mov (zi1 0))] [0, 1, 7, 8] [])
 (.block 0 lp308_0))
 (.seq (.reg false [zg1 4 (.mov (zi1 (-1)))] [4] [])
 .ret))),
 [.tmp 4], false⟩
def ir309 : IFn :=   -- tympan/valid.first[tympan/api.Note]$1$1
⟨(.seq (.reg false [zg1 2 (.bx (.t 0) 2 true),
 zg1 3 (.mov zF1)] [1, 2] [2])
 (.seq (.reg false [zg1 4 (.ld (.t 1) 1 false),
 zg1 5 (.ld (.t 2) 2 true),
 zg1 6 (.callv (.t 4) [(.t 5)] false),
 zg1 7 (.bin .neq (.t 6) (zi1 0)),
 zm1 3 7] [3] [])
 .ret)),
 [.tmp 3], false⟩
def ir310 : IFn :=   -- tympan/valid.first[tympan/api.Float]$1
⟨(.seq (.reg false [zg1 3 (.mov (zi1 0))] [0, 1] [])
 (.seq (.reg false [zm1 4 0,
 zg1 5 (.mkf (.func 312) [] [(.t 1)]),
 zg1 6 (.call 311 [(.t 4), (.t 5)] false),
 zm1 3 6] [3] [])
 .ret)),
 [.tmp 3], false⟩
end Go.EnvOf
