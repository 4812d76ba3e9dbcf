/- The engine's instructions for the functions, part 2. -/
import Derived.Test.YtddnebpblclpfaaGreatEngAll2
namespace Go.EnvOf
open Go Go.Eng
set_option maxRecDepth 100000
abbrev zm2 (d n : Nat) : GIns := ⟨some d, none, .mov (.t n)⟩
abbrev zT2 : Arg := .c (.p (.bool true))
abbrev zF2 : Arg := .c (.p (.bool false))
abbrev zg2 (d : Nat) (i : Ins) : GIns := ⟨some d, none, i⟩
abbrev zf2 (d k : Nat) (i : Ins) : GIns := ⟨some d, some (k, false), i⟩
abbrev zt2 (d k : Nat) (i : Ins) : GIns := ⟨some d, some (k, true), i⟩
abbrev zn2 (i : Ins) : GIns := ⟨none, none, i⟩
abbrev zi2 (n : Int) : Arg := .c (.p (.int .i64 n))
abbrev zo2 : V := .p (.int .i64 0)
def ir196 : IFn :=   -- tympan/para.Club
⟨(.seq (.reg false [zg2 4 (.mov zF2)] [0, 1] [])
 (.seq (.reg false [zm2 5 0,
 zg2 6 (.call 253 [(.t 5), (zi2 1)] false),
 zm2 7 0,
 zm2 8 1,
 zg2 9 (.call 254 [(.t 7), (.t 8)] false),
 zg2 10 (.callv (.t 6) [(.t 9)] false),
 zm2 4 10] [4] [])
 .ret)),
 [.tmp 4], false⟩
def ir197 : IFn :=   -- tympan/para.Widow
⟨(.seq (.reg false [zg2 4 (.mov zF2)] [0, 1] [])
 (.seq (.reg false [zm2 5 0,
 zg2 6 (.call 253 [(.t 5), (zi2 2)] false),
 zm2 7 0,
 zm2 8 1,
 zg2 9 (.call 255 [(.t 7), (.t 8)] false),
 zg2 10 (.callv (.t 6) [(.t 9)] false),
 zm2 4 10] [4] [])
 .ret)),
 [.tmp 4], false⟩
def ir198 : IFn :=   -- tympan/note.Pen
⟨(.seq (.reg false [zg2 2 (.bx (.t 0) 2 true),
 zg2 4 (.mov (zi2 0))] [1, 2] [2])
 (.seq (.seq (.reg false [zg2 5 (.ld (.t 2) 2 true),
 zm2 6 1,
 zg2 7 (.call 256 [(.t 5), (.t 6)] false)] [1, 2, 7] [2])
 (.cond (.t 7)
 (.seq (.reg false [zg2 8 (.off (.t 2) 1),
 zg2 9 (.ld (.t 8) 1 false),
 zm2 10 1,
 zg2 11 (.bin .sub (.t 10) (zi2 1)),
 zg2 12 (.ixs (.t 9) (.t 11) 1),
 zg2 13 (.ld (.t 12) 1 false),
 zm2 4 13] [4] [])
 .ret)
 .skip))
 (.seq (.reg false [zg2 4 (.mov (zi2 0))] [4] [])
 .ret))),
 [.tmp 4], false⟩
def ir199 : IFn :=   -- (*tympan/cost.Sum).Put
⟨(.seq (.reg false [zg2 3 (.bx (.t 1) 2 true)] [0, 3] [3])
 (.seq (.reg false [zm2 4 0,
 zg2 5 (.eqn .ptr true (.t 4))] [0, 3, 5] [3])
 (.cond (.t 5)
 (.reg true [zm2 6 0,
 zm2 7 0,
 zg2 8 (.nck (.t 7)),
 zg2 9 (.off (.t 8) 0),
 zg2 10 (.ld (.t 9) 2 true),
 zg2 11 (.ldl 3 (.t 3) 2 true),
 zg2 12 (.call 98 [(.t 10), (.t 11)] false),
 zg2 13 (.nck (.t 6)),
 zg2 14 (.off (.t 13) 0),
 zn2 (.st (.t 14) (.t 12) 2)] [] [])
 .skip))),
 [], false⟩
def ir200 : IFn :=   -- (*tympan/cost.Sum).Cost
⟨(.seq (.reg false [zg2 2 (.al [zo2, zo2] true)] [0, 2] [2])
 (.seq (.seq (.reg false [zm2 3 0,
 zg2 4 (.eqn .ptr false (.t 3))] [0, 2, 4] [2])
 (.cond (.t 4)
 (.seq (.reg false [zg2 5 (.bld [zo2, zo2] []),
 zn2 (.st (.t 2) (.t 5) 2)] [2] [2])
 .ret)
 .skip))
 (.seq (.reg false [zm2 6 0,
 zg2 7 (.nck (.t 6)),
 zg2 8 (.off (.t 7) 0),
 zg2 9 (.ld (.t 8) 2 true),
 zn2 (.st (.t 2) (.t 9) 2)] [2] [2])
 .ret))),
 [.cell 2 2 true], false⟩
def lp201_0 : IC :=
 (.loop [2, 3, 7, 8] [3] (.seq (.seq (.reg false [zm2 17 8,
 zm2 18 2,
 zg2 19 (.bin .lss (.t 17) (.t 18))] [2, 3, 7, 8, 19] [3])
 (.cond (.t 19)
 .skip
 (.exit 0)))
 (.seq (.block 1 (.reg false [zm2 22 7,
 zg2 23 (.off (.t 3) 0),
 zg2 24 (.ld (.t 23) 1 false),
 zm2 25 8,
 zg2 26 (.ixs (.t 24) (.t 25) 1),
 zg2 27 (.ld (.t 26) 1 false),
 zg2 28 (.mnmx true (.t 27) (zi2 0)),
 zg2 29 (.mnmx false (.t 28) (zi2 1125899906842624)),
 zg2 30 (.bin .add (.t 22) (.t 29)),
 zg2 31 (.mnmx false (.t 30) (zi2 1125899906842624)),
 zm2 7 31] [2, 3, 7, 8] [3]))
 (.reg false [zm2 20 8,
 zg2 21 (.bin .add (.t 20) (zi2 1)),
 zm2 8 21] [2, 3, 7, 8] [3]))))
def ir201 : IFn :=   -- tympan/note.High
⟨(.seq (.reg false [zg2 3 (.bx (.t 0) 2 true),
 zg2 6 (.mov (zi2 0))] [1, 2, 3] [3])
 (.seq (.reg true [zm2 9 1,
 zg2 10 (.mnmx true (.t 9) (zi2 0)),
 zm2 11 2,
 zg2 12 (.off (.t 3) 0),
 zg2 13 (.ldl 3 (.t 12) 1 false),
 zg2 14 (.len (.t 13)),
 zg2 15 (.mnmx false (.t 11) (.t 14)),
 zm2 1 10,
 zm2 2 15] [1, 2, 3] [3])
 (.seq (.reg false [zg2 7 (.mov (zi2 0))] [1, 2, 3, 7] [3])
 (.seq (.seq (.reg false [zm2 16 1,
 zm2 8 16] [2, 3, 7, 8] [3])
 (.block 0 lp201_0))
 (.seq (.reg false [zm2 32 7,
 zm2 6 32] [6] [])
 .ret))))),
 [.tmp 6], false⟩
def ir202 : IFn :=   -- tympan/gset.Right
⟨(.seq (.reg false [zg2 2 (.bx (.t 0) 6 true),
 zg2 4 (.mov zF2)] [1, 2] [2])
 (.seq (.reg false [zg2 5 (.ld (.t 2) 6 true),
 zg2 6 (.call 209 [(.t 5)] false),
 zm2 7 6,
 zt2 8 7 (.mov (.t 1)),
 zt2 9 7 (.bin .geq (.t 8) (zi2 (-1125899906842624))),
 zg2 10 (.pick (.t 7) (.t 9) zF2),
 zm2 11 10,
 zt2 12 11 (.mov (.t 1)),
 zt2 13 11 (.bin .leq (.t 12) (zi2 1125899906842624)),
 zg2 14 (.pick (.t 11) (.t 13) zF2),
 zm2 4 14] [4] [])
 .ret)),
 [.tmp 4], false⟩
def lp203_0 : IC :=
 (.loop [1, 3] [1] (.seq (.seq (.reg false [zm2 4 3,
 zg2 5 (.bin .gtr (.t 4) (zi2 0))] [1, 3, 5] [1])
 (.cond (.t 5)
 .skip
 (.exit 0)))
 (.seq (.block 1 (.seq (.reg false [zm2 8 3,
 zg2 9 (.off (.t 1) 1),
 zg2 10 (.ixa (.t 9) (.t 8) 1 4),
 zg2 11 (.ld (.t 10) 1 false),
 zg2 12 (.bin .neq (.t 11) (zi2 0))] [1, 3, 12] [1])
 (.cond (.t 12)
 (.seq (.reg false [zm2 13 3,
 zm2 2 13] [2] [])
 .ret)
 .skip)))
 (.reg false [zm2 6 3,
 zg2 7 (.bin .sub (.t 6) (zi2 1)),
 zm2 3 7] [1, 3] [1]))))
def ir203 : IFn :=   -- tympan/total.Order
⟨(.seq (.reg false [zg2 1 (.bx (.t 0) 6 true),
 zg2 2 (.mov (zi2 0))] [1] [1])
 (.seq (.seq (.reg false [zg2 3 (.mov (zi2 3))] [1, 3] [1])
 (.block 0 lp203_0))
 (.seq (.reg false [zg2 2 (.mov (zi2 0))] [2] [])
 .ret))),
 [.tmp 2], false⟩
def ir204 : IFn :=   -- (*tympan/sums.Sums).within
⟨(.seq (.reg false [zg2 6 (.mov (zi2 0)),
 zg2 7 (.mov (zi2 0)),
 zg2 8 (.mov zF2)] [0, 1, 2] [])
 (.seq (.reg false [zm2 9 1,
 zg2 10 (.mnmx true (.t 9) (zi2 0)),
 zm2 11 2,
 zm2 12 0,
 zg2 13 (.call 257 [(.t 12)] false),
 zg2 14 (.mnmx false (.t 11) (.t 13)),
 zm2 1 10,
 zm2 2 14] [1, 2] [])
 (.seq (.reg false [zm2 15 1,
 zm2 16 2,
 zm2 17 1,
 zm2 18 2,
 zg2 19 (.bin .lss (.t 17) (.t 18)),
 zm2 6 15,
 zm2 7 16,
 zm2 8 19] [6, 7, 8] [])
 .ret))),
 [.tmp 6, .tmp 7, .tmp 8], false⟩
def ir205 : IFn :=   -- tympan/total.Sub
⟨(.seq (.reg false [zg2 2 (.bx (.t 0) 6 true),
 zg2 3 (.bx (.t 1) 6 true),
 zg2 4 (.al [zo2, zo2, zo2, zo2, zo2, zo2] true),
 zg2 5 (.mov zF2)] [2, 3, 4] [2, 3, 4])
 (.seq (.reg false [zg2 6 (.ld (.t 2) 6 true),
 zg2 7 (.ld (.t 3) 6 true),
 zg2 8 (.call 229 [(.t 6), (.t 7), (.c (.p (.fn 258)))] false),
 zg2 9 (.ext (.t 8) 0),
 zg2 10 (.ext (.t 8) 1),
 zn2 (.st (.t 4) (.t 9) 6),
 zm2 5 10] [4, 5] [4])
 .ret)),
 [.cell 4 6 true, .tmp 5], false⟩
def ir208 : IFn :=   -- tympan/gset.fair
⟨(.seq (.reg false [zg2 2 (.mov zF2)] [0] [])
 (.seq (.reg false [zm2 3 0,
 zg2 4 (.bin .geq (.t 3) (zi2 0)),
 zm2 5 4,
 zt2 6 5 (.mov (.t 0)),
 zt2 7 5 (.bin .leq (.t 6) (zi2 1125899906842624)),
 zg2 8 (.pick (.t 5) (.t 7) zF2),
 zm2 2 8] [2] [])
 .ret)),
 [.tmp 2], false⟩
def lp209_0 : IC :=
 (.loop [1, 6, 7] [1] (.seq (.reg false [zg2 8 (.bin .lss (.t 7) (zi2 4))] [1, 6, 7, 8] [1])
 (.seq (.cond (.t 8)
 .skip
 (.exit 0))
 (.seq (.block 1 (.seq (.reg false [zg2 9 (.ixv (.t 6) (.t 7) 1 4 false),
 zm2 4 9] [1, 4, 6, 7] [1])
 (.seq (.reg false [zm2 10 4,
 zg2 11 (.call 208 [(.t 10)] false),
 zg2 12 (.un .not (.t 11))] [1, 6, 7, 12] [1])
 (.cond (.t 12)
 (.seq (.reg false [zg2 2 (.mov zF2)] [2] [])
 .ret)
 .skip))))
 (.reg false [zg2 13 (.bin .add (.t 7) (zi2 1)),
 zm2 7 13] [1, 6, 7] [1])))))
def ir209 : IFn :=   -- tympan/gset.fields
⟨(.seq (.reg false [zg2 1 (.bx (.t 0) 6 true),
 zg2 2 (.mov zF2)] [1] [1])
 (.seq (.seq (.reg false [zg2 5 (.off (.t 1) 1),
 zg2 6 (.ld (.t 5) 4 true),
 zg2 7 (.mov (zi2 0))] [1, 6, 7] [1])
 (.block 0 lp209_0))
 (.seq (.reg false [zg2 14 (.off (.t 1) 0),
 zg2 15 (.ld (.t 14) 1 false),
 zg2 16 (.call 208 [(.t 15)] false),
 zm2 17 16,
 zt2 18 17 (.off (.t 1) 5),
 zt2 19 17 (.ld (.t 18) 1 false),
 zt2 20 17 (.call 208 [(.t 19)] false),
 zg2 21 (.pick (.t 17) (.t 20) zF2),
 zm2 2 21] [2] [])
 .ret))),
 [.tmp 2], false⟩
def ir212 : IFn :=   -- tympan/figure.High$1
⟨(.seq (.reg false [zg2 2 (.mov (zi2 0))] [0] [])
 (.seq (.reg false [zm2 3 0,
 zg2 4 (.mnmx true (.t 3) (zi2 0)),
 zg2 5 (.mnmx false (.t 4) (zi2 1125899906842624)),
 zm2 2 5] [2] [])
 .ret)),
 [.tmp 2], false⟩
def lp213_0 : IC :=
 (.loop [0, 1, 7, 8] [] (.seq (.seq (.reg false [zm2 15 8,
 zm2 16 1,
 zg2 17 (.len (.t 16)),
 zg2 18 (.bin .lss (.t 15) (.t 17))] [0, 1, 7, 8, 18] [])
 (.cond (.t 18)
 .skip
 (.exit 0)))
 (.seq (.block 1 (.seq (.reg false [zm2 21 1,
 zm2 22 8,
 zg2 23 (.ixs (.t 21) (.t 22) 3),
 zg2 24 (.off (.t 23) 0),
 zg2 25 (.ld (.t 24) 1 false),
 zg2 26 (.bin .geq (.t 25) (zi2 0)),
 zm2 27 26,
 zt2 28 27 (.mov (.t 1)),
 zt2 29 27 (.mov (.t 8)),
 zt2 30 27 (.ixs (.t 28) (.t 29) 3),
 zt2 31 27 (.off (.t 30) 0),
 zt2 32 27 (.ld (.t 31) 1 false),
 zt2 33 27 (.mov (.t 0)),
 zt2 34 27 (.len (.t 33)),
 zt2 35 27 (.bin .lss (.t 32) (.t 34)),
 zg2 36 (.pick (.t 27) (.t 35) zF2)] [0, 1, 7, 8, 36] [])
 (.cond (.t 36)
 (.reg true [zm2 37 7,
 zm2 38 0,
 zm2 39 1,
 zm2 40 8,
 zg2 41 (.ixs (.t 39) (.t 40) 3),
 zg2 42 (.off (.t 41) 0),
 zg2 43 (.ld (.t 42) 1 false),
 zg2 44 (.ixs (.t 38) (.t 43) 2),
 zg2 45 (.ld (.t 44) 2 true),
 zm2 46 1,
 zm2 47 8,
 zg2 48 (.ixs (.t 46) (.t 47) 3),
 zg2 49 (.off (.t 48) 1),
 zg2 50 (.ld (.t 49) 1 false),
 zm2 51 1,
 zm2 52 8,
 zg2 53 (.ixs (.t 51) (.t 52) 3),
 zg2 54 (.off (.t 53) 2),
 zg2 55 (.ld (.t 54) 1 false),
 zg2 56 (.call 262 [(.t 45), (.t 50), (.t 55)] false),
 zg2 57 (.bin .add (.t 37) (.t 56)),
 zg2 58 (.mnmx false (.t 57) (zi2 1125899906842624)),
 zm2 7 58] [0, 1, 7, 8] [])
 .skip)))
 (.reg false [zm2 19 8,
 zg2 20 (.bin .add (.t 19) (zi2 1)),
 zm2 8 20] [0, 1, 7, 8] []))))
def ir213 : IFn :=   -- tympan/tympanref22.High
⟨(.seq (.reg false [zg2 6 (.mov (zi2 0))] [0, 1, 2] [])
 (.seq (.seq (.reg false [zm2 9 1,
 zg2 10 (.len (.t 9)),
 zg2 11 (.bin .eql (.t 10) (zi2 0))] [0, 1, 2, 11] [])
 (.cond (.t 11)
 (.seq (.reg false [zg2 6 (.mov (zi2 0))] [6] [])
 .ret)
 .skip))
 (.seq (.reg false [zm2 12 2,
 zg2 13 (.mnmx false (.t 12) (zi2 1125899906842624)),
 zg2 14 (.mnmx true (zi2 0) (.t 13)),
 zm2 7 14] [0, 1, 7] [])
 (.seq (.seq (.reg false [zg2 8 (.mov (zi2 0))] [0, 1, 7, 8] [])
 (.block 0 lp213_0))
 (.seq (.reg false [zm2 59 7,
 zm2 6 59] [6] [])
 .ret))))),
 [.tmp 6], false⟩
def lp219_0 : IC :=
 (.loop [0, 3, 4] [] (.seq (.seq (.reg false [zm2 5 4,
 zm2 6 0,
 zg2 7 (.len (.t 6)),
 zg2 8 (.bin .lss (.t 5) (.t 7))] [0, 3, 4, 8] [])
 (.cond (.t 8)
 .skip
 (.exit 0)))
 (.seq (.block 1 (.reg true [zm2 11 3,
 zm2 12 0,
 zm2 13 4,
 zg2 14 (.ixs (.t 12) (.t 13) 3),
 zg2 15 (.off (.t 14) 2),
 zg2 16 (.ld (.t 15) 1 false),
 zm2 17 0,
 zm2 18 4,
 zg2 19 (.ixs (.t 17) (.t 18) 3),
 zg2 20 (.off (.t 19) 1),
 zg2 21 (.ld (.t 20) 1 false),
 zg2 22 (.bin .sub (.t 16) (.t 21)),
 zg2 23 (.mnmx true (zi2 0) (.t 22)),
 zg2 24 (.bin .add (.t 11) (.t 23)),
 zm2 3 24] [0, 3, 4] []))
 (.reg false [zm2 9 4,
 zg2 10 (.bin .add (.t 9) (zi2 1)),
 zm2 4 10] [0, 3, 4] []))))
def ir219 : IFn :=   -- tympan/tympanref22.Lines
⟨(.seq (.reg false [zg2 2 (.mov (zi2 0))] [0] [])
 (.seq (.reg false [zg2 3 (.mov (zi2 0))] [0, 3] [])
 (.seq (.seq (.reg false [zg2 4 (.mov (zi2 0))] [0, 3, 4] [])
 (.block 0 lp219_0))
 (.seq (.reg false [zm2 25 3,
 zm2 2 25] [2] [])
 .ret)))),
 [.tmp 2], false⟩
def lp220_0 : IC :=
 (.loop [0, 1, 12, 13] [] (.seq (.reg false [zg2 14 (.bin .lss (.t 13) (.t 12))] [0, 1, 12, 13, 14] [])
 (.seq (.cond (.t 14)
 .skip
 (.exit 0))
 (.seq (.block 1 (.seq (.reg false [zm2 15 13,
 zm2 5 15] [0, 1, 5, 12, 13] [])
 (.seq (.reg true [zm2 16 0,
 zm2 17 5,
 zg2 18 (.ixs (.t 16) (.t 17) 3),
 zg2 19 (.ld (.t 18) 3 true),
 zm2 20 1,
 zm2 21 5,
 zg2 22 (.ixs (.t 20) (.t 21) 3),
 zg2 23 (.ld (.t 22) 3 true),
 zg2 24 (.eqa true [true, true, true] (.t 19) (.t 23))] [0, 1, 12, 13, 24] [])
 (.cond (.t 24)
 (.seq (.reg false [zg2 4 (.mov zF2)] [4] [])
 .ret)
 .skip))))
 (.reg false [zg2 25 (.bin .add (.t 13) (zi2 1)),
 zm2 13 25] [0, 1, 12, 13] [])))))
def ir220 : IFn :=   -- slices.Equal[[]tympan/api.Piece,tympan/api.Piece]
⟨(.seq (.reg false [zg2 4 (.mov zF2)] [0, 1] [])
 (.seq (.seq (.reg false [zm2 6 0,
 zg2 7 (.len (.t 6)),
 zm2 8 1,
 zg2 9 (.len (.t 8)),
 zg2 10 (.bin .neq (.t 7) (.t 9))] [0, 1, 10] [])
 (.cond (.t 10)
 (.seq (.reg false [zg2 4 (.mov zF2)] [4] [])
 .ret)
 .skip))
 (.seq (.seq (.reg false [zm2 11 0,
 zg2 12 (.len (.t 11)),
 zg2 13 (.mov (zi2 0))] [0, 1, 12, 13] [])
 (.block 0 lp220_0))
 (.seq (.reg false [zg2 4 (.mov zT2)] [4] [])
 .ret)))),
 [.tmp 4], false⟩
def ir221 : IFn :=   -- tympan/valid.clauses
⟨(.seq (.reg false [zg2 0 (.mov (.c (.nils)))] [] [])
 (.seq (.reg false [zg2 1 (.call 266 [(.c (.p (.fn 267)))] false),
 zg2 2 (.bld [zo2, .p .nilf] [(0, 1, (zi2 3)), (1, 1, (.t 1))]),
 zg2 3 (.call 266 [(.c (.p (.fn 268)))] false),
 zg2 4 (.bld [zo2, .p .nilf] [(0, 1, (zi2 4)), (1, 1, (.t 3))]),
 zg2 5 (.call 266 [(.c (.p (.fn 269)))] false),
 zg2 6 (.bld [zo2, .p .nilf] [(0, 1, (zi2 5)), (1, 1, (.t 5))]),
 zg2 7 (.call 266 [(.c (.p (.fn 270)))] false),
 zg2 8 (.bld [zo2, .p .nilf] [(0, 1, (zi2 6)), (1, 1, (.t 7))]),
 zg2 9 (.call 266 [(.c (.p (.fn 272)))] false),
 zg2 10 (.bld [zo2, .p .nilf] [(0, 1, (zi2 7)), (1, 1, (.t 9))]),
 zg2 11 (.bld [zo2, .p .nilf] [(0, 1, (zi2 8)), (1, 1, (.c (.p (.fn 273))))]),
 zg2 12 (.bld [zo2, .p .nilf] [(0, 1, (zi2 9)), (1, 1, (.c (.p (.fn 276))))]),
 zg2 13 (.bld [zo2, .p .nilf] [(0, 1, (zi2 10)), (1, 1, (.c (.p (.fn 279))))]),
 zg2 14 (.bld [zo2, .p .nilf] [(0, 1, (zi2 11)), (1, 1, (.c (.p (.fn 282))))]),
 zg2 15 (.bld [zo2, .p .nilf] [(0, 1, (zi2 12)), (1, 1, (.c (.p (.fn 283))))]),
 zg2 16 (.bsl 2 10 [zo2, .p .nilf] [(0, (.t 2)), (1, (.t 4)), (2, (.t 6)), (3, (.t 8)), (4, (.t 10)), (5, (.t 11)), (6, (.t 12)), (7, (.t 13)), (8, (.t 14)), (9, (.t 15))]),
 zm2 0 16] [0] [])
 .ret)),
 [.tmp 0], false⟩
def ir222 : IFn :=   -- tympan/grid.Near
⟨(.seq (.reg false [zg2 4 (.mov (zi2 0))] [0, 1] [])
 (.seq (.seq (.reg false [zm2 6 1,
 zg2 7 (.bin .lss (.t 6) (zi2 1))] [0, 1, 7] [])
 (.cond (.t 7)
 (.seq (.reg false [zm2 8 0,
 zm2 4 8] [4] [])
 .ret)
 .skip))
 (.seq (.reg false [zm2 9 0,
 zm2 10 1,
 zg2 11 (.bin .rem (.t 9) (.t 10)),
 zm2 5 11] [0, 1, 5] [])
 (.seq (.seq (.reg false [zm2 12 5,
 zg2 13 (.bin .lss (.t 12) (zi2 0))] [0, 1, 5, 13] [])
 (.cond (.t 13)
 (.reg false [zm2 14 5,
 zm2 15 1,
 zg2 16 (.bin .add (.t 14) (.t 15)),
 zm2 5 16] [0, 1, 5] [])
 .skip))
 (.seq (.seq (.reg false [zm2 17 5,
 zm2 18 1,
 zm2 19 5,
 zg2 20 (.bin .sub (.t 18) (.t 19)),
 zg2 21 (.bin .lss (.t 17) (.t 20))] [0, 1, 21] [])
 (.cond (.t 21)
 (.seq (.reg false [zm2 22 0,
 zm2 23 1,
 zg2 24 (.call 150 [(.t 22), (.t 23)] false),
 zm2 4 24] [4] [])
 .ret)
 .skip))
 (.seq (.reg false [zm2 25 0,
 zm2 26 1,
 zg2 27 (.call 151 [(.t 25), (.t 26)] false),
 zm2 4 27] [4] [])
 .ret)))))),
 [.tmp 4], false⟩
def ir223 : IFn :=   -- tympan/grid.or
⟨(.seq (.reg false [zg2 6 (.mov (zi2 0))] [0, 1, 2] [])
 (.seq (.seq (.reg false [zm2 10 2,
 zm2 11 0,
 zm2 12 1,
 zg2 13 (.callv (.t 10) [(.t 11), (.t 12)] false),
 zm2 9 13,
 zg2 14 (.ext (.t 9) 0),
 zg2 15 (.ext (.t 9) 1),
 zm2 7 14,
 zm2 8 15] [0, 7, 8] [])
 (.seq (.reg false [zm2 16 8] [0, 7, 16] [])
 (.cond (.t 16)
 (.seq (.reg false [zm2 17 7,
 zm2 6 17] [6] [])
 .ret)
 .skip)))
 (.seq (.reg false [zm2 18 0,
 zm2 6 18] [6] [])
 .ret))),
 [.tmp 6], false⟩
def ir224 : IFn :=   -- tympan/sp.Down
⟨(.seq (.reg false [zg2 4 (.mov (zi2 0)),
 zg2 5 (.mov zF2)] [0, 1] [])
 (.seq (.seq (.reg false [zm2 6 1,
 zg2 7 (.bin .lss (.t 6) (zi2 1))] [0, 1, 7] [])
 (.cond (.t 7)
 (.seq (.reg false [zg2 4 (.mov (zi2 0)),
 zg2 5 (.mov zF2)] [4, 5] [])
 .ret)
 .skip))
 (.seq (.reg false [zm2 8 0,
 zm2 9 0,
 zm2 10 1,
 zg2 11 (.call 284 [(.t 9), (.t 10)] false),
 zg2 12 (.call 258 [(.t 8), (.t 11)] false),
 zg2 13 (.ext (.t 12) 0),
 zg2 14 (.ext (.t 12) 1),
 zm2 4 13,
 zm2 5 14] [4, 5] [])
 .ret))),
 [.tmp 4, .tmp 5], false⟩
def ir225 : IFn :=   -- tympan/sp.Up
⟨(.seq (.reg false [zg2 4 (.mov (zi2 0)),
 zg2 5 (.mov zF2)] [0, 1] [])
 (.seq (.seq (.reg false [zm2 7 1,
 zg2 8 (.bin .lss (.t 7) (zi2 1))] [0, 1, 8] [])
 (.cond (.t 8)
 (.seq (.reg false [zg2 4 (.mov (zi2 0)),
 zg2 5 (.mov zF2)] [4, 5] [])
 .ret)
 .skip))
 (.seq (.seq (.reg false [zm2 9 0,
 zm2 10 1,
 zg2 11 (.call 284 [(.t 9), (.t 10)] false),
 zm2 6 11] [0, 1, 6] [])
 (.seq (.reg false [zm2 12 6,
 zg2 13 (.bin .gtr (.t 12) (zi2 0))] [0, 1, 6, 13] [])
 (.cond (.t 13)
 (.seq (.reg false [zm2 14 0,
 zm2 15 1,
 zm2 16 6,
 zg2 17 (.bin .sub (.t 15) (.t 16)),
 zg2 18 (.call 230 [(.t 14), (.t 17)] false),
 zg2 19 (.ext (.t 18) 0),
 zg2 20 (.ext (.t 18) 1),
 zm2 4 19,
 zm2 5 20] [4, 5] [])
 .ret)
 .skip)))
 (.seq (.reg false [zm2 21 0,
 zm2 4 21,
 zg2 5 (.mov zT2)] [4, 5] [])
 .ret)))),
 [.tmp 4, .tmp 5], false⟩
def ir226 : IFn :=   -- tympan/total.Box
⟨(.seq (.reg false [zg2 2 (.al [zo2, zo2, zo2, zo2, zo2, zo2] true)] [0, 2] [2])
 (.seq (.reg false [zm2 3 0,
 zg2 4 (.bld [zo2, zo2, zo2, zo2, zo2, zo2] [(0, 1, (.t 3))]),
 zn2 (.st (.t 2) (.t 4) 6)] [2] [2])
 .ret)),
 [.cell 2 6 true], false⟩
def ir227 : IFn :=   -- tympan/total.Glue
⟨(.seq (.reg false [zg2 8 (.al [zo2, zo2, zo2, zo2, zo2, zo2] true)] [0, 1, 2, 3, 8] [8])
 (.seq (.reg false [zm2 10 0,
 zm2 11 3,
 zg2 12 (.bld [zo2, zo2, zo2, zo2, zo2, zo2] [(0, 1, (.t 10)), (5, 1, (.t 11))]),
 zg2 9 (.al [zo2, zo2, zo2, zo2, zo2, zo2] true),
 zn2 (.st (.t 9) (.t 12) 6)] [1, 2, 8, 9] [8, 9])
 (.seq (.seq (.reg false [zm2 13 2,
 zg2 14 (.bin .geq (.t 13) (zi2 0)),
 zm2 15 14,
 zt2 16 15 (.mov (.t 2)),
 zt2 17 15 (.bin .lss (.t 16) (zi2 4)),
 zg2 18 (.pick (.t 15) (.t 17) zF2)] [1, 2, 8, 9, 18] [8, 9])
 (.cond (.t 18)
 (.reg false [zm2 19 2,
 zm2 20 1,
 zg2 21 (.off (.t 9) 1),
 zg2 22 (.ixa (.t 21) (.t 19) 1 4),
 zn2 (.st (.t 22) (.t 20) 1)] [8, 9] [8, 9])
 .skip))
 (.seq (.reg false [zg2 23 (.ld (.t 9) 6 true),
 zn2 (.st (.t 8) (.t 23) 6)] [8] [8])
 .ret)))),
 [.cell 8 6 true], false⟩
def ir228 : IFn :=   -- tympan/sums.fair$1
⟨(.seq (.reg false [zg2 2 (.mov zF2)] [0] [])
 (.seq (.reg false [zm2 3 0,
 zg2 4 (.bin .geq (.t 3) (zi2 0)),
 zm2 5 4,
 zt2 6 5 (.mov (.t 0)),
 zt2 7 5 (.bin .leq (.t 6) (zi2 4294967296)),
 zg2 8 (.pick (.t 5) (.t 7) zF2),
 zm2 2 8] [2] [])
 .ret)),
 [.tmp 2], false⟩
def lp229_0 : IC :=
 (.loop [3, 4, 6, 8, 9, 10, 26] [3, 4, 6, 10] (.seq (.reg false [zg2 27 (.bin .lss (.t 26) (zi2 4))] [3, 4, 6, 8, 9, 10, 26, 27] [3, 4, 6, 10])
 (.seq (.cond (.t 27)
 .skip
 (.exit 0))
 (.seq (.block 1 (.seq (.reg false [zm2 28 26,
 zm2 11 28] [3, 4, 6, 8, 9, 10, 11, 26] [3, 4, 6, 10])
 (.reg true [zm2 29 11,
 zm2 30 9,
 zm2 31 11,
 zg2 32 (.off (.t 3) 1),
 zg2 33 (.ixa (.t 32) (.t 31) 1 4),
 zg2 34 (.ldl 3 (.t 33) 1 false),
 zm2 35 11,
 zg2 36 (.off (.t 4) 1),
 zg2 37 (.ixa (.t 36) (.t 35) 1 4),
 zg2 38 (.ldl 4 (.t 37) 1 false),
 zg2 39 (.callv (.t 30) [(.t 34), (.t 38)] false),
 zg2 40 (.off (.t 10) 1),
 zg2 41 (.ixa (.t 40) (.t 29) 1 4),
 zn2 (.stl 10 (.t 41) (.t 39) 1)] [3, 4, 6, 8, 9, 10, 26] [3, 4, 6, 10])))
 (.reg false [zg2 42 (.bin .add (.t 26) (zi2 1)),
 zm2 26 42] [3, 4, 6, 8, 9, 10, 26] [3, 4, 6, 10])))))
def ir229 : IFn :=   -- tympan/total.both
⟨(.seq (.reg false [zg2 3 (.bx (.t 0) 6 true),
 zg2 4 (.bx (.t 1) 6 true),
 zg2 5 (.bx (.t 2) 1 false),
 zg2 6 (.al [zo2, zo2, zo2, zo2, zo2, zo2] true),
 zg2 7 (.mov zF2)] [3, 4, 5, 6] [3, 4, 6])
 (.seq (.reg false [zg2 8 (.al [.p (.bool false)] false),
 zn2 (.st (.t 8) zT2 1)] [3, 4, 5, 6, 8] [3, 4, 6])
 (.seq (.reg false [zg2 12 (.mkf (.func 285) [] [(.t 5), (.t 8)]),
 zm2 9 12] [3, 4, 6, 8, 9] [3, 4, 6])
 (.seq (.prep [10] (.reg true [zm2 13 9,
 zg2 14 (.off (.t 3) 0),
 zg2 15 (.ldl 3 (.t 14) 1 false),
 zg2 16 (.off (.t 4) 0),
 zg2 17 (.ldl 4 (.t 16) 1 false),
 zg2 18 (.callv (.t 13) [(.t 15), (.t 17)] false),
 zm2 19 9,
 zg2 20 (.off (.t 3) 5),
 zg2 21 (.ldl 3 (.t 20) 1 false),
 zg2 22 (.off (.t 4) 5),
 zg2 23 (.ldl 4 (.t 22) 1 false),
 zg2 24 (.callv (.t 19) [(.t 21), (.t 23)] false),
 zg2 25 (.bld [zo2, zo2, zo2, zo2, zo2, zo2] [(0, 1, (.t 18)), (5, 1, (.t 24))]),
 zg2 10 (.alp [zo2, zo2, zo2, zo2, zo2, zo2]),
 zn2 (.stl 10 (.t 10) (.t 25) 6)] [3, 4, 6, 8, 9, 10] [3, 4, 6, 10]))
 (.seq (.seq (.reg false [zg2 26 (.mov (zi2 0))] [3, 4, 6, 8, 9, 10, 26] [3, 4, 6, 10])
 (.block 0 lp229_0))
 (.seq (.seq (.reg false [zg2 43 (.ld (.t 8) 1 false),
 zg2 44 (.un .not (.t 43))] [6, 10, 44] [6, 10])
 (.cond (.t 44)
 (.seq (.reg false [zg2 45 (.bld [zo2, zo2, zo2, zo2, zo2, zo2] []),
 zn2 (.st (.t 6) (.t 45) 6),
 zg2 7 (.mov zF2)] [6, 7] [6])
 .ret)
 .skip))
 (.seq (.reg false [zg2 46 (.ld (.t 10) 6 true),
 zn2 (.st (.t 6) (.t 46) 6),
 zg2 7 (.mov zT2)] [6, 7] [6])
 .ret))))))),
 [.cell 6 6 true, .tmp 7], false⟩
def ir230 : IFn :=   -- tympan/sp.Add
⟨(.seq (.reg false [zg2 4 (.mov (zi2 0)),
 zg2 5 (.mov zF2)] [0, 1] [])
 (.seq (.reg false [zm2 7 0,
 zm2 8 1,
 zg2 9 (.bin .add (.t 7) (.t 8)),
 zm2 6 9] [0, 1, 6] [])
 (.seq (.seq (.reg false [zm2 10 6,
 zm2 11 0,
 zg2 12 (.bin .gtr (.t 10) (.t 11)),
 zm2 13 1,
 zg2 14 (.bin .gtr (.t 13) (zi2 0)),
 zg2 15 (.eqb true (.t 12) (.t 14)),
 zm2 16 15,
 zt2 17 16 (.mov (.t 1)),
 zt2 18 16 (.bin .neq (.t 17) (zi2 0)),
 zg2 19 (.pick (.t 16) (.t 18) zF2)] [6, 19] [])
 (.cond (.t 19)
 (.seq (.reg false [zg2 4 (.mov (zi2 0)),
 zg2 5 (.mov zF2)] [4, 5] [])
 .ret)
 .skip))
 (.seq (.reg false [zm2 20 6,
 zm2 4 20,
 zg2 5 (.mov zT2)] [4, 5] [])
 .ret)))),
 [.tmp 4, .tmp 5], false⟩
def ir231 : IFn :=   -- tympan/tympanref14.got
⟨(.seq (.reg false [zg2 2 (.bx (.t 0) 2 true),
 zg2 4 (.mov (zi2 0))] [1, 2] [2])
 (.seq (.seq (.reg false [zg2 5 (.off (.t 2) 1),
 zg2 6 (.ld (.t 5) 1 false)] [1, 2, 6] [2])
 (.cond (.t 6)
 (.seq (.reg false [zg2 7 (.off (.t 2) 0),
 zg2 8 (.ld (.t 7) 1 false),
 zm2 4 8] [4] [])
 .ret)
 .skip))
 (.seq (.reg false [zm2 9 1,
 zm2 4 9] [4] [])
 .ret))),
 [.tmp 4], false⟩
def ir232 : IFn :=   -- tympan/tympanref01.Down
⟨(.seq (.reg false [zg2 4 (.al [zo2, .p (.bool false)] true)] [0, 1, 4] [4])
 (.seq (.seq (.reg false [zm2 6 1,
 zg2 7 (.bin .lss (.t 6) (zi2 1))] [0, 1, 4, 7] [4])
 (.cond (.t 7)
 (.seq (.reg false [zg2 8 (.bld [zo2, .p (.bool false)] []),
 zn2 (.st (.t 4) (.t 8) 2)] [4] [4])
 .ret)
 .skip))
 (.seq (.reg false [zm2 9 0,
 zm2 10 1,
 zg2 11 (.bin .rem (.t 9) (.t 10)),
 zm2 5 11] [0, 1, 4, 5] [4])
 (.seq (.seq (.reg false [zm2 12 5,
 zg2 13 (.bin .lss (.t 12) (zi2 0))] [0, 1, 4, 5, 13] [4])
 (.cond (.t 13)
 (.reg false [zm2 14 5,
 zm2 15 1,
 zg2 16 (.bin .add (.t 14) (.t 15)),
 zm2 5 16] [0, 4, 5] [4])
 .skip))
 (.seq (.reg false [zm2 17 0,
 zm2 18 5,
 zg2 19 (.call 286 [(.t 17), (.t 18)] false),
 zn2 (.st (.t 4) (.t 19) 2)] [4] [4])
 .ret))))),
 [.cell 4 2 true], false⟩
def ir233 : IFn :=   -- tympan/tympanref01.Up
⟨(.seq (.reg false [zg2 4 (.al [zo2, .p (.bool false)] true)] [0, 1, 4] [4])
 (.seq (.seq (.reg false [zm2 6 1,
 zg2 7 (.bin .lss (.t 6) (zi2 1))] [0, 1, 4, 7] [4])
 (.cond (.t 7)
 (.seq (.reg false [zg2 8 (.bld [zo2, .p (.bool false)] []),
 zn2 (.st (.t 4) (.t 8) 2)] [4] [4])
 .ret)
 .skip))
 (.seq (.reg false [zm2 9 0,
 zm2 10 1,
 zg2 11 (.bin .rem (.t 9) (.t 10)),
 zm2 5 11] [0, 1, 4, 5] [4])
 (.seq (.seq (.reg false [zm2 12 5,
 zg2 13 (.bin .lss (.t 12) (zi2 0))] [0, 1, 4, 5, 13] [4])
 (.cond (.t 13)
 (.reg false [zm2 14 5,
 zm2 15 1,
 zg2 16 (.bin .add (.t 14) (.t 15)),
 zm2 5 16] [0, 1, 4, 5] [4])
 .skip))
 (.seq (.seq (.reg false [zm2 17 5,
 zg2 18 (.bin .eql (.t 17) (zi2 0))] [0, 1, 4, 5, 18] [4])
 (.cond (.t 18)
 (.seq (.reg false [zm2 19 0,
 zg2 20 (.bld [zo2, .p (.bool false)] [(0, 1, (.t 19)), (1, 1, zT2)]),
 zn2 (.st (.t 4) (.t 20) 2)] [4] [4])
 .ret)
 .skip))
 (.seq (.reg false [zm2 21 0,
 zm2 22 1,
 zm2 23 5,
 zg2 24 (.bin .sub (.t 22) (.t 23)),
 zg2 25 (.call 244 [(.t 21), (.t 24)] false),
 zn2 (.st (.t 4) (.t 25) 2)] [4] [4])
 .ret)))))),
 [.cell 4 2 true], false⟩
def ir234 : IFn :=   -- tympan/tympanref14.Near
⟨(.seq (.reg false [zg2 4 (.mov (zi2 0))] [0, 1] [])
 (.seq (.seq (.reg false [zm2 8 1,
 zg2 9 (.bin .lss (.t 8) (zi2 1))] [0, 1, 9] [])
 (.cond (.t 9)
 (.seq (.reg false [zm2 10 0,
 zm2 4 10] [4] [])
 .ret)
 .skip))
 (.seq (.reg false [zm2 11 0,
 zm2 12 1,
 zg2 13 (.call 232 [(.t 11), (.t 12)] false),
 zm2 14 0,
 zm2 15 1,
 zg2 16 (.call 233 [(.t 14), (.t 15)] false),
 zg2 5 (.al [zo2, .p (.bool false)] true),
 zg2 6 (.al [zo2, .p (.bool false)] true),
 zn2 (.st (.t 5) (.t 13) 2),
 zn2 (.st (.t 6) (.t 16) 2)] [0, 1, 5, 6] [5, 6])
 (.seq (.reg false [zm2 17 0,
 zm2 18 1,
 zg2 19 (.bin .rem (.t 17) (.t 18)),
 zm2 7 19] [0, 1, 5, 6, 7] [5, 6])
 (.seq (.seq (.reg false [zm2 20 7,
 zg2 21 (.bin .lss (.t 20) (zi2 0))] [0, 1, 5, 6, 7, 21] [5, 6])
 (.cond (.t 21)
 (.reg false [zm2 22 7,
 zm2 23 1,
 zg2 24 (.bin .add (.t 22) (.t 23)),
 zm2 7 24] [0, 1, 5, 6, 7] [5, 6])
 .skip))
 (.seq (.seq (.reg false [zm2 25 7,
 zm2 26 1,
 zm2 27 7,
 zg2 28 (.bin .sub (.t 26) (.t 27)),
 zg2 29 (.bin .lss (.t 25) (.t 28))] [0, 5, 6, 7, 29] [5, 6])
 (.cond (.t 29)
 (.seq (.reg false [zg2 30 (.ld (.t 5) 2 true),
 zm2 31 0,
 zg2 32 (.call 231 [(.t 30), (.t 31)] false),
 zm2 4 32] [4] [])
 .ret)
 .skip))
 (.seq (.seq (.reg false [zm2 33 7,
 zg2 34 (.bin .eql (.t 33) (zi2 0))] [0, 6, 34] [6])
 (.cond (.t 34)
 (.seq (.reg false [zm2 35 0,
 zm2 4 35] [4] [])
 .ret)
 .skip))
 (.seq (.reg false [zg2 36 (.ld (.t 6) 2 true),
 zm2 37 0,
 zg2 38 (.call 231 [(.t 36), (.t 37)] false),
 zm2 4 38] [4] [])
 .ret)))))))),
 [.tmp 4], false⟩
def ir235 : IFn :=   -- tympan/item.Loose
⟨(.seq (.reg false [zg2 1 (.bx (.t 0) 7 true),
 zg2 2 (.mov zF2)] [1] [1])
 (.seq (.reg false [zg2 3 (.off (.t 1) 0),
 zg2 4 (.ld (.t 3) 1 false),
 zg2 5 (.bin .eql (.t 4) (zi2 2)),
 zm2 6 5,
 zf2 7 6 (.off (.t 1) 0),
 zf2 8 6 (.ld (.t 7) 1 false),
 zf2 9 6 (.bin .eql (.t 8) (zi2 3)),
 zg2 10 (.pick (.t 6) zT2 (.t 9)),
 zm2 2 10] [2] [])
 .ret)),
 [.tmp 2], false⟩
def lp236_0 : IC :=
 (.loop [0, 1, 2, 3, 9, 10] [] (.seq (.seq (.reg false [zm2 11 10,
 zm2 12 0,
 zg2 13 (.len (.t 12)),
 zg2 14 (.bin .lss (.t 11) (.t 13))] [0, 1, 2, 3, 9, 10, 14] [])
 (.cond (.t 14)
 .skip
 (.exit 0)))
 (.seq (.block 1 (.seq (.reg false [zm2 17 10,
 zm2 18 2,
 zg2 19 (.bin .geq (.t 17) (.t 18)),
 zm2 20 19,
 zt2 21 20 (.mov (.t 10)),
 zt2 22 20 (.mov (.t 3)),
 zt2 23 20 (.bin .lss (.t 21) (.t 22)),
 zg2 24 (.pick (.t 20) (.t 23) zF2),
 zm2 25 24,
 zt2 26 25 (.mov (.t 0)),
 zt2 27 25 (.mov (.t 10)),
 zt2 28 25 (.ixs (.t 26) (.t 27) 7),
 zt2 29 25 (.off (.t 28) 0),
 zt2 30 25 (.ld (.t 29) 1 false),
 zt2 31 25 (.mov (.t 1)),
 zt2 32 25 (.bin .eql (.t 30) (.t 31)),
 zg2 33 (.pick (.t 25) (.t 32) zF2)] [0, 1, 2, 3, 9, 10, 33] [])
 (.cond (.t 33)
 (.reg false [zm2 34 9,
 zm2 35 0,
 zm2 36 10,
 zg2 37 (.ixs (.t 35) (.t 36) 7),
 zg2 38 (.off (.t 37) 6),
 zg2 39 (.ld (.t 38) 1 false),
 zg2 40 (.bsl 1 1 [zo2] [(0, (.t 39))]),
 zg2 41 (.app (.t 34) (.t 40) 1),
 zm2 9 41] [0, 1, 2, 3, 9, 10] [])
 .skip)))
 (.reg false [zm2 15 10,
 zg2 16 (.bin .add (.t 15) (zi2 1)),
 zm2 10 16] [0, 1, 2, 3, 9, 10] []))))
def ir236 : IFn :=   -- tympan/tympanref21.Nums
⟨(.seq (.reg false [zg2 8 (.mov (.c (.nils)))] [0, 1, 2, 3] [])
 (.seq (.reg false [zg2 9 (.nrow 1)] [0, 1, 2, 3, 9] [])
 (.seq (.seq (.reg false [zg2 10 (.mov (zi2 0))] [0, 1, 2, 3, 9, 10] [])
 (.block 0 lp236_0))
 (.seq (.reg false [zm2 42 9,
 zm2 8 42] [8] [])
 .ret)))),
 [.tmp 8], false⟩
def ir237 : IFn :=   -- tympan/tympanref11.split
⟨(.seq (.reg false [zg2 2 (.bx (.t 0) 2 true),
 zg2 4 (.mov zF2)] [1, 2] [2])
 (.seq (.reg false [zm2 5 1,
 zg2 6 (.bin .geq (.t 5) (zi2 1)),
 zm2 7 6,
 zt2 8 7 (.mov (.t 1)),
 zt2 9 7 (.off (.t 2) 0),
 zt2 10 7 (.ld (.t 9) 1 false),
 zt2 11 7 (.len (.t 10)),
 zt2 12 7 (.bin .lss (.t 8) (.t 11)),
 zg2 13 (.pick (.t 7) (.t 12) zF2),
 zm2 14 13,
 zt2 15 14 (.mov (.t 1)),
 zt2 16 14 (.bin .sub (.t 15) (zi2 1)),
 zt2 17 14 (.off (.t 2) 1),
 zt2 18 14 (.ld (.t 17) 1 false),
 zt2 19 14 (.len (.t 18)),
 zt2 20 14 (.bin .lss (.t 16) (.t 19)),
 zg2 21 (.pick (.t 14) (.t 20) zF2),
 zm2 22 21,
 zt2 23 22 (.off (.t 2) 1),
 zt2 24 22 (.ld (.t 23) 1 false),
 zt2 25 22 (.mov (.t 1)),
 zt2 26 22 (.bin .sub (.t 25) (zi2 1)),
 zt2 27 22 (.ixs (.t 24) (.t 26) 1),
 zt2 28 22 (.ld (.t 27) 1 false),
 zt2 29 22 (.bin .lss (.t 28) (zi2 10000)),
 zg2 30 (.pick (.t 22) (.t 29) zF2),
 zm2 4 30] [4] [])
 .ret)),
 [.tmp 4], false⟩
def ir238 : IFn :=   -- (tympan/note.places).stop
⟨(.seq (.reg false [zg2 2 (.bx (.t 0) 2 true),
 zg2 4 (.mov zF2)] [1, 2] [2])
 (.seq (.reg false [zm2 5 1,
 zg2 6 (.off (.t 2) 0),
 zg2 7 (.ld (.t 6) 1 false),
 zg2 8 (.len (.t 7)),
 zg2 9 (.bin .eql (.t 5) (.t 8)),
 zm2 10 9,
 zf2 11 10 (.ld (.t 2) 2 true),
 zf2 12 10 (.mov (.t 1)),
 zf2 13 10 (.call 256 [(.t 11), (.t 12)] false),
 zg2 14 (.pick (.t 10) zT2 (.t 13)),
 zm2 4 14] [4] [])
 .ret)),
 [.tmp 4], false⟩
def ir240 : IFn :=   -- tympan/cost.add[int]$1
⟨(.seq (.reg false [zg2 2 (.mov (zi2 0))] [0] [])
 (.seq (.reg false [zm2 3 0,
 zg2 4 (.mnmx true (.t 3) (zi2 0)),
 zg2 5 (.mnmx false (.t 4) (zi2 1125899906842624)),
 zm2 2 5] [2] [])
 .ret)),
 [.tmp 2], false⟩
def ir241 : IFn :=   -- tympan/cost.add[int64]$1
⟨(.seq (.reg false [zg2 2 (.mov (zi2 0))] [0] [])
 (.seq (.reg false [zm2 3 0,
 zg2 4 (.mnmx true (.t 3) (zi2 0)),
 zg2 5 (.mnmx false (.t 4) (zi2 1125899906842624)),
 zm2 2 5] [2] [])
 .ret)),
 [.tmp 2], false⟩
def ir244 : IFn :=   -- tympan/tympanref01.Add
⟨(.seq (.reg false [zg2 4 (.al [zo2, .p (.bool false)] true)] [0, 1, 4] [4])
 (.seq (.seq (.reg false [zm2 5 1,
 zg2 6 (.bin .gtr (.t 5) (zi2 0)),
 zm2 7 6,
 zt2 8 7 (.mov (.t 0)),
 zt2 9 7 (.mov (.t 1)),
 zt2 10 7 (.bin .sub (zi2 9223372036854775807) (.t 9)),
 zt2 11 7 (.bin .gtr (.t 8) (.t 10)),
 zg2 12 (.pick (.t 7) (.t 11) zF2),
 zm2 13 12,
 zf2 14 13 (.mov (.t 1)),
 zf2 15 13 (.bin .lss (.t 14) (zi2 0)),
 zf2 16 13 (.mov (.t 15)),
 zt2 17 16 (.mov (.t 0)),
 zt2 18 16 (.mov (.t 1)),
 zt2 19 16 (.bin .sub (zi2 (-9223372036854775808)) (.t 18)),
 zt2 20 16 (.bin .lss (.t 17) (.t 19)),
 zf2 21 13 (.pick (.t 16) (.t 20) zF2),
 zg2 22 (.pick (.t 13) zT2 (.t 21))] [0, 1, 4, 22] [4])
 (.cond (.t 22)
 (.seq (.reg false [zg2 23 (.bld [zo2, .p (.bool false)] []),
 zn2 (.st (.t 4) (.t 23) 2)] [4] [4])
 .ret)
 .skip))
 (.seq (.reg false [zm2 24 0,
 zm2 25 1,
 zg2 26 (.bin .add (.t 24) (.t 25)),
 zg2 27 (.bld [zo2, .p (.bool false)] [(0, 1, (.t 26)), (1, 1, zT2)]),
 zn2 (.st (.t 4) (.t 27) 2)] [4] [4])
 .ret))),
 [.cell 4 2 true], false⟩
def ir250 : IFn :=   -- tympan/bad.Cube
⟨(.seq (.reg false [zg2 2 (.mov (zi2 0))] [0] [])
 (.seq (.block 0 (.seq (.reg false [zm2 4 0,
 zg2 5 (.bin .gtr (.t 4) (zi2 1290)),
 zm2 3 5] [0, 3] [])
 (.cond (.t 3)
 (.seq (.reg false [zg2 2 (.mov (zi2 10000))] [2] [])
 .ret)
 (.seq (.reg false [zm2 7 0,
 zg2 8 (.bin .lss (.t 7) (zi2 1)),
 zm2 6 8] [0, 6] [])
 (.cond (.t 6)
 (.seq (.reg false [zg2 2 (.mov (zi2 0))] [2] [])
 .ret)
 .skip)))))
 (.seq (.reg false [zm2 9 0,
 zm2 10 0,
 zg2 11 (.bin .mul (.t 9) (.t 10)),
 zm2 12 0,
 zg2 13 (.bin .mul (.t 11) (.t 12)),
 zg2 14 (.bin .add (.t 13) (zi2 131072)),
 zg2 15 (.bin .shr (.t 14) (.c (.p (.int .u64 18)))),
 zm2 2 15] [2] [])
 .ret))),
 [.tmp 2], false⟩
def lp251_0 : IC :=
 (.loop [0, 1, 5, 9, 10, 11] [] (.seq (.reg false [zg2 12 (.bin .lss (.t 11) (.t 10))] [0, 1, 5, 9, 10, 11, 12] [])
 (.seq (.cond (.t 12)
 .skip
 (.exit 0))
 (.seq (.block 1 (.seq (.reg false [zg2 13 (.ixs (.t 9) (.t 11) 2),
 zg2 14 (.ld (.t 13) 2 true),
 zg2 7 (.al [.p .nilf, .p .nilf] true),
 zn2 (.st (.t 7) (.t 14) 2)] [0, 1, 5, 7, 9, 10, 11] [7])
 (.seq (.reg false [zg2 15 (.off (.t 7) 0),
 zg2 16 (.ld (.t 15) 1 false),
 zm2 17 0,
 zm2 18 1,
 zg2 19 (.callv (.t 16) [(.t 17), (.t 18)] false)] [0, 1, 5, 7, 9, 10, 11, 19] [7])
 (.cond (.t 19)
 (.seq (.reg false [zg2 20 (.off (.t 7) 1),
 zg2 21 (.ld (.t 20) 1 false),
 zm2 22 0,
 zm2 23 1,
 zg2 24 (.callv (.t 21) [(.t 22), (.t 23)] false),
 zm2 5 24] [5] [])
 (.exit 0))
 .skip))))
 (.reg false [zg2 25 (.bin .add (.t 11) (zi2 1)),
 zm2 11 25] [0, 1, 5, 9, 10, 11] [])))))
def ir251 : IFn :=   -- tympan/bad.Quarter
⟨(.seq (.reg false [zg2 4 (.mov (zi2 0))] [0, 1] [])
 (.seq (.reg false [zm2 8 0,
 zm2 5 8] [0, 1, 5] [])
 (.seq (.seq (.reg false [zg2 9 (.call 288 [] false),
 zg2 10 (.len (.t 9)),
 zg2 11 (.mov (zi2 0))] [0, 1, 5, 9, 10, 11] [])
 (.block 0 lp251_0))
 (.seq (.reg false [zm2 26 5,
 zg2 27 (.mnmx false (.t 26) (zi2 1291)),
 zm2 4 27] [4] [])
 .ret)))),
 [.tmp 4], false⟩
def ir252 : IFn :=   -- tympan/item.Forbids
⟨(.seq (.reg false [zg2 1 (.bx (.t 0) 7 true),
 zg2 2 (.mov zF2)] [1] [1])
 (.seq (.reg false [zg2 3 (.off (.t 1) 0),
 zg2 4 (.ld (.t 3) 1 false),
 zg2 5 (.bin .eql (.t 4) (zi2 3)),
 zm2 6 5,
 zt2 7 6 (.off (.t 1) 6),
 zt2 8 6 (.ld (.t 7) 1 false),
 zt2 9 6 (.bin .geq (.t 8) (zi2 10000)),
 zg2 10 (.pick (.t 6) (.t 9) zF2),
 zm2 2 10] [2] [])
 .ret)),
 [.tmp 2], false⟩
def ir253 : IFn :=   -- tympan/para.is
⟨(.seq (.reg false [zg2 2 (.bx (.t 0) 1 false),
 zg2 3 (.bx (.t 1) 1 false),
 zg2 4 (.mov (.c (.p .nilf)))] [2, 3] [])
 (.seq (.reg false [zg2 5 (.mkf (.func 289) [] [(.t 2), (.t 3)]),
 zm2 4 5] [4] [])
 .ret)),
 [.tmp 4], false⟩
def ir254 : IFn :=   -- tympan/para.Ahead
⟨(.seq (.reg false [zg2 4 (.mov (zi2 0))] [0, 1] [])
 (.seq (.seq (.reg false [zm2 5 1,
 zg2 6 (.bin .lss (.t 5) (zi2 1))] [0, 1, 6] [])
 (.cond (.t 6)
 (.seq (.reg false [zg2 4 (.mov (zi2 (-1)))] [4] [])
 .ret)
 .skip))
 (.seq (.reg false [zm2 7 0,
 zm2 8 1,
 zm2 9 0,
 zg2 10 (.call 78 [(.t 9)] false),
 zg2 11 (.mnmx false (.t 8) (.t 10)),
 zg2 12 (.bin .sub (.t 11) (zi2 1)),
 zg2 13 (.call 290 [(.t 7), (.t 12), (zi2 (-1))] false),
 zm2 4 13] [4] [])
 .ret))),
 [.tmp 4], false⟩
def ir255 : IFn :=   -- tympan/para.Behind
⟨(.seq (.reg false [zg2 4 (.mov (zi2 0))] [0, 1] [])
 (.seq (.reg false [zm2 5 0,
 zm2 6 1,
 zg2 7 (.mnmx true (.t 6) (zi2 0)),
 zg2 8 (.call 290 [(.t 5), (.t 7), (zi2 1)] false),
 zm2 4 8] [4] [])
 .ret)),
 [.tmp 4], false⟩
def ir256 : IFn :=   -- (tympan/note.places).split
⟨(.seq (.reg false [zg2 2 (.bx (.t 0) 2 true),
 zg2 4 (.mov zF2)] [1, 2] [2])
 (.seq (.reg false [zm2 5 1,
 zg2 6 (.bin .gtr (.t 5) (zi2 0)),
 zm2 7 6,
 zt2 8 7 (.mov (.t 1)),
 zt2 9 7 (.off (.t 2) 0),
 zt2 10 7 (.ld (.t 9) 1 false),
 zt2 11 7 (.len (.t 10)),
 zt2 12 7 (.bin .lss (.t 8) (.t 11)),
 zg2 13 (.pick (.t 7) (.t 12) zF2),
 zm2 14 13,
 zt2 15 14 (.mov (.t 1)),
 zt2 16 14 (.off (.t 2) 1),
 zt2 17 14 (.ld (.t 16) 1 false),
 zt2 18 14 (.len (.t 17)),
 zt2 19 14 (.bin .leq (.t 15) (.t 18)),
 zg2 20 (.pick (.t 14) (.t 19) zF2),
 zm2 21 20,
 zt2 22 21 (.off (.t 2) 1),
 zt2 23 21 (.ld (.t 22) 1 false),
 zt2 24 21 (.mov (.t 1)),
 zt2 25 21 (.bin .sub (.t 24) (zi2 1)),
 zt2 26 21 (.ixs (.t 23) (.t 25) 1),
 zt2 27 21 (.ld (.t 26) 1 false),
 zt2 28 21 (.bin .lss (.t 27) (zi2 10000)),
 zg2 29 (.pick (.t 21) (.t 28) zF2),
 zm2 4 29] [4] [])
 .ret)),
 [.tmp 4], false⟩
def ir257 : IFn :=   -- (*tympan/sums.Sums).Len
⟨(.seq (.reg false [zg2 2 (.mov (zi2 0))] [0] [])
 (.seq (.seq (.reg false [zm2 3 0,
 zg2 4 (.eqn .ptr false (.t 3))] [0, 4] [])
 (.cond (.t 4)
 (.seq (.reg false [zg2 2 (.mov (zi2 0))] [2] [])
 .ret)
 .skip))
 (.seq (.reg false [zm2 5 0,
 zg2 6 (.nck (.t 5)),
 zg2 7 (.off (.t 6) 0),
 zg2 8 (.ld (.t 7) 1 false),
 zg2 9 (.len (.t 8)),
 zm2 2 9] [2] [])
 .ret))),
 [.tmp 2], false⟩
def ir258 : IFn :=   -- tympan/sp.Sub
⟨(.seq (.reg false [zg2 4 (.mov (zi2 0)),
 zg2 5 (.mov zF2)] [0, 1] [])
 (.seq (.reg false [zm2 7 0,
 zm2 8 1,
 zg2 9 (.bin .sub (.t 7) (.t 8)),
 zm2 6 9] [0, 1, 6] [])
 (.seq (.seq (.reg false [zm2 10 6,
 zm2 11 0,
 zg2 12 (.bin .lss (.t 10) (.t 11)),
 zm2 13 1,
 zg2 14 (.bin .gtr (.t 13) (zi2 0)),
 zg2 15 (.eqb true (.t 12) (.t 14)),
 zm2 16 15,
 zt2 17 16 (.mov (.t 1)),
 zt2 18 16 (.bin .neq (.t 17) (zi2 0)),
 zg2 19 (.pick (.t 16) (.t 18) zF2)] [6, 19] [])
 (.cond (.t 19)
 (.seq (.reg false [zg2 4 (.mov (zi2 0)),
 zg2 5 (.mov zF2)] [4, 5] [])
 .ret)
 .skip))
 (.seq (.reg false [zm2 20 6,
 zm2 4 20,
 zg2 5 (.mov zT2)] [4, 5] [])
 .ret)))),
 [.tmp 4, .tmp 5], false⟩
def lp262_0 : IC :=
 (.loop [1, 2, 3, 7, 8] [3] (.seq (.seq (.reg false [zm2 9 8,
 zg2 10 (.off (.t 3) 0),
 zg2 11 (.ld (.t 10) 1 false),
 zg2 12 (.len (.t 11)),
 zg2 13 (.bin .lss (.t 9) (.t 12))] [1, 2, 3, 7, 8, 13] [3])
 (.cond (.t 13)
 .skip
 (.exit 0)))
 (.seq (.block 1 (.seq (.reg false [zm2 16 8,
 zm2 17 1,
 zg2 18 (.bin .geq (.t 16) (.t 17)),
 zm2 19 18,
 zt2 20 19 (.mov (.t 8)),
 zt2 21 19 (.mov (.t 2)),
 zt2 22 19 (.bin .lss (.t 20) (.t 21)),
 zg2 23 (.pick (.t 19) (.t 22) zF2)] [1, 2, 3, 7, 8, 23] [3])
 (.cond (.t 23)
 (.reg false [zm2 24 7,
 zg2 25 (.off (.t 3) 0),
 zg2 26 (.ld (.t 25) 1 false),
 zm2 27 8,
 zg2 28 (.ixs (.t 26) (.t 27) 1),
 zg2 29 (.ld (.t 28) 1 false),
 zg2 30 (.mnmx false (.t 29) (zi2 1125899906842624)),
 zg2 31 (.mnmx true (zi2 0) (.t 30)),
 zg2 32 (.bin .add (.t 24) (.t 31)),
 zg2 33 (.mnmx false (.t 32) (zi2 1125899906842624)),
 zm2 7 33] [1, 2, 3, 7, 8] [3])
 .skip)))
 (.reg false [zm2 14 8,
 zg2 15 (.bin .add (.t 14) (zi2 1)),
 zm2 8 15] [1, 2, 3, 7, 8] [3]))))
def ir262 : IFn :=   -- tympan/tympanref11.High
⟨(.seq (.reg false [zg2 3 (.bx (.t 0) 2 true),
 zg2 6 (.mov (zi2 0))] [1, 2, 3] [3])
 (.seq (.reg false [zg2 7 (.mov (zi2 0))] [1, 2, 3, 7] [3])
 (.seq (.seq (.reg false [zg2 8 (.mov (zi2 0))] [1, 2, 3, 7, 8] [3])
 (.block 0 lp262_0))
 (.seq (.reg false [zm2 34 7,
 zm2 6 34] [6] [])
 .ret)))),
 [.tmp 6], false⟩
def ir266 : IFn :=   -- tympan/valid.when
⟨(.seq (.reg false [zg2 1 (.bx (.t 0) 1 false),
 zg2 2 (.mov (.c (.p .nilf)))] [1] [])
 (.seq (.reg false [zg2 3 (.mkf (.func 298) [] [(.t 1)]),
 zm2 2 3] [2] [])
 .ret)),
 [.tmp 2], false⟩
def ir267 : IFn :=   -- tympan/valid.clauses$1
⟨(.seq (.reg false [zg2 1 (.bx (.t 0) 22 true),
 zg2 2 (.mov zF2)] [1] [1])
 (.seq (.reg false [zg2 3 (.off (.t 1) 19),
 zg2 4 (.ld (.t 3) 1 false),
 zg2 5 (.len (.t 4)),
 zg2 6 (.bin .gtr (.t 5) (zi2 4096)),
 zm2 2 6] [2] [])
 .ret)),
 [.tmp 2], false⟩
def ir268 : IFn :=   -- tympan/valid.clauses$2
⟨(.seq (.reg false [zg2 1 (.bx (.t 0) 22 true),
 zg2 2 (.mov zF2)] [1] [1])
 (.seq (.reg false [zg2 3 (.off (.t 1) 21),
 zg2 4 (.ld (.t 3) 1 false),
 zg2 5 (.len (.t 4)),
 zg2 6 (.bin .gtr (.t 5) (zi2 256)),
 zm2 2 6] [2] [])
 .ret)),
 [.tmp 2], false⟩
def ir269 : IFn :=   -- tympan/valid.clauses$3
⟨(.seq (.reg false [zg2 1 (.bx (.t 0) 22 true),
 zg2 2 (.mov zF2)] [1] [1])
 (.seq (.reg false [zg2 3 (.off (.t 1) 20),
 zg2 4 (.ld (.t 3) 1 false),
 zg2 5 (.len (.t 4)),
 zg2 6 (.bin .gtr (.t 5) (zi2 512)),
 zm2 2 6] [2] [])
 .ret)),
 [.tmp 2], false⟩
def ir270 : IFn :=   -- tympan/valid.clauses$4
⟨(.seq (.reg false [zg2 1 (.bx (.t 0) 22 true),
 zg2 2 (.mov zF2)] [1] [1])
 (.seq (.reg false [zg2 3 (.off (.t 1) 0),
 zg2 4 (.ld (.t 3) 19 true),
 zg2 5 (.call 271 [(.t 4)] false),
 zg2 6 (.bin .eql (.t 5) (zi2 6)),
 zm2 2 6] [2] [])
 .ret)),
 [.tmp 2], false⟩
def ir271 : IFn :=   -- tympan/geom.Check
⟨(.seq (.reg false [zg2 1 (.bx (.t 0) 19 true),
 zg2 2 (.mov (zi2 0))] [1] [1])
 (.seq (.seq (.reg true [zg2 8 (.call 299 [(zi2 1), (zi2 8)] false),
 zg2 9 (.off (.t 1) 0),
 zg2 10 (.ldl 1 (.t 9) 1 false),
 zg2 11 (.bsl 1 1 [zo2] [(0, (.t 10))]),
 zg2 12 (.callv (.t 8) [(.t 11)] false),
 zg2 13 (.un .not (.t 12))] [1, 13] [1])
 (.cond (.t 13)
 (.seq (.reg false [zg2 2 (.mov (zi2 6))] [2] [])
 .ret)
 .skip))
 (.seq (.reg false [zg2 14 (.call 300 [(zi2 1), (zi2 1073741823)] false),
 zg2 15 (.call 300 [(zi2 0), (zi2 1073741823)] false),
 zg2 16 (.call 300 [(zi2 0), (zi2 536870912)] false),
 zm2 3 14,
 zm2 4 15,
 zm2 5 16] [1, 3, 4, 5] [1])
 (.seq (.reg false [zg2 17 (.off (.t 1) 2),
 zg2 18 (.ld (.t 17) 1 false),
 zg2 19 (.off (.t 1) 8),
 zg2 20 (.ld (.t 19) 1 false),
 zg2 21 (.off (.t 1) 9),
 zg2 22 (.ld (.t 21) 1 false),
 zg2 23 (.off (.t 1) 10),
 zg2 24 (.ld (.t 23) 1 false),
 zg2 25 (.bld [zo2, zo2, zo2, zo2] [(0, 1, (.t 18)), (1, 1, (.t 20)), (2, 1, (.t 22)), (3, 1, (.t 24))]),
 zg2 6 (.al [zo2, zo2, zo2, zo2] false),
 zn2 (.st (.t 6) (.t 25) 4)] [1, 3, 4, 5, 6] [1])
 (.seq (.reg false [zg2 26 (.off (.t 1) 13),
 zg2 27 (.ld (.t 26) 1 false),
 zg2 28 (.off (.t 1) 14),
 zg2 29 (.ld (.t 28) 1 false),
 zg2 30 (.off (.t 1) 15),
 zg2 31 (.ld (.t 30) 1 false),
 zg2 32 (.off (.t 1) 16),
 zg2 33 (.ld (.t 32) 1 false),
 zg2 34 (.off (.t 1) 17),
 zg2 35 (.ld (.t 34) 1 false),
 zg2 36 (.bld [zo2, zo2, zo2, zo2, zo2] [(0, 1, (.t 27)), (1, 1, (.t 29)), (2, 1, (.t 31)), (3, 1, (.t 33)), (4, 1, (.t 35))]),
 zg2 7 (.al [zo2, zo2, zo2, zo2, zo2] false),
 zn2 (.st (.t 7) (.t 36) 5)] [1, 3, 4, 5, 6, 7] [1])
 (.seq (.block 0 (.seq (.seq (.reg false [zm2 38 3,
 zg2 39 (.off (.t 1) 1),
 zg2 40 (.ld (.t 39) 1 false),
 zg2 41 (.off (.t 1) 3),
 zg2 42 (.ld (.t 41) 1 false),
 zg2 43 (.bsl 1 2 [zo2] [(0, (.t 40)), (1, (.t 42))]),
 zg2 44 (.callv (.t 38) [(.t 43)] false),
 zg2 45 (.un .not (.t 44)),
 zm2 37 45] [1, 4, 5, 6, 7, 37] [1])
 (.cond (.t 37)
 .skip
 (.seq (.reg false [zm2 46 4,
 zg2 47 (.slca (.t 6) none 1 4),
 zg2 48 (.callv (.t 46) [(.t 47)] false),
 zg2 49 (.un .not (.t 48)),
 zm2 37 49] [1, 5, 7, 37] [1])
 (.cond (.t 37)
 .skip
 (.reg false [zm2 50 5,
 zg2 51 (.off (.t 1) 6),
 zg2 52 (.ld (.t 51) 1 false),
 zg2 53 (.off (.t 1) 7),
 zg2 54 (.ld (.t 53) 1 false),
 zg2 55 (.off (.t 1) 5),
 zg2 56 (.ld (.t 55) 1 false),
 zg2 57 (.bsl 1 3 [zo2] [(0, (.t 52)), (1, (.t 54)), (2, (.t 56))]),
 zg2 58 (.callv (.t 50) [(.t 57)] false),
 zg2 59 (.un .not (.t 58)),
 zm2 37 59] [1, 7, 37] [1])))))
 (.cond (.t 37)
 (.seq (.reg false [zg2 2 (.mov (zi2 7))] [2] [])
 .ret)
 (.seq (.seq (.reg true [zg2 61 (.off (.t 1) 3),
 zg2 62 (.ldl 1 (.t 61) 1 false),
 zg2 63 (.call 300 [(zi2 1), (.t 62)] false),
 zg2 64 (.off (.t 1) 4),
 zg2 65 (.ldl 1 (.t 64) 1 false),
 zg2 66 (.bsl 1 1 [zo2] [(0, (.t 65))]),
 zg2 67 (.callv (.t 63) [(.t 66)] false),
 zg2 68 (.un .not (.t 67)),
 zm2 60 68] [1, 7, 60] [1])
 (.cond (.t 60)
 .skip
 (.reg true [zg2 69 (.off (.t 1) 4),
 zg2 70 (.ldl 1 (.t 69) 1 false),
 zg2 71 (.call 300 [(zi2 0), (.t 70)] false),
 zg2 72 (.off (.t 1) 5),
 zg2 73 (.ldl 1 (.t 72) 1 false),
 zg2 74 (.bsl 1 1 [zo2] [(0, (.t 73))]),
 zg2 75 (.callv (.t 71) [(.t 74)] false),
 zg2 76 (.un .not (.t 75)),
 zm2 60 76] [1, 7, 60] [1])))
 (.cond (.t 60)
 (.seq (.reg false [zg2 2 (.mov (zi2 7))] [2] [])
 .ret)
 (.seq (.seq (.reg true [zg2 78 (.call 299 [(zi2 0), (zi2 4)] false),
 zg2 79 (.off (.t 1) 11),
 zg2 80 (.ldl 1 (.t 79) 1 false),
 zg2 81 (.off (.t 1) 12),
 zg2 82 (.ldl 1 (.t 81) 1 false),
 zg2 83 (.bsl 1 2 [zo2] [(0, (.t 80)), (1, (.t 82))]),
 zg2 84 (.callv (.t 78) [(.t 83)] false),
 zg2 85 (.un .not (.t 84)),
 zm2 77 85] [7, 77] [])
 (.cond (.t 77)
 .skip
 (.reg true [zg2 86 (.call 299 [(zi2 0), (zi2 1048576)] false),
 zg2 87 (.slca (.t 7) none 1 5),
 zg2 88 (.callv (.t 86) [(.t 87)] false),
 zg2 89 (.un .not (.t 88)),
 zm2 77 89] [77] [])))
 (.cond (.t 77)
 (.seq (.reg false [zg2 2 (.mov (zi2 7))] [2] [])
 .ret)
 .skip)))))))
 (.seq (.reg false [zg2 2 (.mov (zi2 0))] [2] [])
 .ret))))))),
 [.tmp 2], false⟩
def ir272 : IFn :=   -- tympan/valid.clauses$5
⟨(.seq (.reg false [zg2 1 (.bx (.t 0) 22 true),
 zg2 2 (.mov zF2)] [1] [1])
 (.seq (.reg false [zg2 3 (.off (.t 1) 0),
 zg2 4 (.ld (.t 3) 19 true),
 zg2 5 (.call 271 [(.t 4)] false),
 zg2 6 (.bin .eql (.t 5) (zi2 7)),
 zm2 2 6] [2] [])
 .ret)),
 [.tmp 2], false⟩
def ir273 : IFn :=   -- tympan/valid.clauses$6
⟨(.seq (.reg false [zg2 1 (.bx (.t 0) 22 true),
 zg2 2 (.mov (zi2 0))] [1] [1])
 (.seq (.reg true [zg2 3 (.call 274 [(.c (.p (.fn 275)))] false),
 zg2 4 (.off (.t 1) 19),
 zg2 5 (.ldl 1 (.t 4) 1 false),
 zg2 6 (.callv (.t 3) [(.t 5)] false),
 zm2 2 6] [2] [])
 .ret)),
 [.tmp 2], false⟩
def ir274 : IFn :=   -- tympan/valid.first[tympan/api.Item]
⟨(.seq (.reg false [zg2 1 (.bx (.t 0) 1 false),
 zg2 2 (.mov (.c (.p .nilf)))] [1] [])
 (.seq (.reg false [zg2 3 (.mkf (.func 301) [] [(.t 1)]),
 zm2 2 3] [2] [])
 .ret)),
 [.tmp 2], false⟩
def ir275 : IFn :=   -- tympan/item.Check
⟨(.seq (.reg false [zg2 1 (.bx (.t 0) 7 true),
 zg2 2 (.mov (zi2 0))] [1] [1])
 (.seq (.seq (.reg false [zg2 5 (.off (.t 1) 0),
 zg2 6 (.ld (.t 5) 1 false),
 zg2 7 (.bin .lss (.t 6) (zi2 1)),
 zm2 8 7,
 zf2 9 8 (.off (.t 1) 0),
 zf2 10 8 (.ld (.t 9) 1 false),
 zf2 11 8 (.bin .gtr (.t 10) (zi2 7)),
 zg2 12 (.pick (.t 8) zT2 (.t 11))] [1, 12] [1])
 (.cond (.t 12)
 (.seq (.reg false [zg2 2 (.mov (zi2 8))] [2] [])
 .ret)
 .skip))
 (.seq (.prep [3] (.reg true [zg2 13 (.call 304 [] false),
 zg2 14 (.off (.t 1) 0),
 zg2 15 (.ldl 1 (.t 14) 1 false),
 zg2 16 (.bin .sub (.t 15) (zi2 1)),
 zg2 17 (.ixs (.t 13) (.t 16) 2),
 zg2 18 (.ld (.t 17) 2 true),
 zg2 3 (.alp [.p .nilf, .p .nilf]),
 zn2 (.stl 3 (.t 3) (.t 18) 2)] [1, 3] [1, 3]))
 (.seq (.reg false [zg2 19 (.call 305 [(zi2 3)] false),
 zm2 4 19] [1, 3, 4] [1, 3])
 (.seq (.seq (.reg true [zg2 20 (.off (.t 3) 0),
 zg2 21 (.ldl 3 (.t 20) 1 false),
 zg2 22 (.ldl 1 (.t 1) 7 true),
 zg2 23 (.callv (.t 21) [(.t 22)] false),
 zg2 24 (.ldl 1 (.t 1) 7 true),
 zg2 25 (.eqa true [true, true, true, true, true, true, true] (.t 23) (.t 24)),
 zm2 26 25,
 zf2 27 26 (.off (.t 3) 1),
 zf2 28 26 (.ldl 3 (.t 27) 1 false),
 zf2 29 26 (.off (.t 1) 6),
 zf2 30 26 (.ldl 1 (.t 29) 1 false),
 zf2 31 26 (.callv (.t 28) [(.t 30)] false),
 zf2 32 26 (.un .not (.t 31)),
 zg2 33 (.pick (.t 26) zT2 (.t 32)),
 zm2 34 33,
 zf2 35 34 (.off (.t 1) 1),
 zf2 36 34 (.ldl 1 (.t 35) 1 false),
 zf2 37 34 (.off (.t 1) 3),
 zf2 38 34 (.ldl 1 (.t 37) 1 false),
 zf2 39 34 (.off (.t 1) 5),
 zf2 40 34 (.ldl 1 (.t 39) 1 false),
 zf2 41 34 (.bsl 1 3 [zo2] [(0, (.t 36)), (1, (.t 38)), (2, (.t 40))]),
 zf2 42 34 (.call 306 [(.t 41)] false),
 zf2 43 34 (.un .not (.t 42)),
 zg2 44 (.pick (.t 34) zT2 (.t 43)),
 zm2 45 44,
 zf2 46 45 (.mov (.t 4)),
 zf2 47 45 (.off (.t 1) 2),
 zf2 48 45 (.ldl 1 (.t 47) 1 false),
 zf2 49 45 (.callv (.t 46) [(.t 48)] false),
 zf2 50 45 (.un .not (.t 49)),
 zg2 51 (.pick (.t 45) zT2 (.t 50)),
 zm2 52 51,
 zf2 53 52 (.mov (.t 4)),
 zf2 54 52 (.off (.t 1) 4),
 zf2 55 52 (.ldl 1 (.t 54) 1 false),
 zf2 56 52 (.callv (.t 53) [(.t 55)] false),
 zf2 57 52 (.un .not (.t 56)),
 zg2 58 (.pick (.t 52) zT2 (.t 57)),
 zm2 59 58,
 zf2 60 59 (.off (.t 1) 0),
 zf2 61 59 (.ldl 1 (.t 60) 1 false),
 zf2 62 59 (.bin .eql (.t 61) (zi2 2)),
 zf2 63 59 (.mov (.t 62)),
 zt2 64 63 (.off (.t 1) 5),
 zt2 65 63 (.ldl 1 (.t 64) 1 false),
 zt2 66 63 (.off (.t 1) 1),
 zt2 67 63 (.ldl 1 (.t 66) 1 false),
 zt2 68 63 (.bin .gtr (.t 65) (.t 67)),
 zf2 69 59 (.pick (.t 63) (.t 68) zF2),
 zg2 70 (.pick (.t 59) zT2 (.t 69))] [70] [])
 (.cond (.t 70)
 (.seq (.reg false [zg2 2 (.mov (zi2 8))] [2] [])
 .ret)
 .skip))
 (.seq (.reg false [zg2 2 (.mov (zi2 0))] [2] [])
 .ret)))))),
 [.tmp 2], false⟩
def ir276 : IFn :=   -- tympan/valid.clauses$7
⟨(.seq (.reg false [zg2 1 (.bx (.t 0) 22 true),
 zg2 2 (.mov (zi2 0))] [1] [1])
 (.seq (.reg true [zg2 3 (.call 277 [(.c (.p (.fn 278)))] false),
 zg2 4 (.off (.t 1) 20),
 zg2 5 (.ldl 1 (.t 4) 1 false),
 zg2 6 (.callv (.t 3) [(.t 5)] false),
 zm2 2 6] [2] [])
 .ret)),
 [.tmp 2], false⟩
def ir277 : IFn :=   -- tympan/valid.first[tympan/api.Note]
⟨(.seq (.reg false [zg2 1 (.bx (.t 0) 1 false),
 zg2 2 (.mov (.c (.p .nilf)))] [1] [])
 (.seq (.reg false [zg2 3 (.mkf (.func 307) [] [(.t 1)]),
 zm2 2 3] [2] [])
 .ret)),
 [.tmp 2], false⟩
def lp278_0 : IC :=
 (.loop [1, 3, 29, 30, 31] [1] (.seq (.reg false [zg2 32 (.bin .lss (.t 31) (.t 30))] [1, 3, 29, 30, 31, 32] [1])
 (.seq (.cond (.t 32)
 .skip
 (.exit 0))
 (.seq (.block 1 (.seq (.reg false [zg2 33 (.ixs (.t 29) (.t 31) 1),
 zg2 34 (.ld (.t 33) 1 false),
 zm2 5 34] [1, 3, 5, 29, 30, 31] [1])
 (.reg false [zm2 35 3,
 zm2 36 35,
 zf2 37 36 (.mov (.t 5)),
 zf2 38 36 (.bin .lss (.t 37) (zi2 1)),
 zg2 39 (.pick (.t 36) zT2 (.t 38)),
 zm2 40 39,
 zf2 41 40 (.mov (.t 5)),
 zf2 42 40 (.bin .gtr (.t 41) (zi2 1073741823)),
 zg2 43 (.pick (.t 40) zT2 (.t 42)),
 zm2 3 43] [1, 3, 29, 30, 31] [1])))
 (.reg false [zg2 44 (.bin .add (.t 31) (zi2 1)),
 zm2 31 44] [1, 3, 29, 30, 31] [1])))))
def lp278_1 : IC :=
 (.loop [3, 46, 47, 48] [] (.seq (.reg false [zg2 49 (.bin .lss (.t 48) (.t 47))] [3, 46, 47, 48, 49] [])
 (.seq (.cond (.t 49)
 .skip
 (.exit 2))
 (.seq (.block 3 (.seq (.reg false [zg2 50 (.ixs (.t 46) (.t 48) 1),
 zg2 51 (.ld (.t 50) 1 false),
 zm2 7 51] [3, 7, 46, 47, 48] [])
 (.reg false [zm2 52 3,
 zm2 53 52,
 zf2 54 53 (.mov (.t 7)),
 zf2 55 53 (.bin .lss (.t 54) (zi2 0)),
 zg2 56 (.pick (.t 53) zT2 (.t 55)),
 zm2 57 56,
 zf2 58 57 (.mov (.t 7)),
 zf2 59 57 (.bin .gtr (.t 58) (zi2 10000)),
 zg2 60 (.pick (.t 57) zT2 (.t 59)),
 zm2 3 60] [3, 46, 47, 48] [])))
 (.reg false [zg2 61 (.bin .add (.t 48) (zi2 1)),
 zm2 48 61] [3, 46, 47, 48] [])))))
def ir278 : IFn :=   -- tympan/note.Check
⟨(.seq (.reg false [zg2 1 (.bx (.t 0) 2 true),
 zg2 2 (.mov (zi2 0))] [1] [1])
 (.seq (.reg false [zg2 8 (.off (.t 1) 0),
 zg2 9 (.ld (.t 8) 1 false),
 zg2 10 (.len (.t 9)),
 zg2 11 (.bin .lss (.t 10) (zi2 1)),
 zm2 12 11,
 zf2 13 12 (.off (.t 1) 0),
 zf2 14 12 (.ld (.t 13) 1 false),
 zf2 15 12 (.len (.t 14)),
 zf2 16 12 (.bin .gtr (.t 15) (zi2 64)),
 zg2 17 (.pick (.t 12) zT2 (.t 16)),
 zm2 18 17,
 zf2 19 18 (.off (.t 1) 1),
 zf2 20 18 (.ld (.t 19) 1 false),
 zf2 21 18 (.len (.t 20)),
 zf2 22 18 (.off (.t 1) 0),
 zf2 23 18 (.ld (.t 22) 1 false),
 zf2 24 18 (.len (.t 23)),
 zf2 25 18 (.bin .sub (.t 24) (zi2 1)),
 zf2 26 18 (.bin .neq (.t 21) (.t 25)),
 zg2 27 (.pick (.t 18) zT2 (.t 26)),
 zm2 3 27] [1, 3] [1])
 (.seq (.seq (.reg false [zg2 28 (.off (.t 1) 0),
 zg2 29 (.ld (.t 28) 1 false),
 zg2 30 (.len (.t 29)),
 zg2 31 (.mov (zi2 0))] [1, 3, 29, 30, 31] [1])
 (.block 0 lp278_0))
 (.seq (.seq (.reg false [zg2 45 (.off (.t 1) 1),
 zg2 46 (.ld (.t 45) 1 false),
 zg2 47 (.len (.t 46)),
 zg2 48 (.mov (zi2 0))] [3, 46, 47, 48] [])
 (.block 2 lp278_1))
 (.seq (.seq (.reg false [zm2 62 3] [62] [])
 (.cond (.t 62)
 (.seq (.reg false [zg2 2 (.mov (zi2 9))] [2] [])
 .ret)
 .skip))
 (.seq (.reg false [zg2 2 (.mov (zi2 0))] [2] [])
 .ret)))))),
 [.tmp 2], false⟩
def ir279 : IFn :=   -- tympan/valid.clauses$8
⟨(.seq (.reg false [zg2 1 (.bx (.t 0) 22 true),
 zg2 2 (.mov (zi2 0))] [1] [1])
 (.seq (.reg true [zg2 3 (.call 280 [(.c (.p (.fn 281)))] false),
 zg2 4 (.off (.t 1) 21),
 zg2 5 (.ldl 1 (.t 4) 1 false),
 zg2 6 (.callv (.t 3) [(.t 5)] false),
 zm2 2 6] [2] [])
 .ret)),
 [.tmp 2], false⟩
def ir280 : IFn :=   -- tympan/valid.first[tympan/api.Float]
⟨(.seq (.reg false [zg2 1 (.bx (.t 0) 1 false),
 zg2 2 (.mov (.c (.p .nilf)))] [1] [])
 (.seq (.reg false [zg2 3 (.mkf (.func 310) [] [(.t 1)]),
 zm2 2 3] [2] [])
 .ret)),
 [.tmp 2], false⟩
def ir281 : IFn :=   -- tympan/figure.Check
⟨(.seq (.reg false [zg2 1 (.bx (.t 0) 3 true),
 zg2 2 (.mov (zi2 0))] [1] [1])
 (.seq (.seq (.reg false [zg2 3 (.off (.t 1) 0),
 zg2 4 (.ld (.t 3) 1 false),
 zg2 5 (.bin .lss (.t 4) (zi2 0)),
 zm2 6 5,
 zf2 7 6 (.off (.t 1) 0),
 zf2 8 6 (.ld (.t 7) 1 false),
 zf2 9 6 (.bin .geq (.t 8) (zi2 3)),
 zg2 10 (.pick (.t 6) zT2 (.t 9)),
 zm2 11 10,
 zf2 12 11 (.off (.t 1) 1),
 zf2 13 11 (.ld (.t 12) 1 false),
 zf2 14 11 (.bin .lss (.t 13) (zi2 1)),
 zg2 15 (.pick (.t 11) zT2 (.t 14)),
 zm2 16 15,
 zf2 17 16 (.off (.t 1) 1),
 zf2 18 16 (.ld (.t 17) 1 false),
 zf2 19 16 (.bin .gtr (.t 18) (zi2 1073741823)),
 zg2 20 (.pick (.t 16) zT2 (.t 19)),
 zm2 21 20,
 zf2 22 21 (.off (.t 1) 2),
 zf2 23 21 (.ld (.t 22) 1 false),
 zf2 24 21 (.bin .lss (.t 23) (zi2 0)),
 zg2 25 (.pick (.t 21) zT2 (.t 24)),
 zm2 26 25,
 zf2 27 26 (.off (.t 1) 2),
 zf2 28 26 (.ld (.t 27) 1 false),
 zf2 29 26 (.bin .gtr (.t 28) (zi2 3)),
 zg2 30 (.pick (.t 26) zT2 (.t 29))] [30] [])
 (.cond (.t 30)
 (.seq (.reg false [zg2 2 (.mov (zi2 10))] [2] [])
 .ret)
 .skip))
 (.seq (.reg false [zg2 2 (.mov (zi2 0))] [2] [])
 .ret))),
 [.tmp 2], false⟩
def ir282 : IFn :=   -- tympan/valid.loose
⟨(.seq (.reg false [zg2 1 (.bx (.t 0) 22 true),
 zg2 2 (.mov (zi2 0))] [1] [1])
 (.seq (.reg true [zg2 5 (.off (.t 1) 19),
 zg2 6 (.ldl 1 (.t 5) 1 false),
 zg2 7 (.off (.t 1) 20),
 zg2 8 (.ldl 1 (.t 7) 1 false),
 zg2 9 (.len (.t 8)),
 zg2 10 (.call 313 [(.t 6), (zi2 5), (.t 9)] false),
 zg2 11 (.off (.t 1) 19),
 zg2 12 (.ldl 1 (.t 11) 1 false),
 zg2 13 (.off (.t 1) 21),
 zg2 14 (.ldl 1 (.t 13) 1 false),
 zg2 15 (.len (.t 14)),
 zg2 16 (.call 313 [(.t 12), (zi2 6), (.t 15)] false),
 zm2 3 10,
 zm2 4 16] [3, 4] [])
 (.seq (.seq (.reg false [zm2 17 3,
 zg2 18 (.bin .lss (.t 17) (zi2 0)),
 zm2 19 18,
 zf2 20 19 (.mov (.t 4)),
 zf2 21 19 (.bin .lss (.t 20) (zi2 0)),
 zg2 22 (.pick (.t 19) zT2 (.t 21))] [3, 4, 22] [])
 (.cond (.t 22)
 (.seq (.reg false [zm2 23 3,
 zm2 24 4,
 zg2 25 (.mnmx true (.t 23) (.t 24)),
 zm2 2 25] [2] [])
 .ret)
 .skip))
 (.seq (.reg false [zm2 26 3,
 zm2 27 4,
 zg2 28 (.mnmx false (.t 26) (.t 27)),
 zm2 2 28] [2] [])
 .ret)))),
 [.tmp 2], false⟩
def ir283 : IFn :=   -- tympan/valid.tall
⟨(.seq (.reg false [zg2 1 (.bx (.t 0) 22 true),
 zg2 2 (.mov (zi2 0))] [1] [1])
 (.seq (.reg false [zg2 4 (.ld (.t 1) 22 true),
 zg2 5 (.call 58 [(.t 4)] false),
 zg2 3 (.al [zo2, zo2, zo2, zo2, zo2, zo2, zo2, zo2, zo2, zo2, zo2, zo2, zo2, zo2, zo2, zo2, zo2, zo2, .p (.bool false), .nils, .nils, .nils] false),
 zn2 (.st (.t 3) (.t 5) 22)] [3] [])
 (.seq (.reg false [zg2 6 (.off (.t 3) 21),
 zg2 7 (.ld (.t 6) 1 false),
 zg2 8 (.mkf (.func 314) [] [(.t 3)]),
 zg2 9 (.call 311 [(.t 7), (.t 8)] false),
 zm2 2 9] [2] [])
 .ret))),
 [.tmp 2], false⟩
def ir284 : IFn :=   -- tympan/sp.above
⟨(.seq (.reg false [zg2 4 (.mov (zi2 0))] [0, 1] [])
 (.seq (.reg false [zm2 6 0,
 zm2 7 1,
 zg2 8 (.bin .rem (.t 6) (.t 7)),
 zm2 5 8] [1, 5] [])
 (.seq (.seq (.reg false [zm2 9 5,
 zg2 10 (.bin .lss (.t 9) (zi2 0))] [1, 5, 10] [])
 (.cond (.t 10)
 (.reg false [zm2 11 5,
 zm2 12 1,
 zg2 13 (.bin .add (.t 11) (.t 12)),
 zm2 5 13] [5] [])
 .skip))
 (.seq (.reg false [zm2 14 5,
 zm2 4 14] [4] [])
 .ret)))),
 [.tmp 4], false⟩
def ir285 : IFn :=   -- tympan/total.both$1
⟨(.seq (.reg false [zg2 6 (.mov (zi2 0))] [0, 1, 2, 3] [])
 (.seq (.reg false [zg2 10 (.ld (.t 2) 1 false),
 zm2 11 0,
 zm2 12 1,
 zg2 13 (.callv (.t 10) [(.t 11), (.t 12)] false),
 zm2 9 13,
 zg2 14 (.ext (.t 9) 0),
 zg2 15 (.ext (.t 9) 1),
 zm2 7 14,
 zm2 8 15] [3, 7, 8] [])
 (.seq (.reg false [zg2 16 (.ld (.t 3) 1 false),
 zm2 17 16,
 zt2 18 17 (.mov (.t 8)),
 zg2 19 (.pick (.t 17) (.t 18) zF2),
 zn2 (.st (.t 3) (.t 19) 1)] [7] [])
 (.seq (.reg false [zm2 20 7,
 zm2 6 20] [6] [])
 .ret)))),
 [.tmp 6], false⟩
def ir286 : IFn :=   -- tympan/tympanref01.Sub
⟨(.seq (.reg false [zg2 4 (.al [zo2, .p (.bool false)] true)] [0, 1, 4] [4])
 (.seq (.seq (.reg false [zm2 5 1,
 zg2 6 (.bin .lss (.t 5) (zi2 0)),
 zm2 7 6,
 zt2 8 7 (.mov (.t 0)),
 zt2 9 7 (.mov (.t 1)),
 zt2 10 7 (.bin .add (zi2 9223372036854775807) (.t 9)),
 zt2 11 7 (.bin .gtr (.t 8) (.t 10)),
 zg2 12 (.pick (.t 7) (.t 11) zF2),
 zm2 13 12,
 zf2 14 13 (.mov (.t 1)),
 zf2 15 13 (.bin .gtr (.t 14) (zi2 0)),
 zf2 16 13 (.mov (.t 15)),
 zt2 17 16 (.mov (.t 0)),
 zt2 18 16 (.mov (.t 1)),
 zt2 19 16 (.bin .add (zi2 (-9223372036854775808)) (.t 18)),
 zt2 20 16 (.bin .lss (.t 17) (.t 19)),
 zf2 21 13 (.pick (.t 16) (.t 20) zF2),
 zg2 22 (.pick (.t 13) zT2 (.t 21))] [0, 1, 4, 22] [4])
 (.cond (.t 22)
 (.seq (.reg false [zg2 23 (.bld [zo2, .p (.bool false)] []),
 zn2 (.st (.t 4) (.t 23) 2)] [4] [4])
 .ret)
 .skip))
 (.seq (.reg false [zm2 24 0,
 zm2 25 1,
 zg2 26 (.bin .sub (.t 24) (.t 25)),
 zg2 27 (.bld [zo2, .p (.bool false)] [(0, 1, (.t 26)), (1, 1, zT2)]),
 zn2 (.st (.t 4) (.t 27) 2)] [4] [4])
 .ret))),
 [.cell 4 2 true], false⟩
def ir288 : IFn :=   -- tympan/bad.rules
⟨(.seq (.reg false [zg2 0 (.mov (.c (.nils)))] [] [])
 (.seq (.reg false [zg2 1 (.bld [.p .nilf, .p .nilf] [(0, 1, (.c (.p (.fn 315)))), (1, 1, (.c (.p (.fn 316))))]),
 zg2 2 (.bld [.p .nilf, .p .nilf] [(0, 1, (.c (.p (.fn 317)))), (1, 1, (.c (.p (.fn 318))))]),
 zg2 3 (.bld [.p .nilf, .p .nilf] [(0, 1, (.c (.p (.fn 319)))), (1, 1, (.c (.p (.fn 320))))]),
 zg2 4 (.bld [.p .nilf, .p .nilf] [(0, 1, (.c (.p (.fn 321)))), (1, 1, (.c (.p (.fn 322))))]),
 zg2 5 (.bsl 2 4 [.p .nilf, .p .nilf] [(0, (.t 1)), (1, (.t 2)), (2, (.t 3)), (3, (.t 4))]),
 zm2 0 5] [0] [])
 .ret)),
 [.tmp 0], false⟩
def ir289 : IFn :=   -- tympan/para.is$1
⟨(.seq (.reg false [zg2 4 (.mov zF2)] [0, 1, 2] [])
 (.seq (.reg false [zg2 8 (.ld (.t 1) 1 false),
 zm2 9 0,
 zg2 10 (.call 193 [(.t 8), (.t 9)] false),
 zm2 7 10,
 zg2 11 (.ext (.t 7) 0),
 zg2 12 (.ext (.t 7) 1),
 zg2 5 (.al [zo2, zo2, zo2, zo2, zo2, zo2, zo2] true),
 zn2 (.st (.t 5) (.t 11) 7),
 zm2 6 12] [2, 5, 6] [5])
 (.seq (.reg false [zm2 13 6,
 zm2 14 13,
 zt2 15 14 (.off (.t 5) 2),
 zt2 16 14 (.ld (.t 15) 1 false),
 zt2 17 14 (.ld (.t 2) 1 false),
 zt2 18 14 (.bin .eql (.t 16) (.t 17)),
 zg2 19 (.pick (.t 14) (.t 18) zF2),
 zm2 4 19] [4] [])
 .ret))),
 [.tmp 4], false⟩
def lp290_0 : IC :=
 (.loop [0, 2, 7, 8] [] (.seq (.seq (.reg false [zm2 12 8,
 zg2 13 (.bin .geq (.t 12) (zi2 0)),
 zm2 14 13,
 zt2 15 14 (.mov (.t 8)),
 zt2 16 14 (.mov (.t 0)),
 zt2 17 14 (.call 78 [(.t 16)] false),
 zt2 18 14 (.bin .lss (.t 15) (.t 17)),
 zg2 19 (.pick (.t 14) (.t 18) zF2)] [0, 2, 7, 8, 19] [])
 (.cond (.t 19)
 .skip
 (.exit 0)))
 (.seq (.block 1 (.seq (.reg false [zm2 24 0,
 zm2 25 8,
 zg2 26 (.call 193 [(.t 24), (.t 25)] false),
 zm2 23 26,
 zg2 27 (.ext (.t 23) 0),
 zg2 28 (.ext (.t 23) 1),
 zg2 9 (.al [zo2, zo2, zo2, zo2, zo2, zo2, zo2] true),
 zn2 (.st (.t 9) (.t 27) 7),
 zm2 10 28] [0, 2, 7, 8, 9] [9])
 (.seq (.reg false [zg2 29 (.off (.t 9) 0),
 zg2 30 (.ld (.t 29) 1 false)] [0, 2, 7, 8, 30] [])
 (.block 2 (.seq (.reg false [zg2 32 (.bin .eql (.t 30) (zi2 1)),
 zm2 31 32] [0, 2, 7, 8, 31] [])
 (.cond (.t 31)
 (.seq (.reg false [zm2 33 8,
 zm2 7 33] [7] [])
 (.exit 0))
 .skip))))))
 (.reg false [zm2 20 8,
 zm2 21 2,
 zg2 22 (.bin .add (.t 20) (.t 21)),
 zm2 8 22] [0, 2, 7, 8] []))))
def ir290 : IFn :=   -- tympan/para.seek
⟨(.seq (.reg false [zg2 6 (.mov (zi2 0))] [0, 1, 2] [])
 (.scope (.seq (.reg false [zg2 7 (.mov (zi2 (-1)))] [0, 1, 2, 7] [])
 (.seq (.label 0)
 (.seq (.seq (.reg false [zm2 11 1,
 zm2 8 11] [0, 2, 7, 8] [])
 (.block 0 lp290_0))
 (.seq (.reg false [zm2 34 7,
 zm2 6 34] [6] [])
 .ret)))))),
 [.tmp 6], false⟩
def ir298 : IFn :=   -- tympan/valid.when$1
⟨(.seq (.reg false [zg2 2 (.bx (.t 0) 22 true),
 zg2 3 (.mov (zi2 0))] [1, 2] [2])
 (.seq (.seq (.reg false [zg2 4 (.ld (.t 1) 1 false),
 zg2 5 (.ld (.t 2) 22 true),
 zg2 6 (.callv (.t 4) [(.t 5)] false)] [6] [])
 (.cond (.t 6)
 (.seq (.reg false [zg2 3 (.mov (zi2 0))] [3] [])
 .ret)
 .skip))
 (.seq (.reg false [zg2 3 (.mov (zi2 (-1)))] [3] [])
 .ret))),
 [.tmp 3], false⟩
def ir299 : IFn :=   -- tympan/geom.within[int]
⟨(.seq (.reg false [zg2 2 (.bx (.t 0) 1 false),
 zg2 3 (.bx (.t 1) 1 false),
 zg2 4 (.mov (.c (.p .nilf)))] [2, 3] [])
 (.seq (.reg false [zg2 5 (.mkf (.func 329) [] [(.t 2), (.t 3)]),
 zm2 4 5] [4] [])
 .ret)),
 [.tmp 4], false⟩
def ir300 : IFn :=   -- tympan/geom.within[tympan/api.Sp]
⟨(.seq (.reg false [zg2 2 (.bx (.t 0) 1 false),
 zg2 3 (.bx (.t 1) 1 false),
 zg2 4 (.mov (.c (.p .nilf)))] [2, 3] [])
 (.seq (.reg false [zg2 5 (.mkf (.func 330) [] [(.t 2), (.t 3)]),
 zm2 4 5] [4] [])
 .ret)),
 [.tmp 4], false⟩
def ir301 : IFn :=   -- tympan/valid.first[tympan/api.Item]$1
⟨(.seq (.reg false [zg2 3 (.mov (zi2 0))] [0, 1] [])
 (.seq (.reg false [zm2 4 0,
 zg2 5 (.mkf (.func 303) [] [(.t 1)]),
 zg2 6 (.call 302 [(.t 4), (.t 5)] false),
 zm2 3 6] [3] [])
 .ret)),
 [.tmp 3], false⟩
def lp302_0 : IC :=
 (.loop [0, 1, 7, 8] [] (.seq (.reg false [zg2 9 (.bin .lss (.t 8) (.t 7))] [0, 1, 7, 8, 9] [])
 (.seq (.cond (.t 9)
 .skip
 (.exit 0))
 (.seq (.block 1 (.seq (.reg false [zm2 10 8,
 zm2 5 10] [0, 1, 5, 7, 8] [])
 (.seq (.reg false [zm2 11 1,
 zm2 12 0,
 zm2 13 5,
 zg2 14 (.ixs (.t 12) (.t 13) 7),
 zg2 15 (.ld (.t 14) 7 true),
 zg2 16 (.callv (.t 11) [(.t 15)] false)] [0, 1, 5, 7, 8, 16] [])
 (.cond (.t 16)
 (.seq (.reg false [zm2 17 5,
 zm2 4 17] [4] [])
 .ret)
 .skip))))
 (.reg false [zg2 18 (.bin .add (.t 8) (zi2 1)),
 zm2 8 18] [0, 1, 7, 8] [])))))
def ir302 : IFn :=   -- slices.IndexFunc[[]tympan/api.Item,tympan/api.Item]
⟨(.seq (.reg false [zg2 4 (.mov (zi2 0))] [0, 1] [])
 (.seq (.seq (.reg false [zm2 6 0,
 zg2 7 (.len (.t 6)),
 zg2 8 (.mov (zi2 0))] [0, 1, 7, 8] [])
 (.block 0 lp302_0))
 (.seq (.reg false [zg2 4 (.mov (zi2 (-1)))] [4] [])
 .ret))),
 [.tmp 4], false⟩
def ir303 : IFn :=   -- tympan/valid.first[tympan/api.Item]$1$1
⟨(.seq (.reg false [zg2 2 (.bx (.t 0) 7 true),
 zg2 3 (.mov zF2)] [1, 2] [2])
 (.seq (.reg false [zg2 4 (.ld (.t 1) 1 false),
 zg2 5 (.ld (.t 2) 7 true),
 zg2 6 (.callv (.t 4) [(.t 5)] false),
 zg2 7 (.bin .neq (.t 6) (zi2 0)),
 zm2 3 7] [3] [])
 .ret)),
 [.tmp 3], false⟩
def ir304 : IFn :=   -- tympan/item.forms
⟨(.seq (.reg false [zg2 0 (.mov (.c (.nils)))] [] [])
 (.seq (.reg false [zg2 1 (.mov (.c (.p (.fn 331))))] [1] [])
 (.seq (.reg false [zg2 2 (.call 305 [(zi2 0)] false),
 zg2 3 (.bld [.p .nilf, .p .nilf] [(0, 1, (.c (.p (.fn 333)))), (1, 1, (.t 2))]),
 zg2 4 (.call 305 [(zi2 0)] false),
 zg2 5 (.bld [.p .nilf, .p .nilf] [(0, 1, (.c (.p (.fn 335)))), (1, 1, (.t 4))]),
 zm2 6 1,
 zg2 7 (.callv (.t 6) [(.c (.p (.fn 337)))] false),
 zg2 8 (.bld [.p .nilf, .p .nilf] [(0, 1, (.t 7)), (1, 1, (.c (.p (.fn 338))))]),
 zm2 9 1,
 zg2 10 (.callv (.t 9) [(.c (.p (.fn 339)))] false),
 zg2 11 (.call 305 [(zi2 1048576)] false),
 zg2 12 (.bld [.p .nilf, .p .nilf] [(0, 1, (.t 10)), (1, 1, (.t 11))]),
 zm2 13 1,
 zg2 14 (.callv (.t 13) [(.c (.p (.fn 340)))] false),
 zg2 15 (.call 305 [(zi2 511)] false),
 zg2 16 (.bld [.p .nilf, .p .nilf] [(0, 1, (.t 14)), (1, 1, (.t 15))]),
 zm2 17 1,
 zg2 18 (.callv (.t 17) [(.c (.p (.fn 341)))] false),
 zg2 19 (.call 305 [(zi2 255)] false),
 zg2 20 (.bld [.p .nilf, .p .nilf] [(0, 1, (.t 18)), (1, 1, (.t 19))]),
 zg2 21 (.call 305 [(zi2 0)] false),
 zg2 22 (.bld [.p .nilf, .p .nilf] [(0, 1, (.c (.p (.fn 342)))), (1, 1, (.t 21))]),
 zg2 23 (.bsl 2 7 [.p .nilf, .p .nilf] [(0, (.t 3)), (1, (.t 5)), (2, (.t 8)), (3, (.t 12)), (4, (.t 16)), (5, (.t 20)), (6, (.t 22))]),
 zm2 0 23] [0] [])
 .ret))),
 [.tmp 0], false⟩
def ir305 : IFn :=   -- tympan/item.upTo
⟨(.seq (.reg false [zg2 1 (.bx (.t 0) 1 false),
 zg2 2 (.mov (.c (.p .nilf)))] [1] [])
 (.seq (.reg false [zg2 3 (.mkf (.func 344) [] [(.t 1)]),
 zm2 2 3] [2] [])
 .ret)),
 [.tmp 2], false⟩
def ir306 : IFn :=   -- tympan/item.long
⟨(.seq (.reg false [zg2 2 (.mov zF2)] [0] [])
 (.seq (.reg false [zm2 3 0,
 zg2 4 (.call 345 [(.t 3), (.c (.p (.fn 346)))] false),
 zg2 5 (.un .not (.t 4)),
 zm2 2 5] [2] [])
 .ret)),
 [.tmp 2], false⟩
def ir307 : IFn :=   -- tympan/valid.first[tympan/api.Note]$1
⟨(.seq (.reg false [zg2 3 (.mov (zi2 0))] [0, 1] [])
 (.seq (.reg false [zm2 4 0,
 zg2 5 (.mkf (.func 309) [] [(.t 1)]),
 zg2 6 (.call 308 [(.t 4), (.t 5)] false),
 zm2 3 6] [3] [])
 .ret)),
 [.tmp 3], false⟩
def lp308_0 : IC :=
 (.loop [0, 1, 7, 8] [] (.seq (.reg false [zg2 9 (.bin .lss (.t 8) (.t 7))] [0, 1, 7, 8, 9] [])
 (.seq (.cond (.t 9)
 .skip
 (.exit 0))
 (.seq (.block 1 (.seq (.reg false [zm2 10 8,
 zm2 5 10] [0, 1, 5, 7, 8] [])
 (.seq (.reg false [zm2 11 1,
 zm2 12 0,
 zm2 13 5,
 zg2 14 (.ixs (.t 12) (.t 13) 2),
 zg2 15 (.ld (.t 14) 2 true),
 zg2 16 (.callv (.t 11) [(.t 15)] false)] [0, 1, 5, 7, 8, 16] [])
 (.cond (.t 16)
 (.seq (.reg false [zm2 17 5,
 zm2 4 17] [4] [])
 .ret)
 .skip))))
 (.reg false [zg2 18 (.bin .add (.t 8) (zi2 1)),
 zm2 8 18] [0, 1, 7, 8] [])))))
def ir308 : IFn :=   -- slices.IndexFunc[[]tympan/api.Note,tympan/api.Note]
⟨(.seq (.reg false [zg2 4 (.mov (zi2 0))] [0, 1] [])
 (.seq (.seq (.reg false [zm2 6 0,
 zg2 7 (.len (.t 6)),
 zg2 8 (.mov (zi2 0))] [0, 1, 7, 8] [])
 (.block 0 lp308_0))
 (.seq (.reg false [zg2 4 (.mov (zi2 (-1)))] [4] [])
 .ret))),
 [.tmp 4], false⟩
def ir309 : IFn :=   -- tympan/valid.first[tympan/api.Note]$1$1
⟨(.seq (.reg false [zg2 2 (.bx (.t 0) 2 true),
 zg2 3 (.mov zF2)] [1, 2] [2])
 (.seq (.reg false [zg2 4 (.ld (.t 1) 1 false),
 zg2 5 (.ld (.t 2) 2 true),
 zg2 6 (.callv (.t 4) [(.t 5)] false),
 zg2 7 (.bin .neq (.t 6) (zi2 0)),
 zm2 3 7] [3] [])
 .ret)),
 [.tmp 3], false⟩
def ir310 : IFn :=   -- tympan/valid.first[tympan/api.Float]$1
⟨(.seq (.reg false [zg2 3 (.mov (zi2 0))] [0, 1] [])
 (.seq (.reg false [zm2 4 0,
 zg2 5 (.mkf (.func 312) [] [(.t 1)]),
 zg2 6 (.call 311 [(.t 4), (.t 5)] false),
 zm2 3 6] [3] [])
 .ret)),
 [.tmp 3], false⟩
def lp311_0 : IC :=
 (.loop [0, 1, 7, 8] [] (.seq (.reg false [zg2 9 (.bin .lss (.t 8) (.t 7))] [0, 1, 7, 8, 9] [])
 (.seq (.cond (.t 9)
 .skip
 (.exit 0))
 (.seq (.block 1 (.seq (.reg false [zm2 10 8,
 zm2 5 10] [0, 1, 5, 7, 8] [])
 (.seq (.reg false [zm2 11 1,
 zm2 12 0,
 zm2 13 5,
 zg2 14 (.ixs (.t 12) (.t 13) 3),
 zg2 15 (.ld (.t 14) 3 true),
 zg2 16 (.callv (.t 11) [(.t 15)] false)] [0, 1, 5, 7, 8, 16] [])
 (.cond (.t 16)
 (.seq (.reg false [zm2 17 5,
 zm2 4 17] [4] [])
 .ret)
 .skip))))
 (.reg false [zg2 18 (.bin .add (.t 8) (zi2 1)),
 zm2 8 18] [0, 1, 7, 8] [])))))
def ir311 : IFn :=   -- slices.IndexFunc[[]tympan/api.Float,tympan/api.Float]
⟨(.seq (.reg false [zg2 4 (.mov (zi2 0))] [0, 1] [])
 (.seq (.seq (.reg false [zm2 6 0,
 zg2 7 (.len (.t 6)),
 zg2 8 (.mov (zi2 0))] [0, 1, 7, 8] [])
 (.block 0 lp311_0))
 (.seq (.reg false [zg2 4 (.mov (zi2 (-1)))] [4] [])
 .ret))),
 [.tmp 4], false⟩
def ir312 : IFn :=   -- tympan/valid.first[tympan/api.Float]$1$1
⟨(.seq (.reg false [zg2 2 (.bx (.t 0) 3 true),
 zg2 3 (.mov zF2)] [1, 2] [2])
 (.seq (.reg false [zg2 4 (.ld (.t 1) 1 false),
 zg2 5 (.ld (.t 2) 3 true),
 zg2 6 (.callv (.t 4) [(.t 5)] false),
 zg2 7 (.bin .neq (.t 6) (zi2 0)),
 zm2 3 7] [3] [])
 .ret)),
 [.tmp 3], false⟩
def lp313_0 : IC :=
 (.loop [0, 1, 2, 7, 8, 14, 15, 16] [] (.seq (.reg false [zg2 17 (.bin .lss (.t 16) (.t 15))] [0, 1, 2, 7, 8, 14, 15, 16, 17] [])
 (.seq (.cond (.t 17)
 .skip
 (.exit 0))
 (.seq (.block 1 (.seq (.reg false [zm2 18 16,
 zg2 19 (.ixs (.t 14) (.t 16) 7),
 zg2 20 (.ld (.t 19) 7 true),
 zg2 10 (.al [zo2, zo2, zo2, zo2, zo2, zo2, zo2] true),
 zm2 9 18,
 zn2 (.st (.t 10) (.t 20) 7)] [0, 1, 2, 7, 8, 9, 10, 14, 15, 16] [10])
 (.seq (.seq (.reg false [zm2 21 9,
 zm2 22 7,
 zg2 23 (.bin .eql (.t 21) (.t 22)),
 zm2 24 23,
 zf2 25 24 (.off (.t 10) 0),
 zf2 26 24 (.ld (.t 25) 1 false),
 zf2 27 24 (.mov (.t 1)),
 zf2 28 24 (.bin .eql (.t 26) (.t 27)),
 zf2 29 24 (.mov (.t 28)),
 zt2 30 29 (.mov (.t 8)),
 zt2 31 29 (.mov (.t 2)),
 zt2 32 29 (.bin .eql (.t 30) (.t 31)),
 zf2 33 24 (.pick (.t 29) (.t 32) zF2),
 zg2 34 (.pick (.t 24) zT2 (.t 33))] [0, 1, 2, 7, 8, 9, 10, 14, 15, 16, 34] [10])
 (.cond (.t 34)
 (.seq (.reg false [zm2 35 9,
 zm2 6 35] [6] [])
 .ret)
 .skip))
 (.seq (.reg false [zg2 36 (.off (.t 10) 0),
 zg2 37 (.ld (.t 36) 1 false),
 zm2 38 1,
 zg2 39 (.bin .eql (.t 37) (.t 38))] [0, 1, 2, 7, 8, 14, 15, 16, 39] [])
 (.cond (.t 39)
 (.reg false [zm2 40 8,
 zg2 41 (.bin .add (.t 40) (zi2 1)),
 zm2 8 41] [0, 1, 2, 7, 8, 14, 15, 16] [])
 .skip)))))
 (.reg false [zg2 42 (.bin .add (.t 16) (zi2 1)),
 zm2 16 42] [0, 1, 2, 7, 8, 14, 15, 16] [])))))
def ir313 : IFn :=   -- tympan/valid.refs
⟨(.seq (.reg false [zg2 6 (.mov (zi2 0))] [0, 1, 2] [])
 (.seq (.reg false [zm2 11 0,
 zm2 12 1,
 zg2 13 (.call 347 [(.t 11), (.t 12)] false),
 zm2 7 13] [0, 1, 2, 7] [])
 (.seq (.reg false [zg2 8 (.mov (zi2 0))] [0, 1, 2, 7, 8] [])
 (.seq (.seq (.reg false [zm2 14 0,
 zg2 15 (.len (.t 14)),
 zg2 16 (.mov (zi2 0))] [0, 1, 2, 7, 8, 14, 15, 16] [])
 (.block 0 lp313_0))
 (.seq (.seq (.reg false [zm2 43 8,
 zm2 44 2,
 zg2 45 (.bin .lss (.t 43) (.t 44))] [0, 45] [])
 (.cond (.t 45)
 (.seq (.reg false [zm2 46 0,
 zg2 47 (.len (.t 46)),
 zm2 6 47] [6] [])
 .ret)
 .skip))
 (.seq (.reg false [zg2 6 (.mov (zi2 (-1)))] [6] [])
 .ret)))))),
 [.tmp 6], false⟩
def ir314 : IFn :=   -- tympan/valid.tall$1
⟨(.seq (.reg false [zg2 2 (.bx (.t 0) 3 true),
 zg2 3 (.mov zF2)] [1, 2] [2])
 (.seq (.reg false [zg2 4 (.off (.t 2) 1),
 zg2 5 (.ld (.t 4) 1 false),
 zg2 6 (.off (.t 1) 0),
 zg2 7 (.off (.t 6) 4),
 zg2 8 (.ld (.t 7) 1 false),
 zg2 9 (.bin .gtr (.t 5) (.t 8)),
 zm2 3 9] [3] [])
 .ret)),
 [.tmp 3], false⟩
def ir315 : IFn :=   -- tympan/bad.rules$1
⟨(.seq (.reg false [zg2 4 (.mov zF2)] [0] [])
 (.seq (.reg false [zm2 5 0,
 zg2 6 (.bin .lss (.t 5) (zi2 1)),
 zm2 4 6] [4] [])
 .ret)),
 [.tmp 4], false⟩
def ir316 : IFn :=   -- tympan/bad.rules$2
⟨(.seq (.reg false [zg2 4 (.mov (zi2 0))] [] [])
 (.seq (.reg false [zg2 4 (.mov (zi2 0))] [4] [])
 .ret)),
 [.tmp 4], false⟩
def ir317 : IFn :=   -- tympan/bad.rules$3
⟨(.seq (.reg false [zg2 4 (.mov zF2)] [1] [])
 (.seq (.reg false [zm2 5 1,
 zg2 6 (.bin .lss (.t 5) (zi2 1)),
 zm2 4 6] [4] [])
 .ret)),
 [.tmp 4], false⟩
def ir318 : IFn :=   -- tympan/bad.rules$4
⟨(.seq (.reg false [zg2 4 (.mov (zi2 0))] [] [])
 (.seq (.reg false [zg2 4 (.mov (zi2 1291))] [4] [])
 .ret)),
 [.tmp 4], false⟩
def ir319 : IFn :=   -- tympan/bad.rules$5
⟨(.seq (.reg false [zg2 4 (.mov zF2)] [0] [])
 (.seq (.reg false [zm2 5 0,
 zg2 6 (.bin .leq (.t 5) (zi2 7230584)),
 zm2 4 6] [4] [])
 .ret)),
 [.tmp 4], false⟩
def ir320 : IFn :=   -- tympan/bad.rules$6
⟨(.seq (.reg false [zg2 4 (.mov (zi2 0))] [0, 1] [])
 (.seq (.reg false [zm2 5 0,
 zg2 6 (.bin .mul (.t 5) (zi2 297)),
 zm2 7 1,
 zg2 8 (.bin .quo (.t 6) (.t 7)),
 zm2 4 8] [4] [])
 .ret)),
 [.tmp 4], false⟩
def ir321 : IFn :=   -- tympan/bad.rules$7
⟨(.seq (.reg false [zg2 4 (.mov zF2)] [1] [])
 (.seq (.reg false [zm2 5 1,
 zg2 6 (.bin .geq (.t 5) (zi2 1663497)),
 zm2 4 6] [4] [])
 .ret)),
 [.tmp 4], false⟩
def ir322 : IFn :=   -- tympan/bad.rules$8
⟨(.seq (.reg false [zg2 4 (.mov (zi2 0))] [0, 1] [])
 (.seq (.reg false [zm2 5 0,
 zm2 6 1,
 zg2 7 (.bin .quo (.t 6) (zi2 297)),
 zg2 8 (.bin .quo (.t 5) (.t 7)),
 zm2 4 8] [4] [])
 .ret)),
 [.tmp 4], false⟩
def lp329_0 : IC :=
 (.loop [1, 2, 7, 8, 9] [] (.seq (.reg false [zg2 10 (.bin .lss (.t 9) (.t 8))] [1, 2, 7, 8, 9, 10] [])
 (.seq (.cond (.t 10)
 .skip
 (.exit 0))
 (.seq (.block 1 (.seq (.reg false [zg2 11 (.ixs (.t 7) (.t 9) 1),
 zg2 12 (.ld (.t 11) 1 false),
 zm2 6 12] [1, 2, 6, 7, 8, 9] [])
 (.seq (.reg false [zm2 13 6,
 zg2 14 (.ld (.t 1) 1 false),
 zg2 15 (.bin .lss (.t 13) (.t 14)),
 zm2 16 15,
 zf2 17 16 (.mov (.t 6)),
 zf2 18 16 (.ld (.t 2) 1 false),
 zf2 19 16 (.bin .gtr (.t 17) (.t 18)),
 zg2 20 (.pick (.t 16) zT2 (.t 19))] [1, 2, 7, 8, 9, 20] [])
 (.cond (.t 20)
 (.seq (.reg false [zg2 4 (.mov zF2)] [4] [])
 .ret)
 .skip))))
 (.reg false [zg2 21 (.bin .add (.t 9) (zi2 1)),
 zm2 9 21] [1, 2, 7, 8, 9] [])))))
def ir329 : IFn :=   -- tympan/geom.within[int]$1
⟨(.seq (.reg false [zg2 4 (.mov zF2)] [0, 1, 2] [])
 (.seq (.seq (.reg false [zm2 7 0,
 zg2 8 (.len (.t 7)),
 zg2 9 (.mov (zi2 0))] [1, 2, 7, 8, 9] [])
 (.block 0 lp329_0))
 (.seq (.reg false [zg2 4 (.mov zT2)] [4] [])
 .ret))),
 [.tmp 4], false⟩
def lp330_0 : IC :=
 (.loop [1, 2, 7, 8, 9] [] (.seq (.reg false [zg2 10 (.bin .lss (.t 9) (.t 8))] [1, 2, 7, 8, 9, 10] [])
 (.seq (.cond (.t 10)
 .skip
 (.exit 0))
 (.seq (.block 1 (.seq (.reg false [zg2 11 (.ixs (.t 7) (.t 9) 1),
 zg2 12 (.ld (.t 11) 1 false),
 zm2 6 12] [1, 2, 6, 7, 8, 9] [])
 (.seq (.reg false [zm2 13 6,
 zg2 14 (.ld (.t 1) 1 false),
 zg2 15 (.bin .lss (.t 13) (.t 14)),
 zm2 16 15,
 zf2 17 16 (.mov (.t 6)),
 zf2 18 16 (.ld (.t 2) 1 false),
 zf2 19 16 (.bin .gtr (.t 17) (.t 18)),
 zg2 20 (.pick (.t 16) zT2 (.t 19))] [1, 2, 7, 8, 9, 20] [])
 (.cond (.t 20)
 (.seq (.reg false [zg2 4 (.mov zF2)] [4] [])
 .ret)
 .skip))))
 (.reg false [zg2 21 (.bin .add (.t 9) (zi2 1)),
 zm2 9 21] [1, 2, 7, 8, 9] [])))))
def ir330 : IFn :=   -- tympan/geom.within[tympan/api.Sp]$1
⟨(.seq (.reg false [zg2 4 (.mov zF2)] [0, 1, 2] [])
 (.seq (.seq (.reg false [zm2 7 0,
 zg2 8 (.len (.t 7)),
 zg2 9 (.mov (zi2 0))] [1, 2, 7, 8, 9] [])
 (.block 0 lp330_0))
 (.seq (.reg false [zg2 4 (.mov zT2)] [4] [])
 .ret))),
 [.tmp 4], false⟩
def ir331 : IFn :=   -- tympan/item.forms$1
⟨(.seq (.reg false [zg2 1 (.bx (.t 0) 1 false),
 zg2 2 (.mov (.c (.p .nilf)))] [1] [])
 (.seq (.reg false [zg2 3 (.mkf (.func 332) [] [(.t 1)]),
 zm2 2 3] [2] [])
 .ret)),
 [.tmp 2], false⟩
def ir332 : IFn :=   -- tympan/item.forms$1$1
⟨(.seq (.reg false [zg2 2 (.bx (.t 0) 7 true),
 zg2 3 (.al [zo2, zo2, zo2, zo2, zo2, zo2, zo2] true)] [1, 2, 3] [2, 3])
 (.seq (.reg false [zg2 4 (.ld (.t 1) 1 false),
 zg2 5 (.off (.t 2) 6),
 zg2 6 (.ld (.t 5) 1 false),
 zg2 7 (.callv (.t 4) [(.t 6)] false),
 zn2 (.st (.t 3) (.t 7) 7)] [3] [3])
 .ret)),
 [.cell 3 7 true], false⟩
def ir333 : IFn :=   -- tympan/item.forms$2
⟨(.seq (.reg false [zg2 1 (.bx (.t 0) 7 true),
 zg2 2 (.al [zo2, zo2, zo2, zo2, zo2, zo2, zo2] true)] [1, 2] [1, 2])
 (.seq (.reg false [zg2 3 (.off (.t 1) 1),
 zg2 4 (.ld (.t 3) 1 false),
 zg2 5 (.off (.t 1) 2),
 zg2 6 (.ld (.t 5) 1 false),
 zg2 7 (.call 334 [(.t 4), (.t 6)] false),
 zn2 (.st (.t 2) (.t 7) 7)] [2] [2])
 .ret)),
 [.cell 2 7 true], false⟩
def ir334 : IFn :=   -- tympan/item.Box
⟨(.seq (.reg false [zg2 4 (.al [zo2, zo2, zo2, zo2, zo2, zo2, zo2] true)] [0, 1, 4] [4])
 (.seq (.reg false [zm2 5 0,
 zm2 6 1,
 zg2 7 (.bld [zo2, zo2, zo2, zo2, zo2, zo2, zo2] [(0, 1, (zi2 1)), (1, 1, (.t 5)), (2, 1, (.t 6))]),
 zn2 (.st (.t 4) (.t 7) 7)] [4] [4])
 .ret)),
 [.cell 4 7 true], false⟩
def ir335 : IFn :=   -- tympan/item.forms$3
⟨(.seq (.reg false [zg2 1 (.bx (.t 0) 7 true),
 zg2 2 (.al [zo2, zo2, zo2, zo2, zo2, zo2, zo2] true)] [1, 2] [1, 2])
 (.seq (.reg false [zg2 3 (.off (.t 1) 1),
 zg2 4 (.ld (.t 3) 1 false),
 zg2 5 (.off (.t 1) 3),
 zg2 6 (.ld (.t 5) 1 false),
 zg2 7 (.off (.t 1) 4),
 zg2 8 (.ld (.t 7) 1 false),
 zg2 9 (.off (.t 1) 5),
 zg2 10 (.ld (.t 9) 1 false),
 zg2 11 (.call 336 [(.t 4), (.t 6), (.t 8), (.t 10)] false),
 zn2 (.st (.t 2) (.t 11) 7)] [2] [2])
 .ret)),
 [.cell 2 7 true], false⟩
def ir336 : IFn :=   -- tympan/item.Glue
⟨(.seq (.reg false [zg2 8 (.al [zo2, zo2, zo2, zo2, zo2, zo2, zo2] true)] [0, 1, 2, 3, 8] [8])
 (.seq (.reg false [zm2 9 0,
 zm2 10 1,
 zm2 11 2,
 zm2 12 3,
 zg2 13 (.bld [zo2, zo2, zo2, zo2, zo2, zo2, zo2] [(0, 1, (zi2 2)), (1, 1, (.t 9)), (3, 1, (.t 10)), (4, 1, (.t 11)), (5, 1, (.t 12))]),
 zn2 (.st (.t 8) (.t 13) 7)] [8] [8])
 .ret)),
 [.cell 8 7 true], false⟩
def ir337 : IFn :=   -- tympan/item.Pen
⟨(.seq (.reg false [zg2 2 (.al [zo2, zo2, zo2, zo2, zo2, zo2, zo2] true)] [0, 2] [2])
 (.seq (.reg false [zm2 3 0,
 zg2 4 (.bld [zo2, zo2, zo2, zo2, zo2, zo2, zo2] [(0, 1, (zi2 3)), (6, 1, (.t 3))]),
 zn2 (.st (.t 2) (.t 4) 7)] [2] [2])
 .ret)),
 [.cell 2 7 true], false⟩
def ir338 : IFn :=   -- tympan/item.forms$4
⟨(.seq (.reg false [zg2 2 (.mov zF2)] [0] [])
 (.seq (.reg false [zm2 3 0,
 zg2 4 (.bin .eql (.t 3) (zi2 (-10000))),
 zm2 5 4,
 zf2 6 5 (.call 305 [(zi2 10000)] false),
 zf2 7 5 (.mov (.t 0)),
 zf2 8 5 (.callv (.t 6) [(.t 7)] false),
 zg2 9 (.pick (.t 5) zT2 (.t 8)),
 zm2 2 9] [2] [])
 .ret)),
 [.tmp 2], false⟩
def ir339 : IFn :=   -- tympan/item.Mark
⟨(.seq (.reg false [zg2 2 (.al [zo2, zo2, zo2, zo2, zo2, zo2, zo2] true)] [0, 2] [2])
 (.seq (.reg false [zm2 3 0,
 zg2 4 (.bld [zo2, zo2, zo2, zo2, zo2, zo2, zo2] [(0, 1, (zi2 4)), (6, 1, (.t 3))]),
 zn2 (.st (.t 2) (.t 4) 7)] [2] [2])
 .ret)),
 [.cell 2 7 true], false⟩
def ir340 : IFn :=   -- tympan/item.Note
⟨(.seq (.reg false [zg2 2 (.al [zo2, zo2, zo2, zo2, zo2, zo2, zo2] true)] [0, 2] [2])
 (.seq (.reg false [zm2 3 0,
 zg2 4 (.bld [zo2, zo2, zo2, zo2, zo2, zo2, zo2] [(0, 1, (zi2 5)), (6, 1, (.t 3))]),
 zn2 (.st (.t 2) (.t 4) 7)] [2] [2])
 .ret)),
 [.cell 2 7 true], false⟩
def ir341 : IFn :=   -- tympan/item.Float
⟨(.seq (.reg false [zg2 2 (.al [zo2, zo2, zo2, zo2, zo2, zo2, zo2] true)] [0, 2] [2])
 (.seq (.reg false [zm2 3 0,
 zg2 4 (.bld [zo2, zo2, zo2, zo2, zo2, zo2, zo2] [(0, 1, (zi2 6)), (6, 1, (.t 3))]),
 zn2 (.st (.t 2) (.t 4) 7)] [2] [2])
 .ret)),
 [.cell 2 7 true], false⟩
def ir342 : IFn :=   -- tympan/item.forms$5
⟨(.seq (.reg false [zg2 1 (.bx (.t 0) 7 true),
 zg2 2 (.al [zo2, zo2, zo2, zo2, zo2, zo2, zo2] true)] [2] [2])
 (.seq (.reg false [zg2 3 (.call 343 [] false),
 zn2 (.st (.t 2) (.t 3) 7)] [2] [2])
 .ret)),
 [.cell 2 7 true], false⟩
def ir343 : IFn :=   -- tympan/item.Barrier
⟨(.seq (.reg false [zg2 0 (.al [zo2, zo2, zo2, zo2, zo2, zo2, zo2] true)] [0] [0])
 (.seq (.reg false [zg2 1 (.bld [zo2, zo2, zo2, zo2, zo2, zo2, zo2] [(0, 1, (zi2 7))]),
 zn2 (.st (.t 0) (.t 1) 7)] [0] [0])
 .ret)),
 [.cell 0 7 true], false⟩
def ir344 : IFn :=   -- tympan/item.upTo$1
⟨(.seq (.reg false [zg2 3 (.mov zF2)] [0, 1] [])
 (.seq (.reg false [zm2 4 0,
 zg2 5 (.bin .geq (.t 4) (zi2 0)),
 zm2 6 5,
 zt2 7 6 (.mov (.t 0)),
 zt2 8 6 (.ld (.t 1) 1 false),
 zt2 9 6 (.bin .leq (.t 7) (.t 8)),
 zg2 10 (.pick (.t 6) (.t 9) zF2),
 zm2 3 10] [3] [])
 .ret)),
 [.tmp 3], false⟩
def ir345 : IFn :=   -- slices.ContainsFunc[[]tympan/api.Sp,tympan/api.Sp]
⟨(.seq (.reg false [zg2 4 (.mov zF2)] [0, 1] [])
 (.seq (.reg false [zm2 5 0,
 zm2 6 1,
 zg2 7 (.call 354 [(.t 5), (.t 6)] false),
 zg2 8 (.bin .geq (.t 7) (zi2 0)),
 zm2 4 8] [4] [])
 .ret)),
 [.tmp 4], false⟩
def ir346 : IFn :=   -- tympan/item.long$1
⟨(.seq (.reg false [zg2 2 (.mov zF2)] [0] [])
 (.seq (.reg false [zm2 3 0,
 zg2 4 (.bin .lss (.t 3) (zi2 0)),
 zm2 5 4,
 zf2 6 5 (.mov (.t 0)),
 zf2 7 5 (.bin .gtr (.t 6) (zi2 1073741823)),
 zg2 8 (.pick (.t 5) zT2 (.t 7)),
 zm2 2 8] [2] [])
 .ret)),
 [.tmp 2], false⟩
def ir347 : IFn :=   -- tympan/valid.Anchors
⟨(.seq (.reg false [zg2 3 (.bx (.t 1) 1 false),
 zg2 4 (.mov (zi2 0))] [0, 3] [])
 (.seq (.reg false [zg2 5 (.al [zo2] false),
 zn2 (.st (.t 5) (zi2 0) 1)] [0, 3, 5] [])
 (.seq (.reg false [zm2 6 0,
 zg2 7 (.mkf (.func 355) [] [(.t 3), (.t 5)]),
 zg2 8 (.call 302 [(.t 6), (.t 7)] false),
 zm2 4 8] [4] [])
 .ret))),
 [.tmp 4], false⟩
def lp354_0 : IC :=
 (.loop [0, 1, 7, 8] [] (.seq (.reg false [zg2 9 (.bin .lss (.t 8) (.t 7))] [0, 1, 7, 8, 9] [])
 (.seq (.cond (.t 9)
 .skip
 (.exit 0))
 (.seq (.block 1 (.seq (.reg false [zm2 10 8,
 zm2 5 10] [0, 1, 5, 7, 8] [])
 (.seq (.reg false [zm2 11 1,
 zm2 12 0,
 zm2 13 5,
 zg2 14 (.ixs (.t 12) (.t 13) 1),
 zg2 15 (.ld (.t 14) 1 false),
 zg2 16 (.callv (.t 11) [(.t 15)] false)] [0, 1, 5, 7, 8, 16] [])
 (.cond (.t 16)
 (.seq (.reg false [zm2 17 5,
 zm2 4 17] [4] [])
 .ret)
 .skip))))
 (.reg false [zg2 18 (.bin .add (.t 8) (zi2 1)),
 zm2 8 18] [0, 1, 7, 8] [])))))
def ir354 : IFn :=   -- slices.IndexFunc[[]tympan/api.Sp,tympan/api.Sp]
⟨(.seq (.reg false [zg2 4 (.mov (zi2 0))] [0, 1] [])
 (.seq (.seq (.reg false [zm2 6 0,
 zg2 7 (.len (.t 6)),
 zg2 8 (.mov (zi2 0))] [0, 1, 7, 8] [])
 (.block 0 lp354_0))
 (.seq (.reg false [zg2 4 (.mov (zi2 (-1)))] [4] [])
 .ret))),
 [.tmp 4], false⟩
def ir355 : IFn :=   -- tympan/valid.Anchors$1
⟨(.seq (.reg false [zg2 3 (.bx (.t 0) 7 true),
 zg2 4 (.mov zF2)] [1, 2, 3] [3])
 (.seq (.seq (.reg false [zg2 5 (.off (.t 3) 0),
 zg2 6 (.ld (.t 5) 1 false),
 zg2 7 (.ld (.t 1) 1 false),
 zg2 8 (.bin .neq (.t 6) (.t 7))] [2, 3, 8] [3])
 (.cond (.t 8)
 (.seq (.reg false [zg2 4 (.mov zF2)] [4] [])
 .ret)
 .skip))
 (.seq (.reg false [zg2 9 (.ld (.t 2) 1 false),
 zg2 10 (.bin .add (.t 9) (zi2 1)),
 zn2 (.st (.t 2) (.t 10) 1)] [2, 3] [3])
 (.seq (.reg false [zg2 11 (.off (.t 3) 6),
 zg2 12 (.ld (.t 11) 1 false),
 zg2 13 (.ld (.t 2) 1 false),
 zg2 14 (.bin .sub (.t 13) (zi2 1)),
 zg2 15 (.bin .neq (.t 12) (.t 14)),
 zm2 4 15] [4] [])
 .ret)))),
 [.tmp 4], false⟩
end Go.EnvOf
