/- The engine's instructions for the functions, part 2. -/
import Derived.Test.YtddnebpblclpfaaGreatEngAll2
namespace Go.EnvOf
open Go Go.Eng
set_option maxRecDepth 100000
abbrev zm2 (d n : Nat) : GIns := ⟨some d, none, .mov (.t n)⟩
abbrev zT2 : Arg := .c (.p (.bool true))
abbrev zF2 : Arg := .c (.p (.bool false))
abbrev zg2 (d : Nat) (i : Ins) : GIns := ⟨some d, none, i⟩
abbrev zf2 (d k : Nat) (i : Ins) : GIns := ⟨some d, some (k, false), i⟩
abbrev zt2 (d k : Nat) (i : Ins) : GIns := ⟨some d, some (k, true), i⟩
abbrev zn2 (i : Ins) : GIns := ⟨none, none, i⟩
abbrev zi2 (n : Int) : Arg := .c (.p (.int .i64 n))
abbrev zo2 : V := .p (.int .i64 0)
def lp311_0 : IC :=
 (.loop [0, 1, 7, 8] [] (.seq (.reg false [zg2 9 (.bin .lss (.t 8) (.t 7))] [0, 1, 7, 8, 9] [])
 (.seq (.cond (.t 9)
 .skip
 (.exit 0))
 (.seq (.block 1 (.seq (.reg false [zm2 10 8,
 zm2 5 10] [0, 1, 5, 7, 8] [])
 (.seq (.reg false [zm2 11 1,
 zm2 12 0,
 zm2 13 5,
 zg2 14 (.ixs (.t 12) (.t 13) 3),
 zg2 15 (.ld (.t 14) 3 true),
 zg2 16 (.callv (.t 11) [(.t 15)] false)] [0, 1, 5, 7, 8, 16] [])
 (.cond (.t 16)
 (.seq (.reg false [zm2 17 5,
 zm2 4 17] [4] [])
 .ret)
 .skip))))
 (.reg false [zg2 18 (.bin .add (.t 8) (zi2 1)),
 zm2 8 18] [0, 1, 7, 8] [])))))
def ir311 : IFn :=   -- slices.IndexFunc[[]tympan/api.Float,tympan/api.Float]
⟨(.seq (.reg false [zg2 4 (.mov (zi2 0))] [0, 1] [])
 (.seq (.seq (.reg false [zm2 6 0,
 zg2 7 (.len (.t 6)),
 zg2 8 (.mov (zi2 0))] [0, 1, 7, 8] [])
 (.block 0 lp311_0))
 (.seq (.reg false [zg2 4 (.mov (zi2 (-1)))] [4] [])
 .ret))),
 [.tmp 4], false⟩
def ir312 : IFn :=   -- tympan/valid.first[tympan/api.Float]$1$1
⟨(.seq (.reg false [zg2 2 (.bx (.t 0) 3 true),
 zg2 3 (.mov zF2)] [1, 2] [2])
 (.seq (.reg false [zg2 4 (.ld (.t 1) 1 false),
 zg2 5 (.ld (.t 2) 3 true),
 zg2 6 (.callv (.t 4) [(.t 5)] false),
 zg2 7 (.bin .neq (.t 6) (zi2 0)),
 zm2 3 7] [3] [])
 .ret)),
 [.tmp 3], false⟩
def lp313_0 : IC :=
 (.loop [0, 1, 2, 7, 8, 14, 15, 16] [] (.seq (.reg false [zg2 17 (.bin .lss (.t 16) (.t 15))] [0, 1, 2, 7, 8, 14, 15, 16, 17] [])
 (.seq (.cond (.t 17)
 .skip
 (.exit 0))
 (.seq (.block 1 (.seq (.reg false [zm2 18 16,
 zg2 19 (.ixs (.t 14) (.t 16) 7),
 zg2 20 (.ld (.t 19) 7 true),
 zg2 10 (.al [zo2, zo2, zo2, zo2, zo2, zo2, zo2] true),
 zm2 9 18,
 zn2 (.st (.t 10) (.t 20) 7)] [0, 1, 2, 7, 8, 9, 10, 14, 15, 16] [10])
 (.seq (.seq (.reg false [zm2 21 9,
 zm2 22 7,
 zg2 23 (.bin .eql (.t 21) (.t 22)),
 zm2 24 23,
 zf2 25 24 (.off (.t 10) 0),
 zf2 26 24 (.ld (.t 25) 1 false),
 zf2 27 24 (.mov (.t 1)),
 zf2 28 24 (.bin .eql (.t 26) (.t 27)),
 zf2 29 24 (.mov (.t 28)),
 zt2 30 29 (.mov (.t 8)),
 zt2 31 29 (.mov (.t 2)),
 zt2 32 29 (.bin .eql (.t 30) (.t 31)),
 zf2 33 24 (.pick (.t 29) (.t 32) zF2),
 zg2 34 (.pick (.t 24) zT2 (.t 33))] [0, 1, 2, 7, 8, 9, 10, 14, 15, 16, 34] [10])
 (.cond (.t 34)
 (.seq (.reg false [zm2 35 9,
 zm2 6 35] [6] [])
 .ret)
 .skip))
 (.seq (.reg false [zg2 36 (.off (.t 10) 0),
 zg2 37 (.ld (.t 36) 1 false),
 zm2 38 1,
 zg2 39 (.bin .eql (.t 37) (.t 38))] [0, 1, 2, 7, 8, 14, 15, 16, 39] [])
 (.cond (.t 39)
 (.reg false [zm2 40 8,
 zg2 41 (.bin .add (.t 40) (zi2 1)),
 zm2 8 41] [0, 1, 2, 7, 8, 14, 15, 16] [])
 .skip)))))
 (.reg false [zg2 42 (.bin .add (.t 16) (zi2 1)),
 zm2 16 42] [0, 1, 2, 7, 8, 14, 15, 16] [])))))
def ir313 : IFn :=   -- tympan/valid.refs
⟨(.seq (.reg false [zg2 6 (.mov (zi2 0))] [0, 1, 2] [])
 (.seq (.reg false [zm2 11 0,
 zm2 12 1,
 zg2 13 (.call 347 [(.t 11), (.t 12)] false),
 zm2 7 13] [0, 1, 2, 7] [])
 (.seq (.reg false [zg2 8 (.mov (zi2 0))] [0, 1, 2, 7, 8] [])
 (.seq (.seq (.reg false [zm2 14 0,
 zg2 15 (.len (.t 14)),
 zg2 16 (.mov (zi2 0))] [0, 1, 2, 7, 8, 14, 15, 16] [])
 (.block 0 lp313_0))
 (.seq (.seq (.reg false [zm2 43 8,
 zm2 44 2,
 zg2 45 (.bin .lss (.t 43) (.t 44))] [0, 45] [])
 (.cond (.t 45)
 (.seq (.reg false [zm2 46 0,
 zg2 47 (.len (.t 46)),
 zm2 6 47] [6] [])
 .ret)
 .skip))
 (.seq (.reg false [zg2 6 (.mov (zi2 (-1)))] [6] [])
 .ret)))))),
 [.tmp 6], false⟩
def ir314 : IFn :=   -- tympan/valid.tall$1
⟨(.seq (.reg false [zg2 2 (.bx (.t 0) 3 true),
 zg2 3 (.mov zF2)] [1, 2] [2])
 (.seq (.reg false [zg2 4 (.off (.t 2) 1),
 zg2 5 (.ld (.t 4) 1 false),
 zg2 6 (.off (.t 1) 0),
 zg2 7 (.off (.t 6) 4),
 zg2 8 (.ld (.t 7) 1 false),
 zg2 9 (.bin .gtr (.t 5) (.t 8)),
 zm2 3 9] [3] [])
 .ret)),
 [.tmp 3], false⟩
def ir315 : IFn :=   -- tympan/bad.rules$1
⟨(.seq (.reg false [zg2 4 (.mov zF2)] [0] [])
 (.seq (.reg false [zm2 5 0,
 zg2 6 (.bin .lss (.t 5) (zi2 1)),
 zm2 4 6] [4] [])
 .ret)),
 [.tmp 4], false⟩
def ir316 : IFn :=   -- tympan/bad.rules$2
⟨(.seq (.reg false [zg2 4 (.mov (zi2 0))] [] [])
 (.seq (.reg false [zg2 4 (.mov (zi2 0))] [4] [])
 .ret)),
 [.tmp 4], false⟩
def ir317 : IFn :=   -- tympan/bad.rules$3
⟨(.seq (.reg false [zg2 4 (.mov zF2)] [1] [])
 (.seq (.reg false [zm2 5 1,
 zg2 6 (.bin .lss (.t 5) (zi2 1)),
 zm2 4 6] [4] [])
 .ret)),
 [.tmp 4], false⟩
def ir318 : IFn :=   -- tympan/bad.rules$4
⟨(.seq (.reg false [zg2 4 (.mov (zi2 0))] [] [])
 (.seq (.reg false [zg2 4 (.mov (zi2 1291))] [4] [])
 .ret)),
 [.tmp 4], false⟩
def ir319 : IFn :=   -- tympan/bad.rules$5
⟨(.seq (.reg false [zg2 4 (.mov zF2)] [0] [])
 (.seq (.reg false [zm2 5 0,
 zg2 6 (.bin .leq (.t 5) (zi2 7230584)),
 zm2 4 6] [4] [])
 .ret)),
 [.tmp 4], false⟩
def ir320 : IFn :=   -- tympan/bad.rules$6
⟨(.seq (.reg false [zg2 4 (.mov (zi2 0))] [0, 1] [])
 (.seq (.reg false [zm2 5 0,
 zg2 6 (.bin .mul (.t 5) (zi2 297)),
 zm2 7 1,
 zg2 8 (.bin .quo (.t 6) (.t 7)),
 zm2 4 8] [4] [])
 .ret)),
 [.tmp 4], false⟩
def ir321 : IFn :=   -- tympan/bad.rules$7
⟨(.seq (.reg false [zg2 4 (.mov zF2)] [1] [])
 (.seq (.reg false [zm2 5 1,
 zg2 6 (.bin .geq (.t 5) (zi2 1663497)),
 zm2 4 6] [4] [])
 .ret)),
 [.tmp 4], false⟩
def ir322 : IFn :=   -- tympan/bad.rules$8
⟨(.seq (.reg false [zg2 4 (.mov (zi2 0))] [0, 1] [])
 (.seq (.reg false [zm2 5 0,
 zm2 6 1,
 zg2 7 (.bin .quo (.t 6) (zi2 297)),
 zg2 8 (.bin .quo (.t 5) (.t 7)),
 zm2 4 8] [4] [])
 .ret)),
 [.tmp 4], false⟩
def lp329_0 : IC :=
 (.loop [1, 2, 7, 8, 9] [] (.seq (.reg false [zg2 10 (.bin .lss (.t 9) (.t 8))] [1, 2, 7, 8, 9, 10] [])
 (.seq (.cond (.t 10)
 .skip
 (.exit 0))
 (.seq (.block 1 (.seq (.reg false [zg2 11 (.ixs (.t 7) (.t 9) 1),
 zg2 12 (.ld (.t 11) 1 false),
 zm2 6 12] [1, 2, 6, 7, 8, 9] [])
 (.seq (.reg false [zm2 13 6,
 zg2 14 (.ld (.t 1) 1 false),
 zg2 15 (.bin .lss (.t 13) (.t 14)),
 zm2 16 15,
 zf2 17 16 (.mov (.t 6)),
 zf2 18 16 (.ld (.t 2) 1 false),
 zf2 19 16 (.bin .gtr (.t 17) (.t 18)),
 zg2 20 (.pick (.t 16) zT2 (.t 19))] [1, 2, 7, 8, 9, 20] [])
 (.cond (.t 20)
 (.seq (.reg false [zg2 4 (.mov zF2)] [4] [])
 .ret)
 .skip))))
 (.reg false [zg2 21 (.bin .add (.t 9) (zi2 1)),
 zm2 9 21] [1, 2, 7, 8, 9] [])))))
def ir329 : IFn :=   -- tympan/geom.within[int]$1
⟨(.seq (.reg false [zg2 4 (.mov zF2)] [0, 1, 2] [])
 (.seq (.seq (.reg false [zm2 7 0,
 zg2 8 (.len (.t 7)),
 zg2 9 (.mov (zi2 0))] [1, 2, 7, 8, 9] [])
 (.block 0 lp329_0))
 (.seq (.reg false [zg2 4 (.mov zT2)] [4] [])
 .ret))),
 [.tmp 4], false⟩
def lp330_0 : IC :=
 (.loop [1, 2, 7, 8, 9] [] (.seq (.reg false [zg2 10 (.bin .lss (.t 9) (.t 8))] [1, 2, 7, 8, 9, 10] [])
 (.seq (.cond (.t 10)
 .skip
 (.exit 0))
 (.seq (.block 1 (.seq (.reg false [zg2 11 (.ixs (.t 7) (.t 9) 1),
 zg2 12 (.ld (.t 11) 1 false),
 zm2 6 12] [1, 2, 6, 7, 8, 9] [])
 (.seq (.reg false [zm2 13 6,
 zg2 14 (.ld (.t 1) 1 false),
 zg2 15 (.bin .lss (.t 13) (.t 14)),
 zm2 16 15,
 zf2 17 16 (.mov (.t 6)),
 zf2 18 16 (.ld (.t 2) 1 false),
 zf2 19 16 (.bin .gtr (.t 17) (.t 18)),
 zg2 20 (.pick (.t 16) zT2 (.t 19))] [1, 2, 7, 8, 9, 20] [])
 (.cond (.t 20)
 (.seq (.reg false [zg2 4 (.mov zF2)] [4] [])
 .ret)
 .skip))))
 (.reg false [zg2 21 (.bin .add (.t 9) (zi2 1)),
 zm2 9 21] [1, 2, 7, 8, 9] [])))))
def ir330 : IFn :=   -- tympan/geom.within[tympan/api.Sp]$1
⟨(.seq (.reg false [zg2 4 (.mov zF2)] [0, 1, 2] [])
 (.seq (.seq (.reg false [zm2 7 0,
 zg2 8 (.len (.t 7)),
 zg2 9 (.mov (zi2 0))] [1, 2, 7, 8, 9] [])
 (.block 0 lp330_0))
 (.seq (.reg false [zg2 4 (.mov zT2)] [4] [])
 .ret))),
 [.tmp 4], false⟩
def ir331 : IFn :=   -- tympan/item.forms$1
⟨(.seq (.reg false [zg2 1 (.bx (.t 0) 1 false),
 zg2 2 (.mov (.c (.p .nilf)))] [1] [])
 (.seq (.reg false [zg2 3 (.mkf (.func 332) [] [(.t 1)]),
 zm2 2 3] [2] [])
 .ret)),
 [.tmp 2], false⟩
def ir332 : IFn :=   -- tympan/item.forms$1$1
⟨(.seq (.reg false [zg2 2 (.bx (.t 0) 7 true),
 zg2 3 (.al [zo2, zo2, zo2, zo2, zo2, zo2, zo2] true)] [1, 2, 3] [2, 3])
 (.seq (.reg false [zg2 4 (.ld (.t 1) 1 false),
 zg2 5 (.off (.t 2) 6),
 zg2 6 (.ld (.t 5) 1 false),
 zg2 7 (.callv (.t 4) [(.t 6)] false),
 zn2 (.st (.t 3) (.t 7) 7)] [3] [3])
 .ret)),
 [.cell 3 7 true], false⟩
def ir333 : IFn :=   -- tympan/item.forms$2
⟨(.seq (.reg false [zg2 1 (.bx (.t 0) 7 true),
 zg2 2 (.al [zo2, zo2, zo2, zo2, zo2, zo2, zo2] true)] [1, 2] [1, 2])
 (.seq (.reg false [zg2 3 (.off (.t 1) 1),
 zg2 4 (.ld (.t 3) 1 false),
 zg2 5 (.off (.t 1) 2),
 zg2 6 (.ld (.t 5) 1 false),
 zg2 7 (.call 334 [(.t 4), (.t 6)] false),
 zn2 (.st (.t 2) (.t 7) 7)] [2] [2])
 .ret)),
 [.cell 2 7 true], false⟩
def ir334 : IFn :=   -- tympan/item.Box
⟨(.seq (.reg false [zg2 4 (.al [zo2, zo2, zo2, zo2, zo2, zo2, zo2] true)] [0, 1, 4] [4])
 (.seq (.reg false [zm2 5 0,
 zm2 6 1,
 zg2 7 (.bld [zo2, zo2, zo2, zo2, zo2, zo2, zo2] [(0, 1, (zi2 1)), (1, 1, (.t 5)), (2, 1, (.t 6))]),
 zn2 (.st (.t 4) (.t 7) 7)] [4] [4])
 .ret)),
 [.cell 4 7 true], false⟩
def ir335 : IFn :=   -- tympan/item.forms$3
⟨(.seq (.reg false [zg2 1 (.bx (.t 0) 7 true),
 zg2 2 (.al [zo2, zo2, zo2, zo2, zo2, zo2, zo2] true)] [1, 2] [1, 2])
 (.seq (.reg false [zg2 3 (.off (.t 1) 1),
 zg2 4 (.ld (.t 3) 1 false),
 zg2 5 (.off (.t 1) 3),
 zg2 6 (.ld (.t 5) 1 false),
 zg2 7 (.off (.t 1) 4),
 zg2 8 (.ld (.t 7) 1 false),
 zg2 9 (.off (.t 1) 5),
 zg2 10 (.ld (.t 9) 1 false),
 zg2 11 (.call 336 [(.t 4), (.t 6), (.t 8), (.t 10)] false),
 zn2 (.st (.t 2) (.t 11) 7)] [2] [2])
 .ret)),
 [.cell 2 7 true], false⟩
def ir336 : IFn :=   -- tympan/item.Glue
⟨(.seq (.reg false [zg2 8 (.al [zo2, zo2, zo2, zo2, zo2, zo2, zo2] true)] [0, 1, 2, 3, 8] [8])
 (.seq (.reg false [zm2 9 0,
 zm2 10 1,
 zm2 11 2,
 zm2 12 3,
 zg2 13 (.bld [zo2, zo2, zo2, zo2, zo2, zo2, zo2] [(0, 1, (zi2 2)), (1, 1, (.t 9)), (3, 1, (.t 10)), (4, 1, (.t 11)), (5, 1, (.t 12))]),
 zn2 (.st (.t 8) (.t 13) 7)] [8] [8])
 .ret)),
 [.cell 8 7 true], false⟩
def ir337 : IFn :=   -- tympan/item.Pen
⟨(.seq (.reg false [zg2 2 (.al [zo2, zo2, zo2, zo2, zo2, zo2, zo2] true)] [0, 2] [2])
 (.seq (.reg false [zm2 3 0,
 zg2 4 (.bld [zo2, zo2, zo2, zo2, zo2, zo2, zo2] [(0, 1, (zi2 3)), (6, 1, (.t 3))]),
 zn2 (.st (.t 2) (.t 4) 7)] [2] [2])
 .ret)),
 [.cell 2 7 true], false⟩
def ir338 : IFn :=   -- tympan/item.forms$4
⟨(.seq (.reg false [zg2 2 (.mov zF2)] [0] [])
 (.seq (.reg false [zm2 3 0,
 zg2 4 (.bin .eql (.t 3) (zi2 (-10000))),
 zm2 5 4,
 zf2 6 5 (.call 305 [(zi2 10000)] false),
 zf2 7 5 (.mov (.t 0)),
 zf2 8 5 (.callv (.t 6) [(.t 7)] false),
 zg2 9 (.pick (.t 5) zT2 (.t 8)),
 zm2 2 9] [2] [])
 .ret)),
 [.tmp 2], false⟩
def ir339 : IFn :=   -- tympan/item.Mark
⟨(.seq (.reg false [zg2 2 (.al [zo2, zo2, zo2, zo2, zo2, zo2, zo2] true)] [0, 2] [2])
 (.seq (.reg false [zm2 3 0,
 zg2 4 (.bld [zo2, zo2, zo2, zo2, zo2, zo2, zo2] [(0, 1, (zi2 4)), (6, 1, (.t 3))]),
 zn2 (.st (.t 2) (.t 4) 7)] [2] [2])
 .ret)),
 [.cell 2 7 true], false⟩
def ir340 : IFn :=   -- tympan/item.Note
⟨(.seq (.reg false [zg2 2 (.al [zo2, zo2, zo2, zo2, zo2, zo2, zo2] true)] [0, 2] [2])
 (.seq (.reg false [zm2 3 0,
 zg2 4 (.bld [zo2, zo2, zo2, zo2, zo2, zo2, zo2] [(0, 1, (zi2 5)), (6, 1, (.t 3))]),
 zn2 (.st (.t 2) (.t 4) 7)] [2] [2])
 .ret)),
 [.cell 2 7 true], false⟩
def ir341 : IFn :=   -- tympan/item.Float
⟨(.seq (.reg false [zg2 2 (.al [zo2, zo2, zo2, zo2, zo2, zo2, zo2] true)] [0, 2] [2])
 (.seq (.reg false [zm2 3 0,
 zg2 4 (.bld [zo2, zo2, zo2, zo2, zo2, zo2, zo2] [(0, 1, (zi2 6)), (6, 1, (.t 3))]),
 zn2 (.st (.t 2) (.t 4) 7)] [2] [2])
 .ret)),
 [.cell 2 7 true], false⟩
def ir342 : IFn :=   -- tympan/item.forms$5
⟨(.seq (.reg false [zg2 1 (.bx (.t 0) 7 true),
 zg2 2 (.al [zo2, zo2, zo2, zo2, zo2, zo2, zo2] true)] [2] [2])
 (.seq (.reg false [zg2 3 (.call 343 [] false),
 zn2 (.st (.t 2) (.t 3) 7)] [2] [2])
 .ret)),
 [.cell 2 7 true], false⟩
def ir343 : IFn :=   -- tympan/item.Barrier
⟨(.seq (.reg false [zg2 0 (.al [zo2, zo2, zo2, zo2, zo2, zo2, zo2] true)] [0] [0])
 (.seq (.reg false [zg2 1 (.bld [zo2, zo2, zo2, zo2, zo2, zo2, zo2] [(0, 1, (zi2 7))]),
 zn2 (.st (.t 0) (.t 1) 7)] [0] [0])
 .ret)),
 [.cell 0 7 true], false⟩
def ir344 : IFn :=   -- tympan/item.upTo$1
⟨(.seq (.reg false [zg2 3 (.mov zF2)] [0, 1] [])
 (.seq (.reg false [zm2 4 0,
 zg2 5 (.bin .geq (.t 4) (zi2 0)),
 zm2 6 5,
 zt2 7 6 (.mov (.t 0)),
 zt2 8 6 (.ld (.t 1) 1 false),
 zt2 9 6 (.bin .leq (.t 7) (.t 8)),
 zg2 10 (.pick (.t 6) (.t 9) zF2),
 zm2 3 10] [3] [])
 .ret)),
 [.tmp 3], false⟩
def ir345 : IFn :=   -- slices.ContainsFunc[[]tympan/api.Sp,tympan/api.Sp]
⟨(.seq (.reg false [zg2 4 (.mov zF2)] [0, 1] [])
 (.seq (.reg false [zm2 5 0,
 zm2 6 1,
 zg2 7 (.call 354 [(.t 5), (.t 6)] false),
 zg2 8 (.bin .geq (.t 7) (zi2 0)),
 zm2 4 8] [4] [])
 .ret)),
 [.tmp 4], false⟩
def ir346 : IFn :=   -- tympan/item.long$1
⟨(.seq (.reg false [zg2 2 (.mov zF2)] [0] [])
 (.seq (.reg false [zm2 3 0,
 zg2 4 (.bin .lss (.t 3) (zi2 0)),
 zm2 5 4,
 zf2 6 5 (.mov (.t 0)),
 zf2 7 5 (.bin .gtr (.t 6) (zi2 1073741823)),
 zg2 8 (.pick (.t 5) zT2 (.t 7)),
 zm2 2 8] [2] [])
 .ret)),
 [.tmp 2], false⟩
def ir347 : IFn :=   -- tympan/valid.Anchors
⟨(.seq (.reg false [zg2 3 (.bx (.t 1) 1 false),
 zg2 4 (.mov (zi2 0))] [0, 3] [])
 (.seq (.reg false [zg2 5 (.al [zo2] false),
 zn2 (.st (.t 5) (zi2 0) 1)] [0, 3, 5] [])
 (.seq (.reg false [zm2 6 0,
 zg2 7 (.mkf (.func 355) [] [(.t 3), (.t 5)]),
 zg2 8 (.call 302 [(.t 6), (.t 7)] false),
 zm2 4 8] [4] [])
 .ret))),
 [.tmp 4], false⟩
def lp354_0 : IC :=
 (.loop [0, 1, 7, 8] [] (.seq (.reg false [zg2 9 (.bin .lss (.t 8) (.t 7))] [0, 1, 7, 8, 9] [])
 (.seq (.cond (.t 9)
 .skip
 (.exit 0))
 (.seq (.block 1 (.seq (.reg false [zm2 10 8,
 zm2 5 10] [0, 1, 5, 7, 8] [])
 (.seq (.reg false [zm2 11 1,
 zm2 12 0,
 zm2 13 5,
 zg2 14 (.ixs (.t 12) (.t 13) 1),
 zg2 15 (.ld (.t 14) 1 false),
 zg2 16 (.callv (.t 11) [(.t 15)] false)] [0, 1, 5, 7, 8, 16] [])
 (.cond (.t 16)
 (.seq (.reg false [zm2 17 5,
 zm2 4 17] [4] [])
 .ret)
 .skip))))
 (.reg false [zg2 18 (.bin .add (.t 8) (zi2 1)),
 zm2 8 18] [0, 1, 7, 8] [])))))
def ir354 : IFn :=   -- slices.IndexFunc[[]tympan/api.Sp,tympan/api.Sp]
⟨(.seq (.reg false [zg2 4 (.mov (zi2 0))] [0, 1] [])
 (.seq (.seq (.reg false [zm2 6 0,
 zg2 7 (.len (.t 6)),
 zg2 8 (.mov (zi2 0))] [0, 1, 7, 8] [])
 (.block 0 lp354_0))
 (.seq (.reg false [zg2 4 (.mov (zi2 (-1)))] [4] [])
 .ret))),
 [.tmp 4], false⟩
def ir355 : IFn :=   -- tympan/valid.Anchors$1
⟨(.seq (.reg false [zg2 3 (.bx (.t 0) 7 true),
 zg2 4 (.mov zF2)] [1, 2, 3] [3])
 (.seq (.seq (.reg false [zg2 5 (.off (.t 3) 0),
 zg2 6 (.ld (.t 5) 1 false),
 zg2 7 (.ld (.t 1) 1 false),
 zg2 8 (.bin .neq (.t 6) (.t 7))] [2, 3, 8] [3])
 (.cond (.t 8)
 (.seq (.reg false [zg2 4 (.mov zF2)] [4] [])
 .ret)
 .skip))
 (.seq (.reg false [zg2 9 (.ld (.t 2) 1 false),
 zg2 10 (.bin .add (.t 9) (zi2 1)),
 zn2 (.st (.t 2) (.t 10) 1)] [2, 3] [3])
 (.seq (.reg false [zg2 11 (.off (.t 3) 6),
 zg2 12 (.ld (.t 11) 1 false),
 zg2 13 (.ld (.t 2) 1 false),
 zg2 14 (.bin .sub (.t 13) (zi2 1)),
 zg2 15 (.bin .neq (.t 12) (.t 14)),
 zm2 4 15] [4] [])
 .ret)))),
 [.tmp 4], false⟩
end Go.EnvOf
