/- The engine's instructions for the functions, part 2. -/
import Derived.Test.YtddnebpblclpfaaGreatEngAll2
namespace Go.EnvOf
open Go Go.Eng
set_option maxRecDepth 100000
def ir303 : IFn :=   -- tympan/valid.first[tympan/api.Item]$1$1
⟨(.seq (.reg false [⟨some 2, none, .bx (.t 0) 7 true⟩,
 ⟨some 3, none, .mov (.c (.p (.bool false)))⟩] [1, 2] [2])
 (.seq (.reg false [⟨some 4, none, .ld (.t 1) 1 false⟩,
 ⟨some 5, none, .ld (.t 2) 7 true⟩,
 ⟨some 6, none, .callv (.t 4) [(.t 5)] false⟩,
 ⟨some 7, none, .bin .neq (.t 6) (.c (.p (.int .i64 0)))⟩,
 ⟨some 3, none, .mov (.t 7)⟩] [3] [])
 .ret)),
 [.tmp 3], false⟩
def ir304 : IFn :=   -- tympan/item.forms
⟨(.seq (.reg false [⟨some 0, none, .mov (.c (.nils))⟩] [] [])
 (.seq (.reg false [⟨some 1, none, .mov (.c (.p (.fn 331)))⟩] [1] [])
 (.seq (.reg false [⟨some 2, none, .call 305 [(.c (.p (.int .i64 0)))] false⟩,
 ⟨some 3, none, .bld [.p .nilf, .p .nilf] [(0, 1, (.c (.p (.fn 333)))), (1, 1, (.t 2))]⟩,
 ⟨some 4, none, .call 305 [(.c (.p (.int .i64 0)))] false⟩,
 ⟨some 5, none, .bld [.p .nilf, .p .nilf] [(0, 1, (.c (.p (.fn 335)))), (1, 1, (.t 4))]⟩,
 ⟨some 6, none, .mov (.t 1)⟩,
 ⟨some 7, none, .callv (.t 6) [(.c (.p (.fn 337)))] false⟩,
 ⟨some 8, none, .bld [.p .nilf, .p .nilf] [(0, 1, (.t 7)), (1, 1, (.c (.p (.fn 338))))]⟩,
 ⟨some 9, none, .mov (.t 1)⟩,
 ⟨some 10, none, .callv (.t 9) [(.c (.p (.fn 339)))] false⟩,
 ⟨some 11, none, .call 305 [(.c (.p (.int .i64 1048576)))] false⟩,
 ⟨some 12, none, .bld [.p .nilf, .p .nilf] [(0, 1, (.t 10)), (1, 1, (.t 11))]⟩,
 ⟨some 13, none, .mov (.t 1)⟩,
 ⟨some 14, none, .callv (.t 13) [(.c (.p (.fn 340)))] false⟩,
 ⟨some 15, none, .call 305 [(.c (.p (.int .i64 511)))] false⟩,
 ⟨some 16, none, .bld [.p .nilf, .p .nilf] [(0, 1, (.t 14)), (1, 1, (.t 15))]⟩,
 ⟨some 17, none, .mov (.t 1)⟩,
 ⟨some 18, none, .callv (.t 17) [(.c (.p (.fn 341)))] false⟩,
 ⟨some 19, none, .call 305 [(.c (.p (.int .i64 255)))] false⟩,
 ⟨some 20, none, .bld [.p .nilf, .p .nilf] [(0, 1, (.t 18)), (1, 1, (.t 19))]⟩,
 ⟨some 21, none, .call 305 [(.c (.p (.int .i64 0)))] false⟩,
 ⟨some 22, none, .bld [.p .nilf, .p .nilf] [(0, 1, (.c (.p (.fn 342)))), (1, 1, (.t 21))]⟩,
 ⟨some 23, none, .bsl 2 7 [.p .nilf, .p .nilf] [(0, (.t 3)), (1, (.t 5)), (2, (.t 8)), (3, (.t 12)), (4, (.t 16)), (5, (.t 20)), (6, (.t 22))]⟩,
 ⟨some 0, none, .mov (.t 23)⟩] [0] [])
 .ret))),
 [.tmp 0], false⟩
def ir305 : IFn :=   -- tympan/item.upTo
⟨(.seq (.reg false [⟨some 1, none, .bx (.t 0) 1 false⟩,
 ⟨some 2, none, .mov (.c (.p .nilf))⟩] [1] [])
 (.seq (.reg false [⟨some 3, none, .mkf (.func 344) [] [(.t 1)]⟩,
 ⟨some 2, none, .mov (.t 3)⟩] [2] [])
 .ret)),
 [.tmp 2], false⟩
def ir306 : IFn :=   -- tympan/item.long
⟨(.seq (.reg false [⟨some 2, none, .mov (.c (.p (.bool false)))⟩] [0] [])
 (.seq (.reg false [⟨some 3, none, .mov (.t 0)⟩,
 ⟨some 4, none, .call 345 [(.t 3), (.c (.p (.fn 346)))] false⟩,
 ⟨some 5, none, .un .not (.t 4)⟩,
 ⟨some 2, none, .mov (.t 5)⟩] [2] [])
 .ret)),
 [.tmp 2], false⟩
def ir307 : IFn :=   -- tympan/valid.first[tympan/api.Note]$1
⟨(.seq (.reg false [⟨some 3, none, .mov (.c (.p (.int .i64 0)))⟩] [0, 1] [])
 (.seq (.reg false [⟨some 4, none, .mov (.t 0)⟩,
 ⟨some 5, none, .mkf (.func 309) [] [(.t 1)]⟩,
 ⟨some 6, none, .call 308 [(.t 4), (.t 5)] false⟩,
 ⟨some 3, none, .mov (.t 6)⟩] [3] [])
 .ret)),
 [.tmp 3], false⟩
def lp308_0 : IC :=
 (.loop [0, 1, 7, 8] [] (.seq (.reg false [⟨some 9, none, .bin .lss (.t 8) (.t 7)⟩] [0, 1, 7, 8, 9] [])
 (.seq (.cond (.t 9)
 .skip
 (.exit 0))
 (.seq (.block 1 (.seq (.reg false [⟨some 10, none, .mov (.t 8)⟩,
 ⟨some 5, none, .mov (.t 10)⟩] [0, 1, 5, 7, 8] [])
 (.seq (.reg false [⟨some 11, none, .mov (.t 1)⟩,
 ⟨some 12, none, .mov (.t 0)⟩,
 ⟨some 13, none, .mov (.t 5)⟩,
 ⟨some 14, none, .ixs (.t 12) (.t 13) 2⟩,
 ⟨some 15, none, .ld (.t 14) 2 true⟩,
 ⟨some 16, none, .callv (.t 11) [(.t 15)] false⟩] [0, 1, 5, 7, 8, 16] [])
 (.cond (.t 16)
 (.seq (.reg false [⟨some 17, none, .mov (.t 5)⟩,
 ⟨some 4, none, .mov (.t 17)⟩] [4] [])
 .ret)
 .skip))))
 (.reg false [⟨some 18, none, .bin .add (.t 8) (.c (.p (.int .i64 1)))⟩,
 ⟨some 8, none, .mov (.t 18)⟩] [0, 1, 7, 8] [])))))
def ir308 : IFn :=   -- slices.IndexFunc[[]tympan/api.Note,tympan/api.Note]
⟨(.seq (.reg false [⟨some 4, none, .mov (.c (.p (.int .i64 0)))⟩] [0, 1] [])
 (.seq (.seq (.reg false [⟨some 6, none, .mov (.t 0)⟩,
 ⟨some 7, none, .len (.t 6)⟩,
 ⟨some 8, none, .mov (.c (.p (.int .i64 0)))⟩] [0, 1, 7, 8] [])
 (.block 0 lp308_0))
 (.seq (.reg false [⟨some 4, none, .mov (.c (.p (.int .i64 (-1))))⟩] [4] [])
 .ret))),
 [.tmp 4], false⟩
def ir309 : IFn :=   -- tympan/valid.first[tympan/api.Note]$1$1
⟨(.seq (.reg false [⟨some 2, none, .bx (.t 0) 2 true⟩,
 ⟨some 3, none, .mov (.c (.p (.bool false)))⟩] [1, 2] [2])
 (.seq (.reg false [⟨some 4, none, .ld (.t 1) 1 false⟩,
 ⟨some 5, none, .ld (.t 2) 2 true⟩,
 ⟨some 6, none, .callv (.t 4) [(.t 5)] false⟩,
 ⟨some 7, none, .bin .neq (.t 6) (.c (.p (.int .i64 0)))⟩,
 ⟨some 3, none, .mov (.t 7)⟩] [3] [])
 .ret)),
 [.tmp 3], false⟩
def ir310 : IFn :=   -- tympan/valid.first[tympan/api.Float]$1
⟨(.seq (.reg false [⟨some 3, none, .mov (.c (.p (.int .i64 0)))⟩] [0, 1] [])
 (.seq (.reg false [⟨some 4, none, .mov (.t 0)⟩,
 ⟨some 5, none, .mkf (.func 312) [] [(.t 1)]⟩,
 ⟨some 6, none, .call 311 [(.t 4), (.t 5)] false⟩,
 ⟨some 3, none, .mov (.t 6)⟩] [3] [])
 .ret)),
 [.tmp 3], false⟩
def lp311_0 : IC :=
 (.loop [0, 1, 7, 8] [] (.seq (.reg false [⟨some 9, none, .bin .lss (.t 8) (.t 7)⟩] [0, 1, 7, 8, 9] [])
 (.seq (.cond (.t 9)
 .skip
 (.exit 0))
 (.seq (.block 1 (.seq (.reg false [⟨some 10, none, .mov (.t 8)⟩,
 ⟨some 5, none, .mov (.t 10)⟩] [0, 1, 5, 7, 8] [])
 (.seq (.reg false [⟨some 11, none, .mov (.t 1)⟩,
 ⟨some 12, none, .mov (.t 0)⟩,
 ⟨some 13, none, .mov (.t 5)⟩,
 ⟨some 14, none, .ixs (.t 12) (.t 13) 3⟩,
 ⟨some 15, none, .ld (.t 14) 3 true⟩,
 ⟨some 16, none, .callv (.t 11) [(.t 15)] false⟩] [0, 1, 5, 7, 8, 16] [])
 (.cond (.t 16)
 (.seq (.reg false [⟨some 17, none, .mov (.t 5)⟩,
 ⟨some 4, none, .mov (.t 17)⟩] [4] [])
 .ret)
 .skip))))
 (.reg false [⟨some 18, none, .bin .add (.t 8) (.c (.p (.int .i64 1)))⟩,
 ⟨some 8, none, .mov (.t 18)⟩] [0, 1, 7, 8] [])))))
def ir311 : IFn :=   -- slices.IndexFunc[[]tympan/api.Float,tympan/api.Float]
⟨(.seq (.reg false [⟨some 4, none, .mov (.c (.p (.int .i64 0)))⟩] [0, 1] [])
 (.seq (.seq (.reg false [⟨some 6, none, .mov (.t 0)⟩,
 ⟨some 7, none, .len (.t 6)⟩,
 ⟨some 8, none, .mov (.c (.p (.int .i64 0)))⟩] [0, 1, 7, 8] [])
 (.block 0 lp311_0))
 (.seq (.reg false [⟨some 4, none, .mov (.c (.p (.int .i64 (-1))))⟩] [4] [])
 .ret))),
 [.tmp 4], false⟩
def ir312 : IFn :=   -- tympan/valid.first[tympan/api.Float]$1$1
⟨(.seq (.reg false [⟨some 2, none, .bx (.t 0) 3 true⟩,
 ⟨some 3, none, .mov (.c (.p (.bool false)))⟩] [1, 2] [2])
 (.seq (.reg false [⟨some 4, none, .ld (.t 1) 1 false⟩,
 ⟨some 5, none, .ld (.t 2) 3 true⟩,
 ⟨some 6, none, .callv (.t 4) [(.t 5)] false⟩,
 ⟨some 7, none, .bin .neq (.t 6) (.c (.p (.int .i64 0)))⟩,
 ⟨some 3, none, .mov (.t 7)⟩] [3] [])
 .ret)),
 [.tmp 3], false⟩
def lp313_0 : IC :=
 (.loop [0, 1, 2, 7, 8, 14, 15, 16] [] (.seq (.reg false [⟨some 17, none, .bin .lss (.t 16) (.t 15)⟩] [0, 1, 2, 7, 8, 14, 15, 16, 17] [])
 (.seq (.cond (.t 17)
 .skip
 (.exit 0))
 (.seq (.block 1 (.seq (.reg false [⟨some 18, none, .mov (.t 16)⟩,
 ⟨some 19, none, .ixs (.t 14) (.t 16) 7⟩,
 ⟨some 20, none, .ld (.t 19) 7 true⟩,
 ⟨some 10, none, .al [.p (.int .i64 0), .p (.int .i64 0), .p (.int .i64 0), .p (.int .i64 0), .p (.int .i64 0), .p (.int .i64 0), .p (.int .i64 0)] true⟩,
 ⟨some 9, none, .mov (.t 18)⟩,
 ⟨none, none, .st (.t 10) (.t 20) 7⟩] [0, 1, 2, 7, 8, 9, 10, 14, 15, 16] [10])
 (.seq (.seq (.reg false [⟨some 21, none, .mov (.t 9)⟩,
 ⟨some 22, none, .mov (.t 7)⟩,
 ⟨some 23, none, .bin .eql (.t 21) (.t 22)⟩,
 ⟨some 24, none, .mov (.t 23)⟩,
 ⟨some 25, (some (24, false)), .off (.t 10) 0⟩,
 ⟨some 26, (some (24, false)), .ld (.t 25) 1 false⟩,
 ⟨some 27, (some (24, false)), .mov (.t 1)⟩,
 ⟨some 28, (some (24, false)), .bin .eql (.t 26) (.t 27)⟩,
 ⟨some 29, (some (24, false)), .mov (.t 28)⟩,
 ⟨some 30, (some (29, true)), .mov (.t 8)⟩,
 ⟨some 31, (some (29, true)), .mov (.t 2)⟩,
 ⟨some 32, (some (29, true)), .bin .eql (.t 30) (.t 31)⟩,
 ⟨some 33, (some (24, false)), .pick (.t 29) (.t 32) (.c (.p (.bool false)))⟩,
 ⟨some 34, none, .pick (.t 24) (.c (.p (.bool true))) (.t 33)⟩] [0, 1, 2, 7, 8, 9, 10, 14, 15, 16, 34] [10])
 (.cond (.t 34)
 (.seq (.reg false [⟨some 35, none, .mov (.t 9)⟩,
 ⟨some 6, none, .mov (.t 35)⟩] [6] [])
 .ret)
 .skip))
 (.seq (.reg false [⟨some 36, none, .off (.t 10) 0⟩,
 ⟨some 37, none, .ld (.t 36) 1 false⟩,
 ⟨some 38, none, .mov (.t 1)⟩,
 ⟨some 39, none, .bin .eql (.t 37) (.t 38)⟩] [0, 1, 2, 7, 8, 14, 15, 16, 39] [])
 (.cond (.t 39)
 (.reg false [⟨some 40, none, .mov (.t 8)⟩,
 ⟨some 41, none, .bin .add (.t 40) (.c (.p (.int .i64 1)))⟩,
 ⟨some 8, none, .mov (.t 41)⟩] [0, 1, 2, 7, 8, 14, 15, 16] [])
 .skip)))))
 (.reg false [⟨some 42, none, .bin .add (.t 16) (.c (.p (.int .i64 1)))⟩,
 ⟨some 16, none, .mov (.t 42)⟩] [0, 1, 2, 7, 8, 14, 15, 16] [])))))
def ir313 : IFn :=   -- tympan/valid.refs
⟨(.seq (.reg false [⟨some 6, none, .mov (.c (.p (.int .i64 0)))⟩] [0, 1, 2] [])
 (.seq (.reg false [⟨some 11, none, .mov (.t 0)⟩,
 ⟨some 12, none, .mov (.t 1)⟩,
 ⟨some 13, none, .call 347 [(.t 11), (.t 12)] false⟩,
 ⟨some 7, none, .mov (.t 13)⟩] [0, 1, 2, 7] [])
 (.seq (.reg false [⟨some 8, none, .mov (.c (.p (.int .i64 0)))⟩] [0, 1, 2, 7, 8] [])
 (.seq (.seq (.reg false [⟨some 14, none, .mov (.t 0)⟩,
 ⟨some 15, none, .len (.t 14)⟩,
 ⟨some 16, none, .mov (.c (.p (.int .i64 0)))⟩] [0, 1, 2, 7, 8, 14, 15, 16] [])
 (.block 0 lp313_0))
 (.seq (.seq (.reg false [⟨some 43, none, .mov (.t 8)⟩,
 ⟨some 44, none, .mov (.t 2)⟩,
 ⟨some 45, none, .bin .lss (.t 43) (.t 44)⟩] [0, 45] [])
 (.cond (.t 45)
 (.seq (.reg false [⟨some 46, none, .mov (.t 0)⟩,
 ⟨some 47, none, .len (.t 46)⟩,
 ⟨some 6, none, .mov (.t 47)⟩] [6] [])
 .ret)
 .skip))
 (.seq (.reg false [⟨some 6, none, .mov (.c (.p (.int .i64 (-1))))⟩] [6] [])
 .ret)))))),
 [.tmp 6], false⟩
def ir314 : IFn :=   -- tympan/valid.tall$1
⟨(.seq (.reg false [⟨some 2, none, .bx (.t 0) 3 true⟩,
 ⟨some 3, none, .mov (.c (.p (.bool false)))⟩] [1, 2] [2])
 (.seq (.reg false [⟨some 4, none, .off (.t 2) 1⟩,
 ⟨some 5, none, .ld (.t 4) 1 false⟩,
 ⟨some 6, none, .off (.t 1) 0⟩,
 ⟨some 7, none, .off (.t 6) 4⟩,
 ⟨some 8, none, .ld (.t 7) 1 false⟩,
 ⟨some 9, none, .bin .gtr (.t 5) (.t 8)⟩,
 ⟨some 3, none, .mov (.t 9)⟩] [3] [])
 .ret)),
 [.tmp 3], false⟩
def lp329_0 : IC :=
 (.loop [1, 2, 7, 8, 9] [] (.seq (.reg false [⟨some 10, none, .bin .lss (.t 9) (.t 8)⟩] [1, 2, 7, 8, 9, 10] [])
 (.seq (.cond (.t 10)
 .skip
 (.exit 0))
 (.seq (.block 1 (.seq (.reg false [⟨some 11, none, .ixs (.t 7) (.t 9) 1⟩,
 ⟨some 12, none, .ld (.t 11) 1 false⟩,
 ⟨some 6, none, .mov (.t 12)⟩] [1, 2, 6, 7, 8, 9] [])
 (.seq (.reg false [⟨some 13, none, .mov (.t 6)⟩,
 ⟨some 14, none, .ld (.t 1) 1 false⟩,
 ⟨some 15, none, .bin .lss (.t 13) (.t 14)⟩,
 ⟨some 16, none, .mov (.t 15)⟩,
 ⟨some 17, (some (16, false)), .mov (.t 6)⟩,
 ⟨some 18, (some (16, false)), .ld (.t 2) 1 false⟩,
 ⟨some 19, (some (16, false)), .bin .gtr (.t 17) (.t 18)⟩,
 ⟨some 20, none, .pick (.t 16) (.c (.p (.bool true))) (.t 19)⟩] [1, 2, 7, 8, 9, 20] [])
 (.cond (.t 20)
 (.seq (.reg false [⟨some 4, none, .mov (.c (.p (.bool false)))⟩] [4] [])
 .ret)
 .skip))))
 (.reg false [⟨some 21, none, .bin .add (.t 9) (.c (.p (.int .i64 1)))⟩,
 ⟨some 9, none, .mov (.t 21)⟩] [1, 2, 7, 8, 9] [])))))
def ir329 : IFn :=   -- tympan/geom.within[int]$1
⟨(.seq (.reg false [⟨some 4, none, .mov (.c (.p (.bool false)))⟩] [0, 1, 2] [])
 (.seq (.seq (.reg false [⟨some 7, none, .mov (.t 0)⟩,
 ⟨some 8, none, .len (.t 7)⟩,
 ⟨some 9, none, .mov (.c (.p (.int .i64 0)))⟩] [1, 2, 7, 8, 9] [])
 (.block 0 lp329_0))
 (.seq (.reg false [⟨some 4, none, .mov (.c (.p (.bool true)))⟩] [4] [])
 .ret))),
 [.tmp 4], false⟩
def lp330_0 : IC :=
 (.loop [1, 2, 7, 8, 9] [] (.seq (.reg false [⟨some 10, none, .bin .lss (.t 9) (.t 8)⟩] [1, 2, 7, 8, 9, 10] [])
 (.seq (.cond (.t 10)
 .skip
 (.exit 0))
 (.seq (.block 1 (.seq (.reg false [⟨some 11, none, .ixs (.t 7) (.t 9) 1⟩,
 ⟨some 12, none, .ld (.t 11) 1 false⟩,
 ⟨some 6, none, .mov (.t 12)⟩] [1, 2, 6, 7, 8, 9] [])
 (.seq (.reg false [⟨some 13, none, .mov (.t 6)⟩,
 ⟨some 14, none, .ld (.t 1) 1 false⟩,
 ⟨some 15, none, .bin .lss (.t 13) (.t 14)⟩,
 ⟨some 16, none, .mov (.t 15)⟩,
 ⟨some 17, (some (16, false)), .mov (.t 6)⟩,
 ⟨some 18, (some (16, false)), .ld (.t 2) 1 false⟩,
 ⟨some 19, (some (16, false)), .bin .gtr (.t 17) (.t 18)⟩,
 ⟨some 20, none, .pick (.t 16) (.c (.p (.bool true))) (.t 19)⟩] [1, 2, 7, 8, 9, 20] [])
 (.cond (.t 20)
 (.seq (.reg false [⟨some 4, none, .mov (.c (.p (.bool false)))⟩] [4] [])
 .ret)
 .skip))))
 (.reg false [⟨some 21, none, .bin .add (.t 9) (.c (.p (.int .i64 1)))⟩,
 ⟨some 9, none, .mov (.t 21)⟩] [1, 2, 7, 8, 9] [])))))
def ir330 : IFn :=   -- tympan/geom.within[tympan/api.Sp]$1
⟨(.seq (.reg false [⟨some 4, none, .mov (.c (.p (.bool false)))⟩] [0, 1, 2] [])
 (.seq (.seq (.reg false [⟨some 7, none, .mov (.t 0)⟩,
 ⟨some 8, none, .len (.t 7)⟩,
 ⟨some 9, none, .mov (.c (.p (.int .i64 0)))⟩] [1, 2, 7, 8, 9] [])
 (.block 0 lp330_0))
 (.seq (.reg false [⟨some 4, none, .mov (.c (.p (.bool true)))⟩] [4] [])
 .ret))),
 [.tmp 4], false⟩
def ir331 : IFn :=   -- tympan/item.forms$1
⟨(.seq (.reg false [⟨some 1, none, .bx (.t 0) 1 false⟩,
 ⟨some 2, none, .mov (.c (.p .nilf))⟩] [1] [])
 (.seq (.reg false [⟨some 3, none, .mkf (.func 332) [] [(.t 1)]⟩,
 ⟨some 2, none, .mov (.t 3)⟩] [2] [])
 .ret)),
 [.tmp 2], false⟩
def ir332 : IFn :=   -- tympan/item.forms$1$1
⟨(.seq (.reg false [⟨some 2, none, .bx (.t 0) 7 true⟩,
 ⟨some 3, none, .al [.p (.int .i64 0), .p (.int .i64 0), .p (.int .i64 0), .p (.int .i64 0), .p (.int .i64 0), .p (.int .i64 0), .p (.int .i64 0)] true⟩] [1, 2, 3] [2, 3])
 (.seq (.reg false [⟨some 4, none, .ld (.t 1) 1 false⟩,
 ⟨some 5, none, .off (.t 2) 6⟩,
 ⟨some 6, none, .ld (.t 5) 1 false⟩,
 ⟨some 7, none, .callv (.t 4) [(.t 6)] false⟩,
 ⟨none, none, .st (.t 3) (.t 7) 7⟩] [3] [3])
 .ret)),
 [.cell 3 7 true], false⟩
def ir333 : IFn :=   -- tympan/item.forms$2
⟨(.seq (.reg false [⟨some 1, none, .bx (.t 0) 7 true⟩,
 ⟨some 2, none, .al [.p (.int .i64 0), .p (.int .i64 0), .p (.int .i64 0), .p (.int .i64 0), .p (.int .i64 0), .p (.int .i64 0), .p (.int .i64 0)] true⟩] [1, 2] [1, 2])
 (.seq (.reg false [⟨some 3, none, .off (.t 1) 1⟩,
 ⟨some 4, none, .ld (.t 3) 1 false⟩,
 ⟨some 5, none, .off (.t 1) 2⟩,
 ⟨some 6, none, .ld (.t 5) 1 false⟩,
 ⟨some 7, none, .call 334 [(.t 4), (.t 6)] false⟩,
 ⟨none, none, .st (.t 2) (.t 7) 7⟩] [2] [2])
 .ret)),
 [.cell 2 7 true], false⟩
def ir334 : IFn :=   -- tympan/item.Box
⟨(.seq (.reg false [⟨some 4, none, .al [.p (.int .i64 0), .p (.int .i64 0), .p (.int .i64 0), .p (.int .i64 0), .p (.int .i64 0), .p (.int .i64 0), .p (.int .i64 0)] true⟩] [0, 1, 4] [4])
 (.seq (.reg false [⟨some 5, none, .mov (.t 0)⟩,
 ⟨some 6, none, .mov (.t 1)⟩,
 ⟨some 7, none, .bld [.p (.int .i64 0), .p (.int .i64 0), .p (.int .i64 0), .p (.int .i64 0), .p (.int .i64 0), .p (.int .i64 0), .p (.int .i64 0)] [(0, 1, (.c (.p (.int .i64 1)))), (1, 1, (.t 5)), (2, 1, (.t 6))]⟩,
 ⟨none, none, .st (.t 4) (.t 7) 7⟩] [4] [4])
 .ret)),
 [.cell 4 7 true], false⟩
def ir335 : IFn :=   -- tympan/item.forms$3
⟨(.seq (.reg false [⟨some 1, none, .bx (.t 0) 7 true⟩,
 ⟨some 2, none, .al [.p (.int .i64 0), .p (.int .i64 0), .p (.int .i64 0), .p (.int .i64 0), .p (.int .i64 0), .p (.int .i64 0), .p (.int .i64 0)] true⟩] [1, 2] [1, 2])
 (.seq (.reg false [⟨some 3, none, .off (.t 1) 1⟩,
 ⟨some 4, none, .ld (.t 3) 1 false⟩,
 ⟨some 5, none, .off (.t 1) 3⟩,
 ⟨some 6, none, .ld (.t 5) 1 false⟩,
 ⟨some 7, none, .off (.t 1) 4⟩,
 ⟨some 8, none, .ld (.t 7) 1 false⟩,
 ⟨some 9, none, .off (.t 1) 5⟩,
 ⟨some 10, none, .ld (.t 9) 1 false⟩,
 ⟨some 11, none, .call 336 [(.t 4), (.t 6), (.t 8), (.t 10)] false⟩,
 ⟨none, none, .st (.t 2) (.t 11) 7⟩] [2] [2])
 .ret)),
 [.cell 2 7 true], false⟩
def ir336 : IFn :=   -- tympan/item.Glue
⟨(.seq (.reg false [⟨some 8, none, .al [.p (.int .i64 0), .p (.int .i64 0), .p (.int .i64 0), .p (.int .i64 0), .p (.int .i64 0), .p (.int .i64 0), .p (.int .i64 0)] true⟩] [0, 1, 2, 3, 8] [8])
 (.seq (.reg false [⟨some 9, none, .mov (.t 0)⟩,
 ⟨some 10, none, .mov (.t 1)⟩,
 ⟨some 11, none, .mov (.t 2)⟩,
 ⟨some 12, none, .mov (.t 3)⟩,
 ⟨some 13, none, .bld [.p (.int .i64 0), .p (.int .i64 0), .p (.int .i64 0), .p (.int .i64 0), .p (.int .i64 0), .p (.int .i64 0), .p (.int .i64 0)] [(0, 1, (.c (.p (.int .i64 2)))), (1, 1, (.t 9)), (3, 1, (.t 10)), (4, 1, (.t 11)), (5, 1, (.t 12))]⟩,
 ⟨none, none, .st (.t 8) (.t 13) 7⟩] [8] [8])
 .ret)),
 [.cell 8 7 true], false⟩
def ir337 : IFn :=   -- tympan/item.Pen
⟨(.seq (.reg false [⟨some 2, none, .al [.p (.int .i64 0), .p (.int .i64 0), .p (.int .i64 0), .p (.int .i64 0), .p (.int .i64 0), .p (.int .i64 0), .p (.int .i64 0)] true⟩] [0, 2] [2])
 (.seq (.reg false [⟨some 3, none, .mov (.t 0)⟩,
 ⟨some 4, none, .bld [.p (.int .i64 0), .p (.int .i64 0), .p (.int .i64 0), .p (.int .i64 0), .p (.int .i64 0), .p (.int .i64 0), .p (.int .i64 0)] [(0, 1, (.c (.p (.int .i64 3)))), (6, 1, (.t 3))]⟩,
 ⟨none, none, .st (.t 2) (.t 4) 7⟩] [2] [2])
 .ret)),
 [.cell 2 7 true], false⟩
def ir338 : IFn :=   -- tympan/item.forms$4
⟨(.seq (.reg false [⟨some 2, none, .mov (.c (.p (.bool false)))⟩] [0] [])
 (.seq (.reg false [⟨some 3, none, .mov (.t 0)⟩,
 ⟨some 4, none, .bin .eql (.t 3) (.c (.p (.int .i64 (-10000))))⟩,
 ⟨some 5, none, .mov (.t 4)⟩,
 ⟨some 6, (some (5, false)), .call 305 [(.c (.p (.int .i64 10000)))] false⟩,
 ⟨some 7, (some (5, false)), .mov (.t 0)⟩,
 ⟨some 8, (some (5, false)), .callv (.t 6) [(.t 7)] false⟩,
 ⟨some 9, none, .pick (.t 5) (.c (.p (.bool true))) (.t 8)⟩,
 ⟨some 2, none, .mov (.t 9)⟩] [2] [])
 .ret)),
 [.tmp 2], false⟩
def ir339 : IFn :=   -- tympan/item.Mark
⟨(.seq (.reg false [⟨some 2, none, .al [.p (.int .i64 0), .p (.int .i64 0), .p (.int .i64 0), .p (.int .i64 0), .p (.int .i64 0), .p (.int .i64 0), .p (.int .i64 0)] true⟩] [0, 2] [2])
 (.seq (.reg false [⟨some 3, none, .mov (.t 0)⟩,
 ⟨some 4, none, .bld [.p (.int .i64 0), .p (.int .i64 0), .p (.int .i64 0), .p (.int .i64 0), .p (.int .i64 0), .p (.int .i64 0), .p (.int .i64 0)] [(0, 1, (.c (.p (.int .i64 4)))), (6, 1, (.t 3))]⟩,
 ⟨none, none, .st (.t 2) (.t 4) 7⟩] [2] [2])
 .ret)),
 [.cell 2 7 true], false⟩
def ir340 : IFn :=   -- tympan/item.Note
⟨(.seq (.reg false [⟨some 2, none, .al [.p (.int .i64 0), .p (.int .i64 0), .p (.int .i64 0), .p (.int .i64 0), .p (.int .i64 0), .p (.int .i64 0), .p (.int .i64 0)] true⟩] [0, 2] [2])
 (.seq (.reg false [⟨some 3, none, .mov (.t 0)⟩,
 ⟨some 4, none, .bld [.p (.int .i64 0), .p (.int .i64 0), .p (.int .i64 0), .p (.int .i64 0), .p (.int .i64 0), .p (.int .i64 0), .p (.int .i64 0)] [(0, 1, (.c (.p (.int .i64 5)))), (6, 1, (.t 3))]⟩,
 ⟨none, none, .st (.t 2) (.t 4) 7⟩] [2] [2])
 .ret)),
 [.cell 2 7 true], false⟩
def ir341 : IFn :=   -- tympan/item.Float
⟨(.seq (.reg false [⟨some 2, none, .al [.p (.int .i64 0), .p (.int .i64 0), .p (.int .i64 0), .p (.int .i64 0), .p (.int .i64 0), .p (.int .i64 0), .p (.int .i64 0)] true⟩] [0, 2] [2])
 (.seq (.reg false [⟨some 3, none, .mov (.t 0)⟩,
 ⟨some 4, none, .bld [.p (.int .i64 0), .p (.int .i64 0), .p (.int .i64 0), .p (.int .i64 0), .p (.int .i64 0), .p (.int .i64 0), .p (.int .i64 0)] [(0, 1, (.c (.p (.int .i64 6)))), (6, 1, (.t 3))]⟩,
 ⟨none, none, .st (.t 2) (.t 4) 7⟩] [2] [2])
 .ret)),
 [.cell 2 7 true], false⟩
def ir342 : IFn :=   -- tympan/item.forms$5
⟨(.seq (.reg false [⟨some 1, none, .bx (.t 0) 7 true⟩,
 ⟨some 2, none, .al [.p (.int .i64 0), .p (.int .i64 0), .p (.int .i64 0), .p (.int .i64 0), .p (.int .i64 0), .p (.int .i64 0), .p (.int .i64 0)] true⟩] [2] [2])
 (.seq (.reg false [⟨some 3, none, .call 343 [] false⟩,
 ⟨none, none, .st (.t 2) (.t 3) 7⟩] [2] [2])
 .ret)),
 [.cell 2 7 true], false⟩
def ir343 : IFn :=   -- tympan/item.Barrier
⟨(.seq (.reg false [⟨some 0, none, .al [.p (.int .i64 0), .p (.int .i64 0), .p (.int .i64 0), .p (.int .i64 0), .p (.int .i64 0), .p (.int .i64 0), .p (.int .i64 0)] true⟩] [0] [0])
 (.seq (.reg false [⟨some 1, none, .bld [.p (.int .i64 0), .p (.int .i64 0), .p (.int .i64 0), .p (.int .i64 0), .p (.int .i64 0), .p (.int .i64 0), .p (.int .i64 0)] [(0, 1, (.c (.p (.int .i64 7))))]⟩,
 ⟨none, none, .st (.t 0) (.t 1) 7⟩] [0] [0])
 .ret)),
 [.cell 0 7 true], false⟩
def ir344 : IFn :=   -- tympan/item.upTo$1
⟨(.seq (.reg false [⟨some 3, none, .mov (.c (.p (.bool false)))⟩] [0, 1] [])
 (.seq (.reg false [⟨some 4, none, .mov (.t 0)⟩,
 ⟨some 5, none, .bin .geq (.t 4) (.c (.p (.int .i64 0)))⟩,
 ⟨some 6, none, .mov (.t 5)⟩,
 ⟨some 7, (some (6, true)), .mov (.t 0)⟩,
 ⟨some 8, (some (6, true)), .ld (.t 1) 1 false⟩,
 ⟨some 9, (some (6, true)), .bin .leq (.t 7) (.t 8)⟩,
 ⟨some 10, none, .pick (.t 6) (.t 9) (.c (.p (.bool false)))⟩,
 ⟨some 3, none, .mov (.t 10)⟩] [3] [])
 .ret)),
 [.tmp 3], false⟩
def ir345 : IFn :=   -- slices.ContainsFunc[[]tympan/api.Sp,tympan/api.Sp]
⟨(.seq (.reg false [⟨some 4, none, .mov (.c (.p (.bool false)))⟩] [0, 1] [])
 (.seq (.reg false [⟨some 5, none, .mov (.t 0)⟩,
 ⟨some 6, none, .mov (.t 1)⟩,
 ⟨some 7, none, .call 354 [(.t 5), (.t 6)] false⟩,
 ⟨some 8, none, .bin .geq (.t 7) (.c (.p (.int .i64 0)))⟩,
 ⟨some 4, none, .mov (.t 8)⟩] [4] [])
 .ret)),
 [.tmp 4], false⟩
def ir346 : IFn :=   -- tympan/item.long$1
⟨(.seq (.reg false [⟨some 2, none, .mov (.c (.p (.bool false)))⟩] [0] [])
 (.seq (.reg false [⟨some 3, none, .mov (.t 0)⟩,
 ⟨some 4, none, .bin .lss (.t 3) (.c (.p (.int .i64 0)))⟩,
 ⟨some 5, none, .mov (.t 4)⟩,
 ⟨some 6, (some (5, false)), .mov (.t 0)⟩,
 ⟨some 7, (some (5, false)), .bin .gtr (.t 6) (.c (.p (.int .i64 1073741823)))⟩,
 ⟨some 8, none, .pick (.t 5) (.c (.p (.bool true))) (.t 7)⟩,
 ⟨some 2, none, .mov (.t 8)⟩] [2] [])
 .ret)),
 [.tmp 2], false⟩
def ir347 : IFn :=   -- tympan/valid.Anchors
⟨(.seq (.reg false [⟨some 3, none, .bx (.t 1) 1 false⟩,
 ⟨some 4, none, .mov (.c (.p (.int .i64 0)))⟩] [0, 3] [])
 (.seq (.reg false [⟨some 5, none, .al [.p (.int .i64 0)] false⟩,
 ⟨none, none, .st (.t 5) (.c (.p (.int .i64 0))) 1⟩] [0, 3, 5] [])
 (.seq (.reg false [⟨some 6, none, .mov (.t 0)⟩,
 ⟨some 7, none, .mkf (.func 355) [] [(.t 3), (.t 5)]⟩,
 ⟨some 8, none, .call 302 [(.t 6), (.t 7)] false⟩,
 ⟨some 4, none, .mov (.t 8)⟩] [4] [])
 .ret))),
 [.tmp 4], false⟩
def lp354_0 : IC :=
 (.loop [0, 1, 7, 8] [] (.seq (.reg false [⟨some 9, none, .bin .lss (.t 8) (.t 7)⟩] [0, 1, 7, 8, 9] [])
 (.seq (.cond (.t 9)
 .skip
 (.exit 0))
 (.seq (.block 1 (.seq (.reg false [⟨some 10, none, .mov (.t 8)⟩,
 ⟨some 5, none, .mov (.t 10)⟩] [0, 1, 5, 7, 8] [])
 (.seq (.reg false [⟨some 11, none, .mov (.t 1)⟩,
 ⟨some 12, none, .mov (.t 0)⟩,
 ⟨some 13, none, .mov (.t 5)⟩,
 ⟨some 14, none, .ixs (.t 12) (.t 13) 1⟩,
 ⟨some 15, none, .ld (.t 14) 1 false⟩,
 ⟨some 16, none, .callv (.t 11) [(.t 15)] false⟩] [0, 1, 5, 7, 8, 16] [])
 (.cond (.t 16)
 (.seq (.reg false [⟨some 17, none, .mov (.t 5)⟩,
 ⟨some 4, none, .mov (.t 17)⟩] [4] [])
 .ret)
 .skip))))
 (.reg false [⟨some 18, none, .bin .add (.t 8) (.c (.p (.int .i64 1)))⟩,
 ⟨some 8, none, .mov (.t 18)⟩] [0, 1, 7, 8] [])))))
def ir354 : IFn :=   -- slices.IndexFunc[[]tympan/api.Sp,tympan/api.Sp]
⟨(.seq (.reg false [⟨some 4, none, .mov (.c (.p (.int .i64 0)))⟩] [0, 1] [])
 (.seq (.seq (.reg false [⟨some 6, none, .mov (.t 0)⟩,
 ⟨some 7, none, .len (.t 6)⟩,
 ⟨some 8, none, .mov (.c (.p (.int .i64 0)))⟩] [0, 1, 7, 8] [])
 (.block 0 lp354_0))
 (.seq (.reg false [⟨some 4, none, .mov (.c (.p (.int .i64 (-1))))⟩] [4] [])
 .ret))),
 [.tmp 4], false⟩
def ir355 : IFn :=   -- tympan/valid.Anchors$1
⟨(.seq (.reg false [⟨some 3, none, .bx (.t 0) 7 true⟩,
 ⟨some 4, none, .mov (.c (.p (.bool false)))⟩] [1, 2, 3] [3])
 (.seq (.seq (.reg false [⟨some 5, none, .off (.t 3) 0⟩,
 ⟨some 6, none, .ld (.t 5) 1 false⟩,
 ⟨some 7, none, .ld (.t 1) 1 false⟩,
 ⟨some 8, none, .bin .neq (.t 6) (.t 7)⟩] [2, 3, 8] [3])
 (.cond (.t 8)
 (.seq (.reg false [⟨some 4, none, .mov (.c (.p (.bool false)))⟩] [4] [])
 .ret)
 .skip))
 (.seq (.reg false [⟨some 9, none, .ld (.t 2) 1 false⟩,
 ⟨some 10, none, .bin .add (.t 9) (.c (.p (.int .i64 1)))⟩,
 ⟨none, none, .st (.t 2) (.t 10) 1⟩] [2, 3] [3])
 (.seq (.reg false [⟨some 11, none, .off (.t 3) 6⟩,
 ⟨some 12, none, .ld (.t 11) 1 false⟩,
 ⟨some 13, none, .ld (.t 2) 1 false⟩,
 ⟨some 14, none, .bin .sub (.t 13) (.c (.p (.int .i64 1)))⟩,
 ⟨some 15, none, .bin .neq (.t 12) (.t 14)⟩,
 ⟨some 4, none, .mov (.t 15)⟩] [4] [])
 .ret)))),
 [.tmp 4], false⟩
end Go.EnvOf
