/- The engine's instructions for the functions, part 2. -/
import Derived.Test.YtddnebpblclpfaaGreatEngAll2
namespace Go.EnvOf
open Go Go.Eng
set_option maxRecDepth 100000
def ir341 : IFn :=   -- tympan/item.Float
⟨(.seq (.reg false [⟨some 2, none, .al [.p (.int .i64 0), .p (.int .i64 0), .p (.int .i64 0), .p (.int .i64 0), .p (.int .i64 0), .p (.int .i64 0), .p (.int .i64 0)] true⟩] [0, 2] [2])
 (.seq (.reg false [⟨some 3, none, .mov (.t 0)⟩,
 ⟨some 4, none, .bld [.p (.int .i64 0), .p (.int .i64 0), .p (.int .i64 0), .p (.int .i64 0), .p (.int .i64 0), .p (.int .i64 0), .p (.int .i64 0)] [(0, 1, (.c (.p (.int .i64 6)))), (6, 1, (.t 3))]⟩,
 ⟨none, none, .st (.t 2) (.t 4) 7⟩] [2] [2])
 .ret)),
 [.cell 2 7 true], false⟩
def ir342 : IFn :=   -- tympan/item.forms$5
⟨(.seq (.reg false [⟨some 1, none, .bx (.t 0) 7 true⟩,
 ⟨some 2, none, .al [.p (.int .i64 0), .p (.int .i64 0), .p (.int .i64 0), .p (.int .i64 0), .p (.int .i64 0), .p (.int .i64 0), .p (.int .i64 0)] true⟩] [2] [2])
 (.seq (.reg false [⟨some 3, none, .call 343 [] false⟩,
 ⟨none, none, .st (.t 2) (.t 3) 7⟩] [2] [2])
 .ret)),
 [.cell 2 7 true], false⟩
def ir343 : IFn :=   -- tympan/item.Barrier
⟨(.seq (.reg false [⟨some 0, none, .al [.p (.int .i64 0), .p (.int .i64 0), .p (.int .i64 0), .p (.int .i64 0), .p (.int .i64 0), .p (.int .i64 0), .p (.int .i64 0)] true⟩] [0] [0])
 (.seq (.reg false [⟨some 1, none, .bld [.p (.int .i64 0), .p (.int .i64 0), .p (.int .i64 0), .p (.int .i64 0), .p (.int .i64 0), .p (.int .i64 0), .p (.int .i64 0)] [(0, 1, (.c (.p (.int .i64 7))))]⟩,
 ⟨none, none, .st (.t 0) (.t 1) 7⟩] [0] [0])
 .ret)),
 [.cell 0 7 true], false⟩
def ir344 : IFn :=   -- tympan/item.upTo$1
⟨(.seq (.reg false [⟨some 3, none, .mov (.c (.p (.bool false)))⟩] [0, 1] [])
 (.seq (.reg false [⟨some 4, none, .mov (.t 0)⟩,
 ⟨some 5, none, .bin .geq (.t 4) (.c (.p (.int .i64 0)))⟩,
 ⟨some 6, none, .mov (.t 5)⟩,
 ⟨some 7, (some (6, true)), .mov (.t 0)⟩,
 ⟨some 8, (some (6, true)), .ld (.t 1) 1 false⟩,
 ⟨some 9, (some (6, true)), .bin .leq (.t 7) (.t 8)⟩,
 ⟨some 10, none, .pick (.t 6) (.t 9) (.c (.p (.bool false)))⟩,
 ⟨some 3, none, .mov (.t 10)⟩] [3] [])
 .ret)),
 [.tmp 3], false⟩
def ir345 : IFn :=   -- slices.ContainsFunc[[]tympan/api.Sp,tympan/api.Sp]
⟨(.seq (.reg false [⟨some 4, none, .mov (.c (.p (.bool false)))⟩] [0, 1] [])
 (.seq (.reg false [⟨some 5, none, .mov (.t 0)⟩,
 ⟨some 6, none, .mov (.t 1)⟩,
 ⟨some 7, none, .call 354 [(.t 5), (.t 6)] false⟩,
 ⟨some 8, none, .bin .geq (.t 7) (.c (.p (.int .i64 0)))⟩,
 ⟨some 4, none, .mov (.t 8)⟩] [4] [])
 .ret)),
 [.tmp 4], false⟩
def ir346 : IFn :=   -- tympan/item.long$1
⟨(.seq (.reg false [⟨some 2, none, .mov (.c (.p (.bool false)))⟩] [0] [])
 (.seq (.reg false [⟨some 3, none, .mov (.t 0)⟩,
 ⟨some 4, none, .bin .lss (.t 3) (.c (.p (.int .i64 0)))⟩,
 ⟨some 5, none, .mov (.t 4)⟩,
 ⟨some 6, (some (5, false)), .mov (.t 0)⟩,
 ⟨some 7, (some (5, false)), .bin .gtr (.t 6) (.c (.p (.int .i64 1073741823)))⟩,
 ⟨some 8, none, .pick (.t 5) (.c (.p (.bool true))) (.t 7)⟩,
 ⟨some 2, none, .mov (.t 8)⟩] [2] [])
 .ret)),
 [.tmp 2], false⟩
def ir347 : IFn :=   -- tympan/valid.Anchors
⟨(.seq (.reg false [⟨some 3, none, .bx (.t 1) 1 false⟩,
 ⟨some 4, none, .mov (.c (.p (.int .i64 0)))⟩] [0, 3] [])
 (.seq (.reg false [⟨some 5, none, .al [.p (.int .i64 0)] false⟩,
 ⟨none, none, .st (.t 5) (.c (.p (.int .i64 0))) 1⟩] [0, 3, 5] [])
 (.seq (.reg false [⟨some 6, none, .mov (.t 0)⟩,
 ⟨some 7, none, .mkf (.func 355) [] [(.t 3), (.t 5)]⟩,
 ⟨some 8, none, .call 302 [(.t 6), (.t 7)] false⟩,
 ⟨some 4, none, .mov (.t 8)⟩] [4] [])
 .ret))),
 [.tmp 4], false⟩
def lp354_0 : IC :=
 (.loop [0, 1, 7, 8] [] (.seq (.reg false [⟨some 9, none, .bin .lss (.t 8) (.t 7)⟩] [0, 1, 7, 8, 9] [])
 (.seq (.cond (.t 9)
 .skip
 (.exit 0))
 (.seq (.block 1 (.seq (.reg false [⟨some 10, none, .mov (.t 8)⟩,
 ⟨some 5, none, .mov (.t 10)⟩] [0, 1, 5, 7, 8] [])
 (.seq (.reg false [⟨some 11, none, .mov (.t 1)⟩,
 ⟨some 12, none, .mov (.t 0)⟩,
 ⟨some 13, none, .mov (.t 5)⟩,
 ⟨some 14, none, .ixs (.t 12) (.t 13) 1⟩,
 ⟨some 15, none, .ld (.t 14) 1 false⟩,
 ⟨some 16, none, .callv (.t 11) [(.t 15)] false⟩] [0, 1, 5, 7, 8, 16] [])
 (.cond (.t 16)
 (.seq (.reg false [⟨some 17, none, .mov (.t 5)⟩,
 ⟨some 4, none, .mov (.t 17)⟩] [4] [])
 .ret)
 .skip))))
 (.reg false [⟨some 18, none, .bin .add (.t 8) (.c (.p (.int .i64 1)))⟩,
 ⟨some 8, none, .mov (.t 18)⟩] [0, 1, 7, 8] [])))))
def ir354 : IFn :=   -- slices.IndexFunc[[]tympan/api.Sp,tympan/api.Sp]
⟨(.seq (.reg false [⟨some 4, none, .mov (.c (.p (.int .i64 0)))⟩] [0, 1] [])
 (.seq (.seq (.reg false [⟨some 6, none, .mov (.t 0)⟩,
 ⟨some 7, none, .len (.t 6)⟩,
 ⟨some 8, none, .mov (.c (.p (.int .i64 0)))⟩] [0, 1, 7, 8] [])
 (.block 0 lp354_0))
 (.seq (.reg false [⟨some 4, none, .mov (.c (.p (.int .i64 (-1))))⟩] [4] [])
 .ret))),
 [.tmp 4], false⟩
def ir355 : IFn :=   -- tympan/valid.Anchors$1
⟨(.seq (.reg false [⟨some 3, none, .bx (.t 0) 7 true⟩,
 ⟨some 4, none, .mov (.c (.p (.bool false)))⟩] [1, 2, 3] [3])
 (.seq (.seq (.reg false [⟨some 5, none, .off (.t 3) 0⟩,
 ⟨some 6, none, .ld (.t 5) 1 false⟩,
 ⟨some 7, none, .ld (.t 1) 1 false⟩,
 ⟨some 8, none, .bin .neq (.t 6) (.t 7)⟩] [2, 3, 8] [3])
 (.cond (.t 8)
 (.seq (.reg false [⟨some 4, none, .mov (.c (.p (.bool false)))⟩] [4] [])
 .ret)
 .skip))
 (.seq (.reg false [⟨some 9, none, .ld (.t 2) 1 false⟩,
 ⟨some 10, none, .bin .add (.t 9) (.c (.p (.int .i64 1)))⟩,
 ⟨none, none, .st (.t 2) (.t 10) 1⟩] [2, 3] [3])
 (.seq (.reg false [⟨some 11, none, .off (.t 3) 6⟩,
 ⟨some 12, none, .ld (.t 11) 1 false⟩,
 ⟨some 13, none, .ld (.t 2) 1 false⟩,
 ⟨some 14, none, .bin .sub (.t 13) (.c (.p (.int .i64 1)))⟩,
 ⟨some 15, none, .bin .neq (.t 12) (.t 14)⟩,
 ⟨some 4, none, .mov (.t 15)⟩] [4] [])
 .ret)))),
 [.tmp 4], false⟩
end Go.EnvOf
