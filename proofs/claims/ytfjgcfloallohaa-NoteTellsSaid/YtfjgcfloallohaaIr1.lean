/- The engine's instructions for the functions, part 1. -/
import Derived.Test.YtfjgcfloallohaaEng3
namespace Go.EnvOf
open Go Go.Eng
set_option maxRecDepth 100000
def ir62 : IFn :=   -- tympan/tympanlaw41.awake
⟨(.seq (.reg false [⟨some 0, none, .mov (.c (.p (.bool false)))⟩] [] [])
  (.seq (.reg false [⟨some 6, none, .bld [.p (.int .i64 0), .p (.int .i64 0), .p (.int .i64 0), .p (.int .i64 0), .p (.int .i64 0), .p (.int .i64 0), .p (.int .i64 0), .p (.int .i64 0), .p (.int .i64 0), .p (.int .i64 0), .p (.int .i64 0), .p (.int .i64 0), .p (.int .i64 0), .p (.int .i64 0), .p (.int .i64 0), .p (.int .i64 0), .p (.int .i64 0), .p (.int .i64 0), .p (.bool false)] [(0, 1, (.c (.p (.int .i64 1)))), (1, 1, (.c (.p (.int .i64 1)))), (3, 1, (.c (.p (.int .i64 9)))), (4, 1, (.c (.p (.int .i64 9))))]⟩, 
    ⟨some 7, none, .bld [.p (.int .i64 0), .p (.int .i64 0), .p (.int .i64 0), .p (.int .i64 0), .p (.int .i64 0), .p (.int .i64 0), .p (.int .i64 0)] [(0, 1, (.c (.p (.int .i64 1)))), (1, 1, (.c (.p (.int .i64 3))))]⟩, 
    ⟨some 8, none, .bld [.p (.int .i64 0), .p (.int .i64 0), .p (.int .i64 0), .p (.int .i64 0), .p (.int .i64 0), .p (.int .i64 0), .p (.int .i64 0)] [(0, 1, (.c (.p (.int .i64 1)))), (1, 1, (.c (.p (.int .i64 3))))]⟩, 
    ⟨some 9, none, .bsl 7 2 [.p (.int .i64 0), .p (.int .i64 0), .p (.int .i64 0), .p (.int .i64 0), .p (.int .i64 0), .p (.int .i64 0), .p (.int .i64 0)] [(0, (.t 7)), (1, (.t 8))]⟩, 
    ⟨some 10, none, .bld [.p (.int .i64 0), .p (.int .i64 0), .p (.int .i64 0), .p (.int .i64 0), .p (.int .i64 0), .p (.int .i64 0), .p (.int .i64 0), .p (.int .i64 0), .p (.int .i64 0), .p (.int .i64 0), .p (.int .i64 0), .p (.int .i64 0), .p (.int .i64 0), .p (.int .i64 0), .p (.int .i64 0), .p (.int .i64 0), .p (.int .i64 0), .p (.int .i64 0), .p (.bool false), .nils, .nils, .nils] [(0, 19, (.t 6)), (19, 1, (.t 9))]⟩, 
    ⟨some 1, none, .al [.p (.int .i64 0), .p (.int .i64 0), .p (.int .i64 0), .p (.int .i64 0), .p (.int .i64 0), .p (.int .i64 0), .p (.int .i64 0), .p (.int .i64 0), .p (.int .i64 0), .p (.int .i64 0), .p (.int .i64 0), .p (.int .i64 0), .p (.int .i64 0), .p (.int .i64 0), .p (.int .i64 0), .p (.int .i64 0), .p (.int .i64 0), .p (.int .i64 0), .p (.bool false), .nils, .nils, .nils] true⟩, 
    ⟨none, none, .st (.t 1) (.t 10) 22⟩] [1] [1])
  (.seq (.reg false [⟨some 11, none, .bld [.p (.int .i64 0), .p (.int .i64 0), .p (.int .i64 0), .p (.int .i64 0), .p (.int .i64 0)] [(0, 1, (.c (.p (.int .i64 1)))), (4, 1, (.c (.p (.int .i64 3))))]⟩, 
    ⟨some 12, none, .bld [.p (.int .i64 0), .p (.int .i64 0), .p (.int .i64 0), .p (.int .i64 0), .p (.int .i64 0)] [(0, 1, (.c (.p (.int .i64 1)))), (1, 1, (.c (.p (.int .i64 1)))), (3, 1, (.c (.p (.int .i64 3)))), (4, 1, (.c (.p (.int .i64 3))))]⟩, 
    ⟨some 13, none, .bsl 5 2 [.p (.int .i64 0), .p (.int .i64 0), .p (.int .i64 0), .p (.int .i64 0), .p (.int .i64 0)] [(0, (.t 11)), (1, (.t 12))]⟩, 
    ⟨some 14, none, .bld [.p (.int .i64 0), .nils] [(1, 1, (.t 13))]⟩, 
    ⟨some 15, none, .bsl 2 1 [.p (.int .i64 0), .nils] [(0, (.t 14))]⟩, 
    ⟨some 16, none, .bld [.nils, .p (.int .i64 0), .p (.int .i64 0), .p (.int .i64 0)] [(0, 1, (.t 15)), (1, 1, (.c (.p (.int .i64 (-1))))), (2, 1, (.c (.p (.int .i64 (-1))))), (3, 1, (.c (.p (.int .i64 (-1)))))]⟩, 
    ⟨some 17, none, .bsl 4 1 [.nils, .p (.int .i64 0), .p (.int .i64 0), .p (.int .i64 0)] [(0, (.t 16))]⟩, 
    ⟨some 2, none, .mov (.t 17)⟩] [1, 2] [1])
  (.seq (.reg false [⟨some 18, none, .bld [.p (.int .i64 0), .p (.int .i64 0), .p (.int .i64 0), .p (.int .i64 0), .p (.int .i64 0)] [(0, 1, (.c (.p (.int .i64 1)))), (4, 1, (.c (.p (.int .i64 3))))]⟩, 
    ⟨some 19, none, .bld [.p (.int .i64 0), .p (.int .i64 0), .p (.int .i64 0), .p (.int .i64 0), .p (.int .i64 0)] [(0, 1, (.c (.p (.int .i64 1)))), (1, 1, (.c (.p (.int .i64 1)))), (4, 1, (.c (.p (.int .i64 3))))]⟩, 
    ⟨some 20, none, .bsl 5 2 [.p (.int .i64 0), .p (.int .i64 0), .p (.int .i64 0), .p (.int .i64 0), .p (.int .i64 0)] [(0, (.t 18)), (1, (.t 19))]⟩, 
    ⟨some 21, none, .bld [.p (.int .i64 0), .nils] [(1, 1, (.t 20))]⟩, 
    ⟨some 22, none, .bsl 2 1 [.p (.int .i64 0), .nils] [(0, (.t 21))]⟩, 
    ⟨some 23, none, .bld [.nils, .p (.int .i64 0), .p (.int .i64 0), .p (.int .i64 0)] [(0, 1, (.t 22)), (1, 1, (.c (.p (.int .i64 (-1)))))]⟩, 
    ⟨some 24, none, .bsl 4 1 [.nils, .p (.int .i64 0), .p (.int .i64 0), .p (.int .i64 0)] [(0, (.t 23))]⟩, 
    ⟨some 3, none, .mov (.t 24)⟩] [1, 2, 3] [1])
  (.seq (.reg false [⟨some 26, none, .ld (.t 1) 22 true⟩, 
    ⟨some 27, none, .mov (.t 3)⟩, 
    ⟨some 28, none, .call 119 [(.t 26), (.t 27)] false⟩, 
    ⟨some 25, none, .mov (.t 28)⟩, 
    ⟨some 29, none, .ext (.t 25) 0⟩, 
    ⟨some 30, none, .ext (.t 25) 1⟩, 
    ⟨some 4, none, .mov (.t 29)⟩, 
    ⟨some 5, none, .mov (.t 30)⟩] [1, 2, 3, 4, 5] [1])
  (.seq (.reg false [⟨some 31, none, .ld (.t 1) 22 true⟩, 
    ⟨some 32, none, .mov (.t 2)⟩, 
    ⟨some 33, none, .call 120 [(.t 31), (.t 32)] false⟩, 
    ⟨some 34, none, .mov (.t 33)⟩, 
    ⟨some 35, (some (34, true)), .mov (.t 4)⟩, 
    ⟨some 36, (some (34, true)), .bin .eql (.t 35) (.c (.p (.int .i64 17)))⟩, 
    ⟨some 37, none, .pick (.t 34) (.t 36) (.c (.p (.bool false)))⟩, 
    ⟨some 38, none, .mov (.t 37)⟩, 
    ⟨some 39, (some (38, true)), .mov (.t 5)⟩, 
    ⟨some 40, (some (38, true)), .bin .eql (.t 39) (.c (.p (.int .i64 0)))⟩, 
    ⟨some 41, none, .pick (.t 38) (.t 40) (.c (.p (.bool false)))⟩, 
    ⟨some 42, none, .mov (.t 41)⟩, 
    ⟨some 43, (some (42, true)), .mov (.t 3)⟩, 
    ⟨some 44, (some (42, true)), .ixs (.t 43) (.c (.p (.int .i64 0))) 4⟩, 
    ⟨some 45, (some (42, true)), .off (.t 44) 0⟩, 
    ⟨some 46, (some (42, true)), .ld (.t 45) 1 false⟩, 
    ⟨some 47, (some (42, true)), .ixs (.t 46) (.c (.p (.int .i64 0))) 2⟩, 
    ⟨some 48, (some (42, true)), .ld (.t 47) 2 true⟩, 
    ⟨some 49, (some (42, true)), .call 63 [(.t 48)] false⟩, 
    ⟨some 50, (some (42, true)), .un .not (.t 49)⟩, 
    ⟨some 51, none, .pick (.t 42) (.t 50) (.c (.p (.bool false)))⟩, 
    ⟨some 52, none, .mov (.t 51)⟩, 
    ⟨some 53, (some (52, true)), .mov (.t 2)⟩, 
    ⟨some 54, (some (52, true)), .call 65 [(.t 53)] false⟩, 
    ⟨some 55, (some (52, true)), .bin .eql (.t 54) (.c (.p (.int .i64 (-1))))⟩, 
    ⟨some 56, none, .pick (.t 52) (.t 55) (.c (.p (.bool false)))⟩, 
    ⟨some 0, none, .mov (.t 56)⟩] [0] [])
  .ret)))))),
  [.tmp 0], false⟩
def lp63_0 : IC :=
  (.loop [3, 7, 8, 9] [] (.seq (.reg false [⟨some 10, none, .bin .lss (.t 9) (.t 8)⟩] [3, 7, 8, 9, 10] [])
      (.seq (.cond (.t 10)
      .skip
      (.exit 0))
      (.seq (.block 1 (.seq (.reg false [⟨some 11, none, .ixs (.t 7) (.t 9) 5⟩, 
          ⟨some 12, none, .ld (.t 11) 5 true⟩, 
          ⟨some 5, none, .al [.p (.int .i64 0), .p (.int .i64 0), .p (.int .i64 0), .p (.int .i64 0), .p (.int .i64 0)] true⟩, 
          ⟨none, none, .st (.t 5) (.t 12) 5⟩] [3, 5, 7, 8, 9] [5])
        (.seq (.seq (.reg false [⟨some 13, none, .off (.t 5) 3⟩, 
          ⟨some 14, none, .ld (.t 13) 1 false⟩, 
          ⟨some 15, none, .mov (.t 3)⟩, 
          ⟨some 16, none, .bin .lss (.t 14) (.t 15)⟩, 
          ⟨some 17, none, .mov (.t 16)⟩, 
          ⟨some 18, (some (17, false)), .off (.t 5) 3⟩, 
          ⟨some 19, (some (17, false)), .ld (.t 18) 1 false⟩, 
          ⟨some 20, (some (17, false)), .bin .gtr (.t 19) (.c (.p (.int .i64 1125899906842624)))⟩, 
          ⟨some 21, none, .pick (.t 17) (.c (.p (.bool true))) (.t 20)⟩, 
          ⟨some 22, none, .mov (.t 21)⟩, 
          ⟨some 23, (some (22, false)), .off (.t 5) 4⟩, 
          ⟨some 24, (some (22, false)), .ld (.t 23) 1 false⟩, 
          ⟨some 25, (some (22, false)), .bin .lss (.t 24) (.c (.p (.int .i64 0)))⟩, 
          ⟨some 26, none, .pick (.t 22) (.c (.p (.bool true))) (.t 25)⟩, 
          ⟨some 27, none, .mov (.t 26)⟩, 
          ⟨some 28, (some (27, false)), .off (.t 5) 4⟩, 
          ⟨some 29, (some (27, false)), .ld (.t 28) 1 false⟩, 
          ⟨some 30, (some (27, false)), .bin .gtr (.t 29) (.c (.p (.int .i64 1125899906842624)))⟩, 
          ⟨some 31, none, .pick (.t 27) (.c (.p (.bool true))) (.t 30)⟩] [5, 7, 8, 9, 31] [5])
        (.cond (.t 31)
        (.seq (.reg false [⟨some 2, none, .mov (.c (.p (.bool false)))⟩] [2] [])
          .ret)
        .skip))
        (.reg false [⟨some 32, none, .off (.t 5) 3⟩, 
          ⟨some 33, none, .ld (.t 32) 1 false⟩, 
          ⟨some 34, none, .off (.t 5) 4⟩, 
          ⟨some 35, none, .ld (.t 34) 1 false⟩, 
          ⟨some 36, none, .bin .add (.t 33) (.t 35)⟩, 
          ⟨some 3, none, .mov (.t 36)⟩] [3, 7, 8, 9] []))))
      (.reg false [⟨some 37, none, .bin .add (.t 9) (.c (.p (.int .i64 1)))⟩, 
        ⟨some 9, none, .mov (.t 37)⟩] [3, 7, 8, 9] [])))))
def ir63 : IFn :=   -- tympan/check.Lane
⟨(.seq (.reg false [⟨some 1, none, .bx (.t 0) 2 true⟩, 
    ⟨some 2, none, .mov (.c (.p (.bool false)))⟩] [1] [1])
  (.seq (.reg false [⟨some 3, none, .mov (.c (.p (.int .i64 0)))⟩] [1, 3] [1])
  (.seq (.seq (.reg false [⟨some 6, none, .off (.t 1) 1⟩, 
    ⟨some 7, none, .ld (.t 6) 1 false⟩, 
    ⟨some 8, none, .len (.t 7)⟩, 
    ⟨some 9, none, .mov (.c (.p (.int .i64 0)))⟩] [3, 7, 8, 9] [])
  (.block 0 lp63_0))
  (.seq (.reg false [⟨some 2, none, .mov (.c (.p (.bool true)))⟩] [2] [])
  .ret)))),
  [.tmp 2], false⟩
def lp64_0 : IC :=
  (.loop [1, 3] [1] (.seq (.seq (.reg false [⟨some 5, none, .mov (.t 3)⟩, 
        ⟨some 6, none, .off (.t 1) 1⟩, 
        ⟨some 7, none, .ld (.t 6) 1 false⟩, 
        ⟨some 8, none, .len (.t 7)⟩, 
        ⟨some 9, none, .bin .lss (.t 5) (.t 8)⟩] [1, 3, 9] [1])
      (.cond (.t 9)
      .skip
      (.exit 0)))
      (.seq (.block 1 (.seq (.reg false [⟨some 12, none, .off (.t 1) 1⟩, 
          ⟨some 13, none, .ld (.t 12) 1 false⟩, 
          ⟨some 14, none, .mov (.t 3)⟩, 
          ⟨some 15, none, .ixs (.t 13) (.t 14) 5⟩, 
          ⟨some 16, none, .ld (.t 15) 5 true⟩, 
          ⟨some 4, none, .al [.p (.int .i64 0), .p (.int .i64 0), .p (.int .i64 0), .p (.int .i64 0), .p (.int .i64 0)] true⟩, 
          ⟨none, none, .st (.t 4) (.t 16) 5⟩] [1, 3, 4] [1, 4])
        (.seq (.seq (.reg false [⟨some 17, none, .off (.t 4) 3⟩, 
          ⟨some 18, none, .ld (.t 17) 1 false⟩, 
          ⟨some 19, none, .bin .lss (.t 18) (.c (.p (.int .i64 0)))⟩, 
          ⟨some 20, none, .mov (.t 19)⟩, 
          ⟨some 21, (some (20, false)), .off (.t 4) 4⟩, 
          ⟨some 22, (some (20, false)), .ld (.t 21) 1 false⟩, 
          ⟨some 23, (some (20, false)), .bin .lss (.t 22) (.c (.p (.int .i64 0)))⟩, 
          ⟨some 24, none, .pick (.t 20) (.c (.p (.bool true))) (.t 23)⟩, 
          ⟨some 25, none, .mov (.t 24)⟩, 
          ⟨some 26, (some (25, false)), .off (.t 4) 3⟩, 
          ⟨some 27, (some (25, false)), .ld (.t 26) 1 false⟩, 
          ⟨some 28, (some (25, false)), .bin .gtr (.t 27) (.c (.p (.int .i64 1125899906842624)))⟩, 
          ⟨some 29, none, .pick (.t 25) (.c (.p (.bool true))) (.t 28)⟩, 
          ⟨some 30, none, .mov (.t 29)⟩, 
          ⟨some 31, (some (30, false)), .off (.t 4) 4⟩, 
          ⟨some 32, (some (30, false)), .ld (.t 31) 1 false⟩, 
          ⟨some 33, (some (30, false)), .bin .gtr (.t 32) (.c (.p (.int .i64 1125899906842624)))⟩, 
          ⟨some 34, none, .pick (.t 30) (.c (.p (.bool true))) (.t 33)⟩] [1, 3, 4, 34] [1, 4])
        (.cond (.t 34)
        (.seq (.reg false [⟨some 2, none, .mov (.c (.p (.bool false)))⟩] [2] [])
          .ret)
        .skip))
        (.seq (.reg true [⟨some 35, none, .mov (.t 3)⟩, 
          ⟨some 36, none, .bin .gtr (.t 35) (.c (.p (.int .i64 0)))⟩, 
          ⟨some 37, none, .mov (.t 36)⟩, 
          ⟨some 38, (some (37, true)), .off (.t 4) 3⟩, 
          ⟨some 39, (some (37, true)), .ld (.t 38) 1 false⟩, 
          ⟨some 40, (some (37, true)), .off (.t 1) 1⟩, 
          ⟨some 41, (some (37, true)), .ld (.t 40) 1 false⟩, 
          ⟨some 42, (some (37, true)), .mov (.t 3)⟩, 
          ⟨some 43, (some (37, true)), .bin .sub (.t 42) (.c (.p (.int .i64 1)))⟩, 
          ⟨some 44, (some (37, true)), .ixs (.t 41) (.t 43) 5⟩, 
          ⟨some 45, (some (37, true)), .off (.t 44) 3⟩, 
          ⟨some 46, (some (37, true)), .ld (.t 45) 1 false⟩, 
          ⟨some 47, (some (37, true)), .off (.t 1) 1⟩, 
          ⟨some 48, (some (37, true)), .ld (.t 47) 1 false⟩, 
          ⟨some 49, (some (37, true)), .mov (.t 3)⟩, 
          ⟨some 50, (some (37, true)), .bin .sub (.t 49) (.c (.p (.int .i64 1)))⟩, 
          ⟨some 51, (some (37, true)), .ixs (.t 48) (.t 50) 5⟩, 
          ⟨some 52, (some (37, true)), .off (.t 51) 4⟩, 
          ⟨some 53, (some (37, true)), .ld (.t 52) 1 false⟩, 
          ⟨some 54, (some (37, true)), .bin .add (.t 46) (.t 53)⟩, 
          ⟨some 55, (some (37, true)), .bin .lss (.t 39) (.t 54)⟩, 
          ⟨some 56, none, .pick (.t 37) (.t 55) (.c (.p (.bool false)))⟩] [1, 3, 56] [1])
        (.cond (.t 56)
        (.seq (.reg false [⟨some 2, none, .mov (.c (.p (.bool false)))⟩] [2] [])
          .ret)
        .skip)))))
      (.reg false [⟨some 10, none, .mov (.t 3)⟩, 
        ⟨some 11, none, .bin .add (.t 10) (.c (.p (.int .i64 1)))⟩, 
        ⟨some 3, none, .mov (.t 11)⟩] [1, 3] [1]))))
def ir64 : IFn :=   -- tympan/tympanref41.Lane
⟨(.seq (.reg false [⟨some 1, none, .bx (.t 0) 2 true⟩, 
    ⟨some 2, none, .mov (.c (.p (.bool false)))⟩] [1] [1])
  (.seq (.seq (.reg false [⟨some 3, none, .mov (.c (.p (.int .i64 0)))⟩] [1, 3] [1])
  (.block 0 lp64_0))
  (.seq (.reg false [⟨some 2, none, .mov (.c (.p (.bool true)))⟩] [2] [])
  .ret))),
  [.tmp 2], false⟩
def lp65_0 : IC :=
  (.loop [3, 6, 7, 8] [] (.seq (.reg false [⟨some 9, none, .bin .lss (.t 8) (.t 7)⟩] [3, 6, 7, 8, 9] [])
      (.seq (.cond (.t 9)
      .skip
      (.exit 0))
      (.seq (.block 1 (.seq (.reg false [⟨some 10, none, .mov (.t 8)⟩, 
          ⟨some 11, none, .ixs (.t 6) (.t 8) 4⟩, 
          ⟨some 12, none, .ld (.t 11) 4 true⟩, 
          ⟨some 5, none, .al [.nils, .p (.int .i64 0), .p (.int .i64 0), .p (.int .i64 0)] true⟩, 
          ⟨some 4, none, .mov (.t 10)⟩, 
          ⟨none, none, .st (.t 5) (.t 12) 4⟩] [3, 4, 5, 6, 7, 8] [5])
        (.seq (.seq (.reg false [⟨some 13, none, .off (.t 5) 1⟩, 
          ⟨some 14, none, .ld (.t 13) 1 false⟩, 
          ⟨some 15, none, .mov (.t 3)⟩, 
          ⟨some 16, none, .bin .neq (.t 14) (.t 15)⟩] [4, 5, 6, 7, 8, 16] [5])
        (.cond (.t 16)
        (.seq (.reg false [⟨some 17, none, .mov (.t 4)⟩, 
            ⟨some 2, none, .mov (.t 17)⟩] [2] [])
          .ret)
        .skip))
        (.reg false [⟨some 18, none, .off (.t 5) 3⟩, 
          ⟨some 19, none, .ld (.t 18) 1 false⟩, 
          ⟨some 3, none, .mov (.t 19)⟩] [3, 6, 7, 8] []))))
      (.reg false [⟨some 20, none, .bin .add (.t 8) (.c (.p (.int .i64 1)))⟩, 
        ⟨some 8, none, .mov (.t 20)⟩] [3, 6, 7, 8] [])))))
def ir65 : IFn :=   -- tympan/check.Marks
⟨(.seq (.reg false [⟨some 2, none, .mov (.c (.p (.int .i64 0)))⟩] [0] [])
  (.seq (.reg false [⟨some 3, none, .mov (.c (.p (.int .i64 (-1))))⟩] [0, 3] [])
  (.seq (.seq (.reg false [⟨some 6, none, .mov (.t 0)⟩, 
    ⟨some 7, none, .len (.t 6)⟩, 
    ⟨some 8, none, .mov (.c (.p (.int .i64 0)))⟩] [3, 6, 7, 8] [])
  (.block 0 lp65_0))
  (.seq (.reg false [⟨some 2, none, .mov (.c (.p (.int .i64 (-1))))⟩] [2] [])
  .ret)))),
  [.tmp 2], false⟩
def lp66_0 : IC :=
  (.loop [0, 3, 4] [] (.seq (.seq (.reg false [⟨some 5, none, .mov (.t 4)⟩, 
        ⟨some 6, none, .mov (.t 0)⟩, 
        ⟨some 7, none, .len (.t 6)⟩, 
        ⟨some 8, none, .bin .lss (.t 5) (.t 7)⟩] [0, 3, 4, 8] [])
      (.cond (.t 8)
      .skip
      (.exit 0)))
      (.seq (.block 1 (.seq (.seq (.reg false [⟨some 11, none, .mov (.t 0)⟩, 
          ⟨some 12, none, .mov (.t 4)⟩, 
          ⟨some 13, none, .ixs (.t 11) (.t 12) 4⟩, 
          ⟨some 14, none, .off (.t 13) 1⟩, 
          ⟨some 15, none, .ld (.t 14) 1 false⟩, 
          ⟨some 16, none, .mov (.t 3)⟩, 
          ⟨some 17, none, .bin .neq (.t 15) (.t 16)⟩] [0, 4, 17] [])
        (.cond (.t 17)
        (.seq (.reg false [⟨some 18, none, .mov (.t 4)⟩, 
            ⟨some 2, none, .mov (.t 18)⟩] [2] [])
          .ret)
        .skip))
        (.reg false [⟨some 19, none, .mov (.t 0)⟩, 
          ⟨some 20, none, .mov (.t 4)⟩, 
          ⟨some 21, none, .ixs (.t 19) (.t 20) 4⟩, 
          ⟨some 22, none, .off (.t 21) 3⟩, 
          ⟨some 23, none, .ld (.t 22) 1 false⟩, 
          ⟨some 3, none, .mov (.t 23)⟩] [0, 3, 4] [])))
      (.reg false [⟨some 9, none, .mov (.t 4)⟩, 
        ⟨some 10, none, .bin .add (.t 9) (.c (.p (.int .i64 1)))⟩, 
        ⟨some 4, none, .mov (.t 10)⟩] [0, 3, 4] []))))
def ir66 : IFn :=   -- tympan/tympanref41.Marks
⟨(.seq (.reg false [⟨some 2, none, .mov (.c (.p (.int .i64 0)))⟩] [0] [])
  (.seq (.reg false [⟨some 3, none, .mov (.c (.p (.int .i64 (-1))))⟩] [0, 3] [])
  (.seq (.seq (.reg false [⟨some 4, none, .mov (.c (.p (.int .i64 0)))⟩] [0, 3, 4] [])
  (.block 0 lp66_0))
  (.seq (.reg false [⟨some 2, none, .mov (.c (.p (.int .i64 (-1))))⟩] [2] [])
  .ret)))),
  [.tmp 2], false⟩
def lp68_0 : IC :=
  (.loop [0, 4, 5, 8, 11] [4, 5] (.seq (.reg false [⟨some 12, none, .bin .lss (.t 11) (.c (.p (.int .i64 3)))⟩] [0, 4, 5, 8, 11, 12] [4, 5])
      (.seq (.cond (.t 12)
      .skip
      (.exit 0))
      (.seq (.block 1 (.seq (.reg false [⟨some 13, none, .mov (.t 11)⟩, 
          ⟨some 9, none, .mov (.t 13)⟩] [0, 4, 5, 8, 9, 11] [4, 5])
        (.seq (.reg false [⟨some 14, none, .mov (.t 0)⟩, 
          ⟨some 15, none, .mov (.t 9)⟩, 
          ⟨some 16, none, .call 121 [(.t 14), (.t 15)] false⟩, 
          ⟨some 10, none, .mov (.t 16)⟩] [0, 4, 5, 8, 9, 10, 11] [4, 5])
        (.seq (.seq (.reg true [⟨some 17, none, .mov (.t 9)⟩, 
          ⟨some 18, none, .ixa (.t 4) (.t 17) 1 3⟩, 
          ⟨some 19, none, .ld (.t 18) 1 false⟩, 
          ⟨some 20, none, .bin .lss (.t 19) (.c (.p (.int .i64 0)))⟩, 
          ⟨some 21, none, .mov (.t 20)⟩, 
          ⟨some 22, (some (21, false)), .mov (.t 9)⟩, 
          ⟨some 23, (some (21, false)), .ixa (.t 5) (.t 22) 1 3⟩, 
          ⟨some 24, (some (21, false)), .ld (.t 23) 1 false⟩, 
          ⟨some 25, (some (21, false)), .bin .lss (.t 24) (.c (.p (.int .i64 0)))⟩, 
          ⟨some 26, none, .pick (.t 21) (.c (.p (.bool true))) (.t 25)⟩, 
          ⟨some 27, none, .mov (.t 26)⟩, 
          ⟨some 28, (some (27, false)), .mov (.t 9)⟩, 
          ⟨some 29, (some (27, false)), .ixa (.t 4) (.t 28) 1 3⟩, 
          ⟨some 30, (some (27, false)), .ld (.t 29) 1 false⟩, 
          ⟨some 31, (some (27, false)), .mov (.t 10)⟩, 
          ⟨some 32, (some (27, false)), .len (.t 31)⟩, 
          ⟨some 33, (some (27, false)), .bin .gtr (.t 30) (.t 32)⟩, 
          ⟨some 34, none, .pick (.t 27) (.c (.p (.bool true))) (.t 33)⟩, 
          ⟨some 35, none, .mov (.t 34)⟩, 
          ⟨some 36, (some (35, false)), .mov (.t 9)⟩, 
          ⟨some 37, (some (35, false)), .ixa (.t 5) (.t 36) 1 3⟩, 
          ⟨some 38, (some (35, false)), .ld (.t 37) 1 false⟩, 
          ⟨some 39, (some (35, false)), .mov (.t 10)⟩, 
          ⟨some 40, (some (35, false)), .len (.t 39)⟩, 
          ⟨some 41, (some (35, false)), .mov (.t 9)⟩, 
          ⟨some 42, (some (35, false)), .ixa (.t 4) (.t 41) 1 3⟩, 
          ⟨some 43, (some (35, false)), .ld (.t 42) 1 false⟩, 
          ⟨some 44, (some (35, false)), .bin .sub (.t 40) (.t 43)⟩, 
          ⟨some 45, (some (35, false)), .bin .gtr (.t 38) (.t 44)⟩, 
          ⟨some 46, none, .pick (.t 35) (.c (.p (.bool true))) (.t 45)⟩] [0, 4, 5, 8, 9, 10, 11, 46] [4, 5])
        (.cond (.t 46)
        (.seq (.reg false [⟨some 6, none, .mov (.c (.nils))⟩, 
            ⟨some 7, none, .mov (.c (.p (.bool false)))⟩] [6, 7] [])
          .ret)
        .skip))
        (.reg true [⟨some 47, none, .mov (.t 8)⟩, 
          ⟨some 48, none, .mov (.t 10)⟩, 
          ⟨some 49, none, .mov (.t 9)⟩, 
          ⟨some 50, none, .ixa (.t 4) (.t 49) 1 3⟩, 
          ⟨some 51, none, .ld (.t 50) 1 false⟩, 
          ⟨some 52, none, .mov (.t 9)⟩, 
          ⟨some 53, none, .ixa (.t 4) (.t 52) 1 3⟩, 
          ⟨some 54, none, .ld (.t 53) 1 false⟩, 
          ⟨some 55, none, .mov (.t 9)⟩, 
          ⟨some 56, none, .ixa (.t 5) (.t 55) 1 3⟩, 
          ⟨some 57, none, .ld (.t 56) 1 false⟩, 
          ⟨some 58, none, .bin .add (.t 54) (.t 57)⟩, 
          ⟨some 59, none, .slc (.t 48) (some (.t 51)) (some (.t 58)) 1⟩, 
          ⟨some 60, none, .app (.t 47) (.t 59) 1⟩, 
          ⟨some 8, none, .mov (.t 60)⟩] [0, 4, 5, 8, 11] [4, 5])))))
      (.reg false [⟨some 61, none, .bin .add (.t 11) (.c (.p (.int .i64 1)))⟩, 
        ⟨some 11, none, .mov (.t 61)⟩] [0, 4, 5, 8, 11] [4, 5])))))
def ir68 : IFn :=   -- tympan/queue.Take
⟨(.seq (.reg false [⟨some 4, none, .bx (.t 1) 3 true⟩, 
    ⟨some 5, none, .bx (.t 2) 3 true⟩, 
    ⟨some 6, none, .mov (.c (.nils))⟩, 
    ⟨some 7, none, .mov (.c (.p (.bool false)))⟩] [0, 4, 5] [4, 5])
  (.seq (.reg false [⟨some 8, none, .nrow 1⟩] [0, 4, 5, 8] [4, 5])
  (.seq (.seq (.reg false [⟨some 11, none, .mov (.c (.p (.int .i64 0)))⟩] [0, 4, 5, 8, 11] [4, 5])
  (.block 0 lp68_0))
  (.seq (.reg false [⟨some 62, none, .mov (.t 8)⟩, 
    ⟨some 63, none, .call 122 [(.t 62)] false⟩] [8] [])
  (.seq (.reg false [⟨some 64, none, .mov (.t 8)⟩, 
    ⟨some 6, none, .mov (.t 64)⟩, 
    ⟨some 7, none, .mov (.c (.p (.bool true)))⟩] [6, 7] [])
  .ret))))),
  [.tmp 6, .tmp 7], false⟩
def ir69 : IFn :=   -- (tympan/queue.Counts).Add
⟨(.seq (.reg false [⟨some 2, none, .bx (.t 0) 3 true⟩, 
    ⟨some 3, none, .bx (.t 1) 3 true⟩, 
    ⟨some 4, none, .al [.p (.int .i64 0), .p (.int .i64 0), .p (.int .i64 0)] true⟩] [2, 3, 4] [2, 3, 4])
  (.seq (.reg false [⟨some 5, none, .ld (.t 2) 3 true⟩, 
    ⟨some 6, none, .ld (.t 3) 3 true⟩, 
    ⟨some 7, none, .call 123 [(.t 5), (.t 6), (.c (.p (.int .i64 (-1073741824)))), (.c (.p (.fn 124)))] false⟩, 
    ⟨none, none, .st (.t 4) (.t 7) 3⟩] [4] [4])
  .ret)),
  [.cell 4 3 true], false⟩
def ir70 : IFn :=   -- tympan/queue.Next
⟨(.seq (.reg false [⟨some 4, none, .bx (.t 1) 3 true⟩, 
    ⟨some 6, none, .mov (.c (.p (.bool false)))⟩] [0, 2, 4] [4])
  (.seq (.reg true [⟨some 10, none, .mov (.t 0)⟩, 
    ⟨some 11, none, .ld (.t 4) 3 true⟩, 
    ⟨some 12, none, .mov (.t 0)⟩, 
    ⟨some 13, none, .mov (.t 2)⟩, 
    ⟨some 14, none, .call 71 [(.t 12), (.t 13)] true⟩, 
    ⟨some 15, none, .call 68 [(.t 10), (.t 11), (.t 14)] true⟩, 
    ⟨some 9, none, .mov (.t 15)⟩, 
    ⟨some 16, none, .ext (.t 9) 0⟩, 
    ⟨some 17, none, .ext (.t 9) 1⟩, 
    ⟨some 7, none, .mov (.t 16)⟩, 
    ⟨some 8, none, .mov (.t 17)⟩] [2, 7, 8] [])
  (.seq (.reg false [⟨some 18, none, .mov (.t 8)⟩, 
    ⟨some 19, none, .mov (.t 18)⟩, 
    ⟨some 20, (some (19, true)), .mov (.t 7)⟩, 
    ⟨some 21, (some (19, true)), .mov (.t 2)⟩, 
    ⟨some 22, (some (19, true)), .call 89 [(.t 20), (.t 21)] false⟩, 
    ⟨some 23, none, .pick (.t 19) (.t 22) (.c (.p (.bool false)))⟩, 
    ⟨some 6, none, .mov (.t 23)⟩] [6] [])
  .ret))),
  [.tmp 6], false⟩
def lp71_0 : IC :=
  (.loop [0, 4, 5, 10, 11, 12] [4, 5] (.seq (.reg false [⟨some 13, none, .bin .lss (.t 12) (.t 11)⟩] [0, 4, 5, 10, 11, 12, 13] [4, 5])
      (.seq (.cond (.t 13)
      .skip
      (.exit 0))
      (.seq (.block 1 (.seq (.reg false [⟨some 14, none, .ixs (.t 10) (.t 12) 1⟩, 
          ⟨some 15, none, .ld (.t 14) 1 false⟩, 
          ⟨some 7, none, .mov (.t 15)⟩] [0, 4, 5, 7, 10, 11, 12] [4, 5])
        (.seq (.reg false [⟨some 17, none, .mov (.t 0)⟩, 
          ⟨some 18, none, .mov (.t 7)⟩, 
          ⟨some 19, none, .call 125 [(.t 17), (.t 18)] false⟩, 
          ⟨some 16, none, .mov (.t 19)⟩, 
          ⟨some 20, none, .ext (.t 16) 0⟩, 
          ⟨some 21, none, .ext (.t 16) 1⟩, 
          ⟨some 8, none, .al [.p (.int .i64 0), .p (.int .i64 0), .p (.int .i64 0)] true⟩, 
          ⟨none, none, .st (.t 8) (.t 20) 3⟩, 
          ⟨some 9, none, .mov (.t 21)⟩] [0, 4, 5, 8, 9, 10, 11, 12] [4, 5, 8])
        (.seq (.reg false [⟨some 22, none, .mov (.t 9)⟩, 
          ⟨some 23, none, .mov (.t 22)⟩, 
          ⟨some 24, (some (23, true)), .off (.t 8) 0⟩, 
          ⟨some 25, (some (23, true)), .ld (.t 24) 1 false⟩, 
          ⟨some 26, (some (23, true)), .bin .geq (.t 25) (.c (.p (.int .i64 0)))⟩, 
          ⟨some 27, none, .pick (.t 23) (.t 26) (.c (.p (.bool false)))⟩, 
          ⟨some 28, none, .mov (.t 27)⟩, 
          ⟨some 29, (some (28, true)), .off (.t 8) 0⟩, 
          ⟨some 30, (some (28, true)), .ld (.t 29) 1 false⟩, 
          ⟨some 31, (some (28, true)), .bin .lss (.t 30) (.c (.p (.int .i64 3)))⟩, 
          ⟨some 32, none, .pick (.t 28) (.t 31) (.c (.p (.bool false)))⟩] [0, 4, 5, 8, 10, 11, 12, 32] [4, 5, 8])
        (.cond (.t 32)
        (.reg false [⟨some 33, none, .off (.t 8) 0⟩, 
            ⟨some 34, none, .ld (.t 33) 1 false⟩, 
            ⟨some 35, none, .ixa (.t 5) (.t 34) 1 3⟩, 
            ⟨some 36, none, .ld (.t 35) 1 false⟩, 
            ⟨some 37, none, .bin .add (.t 36) (.c (.p (.int .i64 1)))⟩, 
            ⟨some 38, none, .ixa (.t 5) (.t 34) 1 3⟩, 
            ⟨none, none, .st (.t 38) (.t 37) 1⟩] [0, 4, 5, 10, 11, 12] [4, 5])
        .skip)))))
      (.reg false [⟨some 39, none, .bin .add (.t 12) (.c (.p (.int .i64 1)))⟩, 
        ⟨some 12, none, .mov (.t 39)⟩] [0, 4, 5, 10, 11, 12] [4, 5])))))
def ir71 : IFn :=   -- tympan/queue.Of
⟨(.seq (.reg false [⟨some 4, none, .al [.p (.int .i64 0), .p (.int .i64 0), .p (.int .i64 0)] true⟩] [0, 1, 4] [4])
  (.seq (.reg false [⟨some 5, none, .al [.p (.int .i64 0), .p (.int .i64 0), .p (.int .i64 0)] true⟩] [0, 1, 4, 5] [4, 5])
  (.seq (.seq (.reg false [⟨some 10, none, .mov (.t 1)⟩, 
    ⟨some 11, none, .len (.t 10)⟩, 
    ⟨some 12, none, .mov (.c (.p (.int .i64 0)))⟩] [0, 4, 5, 10, 11, 12] [4, 5])
  (.block 0 lp71_0))
  (.seq (.reg false [⟨some 40, none, .ld (.t 5) 3 true⟩, 
    ⟨none, none, .st (.t 4) (.t 40) 3⟩] [4] [4])
  .ret)))),
  [.cell 4 3 true], false⟩
def lp72_0 : IC :=
  (.loop [2, 3, 4, 5, 6] [2, 3, 4, 5] (.seq (.seq (.reg false [⟨some 7, none, .mov (.t 6)⟩, 
        ⟨some 8, none, .bin .lss (.t 7) (.c (.p (.int .i64 3)))⟩] [2, 3, 4, 5, 6, 8] [2, 3, 4, 5])
      (.cond (.t 8)
      .skip
      (.exit 0)))
      (.seq (.block 1 (.reg true [⟨some 11, none, .mov (.t 6)⟩, 
          ⟨some 12, none, .mov (.t 6)⟩, 
          ⟨some 13, none, .ixa (.t 2) (.t 12) 1 3⟩, 
          ⟨some 14, none, .ld (.t 13) 1 false⟩, 
          ⟨some 15, none, .call 126 [(.t 14), (.c (.p (.int .i64 (-1073741824)))), (.c (.p (.int .i64 1073741824)))] true⟩, 
          ⟨some 16, none, .mov (.t 6)⟩, 
          ⟨some 17, none, .ixa (.t 3) (.t 16) 1 3⟩, 
          ⟨some 18, none, .ld (.t 17) 1 false⟩, 
          ⟨some 19, none, .call 126 [(.t 18), (.c (.p (.int .i64 (-1073741824)))), (.c (.p (.int .i64 1073741824)))] true⟩, 
          ⟨some 20, none, .bin .add (.t 15) (.t 19)⟩, 
          ⟨some 21, none, .call 126 [(.t 20), (.c (.p (.int .i64 (-1073741824)))), (.c (.p (.int .i64 1073741824)))] true⟩, 
          ⟨some 22, none, .ixa (.t 5) (.t 11) 1 3⟩, 
          ⟨none, none, .st (.t 22) (.t 21) 1⟩] [2, 3, 4, 5, 6] [2, 3, 4, 5]))
      (.reg false [⟨some 9, none, .mov (.t 6)⟩, 
        ⟨some 10, none, .bin .add (.t 9) (.c (.p (.int .i64 1)))⟩, 
        ⟨some 6, none, .mov (.t 10)⟩] [2, 3, 4, 5, 6] [2, 3, 4, 5]))))
def ir72 : IFn :=   -- tympan/tympanref23.Add
⟨(.seq (.reg false [⟨some 2, none, .bx (.t 0) 3 true⟩, 
    ⟨some 3, none, .bx (.t 1) 3 true⟩, 
    ⟨some 4, none, .al [.p (.int .i64 0), .p (.int .i64 0), .p (.int .i64 0)] true⟩] [2, 3, 4] [2, 3, 4])
  (.seq (.reg false [⟨some 5, none, .al [.p (.int .i64 0), .p (.int .i64 0), .p (.int .i64 0)] true⟩] [2, 3, 4, 5] [2, 3, 4, 5])
  (.seq (.seq (.reg false [⟨some 6, none, .mov (.c (.p (.int .i64 0)))⟩] [2, 3, 4, 5, 6] [2, 3, 4, 5])
  (.block 0 lp72_0))
  (.seq (.reg false [⟨some 23, none, .ld (.t 5) 3 true⟩, 
    ⟨none, none, .st (.t 4) (.t 23) 3⟩] [4] [4])
  .ret)))),
  [.cell 4 3 true], false⟩
def lp73_0 : IC :=
  (.loop [3, 6, 7] [] (.seq (.reg false [⟨some 8, none, .bin .lss (.t 7) (.c (.p (.int .i64 3)))⟩] [3, 6, 7, 8] [])
      (.seq (.cond (.t 8)
      .skip
      (.exit 0))
      (.seq (.block 1 (.seq (.reg false [⟨some 9, none, .ixv (.t 6) (.t 7) 1 3 false⟩, 
          ⟨some 5, none, .mov (.t 9)⟩] [3, 5, 6, 7] [])
        (.reg false [⟨some 10, none, .mov (.t 3)⟩, 
          ⟨some 11, none, .mov (.t 5)⟩, 
          ⟨some 12, none, .call 127 [(.t 11), (.c (.p (.int .i64 (-1073741824)))), (.c (.p (.int .i64 1073741824)))] false⟩, 
          ⟨some 13, none, .bin .add (.t 10) (.t 12)⟩, 
          ⟨some 3, none, .mov (.t 13)⟩] [3, 6, 7] [])))
      (.reg false [⟨some 14, none, .bin .add (.t 7) (.c (.p (.int .i64 1)))⟩, 
        ⟨some 7, none, .mov (.t 14)⟩] [3, 6, 7] [])))))
def ir73 : IFn :=   -- (tympan/queue.Counts).Sum
⟨(.seq (.reg false [⟨some 1, none, .bx (.t 0) 3 true⟩, 
    ⟨some 2, none, .mov (.c (.p (.int .i64 0)))⟩] [1] [1])
  (.seq (.reg false [⟨some 3, none, .mov (.c (.p (.int .i64 0)))⟩] [1, 3] [1])
  (.seq (.seq (.reg false [⟨some 6, none, .ld (.t 1) 3 true⟩, 
    ⟨some 7, none, .mov (.c (.p (.int .i64 0)))⟩] [3, 6, 7] [])
  (.block 0 lp73_0))
  (.seq (.reg false [⟨some 15, none, .mov (.t 3)⟩, 
    ⟨some 2, none, .mov (.t 15)⟩] [2] [])
  .ret)))),
  [.tmp 2], false⟩
def ir74 : IFn :=   -- tympan/tympanref23.Sum
⟨(.seq (.reg false [⟨some 1, none, .bx (.t 0) 3 true⟩, 
    ⟨some 2, none, .mov (.c (.p (.int .i64 0)))⟩] [1] [1])
  (.seq (.reg true [⟨some 3, none, .ixa (.t 1) (.c (.p (.int .i64 0))) 1 3⟩, 
    ⟨some 4, none, .ld (.t 3) 1 false⟩, 
    ⟨some 5, none, .call 126 [(.t 4), (.c (.p (.int .i64 (-1073741824)))), (.c (.p (.int .i64 1073741824)))] true⟩, 
    ⟨some 6, none, .ixa (.t 1) (.c (.p (.int .i64 1))) 1 3⟩, 
    ⟨some 7, none, .ld (.t 6) 1 false⟩, 
    ⟨some 8, none, .call 126 [(.t 7), (.c (.p (.int .i64 (-1073741824)))), (.c (.p (.int .i64 1073741824)))] true⟩, 
    ⟨some 9, none, .bin .add (.t 5) (.t 8)⟩, 
    ⟨some 10, none, .ixa (.t 1) (.c (.p (.int .i64 2))) 1 3⟩, 
    ⟨some 11, none, .ld (.t 10) 1 false⟩, 
    ⟨some 12, none, .call 126 [(.t 11), (.c (.p (.int .i64 (-1073741824)))), (.c (.p (.int .i64 1073741824)))] true⟩, 
    ⟨some 13, none, .bin .add (.t 9) (.t 12)⟩, 
    ⟨some 2, none, .mov (.t 13)⟩] [2] [])
  .ret)),
  [.tmp 2], false⟩
def lp75_0 : IC :=
  (.loop [3, 7, 8] [3] (.seq (.reg false [⟨some 9, none, .bin .lss (.t 8) (.c (.p (.int .i64 3)))⟩] [3, 7, 8, 9] [3])
      (.seq (.cond (.t 9)
      .skip
      (.exit 0))
      (.seq (.block 1 (.seq (.reg false [⟨some 10, none, .mov (.t 8)⟩, 
          ⟨some 11, none, .ixv (.t 7) (.t 8) 1 3 false⟩, 
          ⟨some 5, none, .mov (.t 10)⟩, 
          ⟨some 6, none, .mov (.t 11)⟩] [3, 5, 6, 7, 8] [3])
        (.seq (.reg false [⟨some 12, none, .mov (.t 6)⟩, 
          ⟨some 13, none, .mov (.t 5)⟩, 
          ⟨some 14, none, .ixa (.t 3) (.t 13) 1 3⟩, 
          ⟨some 15, none, .ld (.t 14) 1 false⟩, 
          ⟨some 16, none, .bin .gtr (.t 12) (.t 15)⟩] [3, 7, 8, 16] [3])
        (.cond (.t 16)
        (.seq (.reg false [⟨some 4, none, .mov (.c (.p (.bool false)))⟩] [4] [])
          .ret)
        .skip))))
      (.reg false [⟨some 17, none, .bin .add (.t 8) (.c (.p (.int .i64 1)))⟩, 
        ⟨some 8, none, .mov (.t 17)⟩] [3, 7, 8] [3])))))
def ir75 : IFn :=   -- (tympan/queue.Counts).Within
⟨(.seq (.reg false [⟨some 2, none, .bx (.t 0) 3 true⟩, 
    ⟨some 3, none, .bx (.t 1) 3 true⟩, 
    ⟨some 4, none, .mov (.c (.p (.bool false)))⟩] [2, 3] [2, 3])
  (.seq (.seq (.reg false [⟨some 7, none, .ld (.t 2) 3 true⟩, 
    ⟨some 8, none, .mov (.c (.p (.int .i64 0)))⟩] [3, 7, 8] [3])
  (.block 0 lp75_0))
  (.seq (.reg false [⟨some 4, none, .mov (.c (.p (.bool true)))⟩] [4] [])
  .ret))),
  [.tmp 4], false⟩
def ir76 : IFn :=   -- tympan/tympanref23.Within
⟨(.seq (.reg false [⟨some 2, none, .bx (.t 0) 3 true⟩, 
    ⟨some 3, none, .bx (.t 1) 3 true⟩, 
    ⟨some 4, none, .mov (.c (.p (.bool false)))⟩] [2, 3] [2, 3])
  (.seq (.reg false [⟨some 5, none, .ixa (.t 2) (.c (.p (.int .i64 0))) 1 3⟩, 
    ⟨some 6, none, .ld (.t 5) 1 false⟩, 
    ⟨some 7, none, .ixa (.t 3) (.c (.p (.int .i64 0))) 1 3⟩, 
    ⟨some 8, none, .ld (.t 7) 1 false⟩, 
    ⟨some 9, none, .bin .leq (.t 6) (.t 8)⟩, 
    ⟨some 10, none, .mov (.t 9)⟩, 
    ⟨some 11, (some (10, true)), .ixa (.t 2) (.c (.p (.int .i64 1))) 1 3⟩, 
    ⟨some 12, (some (10, true)), .ld (.t 11) 1 false⟩, 
    ⟨some 13, (some (10, true)), .ixa (.t 3) (.c (.p (.int .i64 1))) 1 3⟩, 
    ⟨some 14, (some (10, true)), .ld (.t 13) 1 false⟩, 
    ⟨some 15, (some (10, true)), .bin .leq (.t 12) (.t 14)⟩, 
    ⟨some 16, none, .pick (.t 10) (.t 15) (.c (.p (.bool false)))⟩, 
    ⟨some 17, none, .mov (.t 16)⟩, 
    ⟨some 18, (some (17, true)), .ixa (.t 2) (.c (.p (.int .i64 2))) 1 3⟩, 
    ⟨some 19, (some (17, true)), .ld (.t 18) 1 false⟩, 
    ⟨some 20, (some (17, true)), .ixa (.t 3) (.c (.p (.int .i64 2))) 1 3⟩, 
    ⟨some 21, (some (17, true)), .ld (.t 20) 1 false⟩, 
    ⟨some 22, (some (17, true)), .bin .leq (.t 19) (.t 21)⟩, 
    ⟨some 23, none, .pick (.t 17) (.t 22) (.c (.p (.bool false)))⟩, 
    ⟨some 4, none, .mov (.t 23)⟩] [4] [])
  .ret)),
  [.tmp 4], false⟩
def ir77 : IFn :=   -- tympan/queue.Ready
⟨(.seq (.reg false [⟨some 2, none, .bx (.t 0) 3 true⟩, 
    ⟨some 3, none, .bx (.t 1) 3 true⟩, 
    ⟨some 4, none, .al [.p (.int .i64 0), .p (.int .i64 0), .p (.int .i64 0)] true⟩] [2, 3, 4] [2, 3, 4])
  (.seq (.reg false [⟨some 5, none, .ld (.t 2) 3 true⟩, 
    ⟨some 6, none, .ld (.t 3) 3 true⟩, 
    ⟨some 7, none, .call 123 [(.t 5), (.t 6), (.c (.p (.int .i64 0))), (.c (.p (.fn 128)))] false⟩, 
    ⟨none, none, .st (.t 4) (.t 7) 3⟩] [4] [4])
  .ret)),
  [.cell 4 3 true], false⟩
def lp78_0 : IC :=
  (.loop [2, 3, 4, 5, 6] [2, 3, 4, 5] (.seq (.seq (.reg false [⟨some 7, none, .mov (.t 6)⟩, 
        ⟨some 8, none, .bin .lss (.t 7) (.c (.p (.int .i64 3)))⟩] [2, 3, 4, 5, 6, 8] [2, 3, 4, 5])
      (.cond (.t 8)
      .skip
      (.exit 0)))
      (.seq (.block 1 (.reg true [⟨some 11, none, .mov (.t 6)⟩, 
          ⟨some 12, none, .mov (.t 6)⟩, 
          ⟨some 13, none, .ixa (.t 3) (.t 12) 1 3⟩, 
          ⟨some 14, none, .ld (.t 13) 1 false⟩, 
          ⟨some 15, none, .call 126 [(.t 14), (.c (.p (.int .i64 0))), (.c (.p (.int .i64 1073741824)))] true⟩, 
          ⟨some 16, none, .mov (.t 6)⟩, 
          ⟨some 17, none, .ixa (.t 2) (.t 16) 1 3⟩, 
          ⟨some 18, none, .ld (.t 17) 1 false⟩, 
          ⟨some 19, none, .call 126 [(.t 18), (.c (.p (.int .i64 0))), (.c (.p (.int .i64 1073741824)))] true⟩, 
          ⟨some 20, none, .bin .sub (.t 15) (.t 19)⟩, 
          ⟨some 21, none, .mnmx true (.c (.p (.int .i64 0))) (.t 20)⟩, 
          ⟨some 22, none, .ixa (.t 5) (.t 11) 1 3⟩, 
          ⟨none, none, .st (.t 22) (.t 21) 1⟩] [2, 3, 4, 5, 6] [2, 3, 4, 5]))
      (.reg false [⟨some 9, none, .mov (.t 6)⟩, 
        ⟨some 10, none, .bin .add (.t 9) (.c (.p (.int .i64 1)))⟩, 
        ⟨some 6, none, .mov (.t 10)⟩] [2, 3, 4, 5, 6] [2, 3, 4, 5]))))
def ir78 : IFn :=   -- tympan/tympanref23.Ready
⟨(.seq (.reg false [⟨some 2, none, .bx (.t 0) 3 true⟩, 
    ⟨some 3, none, .bx (.t 1) 3 true⟩, 
    ⟨some 4, none, .al [.p (.int .i64 0), .p (.int .i64 0), .p (.int .i64 0)] true⟩] [2, 3, 4] [2, 3, 4])
  (.seq (.reg false [⟨some 5, none, .al [.p (.int .i64 0), .p (.int .i64 0), .p (.int .i64 0)] true⟩] [2, 3, 4, 5] [2, 3, 4, 5])
  (.seq (.seq (.reg false [⟨some 6, none, .mov (.c (.p (.int .i64 0)))⟩] [2, 3, 4, 5, 6] [2, 3, 4, 5])
  (.block 0 lp78_0))
  (.seq (.reg false [⟨some 23, none, .ld (.t 5) 3 true⟩, 
    ⟨none, none, .st (.t 4) (.t 23) 3⟩] [4] [4])
  .ret)))),
  [.cell 4 3 true], false⟩
def lp80_0 : IC :=
  (.loop [1, 2, 5, 6, 7, 8] [2] (.seq (.seq (.reg false [⟨some 23, none, .mov (.t 8)⟩, 
                    ⟨some 24, none, .ixa (.t 2) (.c (.p (.int .i64 2))) 1 3⟩, 
                    ⟨some 25, none, .ld (.t 24) 1 false⟩, 
                    ⟨some 26, none, .mnmx false (.t 25) (.c (.p (.int .i64 32)))⟩, 
                    ⟨some 27, none, .bin .leq (.t 23) (.t 26)⟩] [1, 2, 5, 6, 7, 8, 27] [2])
                  (.cond (.t 27)
                  .skip
                  (.exit 4)))
                  (.seq (.block 5 (.seq (.reg false [⟨some 30, none, .mov (.t 6)⟩, 
                      ⟨some 31, none, .mov (.t 7)⟩, 
                      ⟨some 32, none, .bin .add (.t 30) (.t 31)⟩, 
                      ⟨some 33, none, .mov (.t 8)⟩, 
                      ⟨some 34, none, .bin .add (.t 32) (.t 33)⟩, 
                      ⟨some 35, none, .mov (.t 1)⟩, 
                      ⟨some 36, none, .bin .leq (.t 34) (.t 35)⟩] [1, 2, 5, 6, 7, 8, 36] [2])
                    (.cond (.t 36)
                    (.reg false [⟨some 37, none, .mov (.t 5)⟩, 
                        ⟨some 38, none, .mov (.t 6)⟩, 
                        ⟨some 39, none, .mov (.t 7)⟩, 
                        ⟨some 40, none, .mov (.t 8)⟩, 
                        ⟨some 41, none, .bld [.p (.int .i64 0), .p (.int .i64 0), .p (.int .i64 0)] [(0, 1, (.t 38)), (1, 1, (.t 39)), (2, 1, (.t 40))]⟩, 
                        ⟨some 42, none, .bsl 3 1 [.p (.int .i64 0), .p (.int .i64 0), .p (.int .i64 0)] [(0, (.t 41))]⟩, 
                        ⟨some 43, none, .app (.t 37) (.t 42) 3⟩, 
                        ⟨some 5, none, .mov (.t 43)⟩] [1, 2, 5, 6, 7, 8] [2])
                    .skip)))
                  (.reg false [⟨some 28, none, .mov (.t 8)⟩, 
                    ⟨some 29, none, .bin .add (.t 28) (.c (.p (.int .i64 1)))⟩, 
                    ⟨some 8, none, .mov (.t 29)⟩] [1, 2, 5, 6, 7, 8] [2]))))
def lp80_1 : IC :=
  (.loop [1, 2, 5, 6, 7] [2] (.seq (.seq (.reg false [⟨some 16, none, .mov (.t 7)⟩, 
              ⟨some 17, none, .ixa (.t 2) (.c (.p (.int .i64 1))) 1 3⟩, 
              ⟨some 18, none, .ld (.t 17) 1 false⟩, 
              ⟨some 19, none, .mnmx false (.t 18) (.c (.p (.int .i64 32)))⟩, 
              ⟨some 20, none, .bin .leq (.t 16) (.t 19)⟩] [1, 2, 5, 6, 7, 20] [2])
            (.cond (.t 20)
            .skip
            (.exit 2)))
            (.seq (.block 3 (.seq (.reg false [⟨some 8, none, .mov (.c (.p (.int .i64 0)))⟩] [1, 2, 5, 6, 7, 8] [2])
              (.block 4 lp80_0)))
            (.reg false [⟨some 21, none, .mov (.t 7)⟩, 
              ⟨some 22, none, .bin .add (.t 21) (.c (.p (.int .i64 1)))⟩, 
              ⟨some 7, none, .mov (.t 22)⟩] [1, 2, 5, 6, 7] [2]))))
def lp80_2 : IC :=
  (.loop [1, 2, 5, 6] [2] (.seq (.seq (.reg false [⟨some 9, none, .mov (.t 6)⟩, 
        ⟨some 10, none, .ixa (.t 2) (.c (.p (.int .i64 0))) 1 3⟩, 
        ⟨some 11, none, .ld (.t 10) 1 false⟩, 
        ⟨some 12, none, .mnmx false (.t 11) (.c (.p (.int .i64 32)))⟩, 
        ⟨some 13, none, .bin .leq (.t 9) (.t 12)⟩] [1, 2, 5, 6, 13] [2])
      (.cond (.t 13)
      .skip
      (.exit 0)))
      (.seq (.block 1 (.seq (.reg false [⟨some 7, none, .mov (.c (.p (.int .i64 0)))⟩] [1, 2, 5, 6, 7] [2])
        (.block 2 lp80_1)))
      (.reg false [⟨some 14, none, .mov (.t 6)⟩, 
        ⟨some 15, none, .bin .add (.t 14) (.c (.p (.int .i64 1)))⟩, 
        ⟨some 6, none, .mov (.t 15)⟩] [1, 2, 5, 6] [2]))))
def ir80 : IFn :=   -- tympan/tympanref23.Up
⟨(.seq (.reg false [⟨some 2, none, .bx (.t 0) 3 true⟩, 
    ⟨some 4, none, .mov (.c (.nils))⟩] [1, 2] [2])
  (.seq (.reg false [⟨some 5, none, .nrow 3⟩] [1, 2, 5] [2])
  (.seq (.seq (.reg false [⟨some 6, none, .mov (.c (.p (.int .i64 0)))⟩] [1, 2, 5, 6] [2])
  (.block 0 lp80_2))
  (.seq (.reg false [⟨some 44, none, .mov (.t 5)⟩, 
    ⟨some 4, none, .mov (.t 44)⟩] [4] [])
  .ret)))),
  [.tmp 4], false⟩
def ir81 : IFn :=   -- tympan/tympanlaw24.awake
⟨(.seq (.reg false [⟨some 0, none, .mov (.c (.p (.bool false)))⟩] [] [])
  (.seq (.reg false [⟨some 4, none, .bld [.p (.int .i64 0), .p (.int .i64 0), .p (.int .i64 0)] [(1, 1, (.c (.p (.int .i64 3)))), (2, 1, (.c (.p (.int .i64 3))))]⟩, 
    ⟨some 5, none, .bld [.p (.int .i64 0), .p (.int .i64 0), .p (.int .i64 0)] [(1, 1, (.c (.p (.int .i64 4)))), (2, 1, (.c (.p (.int .i64 3))))]⟩, 
    ⟨some 6, none, .bsl 3 2 [.p (.int .i64 0), .p (.int .i64 0), .p (.int .i64 0)] [(0, (.t 4)), (1, (.t 5))]⟩, 
    ⟨some 1, none, .mov (.t 6)⟩] [1] [])
  (.seq (.reg false [⟨some 7, none, .bld [.p (.int .i64 0), .p (.int .i64 0), .p (.int .i64 0), .p (.int .i64 0), .p (.int .i64 0), .p (.int .i64 0), .p (.int .i64 0), .p (.int .i64 0), .p (.int .i64 0), .p (.int .i64 0), .p (.int .i64 0), .p (.int .i64 0), .p (.int .i64 0), .p (.int .i64 0), .p (.int .i64 0), .p (.int .i64 0), .p (.int .i64 0), .p (.int .i64 0), .p (.bool false)] [(11, 1, (.c (.p (.int .i64 1)))), (12, 1, (.c (.p (.int .i64 1)))), (9, 1, (.c (.p (.int .i64 9)))), (10, 1, (.c (.p (.int .i64 9)))), (7, 1, (.c (.p (.int .i64 1))))]⟩, 
    ⟨some 2, none, .al [.p (.int .i64 0), .p (.int .i64 0), .p (.int .i64 0), .p (.int .i64 0), .p (.int .i64 0), .p (.int .i64 0), .p (.int .i64 0), .p (.int .i64 0), .p (.int .i64 0), .p (.int .i64 0), .p (.int .i64 0), .p (.int .i64 0), .p (.int .i64 0), .p (.int .i64 0), .p (.int .i64 0), .p (.int .i64 0), .p (.int .i64 0), .p (.int .i64 0), .p (.bool false)] true⟩, 
    ⟨none, none, .st (.t 2) (.t 7) 19⟩] [1, 2] [2])
  (.seq (.reg false [⟨some 8, none, .ld (.t 2) 19 true⟩, 
    ⟨some 9, none, .mov (.t 1)⟩, 
    ⟨some 10, none, .bld [.p (.int .i64 0), .p (.int .i64 0), .p (.int .i64 0)] []⟩, 
    ⟨some 11, none, .bld [.p (.int .i64 0), .p (.int .i64 0), .p (.int .i64 0)] [(0, 1, (.c (.p (.int .i64 2)))), (1, 1, (.c (.p (.int .i64 0)))), (2, 1, (.c (.p (.int .i64 0))))]⟩, 
    ⟨some 12, none, .call 82 [(.t 8), (.t 9), (.t 10), (.t 11)] false⟩, 
    ⟨some 3, none, .mov (.t 12)⟩] [1, 2, 3] [2])
  (.seq (.reg true [⟨some 13, none, .mov (.t 3)⟩, 
    ⟨some 14, none, .len (.t 13)⟩, 
    ⟨some 15, none, .bin .eql (.t 14) (.c (.p (.int .i64 4)))⟩, 
    ⟨some 16, none, .mov (.t 15)⟩, 
    ⟨some 17, (some (16, true)), .mov (.t 3)⟩, 
    ⟨some 18, (some (16, true)), .ixs (.t 17) (.c (.p (.int .i64 1))) 2⟩, 
    ⟨some 19, (some (16, true)), .off (.t 18) 1⟩, 
    ⟨some 20, (some (16, true)), .ld (.t 19) 1 false⟩, 
    ⟨some 21, (some (16, true)), .len (.t 20)⟩, 
    ⟨some 22, (some (16, true)), .bin .eql (.t 21) (.c (.p (.int .i64 1)))⟩, 
    ⟨some 23, none, .pick (.t 16) (.t 22) (.c (.p (.bool false)))⟩, 
    ⟨some 24, none, .mov (.t 23)⟩, 
    ⟨some 25, (some (24, true)), .ld (.t 2) 19 true⟩, 
    ⟨some 26, (some (24, true)), .mov (.t 1)⟩, 
    ⟨some 27, (some (24, true)), .mov (.t 3)⟩, 
    ⟨some 28, (some (24, true)), .ixs (.t 27) (.c (.p (.int .i64 3))) 2⟩, 
    ⟨some 29, (some (24, true)), .ld (.t 28) 2 true⟩, 
    ⟨some 30, (some (24, true)), .call 130 [(.t 25), (.t 26), (.t 29)] true⟩, 
    ⟨some 31, (some (24, true)), .bin .eql (.t 30) (.c (.p (.int .i64 9)))⟩, 
    ⟨some 32, none, .pick (.t 24) (.t 31) (.c (.p (.bool false)))⟩, 
    ⟨some 33, none, .mov (.t 32)⟩, 
    ⟨some 34, (some (33, true)), .ld (.t 2) 19 true⟩, 
    ⟨some 35, (some (33, true)), .mov (.t 1)⟩, 
    ⟨some 36, (some (33, true)), .bsl 1 2 [.p (.int .i64 0)] [(0, (.c (.p (.int .i64 0)))), (1, (.c (.p (.int .i64 1))))]⟩, 
    ⟨some 37, (some (33, true)), .call 131 [(.t 34), (.t 35), (.t 36)] true⟩, 
    ⟨some 38, (some (33, true)), .bin .eql (.t 37) (.c (.p (.int .i64 8)))⟩, 
    ⟨some 39, none, .pick (.t 33) (.t 38) (.c (.p (.bool false)))⟩, 
    ⟨some 40, none, .mov (.t 39)⟩, 
    ⟨some 41, (some (40, true)), .ld (.t 2) 19 true⟩, 
    ⟨some 42, (some (40, true)), .mov (.t 1)⟩, 
    ⟨some 43, (some (40, true)), .bld [.p (.int .i64 0), .p (.int .i64 0), .p (.int .i64 0)] []⟩, 
    ⟨some 44, (some (40, true)), .bld [.p (.int .i64 0), .p (.int .i64 0), .p (.int .i64 0)] [(0, 1, (.c (.p (.int .i64 2)))), (1, 1, (.c (.p (.int .i64 0)))), (2, 1, (.c (.p (.int .i64 0))))]⟩, 
    ⟨some 45, (some (40, true)), .call 132 [(.t 41), (.t 42), (.t 43), (.t 44), (.c (.p (.int .i64 8)))] true⟩, 
    ⟨some 46, (some (40, true)), .len (.t 45)⟩, 
    ⟨some 47, (some (40, true)), .bin .eql (.t 46) (.c (.p (.int .i64 2)))⟩, 
    ⟨some 48, none, .pick (.t 40) (.t 47) (.c (.p (.bool false)))⟩, 
    ⟨some 0, none, .mov (.t 48)⟩] [0] [])
  .ret))))),
  [.tmp 0], false⟩
def ir83 : IFn :=   -- tympan/area.Fits
⟨(.seq (.reg false [⟨some 3, none, .bx (.t 0) 19 true⟩, 
    ⟨some 5, none, .bx (.t 2) 2 true⟩, 
    ⟨some 6, none, .mov (.c (.p (.bool false)))⟩] [1, 3, 5] [3, 5])
  (.seq (.reg true [⟨some 7, none, .ld (.t 3) 19 true⟩, 
    ⟨some 8, none, .call 134 [(.t 7)] true⟩, 
    ⟨some 9, none, .ld (.t 3) 19 true⟩, 
    ⟨some 10, none, .mov (.t 1)⟩, 
    ⟨some 11, none, .off (.t 5) 0⟩, 
    ⟨some 12, none, .ld (.t 11) 1 false⟩, 
    ⟨some 13, none, .call 136 [(.t 8), (.t 9), (.t 10), (.t 12)] true⟩, 
    ⟨some 14, none, .mov (.t 13)⟩, 
    ⟨some 15, (some (14, true)), .ld (.t 3) 19 true⟩, 
    ⟨some 16, (some (14, true)), .call 135 [(.t 15)] true⟩, 
    ⟨some 17, (some (14, true)), .ld (.t 3) 19 true⟩, 
    ⟨some 18, (some (14, true)), .mov (.t 1)⟩, 
    ⟨some 19, (some (14, true)), .off (.t 5) 1⟩, 
    ⟨some 20, (some (14, true)), .ld (.t 19) 1 false⟩, 
    ⟨some 21, (some (14, true)), .call 136 [(.t 16), (.t 17), (.t 18), (.t 20)] true⟩, 
    ⟨some 22, none, .pick (.t 14) (.t 21) (.c (.p (.bool false)))⟩, 
    ⟨some 6, none, .mov (.t 22)⟩] [6] [])
  .ret)),
  [.tmp 6], false⟩
def ir84 : IFn :=   -- (tympan/note.places).stop
⟨(.seq (.reg false [⟨some 2, none, .bx (.t 0) 2 true⟩, 
    ⟨some 4, none, .mov (.c (.p (.bool false)))⟩] [1, 2] [2])
  (.seq (.reg false [⟨some 5, none, .mov (.t 1)⟩, 
    ⟨some 6, none, .off (.t 2) 0⟩, 
    ⟨some 7, none, .ld (.t 6) 1 false⟩, 
    ⟨some 8, none, .len (.t 7)⟩, 
    ⟨some 9, none, .bin .eql (.t 5) (.t 8)⟩, 
    ⟨some 10, none, .mov (.t 9)⟩, 
    ⟨some 11, (some (10, false)), .ld (.t 2) 2 true⟩, 
    ⟨some 12, (some (10, false)), .mov (.t 1)⟩, 
    ⟨some 13, (some (10, false)), .call 86 [(.t 11), (.t 12)] false⟩, 
    ⟨some 14, none, .pick (.t 10) (.c (.p (.bool true))) (.t 13)⟩, 
    ⟨some 4, none, .mov (.t 14)⟩] [4] [])
  .ret)),
  [.tmp 4], false⟩
def ir85 : IFn :=   -- tympan/tympanref11.split
⟨(.seq (.reg false [⟨some 2, none, .bx (.t 0) 2 true⟩, 
    ⟨some 4, none, .mov (.c (.p (.bool false)))⟩] [1, 2] [2])
  (.seq (.reg false [⟨some 5, none, .mov (.t 1)⟩, 
    ⟨some 6, none, .bin .geq (.t 5) (.c (.p (.int .i64 1)))⟩, 
    ⟨some 7, none, .mov (.t 6)⟩, 
    ⟨some 8, (some (7, true)), .mov (.t 1)⟩, 
    ⟨some 9, (some (7, true)), .off (.t 2) 0⟩, 
    ⟨some 10, (some (7, true)), .ld (.t 9) 1 false⟩, 
    ⟨some 11, (some (7, true)), .len (.t 10)⟩, 
    ⟨some 12, (some (7, true)), .bin .lss (.t 8) (.t 11)⟩, 
    ⟨some 13, none, .pick (.t 7) (.t 12) (.c (.p (.bool false)))⟩, 
    ⟨some 14, none, .mov (.t 13)⟩, 
    ⟨some 15, (some (14, true)), .mov (.t 1)⟩, 
    ⟨some 16, (some (14, true)), .bin .sub (.t 15) (.c (.p (.int .i64 1)))⟩, 
    ⟨some 17, (some (14, true)), .off (.t 2) 1⟩, 
    ⟨some 18, (some (14, true)), .ld (.t 17) 1 false⟩, 
    ⟨some 19, (some (14, true)), .len (.t 18)⟩, 
    ⟨some 20, (some (14, true)), .bin .lss (.t 16) (.t 19)⟩, 
    ⟨some 21, none, .pick (.t 14) (.t 20) (.c (.p (.bool false)))⟩, 
    ⟨some 22, none, .mov (.t 21)⟩, 
    ⟨some 23, (some (22, true)), .off (.t 2) 1⟩, 
    ⟨some 24, (some (22, true)), .ld (.t 23) 1 false⟩, 
    ⟨some 25, (some (22, true)), .mov (.t 1)⟩, 
    ⟨some 26, (some (22, true)), .bin .sub (.t 25) (.c (.p (.int .i64 1)))⟩, 
    ⟨some 27, (some (22, true)), .ixs (.t 24) (.t 26) 1⟩, 
    ⟨some 28, (some (22, true)), .ld (.t 27) 1 false⟩, 
    ⟨some 29, (some (22, true)), .bin .lss (.t 28) (.c (.p (.int .i64 10000)))⟩, 
    ⟨some 30, none, .pick (.t 22) (.t 29) (.c (.p (.bool false)))⟩, 
    ⟨some 4, none, .mov (.t 30)⟩] [4] [])
  .ret)),
  [.tmp 4], false⟩
def ir86 : IFn :=   -- (tympan/note.places).split
⟨(.seq (.reg false [⟨some 2, none, .bx (.t 0) 2 true⟩, 
    ⟨some 4, none, .mov (.c (.p (.bool false)))⟩] [1, 2] [2])
  (.seq (.reg false [⟨some 5, none, .mov (.t 1)⟩, 
    ⟨some 6, none, .bin .gtr (.t 5) (.c (.p (.int .i64 0)))⟩, 
    ⟨some 7, none, .mov (.t 6)⟩, 
    ⟨some 8, (some (7, true)), .mov (.t 1)⟩, 
    ⟨some 9, (some (7, true)), .off (.t 2) 0⟩, 
    ⟨some 10, (some (7, true)), .ld (.t 9) 1 false⟩, 
    ⟨some 11, (some (7, true)), .len (.t 10)⟩, 
    ⟨some 12, (some (7, true)), .bin .lss (.t 8) (.t 11)⟩, 
    ⟨some 13, none, .pick (.t 7) (.t 12) (.c (.p (.bool false)))⟩, 
    ⟨some 14, none, .mov (.t 13)⟩, 
    ⟨some 15, (some (14, true)), .mov (.t 1)⟩, 
    ⟨some 16, (some (14, true)), .off (.t 2) 1⟩, 
    ⟨some 17, (some (14, true)), .ld (.t 16) 1 false⟩, 
    ⟨some 18, (some (14, true)), .len (.t 17)⟩, 
    ⟨some 19, (some (14, true)), .bin .leq (.t 15) (.t 18)⟩, 
    ⟨some 20, none, .pick (.t 14) (.t 19) (.c (.p (.bool false)))⟩, 
    ⟨some 21, none, .mov (.t 20)⟩, 
    ⟨some 22, (some (21, true)), .off (.t 2) 1⟩, 
    ⟨some 23, (some (21, true)), .ld (.t 22) 1 false⟩, 
    ⟨some 24, (some (21, true)), .mov (.t 1)⟩, 
    ⟨some 25, (some (21, true)), .bin .sub (.t 24) (.c (.p (.int .i64 1)))⟩, 
    ⟨some 26, (some (21, true)), .ixs (.t 23) (.t 25) 1⟩, 
    ⟨some 27, (some (21, true)), .ld (.t 26) 1 false⟩, 
    ⟨some 28, (some (21, true)), .bin .lss (.t 27) (.c (.p (.int .i64 10000)))⟩, 
    ⟨some 29, none, .pick (.t 21) (.t 28) (.c (.p (.bool false)))⟩, 
    ⟨some 4, none, .mov (.t 29)⟩] [4] [])
  .ret)),
  [.tmp 4], false⟩
def lp87_0 : IC :=
  (.loop [1, 2, 7, 8] [] (.seq (.seq (.reg false [⟨some 10, none, .mov (.t 8)⟩, 
        ⟨some 11, none, .mov (.t 1)⟩, 
        ⟨some 12, none, .bin .leq (.t 10) (.t 11)⟩] [1, 2, 7, 8, 12] [])
      (.cond (.t 12)
      .skip
      (.exit 0)))
      (.seq (.block 1 (.seq (.reg false [⟨some 15, none, .mov (.t 2)⟩, 
          ⟨some 16, none, .mov (.t 8)⟩, 
          ⟨some 17, none, .callv (.t 15) [(.t 16)] false⟩] [1, 2, 7, 8, 17] [])
        (.cond (.t 17)
        (.reg false [⟨some 18, none, .mov (.t 7)⟩, 
            ⟨some 19, none, .mov (.t 8)⟩, 
            ⟨some 20, none, .bsl 1 1 [.p (.int .i64 0)] [(0, (.t 19))]⟩, 
            ⟨some 21, none, .app (.t 18) (.t 20) 1⟩, 
            ⟨some 7, none, .mov (.t 21)⟩] [1, 2, 7, 8] [])
        .skip)))
      (.reg false [⟨some 13, none, .mov (.t 8)⟩, 
        ⟨some 14, none, .bin .add (.t 13) (.c (.p (.int .i64 1)))⟩, 
        ⟨some 8, none, .mov (.t 14)⟩] [1, 2, 7, 8] []))))
def ir87 : IFn :=   -- tympan/note.all
⟨(.seq (.reg false [⟨some 6, none, .mov (.c (.nils))⟩] [0, 1, 2] [])
  (.seq (.reg false [⟨some 7, none, .nrow 1⟩] [0, 1, 2, 7] [])
  (.seq (.seq (.reg false [⟨some 9, none, .mov (.t 0)⟩, 
    ⟨some 8, none, .mov (.t 9)⟩] [1, 2, 7, 8] [])
  (.block 0 lp87_0))
  (.seq (.reg false [⟨some 22, none, .mov (.t 7)⟩, 
    ⟨some 6, none, .mov (.t 22)⟩] [6] [])
  .ret)))),
  [.tmp 6], false⟩
def lp88_0 : IC :=
  (.loop [0, 1, 12, 13] [] (.seq (.reg false [⟨some 14, none, .bin .lss (.t 13) (.t 12)⟩] [0, 1, 12, 13, 14] [])
      (.seq (.cond (.t 14)
      .skip
      (.exit 0))
      (.seq (.block 1 (.seq (.reg false [⟨some 15, none, .mov (.t 13)⟩, 
          ⟨some 5, none, .mov (.t 15)⟩] [0, 1, 5, 12, 13] [])
        (.seq (.reg true [⟨some 16, none, .mov (.t 0)⟩, 
          ⟨some 17, none, .mov (.t 5)⟩, 
          ⟨some 18, none, .ixs (.t 16) (.t 17) 1⟩, 
          ⟨some 19, none, .ld (.t 18) 1 false⟩, 
          ⟨some 20, none, .mov (.t 1)⟩, 
          ⟨some 21, none, .mov (.t 5)⟩, 
          ⟨some 22, none, .ixs (.t 20) (.t 21) 1⟩, 
          ⟨some 23, none, .ld (.t 22) 1 false⟩, 
          ⟨some 24, none, .bin .neq (.t 19) (.t 23)⟩] [0, 1, 12, 13, 24] [])
        (.cond (.t 24)
        (.seq (.reg false [⟨some 4, none, .mov (.c (.p (.bool false)))⟩] [4] [])
          .ret)
        .skip))))
      (.reg false [⟨some 25, none, .bin .add (.t 13) (.c (.p (.int .i64 1)))⟩, 
        ⟨some 13, none, .mov (.t 25)⟩] [0, 1, 12, 13] [])))))
def ir88 : IFn :=   -- slices.Equal[[]tympan/api.Sp,tympan/api.Sp]
⟨(.seq (.reg false [⟨some 4, none, .mov (.c (.p (.bool false)))⟩] [0, 1] [])
  (.seq (.seq (.reg false [⟨some 6, none, .mov (.t 0)⟩, 
    ⟨some 7, none, .len (.t 6)⟩, 
    ⟨some 8, none, .mov (.t 1)⟩, 
    ⟨some 9, none, .len (.t 8)⟩, 
    ⟨some 10, none, .bin .neq (.t 7) (.t 9)⟩] [0, 1, 10] [])
  (.cond (.t 10)
  (.seq (.reg false [⟨some 4, none, .mov (.c (.p (.bool false)))⟩] [4] [])
    .ret)
  .skip))
  (.seq (.seq (.reg false [⟨some 11, none, .mov (.t 0)⟩, 
    ⟨some 12, none, .len (.t 11)⟩, 
    ⟨some 13, none, .mov (.c (.p (.int .i64 0)))⟩] [0, 1, 12, 13] [])
  (.block 0 lp88_0))
  (.seq (.reg false [⟨some 4, none, .mov (.c (.p (.bool true)))⟩] [4] [])
  .ret)))),
  [.tmp 4], false⟩
def lp89_0 : IC :=
  (.loop [0, 1, 12, 13] [] (.seq (.reg false [⟨some 14, none, .bin .lss (.t 13) (.t 12)⟩] [0, 1, 12, 13, 14] [])
      (.seq (.cond (.t 14)
      .skip
      (.exit 0))
      (.seq (.block 1 (.seq (.reg false [⟨some 15, none, .mov (.t 13)⟩, 
          ⟨some 5, none, .mov (.t 15)⟩] [0, 1, 5, 12, 13] [])
        (.seq (.reg true [⟨some 16, none, .mov (.t 0)⟩, 
          ⟨some 17, none, .mov (.t 5)⟩, 
          ⟨some 18, none, .ixs (.t 16) (.t 17) 1⟩, 
          ⟨some 19, none, .ld (.t 18) 1 false⟩, 
          ⟨some 20, none, .mov (.t 1)⟩, 
          ⟨some 21, none, .mov (.t 5)⟩, 
          ⟨some 22, none, .ixs (.t 20) (.t 21) 1⟩, 
          ⟨some 23, none, .ld (.t 22) 1 false⟩, 
          ⟨some 24, none, .bin .neq (.t 19) (.t 23)⟩] [0, 1, 12, 13, 24] [])
        (.cond (.t 24)
        (.seq (.reg false [⟨some 4, none, .mov (.c (.p (.bool false)))⟩] [4] [])
          .ret)
        .skip))))
      (.reg false [⟨some 25, none, .bin .add (.t 13) (.c (.p (.int .i64 1)))⟩, 
        ⟨some 13, none, .mov (.t 25)⟩] [0, 1, 12, 13] [])))))
def ir89 : IFn :=   -- slices.Equal[[]int,int]
⟨(.seq (.reg false [⟨some 4, none, .mov (.c (.p (.bool false)))⟩] [0, 1] [])
  (.seq (.seq (.reg false [⟨some 6, none, .mov (.t 0)⟩, 
    ⟨some 7, none, .len (.t 6)⟩, 
    ⟨some 8, none, .mov (.t 1)⟩, 
    ⟨some 9, none, .len (.t 8)⟩, 
    ⟨some 10, none, .bin .neq (.t 7) (.t 9)⟩] [0, 1, 10] [])
  (.cond (.t 10)
  (.seq (.reg false [⟨some 4, none, .mov (.c (.p (.bool false)))⟩] [4] [])
    .ret)
  .skip))
  (.seq (.seq (.reg false [⟨some 11, none, .mov (.t 0)⟩, 
    ⟨some 12, none, .len (.t 11)⟩, 
    ⟨some 13, none, .mov (.c (.p (.int .i64 0)))⟩] [0, 1, 12, 13] [])
  (.block 0 lp89_0))
  (.seq (.reg false [⟨some 4, none, .mov (.c (.p (.bool true)))⟩] [4] [])
  .ret)))),
  [.tmp 4], false⟩
def ir90 : IFn :=   -- tympan/split.Choices
⟨(.seq (.reg false [⟨some 3, none, .bx (.t 1) 4 true⟩, 
    ⟨some 4, none, .mov (.c (.nils))⟩] [0, 3] [3])
  (.seq (.reg false [⟨some 5, none, .mov (.t 0)⟩, 
    ⟨some 6, none, .ld (.t 3) 4 true⟩, 
    ⟨some 7, none, .call 138 [(.t 5), (.t 6)] false⟩, 
    ⟨some 8, none, .call 137 [(.t 7)] false⟩, 
    ⟨some 4, none, .mov (.t 8)⟩] [4] [])
  .ret)),
  [.tmp 4], false⟩
def ir93 : IFn :=   -- tympan/grid.Near
⟨(.seq (.reg false [⟨some 4, none, .mov (.c (.p (.int .i64 0)))⟩] [0, 1] [])
  (.seq (.seq (.reg false [⟨some 6, none, .mov (.t 1)⟩, 
    ⟨some 7, none, .bin .lss (.t 6) (.c (.p (.int .i64 1)))⟩] [0, 1, 7] [])
  (.cond (.t 7)
  (.seq (.reg false [⟨some 8, none, .mov (.t 0)⟩, 
      ⟨some 4, none, .mov (.t 8)⟩] [4] [])
    .ret)
  .skip))
  (.seq (.reg false [⟨some 9, none, .mov (.t 0)⟩, 
    ⟨some 10, none, .mov (.t 1)⟩, 
    ⟨some 11, none, .bin .rem (.t 9) (.t 10)⟩, 
    ⟨some 5, none, .mov (.t 11)⟩] [0, 1, 5] [])
  (.seq (.seq (.reg false [⟨some 12, none, .mov (.t 5)⟩, 
    ⟨some 13, none, .bin .lss (.t 12) (.c (.p (.int .i64 0)))⟩] [0, 1, 5, 13] [])
  (.cond (.t 13)
  (.reg false [⟨some 14, none, .mov (.t 5)⟩, 
      ⟨some 15, none, .mov (.t 1)⟩, 
      ⟨some 16, none, .bin .add (.t 14) (.t 15)⟩, 
      ⟨some 5, none, .mov (.t 16)⟩] [0, 1, 5] [])
  .skip))
  (.seq (.seq (.reg false [⟨some 17, none, .mov (.t 5)⟩, 
    ⟨some 18, none, .mov (.t 1)⟩, 
    ⟨some 19, none, .mov (.t 5)⟩, 
    ⟨some 20, none, .bin .sub (.t 18) (.t 19)⟩, 
    ⟨some 21, none, .bin .lss (.t 17) (.t 20)⟩] [0, 1, 21] [])
  (.cond (.t 21)
  (.seq (.reg false [⟨some 22, none, .mov (.t 0)⟩, 
      ⟨some 23, none, .mov (.t 1)⟩, 
      ⟨some 24, none, .call 98 [(.t 22), (.t 23)] false⟩, 
      ⟨some 4, none, .mov (.t 24)⟩] [4] [])
    .ret)
  .skip))
  (.seq (.reg false [⟨some 25, none, .mov (.t 0)⟩, 
    ⟨some 26, none, .mov (.t 1)⟩, 
    ⟨some 27, none, .call 99 [(.t 25), (.t 26)] false⟩, 
    ⟨some 4, none, .mov (.t 27)⟩] [4] [])
  .ret)))))),
  [.tmp 4], false⟩
def lp94_0 : IC :=
  (.loop [2, 5, 11, 12] [2] (.seq (.reg false [⟨some 13, none, .bin .lss (.t 12) (.t 11)⟩] [2, 5, 11, 12, 13] [2])
      (.seq (.cond (.t 13)
      .skip
      (.exit 0))
      (.seq (.block 1 (.seq (.reg false [⟨some 14, none, .mov (.t 12)⟩, 
          ⟨some 6, none, .mov (.t 14)⟩] [2, 5, 6, 11, 12] [2])
        (.seq (.reg false [⟨some 15, none, .mov (.t 5)⟩, 
          ⟨some 16, none, .mov (.t 6)⟩, 
          ⟨some 17, none, .ixs (.t 15) (.t 16) 7⟩, 
          ⟨some 7, none, .mov (.t 17)⟩] [2, 5, 7, 11, 12] [2])
        (.seq (.reg false [⟨some 18, none, .mov (.t 7)⟩, 
          ⟨some 19, none, .nck (.t 18)⟩, 
          ⟨some 20, none, .off (.t 19) 0⟩, 
          ⟨some 21, none, .ld (.t 20) 1 false⟩] [2, 5, 7, 11, 12, 21] [2])
        (.block 2 (.seq (.reg false [⟨some 23, none, .bin .eql (.t 21) (.c (.p (.int .i64 1)))⟩, 
            ⟨some 22, none, .mov (.t 23)⟩] [2, 5, 7, 11, 12, 21, 22] [2])
          (.cond (.t 22)
          (.reg true [⟨some 24, none, .ld (.t 2) 1 true⟩, 
              ⟨some 25, none, .mov (.t 7)⟩, 
              ⟨some 26, none, .nck (.t 25)⟩, 
              ⟨some 27, none, .off (.t 26) 1⟩, 
              ⟨some 28, none, .bsl 1 1 [.p .nilp] [(0, (.t 27))]⟩, 
              ⟨some 29, none, .call 97 [(.t 24), (.c (.p (.fn 99))), (.t 28)] true⟩] [2, 5, 11, 12] [2])
          (.seq (.reg false [⟨some 31, none, .bin .eql (.t 21) (.c (.p (.int .i64 2)))⟩, 
              ⟨some 30, none, .mov (.t 31)⟩] [2, 5, 7, 11, 12, 30] [2])
            (.cond (.t 30)
            (.seq (.reg true [⟨some 32, none, .ld (.t 2) 1 true⟩, 
                ⟨some 33, none, .mov (.t 7)⟩, 
                ⟨some 34, none, .nck (.t 33)⟩, 
                ⟨some 35, none, .off (.t 34) 1⟩, 
                ⟨some 36, none, .bsl 1 1 [.p .nilp] [(0, (.t 35))]⟩, 
                ⟨some 37, none, .call 97 [(.t 32), (.c (.p (.fn 93))), (.t 36)] true⟩] [2, 5, 7, 11, 12] [2])
              (.reg false [⟨some 38, none, .mov (.t 7)⟩, 
                ⟨some 39, none, .mov (.t 7)⟩, 
                ⟨some 40, none, .mov (.t 7)⟩, 
                ⟨some 41, none, .nck (.t 38)⟩, 
                ⟨some 42, none, .off (.t 41) 3⟩, 
                ⟨none, none, .st (.t 42) (.c (.p (.int .i64 0))) 1⟩, 
                ⟨some 43, none, .nck (.t 39)⟩, 
                ⟨some 44, none, .off (.t 43) 4⟩, 
                ⟨none, none, .st (.t 44) (.c (.p (.int .i64 0))) 1⟩, 
                ⟨some 45, none, .nck (.t 40)⟩, 
                ⟨some 46, none, .off (.t 45) 5⟩, 
                ⟨none, none, .st (.t 46) (.c (.p (.int .i64 0))) 1⟩] [2, 5, 11, 12] [2]))
            .skip)))))))))
      (.reg false [⟨some 47, none, .bin .add (.t 12) (.c (.p (.int .i64 1)))⟩, 
        ⟨some 12, none, .mov (.t 47)⟩] [2, 5, 11, 12] [2])))))
def ir94 : IFn :=   -- (tympan/grid.snapper).items
⟨(.seq (.reg false [⟨some 2, none, .bx (.t 0) 1 true⟩, 
    ⟨some 4, none, .mov (.c (.nils))⟩] [1, 2] [2])
  (.seq (.reg false [⟨some 8, none, .mov (.t 1)⟩, 
    ⟨some 9, none, .call 139 [(.t 8)] false⟩, 
    ⟨some 5, none, .mov (.t 9)⟩] [2, 5] [2])
  (.seq (.seq (.reg false [⟨some 10, none, .mov (.t 5)⟩, 
    ⟨some 11, none, .len (.t 10)⟩, 
    ⟨some 12, none, .mov (.c (.p (.int .i64 0)))⟩] [2, 5, 11, 12] [2])
  (.block 0 lp94_0))
  (.seq (.reg false [⟨some 48, none, .mov (.t 5)⟩, 
    ⟨some 4, none, .mov (.t 48)⟩] [4] [])
  .ret)))),
  [.tmp 4], false⟩
def lp95_0 : IC :=
  (.loop [2, 5, 6, 12, 13, 14, 34, 35] [2] (.seq (.reg false [⟨some 36, none, .bin .lss (.t 35) (.t 34)⟩] [2, 5, 6, 12, 13, 14, 34, 35, 36] [2])
            (.seq (.cond (.t 36)
            .skip
            (.exit 2))
            (.seq (.block 3 (.seq (.reg false [⟨some 37, none, .mov (.t 35)⟩, 
                ⟨some 8, none, .mov (.t 37)⟩] [2, 5, 6, 8, 12, 13, 14, 34, 35] [2])
              (.reg true [⟨some 38, none, .ld (.t 2) 1 true⟩, 
                ⟨some 39, none, .mov (.t 5)⟩, 
                ⟨some 40, none, .mov (.t 6)⟩, 
                ⟨some 41, none, .ixs (.t 39) (.t 40) 2⟩, 
                ⟨some 42, none, .off (.t 41) 0⟩, 
                ⟨some 43, none, .ld (.t 42) 1 false⟩, 
                ⟨some 44, none, .mov (.t 8)⟩, 
                ⟨some 45, none, .ixs (.t 43) (.t 44) 1⟩, 
                ⟨some 46, none, .bsl 1 1 [.p .nilp] [(0, (.t 45))]⟩, 
                ⟨some 47, none, .call 97 [(.t 38), (.c (.p (.fn 99))), (.t 46)] true⟩] [2, 5, 6, 12, 13, 14, 34, 35] [2])))
            (.reg false [⟨some 48, none, .bin .add (.t 35) (.c (.p (.int .i64 1)))⟩, 
              ⟨some 35, none, .mov (.t 48)⟩] [2, 5, 6, 12, 13, 14, 34, 35] [2])))))
def lp95_1 : IC :=
  (.loop [2, 5, 12, 13, 14] [2] (.seq (.reg false [⟨some 15, none, .bin .lss (.t 14) (.t 13)⟩] [2, 5, 12, 13, 14, 15] [2])
      (.seq (.cond (.t 15)
      .skip
      (.exit 0))
      (.seq (.block 1 (.seq (.reg false [⟨some 16, none, .mov (.t 14)⟩, 
          ⟨some 17, none, .ixs (.t 12) (.t 14) 2⟩, 
          ⟨some 18, none, .ld (.t 17) 2 true⟩, 
          ⟨some 7, none, .al [.nils, .nils] true⟩, 
          ⟨some 6, none, .mov (.t 16)⟩, 
          ⟨none, none, .st (.t 7) (.t 18) 2⟩] [2, 5, 6, 7, 12, 13, 14] [2, 7])
        (.seq (.reg true [⟨some 19, none, .mov (.t 5)⟩, 
          ⟨some 20, none, .mov (.t 6)⟩, 
          ⟨some 21, none, .off (.t 7) 0⟩, 
          ⟨some 22, none, .ld (.t 21) 1 false⟩, 
          ⟨some 23, none, .call 140 [(.t 22)] true⟩, 
          ⟨some 24, none, .off (.t 7) 1⟩, 
          ⟨some 25, none, .ld (.t 24) 1 false⟩, 
          ⟨some 26, none, .call 141 [(.t 25)] true⟩, 
          ⟨some 27, none, .bld [.nils, .nils] [(0, 1, (.t 23)), (1, 1, (.t 26))]⟩, 
          ⟨some 28, none, .ixs (.t 19) (.t 20) 2⟩, 
          ⟨none, none, .st (.t 28) (.t 27) 2⟩] [2, 5, 6, 12, 13, 14] [2])
        (.seq (.reg false [⟨some 29, none, .mov (.t 5)⟩, 
          ⟨some 30, none, .mov (.t 6)⟩, 
          ⟨some 31, none, .ixs (.t 29) (.t 30) 2⟩, 
          ⟨some 32, none, .off (.t 31) 0⟩, 
          ⟨some 33, none, .ld (.t 32) 1 false⟩, 
          ⟨some 34, none, .len (.t 33)⟩, 
          ⟨some 35, none, .mov (.c (.p (.int .i64 0)))⟩] [2, 5, 6, 12, 13, 14, 34, 35] [2])
        (.block 2 lp95_0)))))
      (.reg false [⟨some 49, none, .bin .add (.t 14) (.c (.p (.int .i64 1)))⟩, 
        ⟨some 14, none, .mov (.t 49)⟩] [2, 5, 12, 13, 14] [2])))))
def ir95 : IFn :=   -- (tympan/grid.snapper).notes
⟨(.seq (.reg false [⟨some 2, none, .bx (.t 0) 1 true⟩, 
    ⟨some 4, none, .mov (.c (.nils))⟩] [1, 2] [2])
  (.seq (.reg false [⟨some 9, none, .mov (.t 1)⟩, 
    ⟨some 10, none, .len (.t 9)⟩, 
    ⟨some 11, none, .mks 2 [.sl [], .sl []] (.t 10)⟩, 
    ⟨some 5, none, .mov (.t 11)⟩] [1, 2, 5] [2])
  (.seq (.seq (.reg false [⟨some 12, none, .mov (.t 1)⟩, 
    ⟨some 13, none, .len (.t 12)⟩, 
    ⟨some 14, none, .mov (.c (.p (.int .i64 0)))⟩] [2, 5, 12, 13, 14] [2])
  (.block 0 lp95_1))
  (.seq (.reg false [⟨some 50, none, .mov (.t 5)⟩, 
    ⟨some 4, none, .mov (.t 50)⟩] [4] [])
  .ret)))),
  [.tmp 4], false⟩
def ir96 : IFn :=   -- slices.Clone[[]tympan/api.Float,tympan/api.Float]
⟨(.seq (.reg false [⟨some 2, none, .mov (.c (.nils))⟩] [0] [])
  (.seq (.seq (.reg false [⟨some 3, none, .mov (.t 0)⟩, 
    ⟨some 4, none, .eqn .sl false (.t 3)⟩] [0, 4] [])
  (.cond (.t 4)
  (.seq (.reg false [⟨some 2, none, .mov (.c (.nils))⟩] [2] [])
    .ret)
  .skip))
  (.seq (.reg false [⟨some 5, none, .bsl 3 0 [.p (.int .i64 0), .p (.int .i64 0), .p (.int .i64 0)] []⟩, 
    ⟨some 6, none, .mov (.t 0)⟩, 
    ⟨some 7, none, .app (.t 5) (.t 6) 3⟩, 
    ⟨some 2, none, .mov (.t 7)⟩] [2] [])
  .ret))),
  [.tmp 2], false⟩
def lp97_0 : IC :=
  (.loop [1, 3, 8, 9, 10] [3] (.seq (.reg false [⟨some 11, none, .bin .lss (.t 10) (.t 9)⟩] [1, 3, 8, 9, 10, 11] [3])
      (.seq (.cond (.t 11)
      .skip
      (.exit 0))
      (.seq (.block 1 (.seq (.reg false [⟨some 12, none, .ixs (.t 8) (.t 10) 1⟩, 
          ⟨some 13, none, .ld (.t 12) 1 false⟩, 
          ⟨some 7, none, .mov (.t 13)⟩] [1, 3, 7, 8, 9, 10] [3])
        (.reg true [⟨some 14, none, .mov (.t 7)⟩, 
          ⟨some 15, none, .mov (.t 1)⟩, 
          ⟨some 16, none, .mov (.t 7)⟩, 
          ⟨some 17, none, .nck (.t 16)⟩, 
          ⟨some 18, none, .ld (.t 17) 1 false⟩, 
          ⟨some 19, none, .off (.t 3) 0⟩, 
          ⟨some 20, none, .ld (.t 19) 1 false⟩, 
          ⟨some 21, none, .callv (.t 15) [(.t 18), (.t 20)] true⟩, 
          ⟨some 22, none, .nck (.t 14)⟩, 
          ⟨none, none, .st (.t 22) (.t 21) 1⟩] [1, 3, 8, 9, 10] [3])))
      (.reg false [⟨some 23, none, .bin .add (.t 10) (.c (.p (.int .i64 1)))⟩, 
        ⟨some 10, none, .mov (.t 23)⟩] [1, 3, 8, 9, 10] [3])))))
def ir97 : IFn :=   -- (tympan/grid.snapper).turn
⟨(.seq (.reg false [⟨some 3, none, .bx (.t 0) 1 true⟩] [1, 2, 3] [3])
  (.seq (.reg false [⟨some 8, none, .mov (.t 2)⟩, 
    ⟨some 9, none, .len (.t 8)⟩, 
    ⟨some 10, none, .mov (.c (.p (.int .i64 0)))⟩] [1, 3, 8, 9, 10] [3])
  (.block 0 lp97_0))),
  [], false⟩
def ir98 : IFn :=   -- tympan/grid.Down
⟨(.seq (.reg false [⟨some 4, none, .mov (.c (.p (.int .i64 0)))⟩] [0, 1] [])
  (.seq (.reg false [⟨some 5, none, .mov (.t 0)⟩, 
    ⟨some 6, none, .mov (.t 1)⟩, 
    ⟨some 7, none, .call 142 [(.t 5), (.t 6), (.c (.p (.fn 143)))] false⟩, 
    ⟨some 4, none, .mov (.t 7)⟩] [4] [])
  .ret)),
  [.tmp 4], false⟩
def ir99 : IFn :=   -- tympan/grid.Up
⟨(.seq (.reg false [⟨some 4, none, .mov (.c (.p (.int .i64 0)))⟩] [0, 1] [])
  (.seq (.reg false [⟨some 5, none, .mov (.t 0)⟩, 
    ⟨some 6, none, .mov (.t 1)⟩, 
    ⟨some 7, none, .call 142 [(.t 5), (.t 6), (.c (.p (.fn 144)))] false⟩, 
    ⟨some 4, none, .mov (.t 7)⟩] [4] [])
  .ret)),
  [.tmp 4], false⟩
def lp100_0 : IC :=
  (.loop [0, 3] [] (.seq (.seq (.reg false [⟨some 4, none, .mov (.t 3)⟩, 
        ⟨some 5, none, .mov (.t 0)⟩, 
        ⟨some 6, none, .len (.t 5)⟩, 
        ⟨some 7, none, .bin .lss (.t 4) (.t 6)⟩] [0, 3, 7] [])
      (.cond (.t 7)
      .skip
      (.exit 0)))
      (.seq (.block 1 (.seq (.reg false [⟨some 10, none, .mov (.t 0)⟩, 
          ⟨some 11, none, .mov (.t 3)⟩, 
          ⟨some 12, none, .ixs (.t 10) (.t 11) 1⟩, 
          ⟨some 13, none, .ld (.t 12) 1 false⟩, 
          ⟨some 14, none, .bin .lss (.t 13) (.c (.p (.int .i64 0)))⟩, 
          ⟨some 15, none, .mov (.t 14)⟩, 
          ⟨some 16, (some (15, false)), .mov (.t 0)⟩, 
          ⟨some 17, (some (15, false)), .mov (.t 3)⟩, 
          ⟨some 18, (some (15, false)), .ixs (.t 16) (.t 17) 1⟩, 
          ⟨some 19, (some (15, false)), .ld (.t 18) 1 false⟩, 
          ⟨some 20, (some (15, false)), .bin .gtr (.t 19) (.c (.p (.int .i64 1073741823)))⟩, 
          ⟨some 21, none, .pick (.t 15) (.c (.p (.bool true))) (.t 20)⟩] [0, 3, 21] [])
        (.cond (.t 21)
        (.seq (.reg false [⟨some 2, none, .mov (.c (.p (.bool false)))⟩] [2] [])
          .ret)
        .skip)))
      (.reg false [⟨some 8, none, .mov (.t 3)⟩, 
        ⟨some 9, none, .bin .add (.t 8) (.c (.p (.int .i64 1)))⟩, 
        ⟨some 3, none, .mov (.t 9)⟩] [0, 3] []))))
def ir100 : IFn :=   -- tympan/tympanref14.fair
⟨(.seq (.reg false [⟨some 2, none, .mov (.c (.p (.bool false)))⟩] [0] [])
  (.seq (.seq (.reg false [⟨some 3, none, .mov (.c (.p (.int .i64 0)))⟩] [0, 3] [])
  (.block 0 lp100_0))
  (.seq (.reg false [⟨some 2, none, .mov (.c (.p (.bool true)))⟩] [2] [])
  .ret))),
  [.tmp 2], false⟩
def ir101 : IFn :=   -- tympan/grid.On$1
⟨(.seq (.reg false [⟨some 3, none, .mov (.c (.p (.bool false)))⟩] [0, 1] [])
  (.seq (.reg false [⟨some 4, none, .mov (.t 0)⟩, 
    ⟨some 5, none, .mkf (.func 103) [] [(.t 1)]⟩, 
    ⟨some 6, none, .call 102 [(.t 4), (.t 5)] false⟩, 
    ⟨some 3, none, .mov (.t 6)⟩] [3] [])
  .ret)),
  [.tmp 3], false⟩
def ir102 : IFn :=   -- slices.ContainsFunc[[]tympan/api.Sp,tympan/api.Sp]
⟨(.seq (.reg false [⟨some 4, none, .mov (.c (.p (.bool false)))⟩] [0, 1] [])
  (.seq (.reg false [⟨some 5, none, .mov (.t 0)⟩, 
    ⟨some 6, none, .mov (.t 1)⟩, 
    ⟨some 7, none, .call 145 [(.t 5), (.t 6)] false⟩, 
    ⟨some 8, none, .bin .geq (.t 7) (.c (.p (.int .i64 0)))⟩, 
    ⟨some 4, none, .mov (.t 8)⟩] [4] [])
  .ret)),
  [.tmp 4], false⟩
def ir103 : IFn :=   -- tympan/grid.On$1$1
⟨(.seq (.reg false [⟨some 3, none, .mov (.c (.p (.bool false)))⟩] [0, 1] [])
  (.seq (.reg false [⟨some 4, none, .mov (.t 0)⟩, 
    ⟨some 5, none, .ld (.t 1) 1 false⟩, 
    ⟨some 6, none, .bin .rem (.t 4) (.t 5)⟩, 
    ⟨some 7, none, .bin .neq (.t 6) (.c (.p (.int .i64 0)))⟩, 
    ⟨some 3, none, .mov (.t 7)⟩] [3] [])
  .ret)),
  [.tmp 3], false⟩
def lp104_0 : IC :=
  (.loop [0, 1, 5] [] (.seq (.seq (.reg false [⟨some 11, none, .mov (.t 5)⟩, 
        ⟨some 12, none, .mov (.t 0)⟩, 
        ⟨some 13, none, .len (.t 12)⟩, 
        ⟨some 14, none, .bin .lss (.t 11) (.t 13)⟩] [0, 1, 5, 14] [])
      (.cond (.t 14)
      .skip
      (.exit 0)))
      (.seq (.block 1 (.seq (.reg true [⟨some 17, none, .mov (.t 0)⟩, 
          ⟨some 18, none, .mov (.t 5)⟩, 
          ⟨some 19, none, .ixs (.t 17) (.t 18) 2⟩, 
          ⟨some 20, none, .ld (.t 19) 2 true⟩, 
          ⟨some 21, none, .mov (.t 1)⟩, 
          ⟨some 22, none, .mov (.t 5)⟩, 
          ⟨some 23, none, .ixs (.t 21) (.t 22) 2⟩, 
          ⟨some 24, none, .ld (.t 23) 2 true⟩, 
          ⟨some 25, none, .call 33 [(.t 20), (.t 24)] true⟩, 
          ⟨some 26, none, .un .not (.t 25)⟩] [0, 1, 5, 26] [])
        (.cond (.t 26)
        (.seq (.reg false [⟨some 4, none, .mov (.c (.p (.bool false)))⟩] [4] [])
          .ret)
        .skip)))
      (.reg false [⟨some 15, none, .mov (.t 5)⟩, 
        ⟨some 16, none, .bin .add (.t 15) (.c (.p (.int .i64 1)))⟩, 
        ⟨some 5, none, .mov (.t 16)⟩] [0, 1, 5] []))))
def ir104 : IFn :=   -- tympan/tympanref11.All
⟨(.seq (.reg false [⟨some 4, none, .mov (.c (.p (.bool false)))⟩] [0, 1] [])
  (.seq (.seq (.reg false [⟨some 6, none, .mov (.t 0)⟩, 
    ⟨some 7, none, .len (.t 6)⟩, 
    ⟨some 8, none, .mov (.t 1)⟩, 
    ⟨some 9, none, .len (.t 8)⟩, 
    ⟨some 10, none, .bin .neq (.t 7) (.t 9)⟩] [0, 1, 10] [])
  (.cond (.t 10)
  (.seq (.reg false [⟨some 4, none, .mov (.c (.p (.bool false)))⟩] [4] [])
    .ret)
  .skip))
  (.seq (.seq (.reg false [⟨some 5, none, .mov (.c (.p (.int .i64 0)))⟩] [0, 1, 5] [])
  (.block 0 lp104_0))
  (.seq (.reg false [⟨some 4, none, .mov (.c (.p (.bool true)))⟩] [4] [])
  .ret)))),
  [.tmp 4], false⟩
def ir106 : IFn :=   -- tympan/tympanref14.Down
⟨(.seq (.reg false [⟨some 4, none, .mov (.c (.p (.int .i64 0)))⟩] [0, 1] [])
  (.seq (.reg false [⟨some 5, none, .mov (.t 0)⟩, 
    ⟨some 6, none, .mov (.t 1)⟩, 
    ⟨some 7, none, .call 147 [(.t 5), (.t 6)] false⟩, 
    ⟨some 8, none, .mov (.t 0)⟩, 
    ⟨some 9, none, .call 146 [(.t 7), (.t 8)] false⟩, 
    ⟨some 4, none, .mov (.t 9)⟩] [4] [])
  .ret)),
  [.tmp 4], false⟩
def ir107 : IFn :=   -- tympan/tympanref14.Up
⟨(.seq (.reg false [⟨some 4, none, .mov (.c (.p (.int .i64 0)))⟩] [0, 1] [])
  (.seq (.reg false [⟨some 5, none, .mov (.t 0)⟩, 
    ⟨some 6, none, .mov (.t 1)⟩, 
    ⟨some 7, none, .call 148 [(.t 5), (.t 6)] false⟩, 
    ⟨some 8, none, .mov (.t 0)⟩, 
    ⟨some 9, none, .call 146 [(.t 7), (.t 8)] false⟩, 
    ⟨some 4, none, .mov (.t 9)⟩] [4] [])
  .ret)),
  [.tmp 4], false⟩
def ir108 : IFn :=   -- tympan/tympanref14.item
⟨(.seq (.reg false [⟨some 2, none, .bx (.t 0) 7 true⟩, 
    ⟨some 4, none, .al [.p (.int .i64 0), .p (.int .i64 0), .p (.int .i64 0), .p (.int .i64 0), .p (.int .i64 0), .p (.int .i64 0), .p (.int .i64 0)] true⟩] [1, 2, 4] [2, 4])
  (.seq (.seq (.reg false [⟨some 5, none, .off (.t 2) 0⟩, 
    ⟨some 6, none, .ld (.t 5) 1 false⟩, 
    ⟨some 7, none, .bin .eql (.t 6) (.c (.p (.int .i64 1)))⟩] [1, 2, 4, 7] [2, 4])
  (.cond (.t 7)
  (.reg false [⟨some 8, none, .off (.t 2) 1⟩, 
      ⟨some 9, none, .ld (.t 8) 1 false⟩, 
      ⟨some 10, none, .mov (.t 1)⟩, 
      ⟨some 11, none, .call 107 [(.t 9), (.t 10)] false⟩, 
      ⟨some 12, none, .off (.t 2) 1⟩, 
      ⟨none, none, .st (.t 12) (.t 11) 1⟩] [1, 2, 4] [2, 4])
  .skip))
  (.seq (.seq (.reg false [⟨some 13, none, .off (.t 2) 0⟩, 
    ⟨some 14, none, .ld (.t 13) 1 false⟩, 
    ⟨some 15, none, .bin .eql (.t 14) (.c (.p (.int .i64 2)))⟩] [1, 2, 4, 15] [2, 4])
  (.cond (.t 15)
  (.seq (.reg false [⟨some 16, none, .off (.t 2) 1⟩, 
      ⟨some 17, none, .ld (.t 16) 1 false⟩, 
      ⟨some 18, none, .mov (.t 1)⟩, 
      ⟨some 19, none, .call 149 [(.t 17), (.t 18)] false⟩, 
      ⟨some 20, none, .off (.t 2) 1⟩, 
      ⟨none, none, .st (.t 20) (.t 19) 1⟩] [2, 4] [2, 4])
    (.seq (.reg false [⟨some 21, none, .off (.t 2) 3⟩, 
      ⟨none, none, .st (.t 21) (.c (.p (.int .i64 0))) 1⟩] [2, 4] [2, 4])
    (.seq (.reg false [⟨some 22, none, .off (.t 2) 4⟩, 
      ⟨none, none, .st (.t 22) (.c (.p (.int .i64 0))) 1⟩] [2, 4] [2, 4])
    (.reg false [⟨some 23, none, .off (.t 2) 5⟩, 
      ⟨none, none, .st (.t 23) (.c (.p (.int .i64 0))) 1⟩] [2, 4] [2, 4]))))
  .skip))
  (.seq (.reg false [⟨some 24, none, .ld (.t 2) 7 true⟩, 
    ⟨none, none, .st (.t 4) (.t 24) 7⟩] [4] [4])
  .ret)))),
  [.cell 4 7 true], false⟩
def lp110_0 : IC :=
  (.loop [1, 2, 15, 16, 17] [] (.seq (.reg false [⟨some 18, none, .bin .lss (.t 17) (.t 16)⟩] [1, 2, 15, 16, 17, 18] [])
      (.seq (.cond (.t 18)
      .skip
      (.exit 0))
      (.seq (.block 1 (.seq (.reg false [⟨some 19, none, .mov (.t 17)⟩, 
          ⟨some 20, none, .ixs (.t 15) (.t 17) 2⟩, 
          ⟨some 21, none, .ld (.t 20) 2 true⟩, 
          ⟨some 8, none, .al [.nils, .nils] true⟩, 
          ⟨some 7, none, .mov (.t 19)⟩, 
          ⟨none, none, .st (.t 8) (.t 21) 2⟩] [1, 2, 7, 8, 15, 16, 17] [8])
        (.seq (.reg false [⟨some 22, none, .mov (.t 1)⟩, 
          ⟨some 23, none, .mov (.t 7)⟩, 
          ⟨some 24, none, .ixs (.t 22) (.t 23) 2⟩, 
          ⟨some 25, none, .ld (.t 24) 2 true⟩, 
          ⟨some 9, none, .al [.nils, .nils] true⟩, 
          ⟨none, none, .st (.t 9) (.t 25) 2⟩] [1, 2, 8, 9, 15, 16, 17] [8, 9])
        (.seq (.reg false [⟨some 26, none, .mov (.t 2)⟩, 
          ⟨some 27, none, .ld (.t 8) 2 true⟩, 
          ⟨some 28, none, .ld (.t 9) 2 true⟩, 
          ⟨some 29, none, .callv (.t 26) [(.t 27), (.t 28)] false⟩, 
          ⟨some 30, none, .un .not (.t 29)⟩] [1, 2, 15, 16, 17, 30] [])
        (.cond (.t 30)
        (.seq (.reg false [⟨some 6, none, .mov (.c (.p (.bool false)))⟩] [6] [])
          .ret)
        .skip)))))
      (.reg false [⟨some 31, none, .bin .add (.t 17) (.c (.p (.int .i64 1)))⟩, 
        ⟨some 17, none, .mov (.t 31)⟩] [1, 2, 15, 16, 17] [])))))
def ir110 : IFn :=   -- slices.EqualFunc[[]tympan/api.Note,[]tympan/api.Note,tympan/api.Note,tympan/api.Note]
⟨(.seq (.reg false [⟨some 6, none, .mov (.c (.p (.bool false)))⟩] [0, 1, 2] [])
  (.seq (.seq (.reg false [⟨some 10, none, .mov (.t 0)⟩, 
    ⟨some 11, none, .len (.t 10)⟩, 
    ⟨some 12, none, .mov (.t 1)⟩, 
    ⟨some 13, none, .len (.t 12)⟩, 
    ⟨some 14, none, .bin .neq (.t 11) (.t 13)⟩] [0, 1, 2, 14] [])
  (.cond (.t 14)
  (.seq (.reg false [⟨some 6, none, .mov (.c (.p (.bool false)))⟩] [6] [])
    .ret)
  .skip))
  (.seq (.seq (.reg false [⟨some 15, none, .mov (.t 0)⟩, 
    ⟨some 16, none, .len (.t 15)⟩, 
    ⟨some 17, none, .mov (.c (.p (.int .i64 0)))⟩] [1, 2, 15, 16, 17] [])
  (.block 0 lp110_0))
  (.seq (.reg false [⟨some 6, none, .mov (.c (.p (.bool true)))⟩] [6] [])
  .ret)))),
  [.tmp 6], false⟩
def ir112 : IFn :=   -- tympan/valid.clauses
⟨(.seq (.reg false [⟨some 0, none, .mov (.c (.nils))⟩] [] [])
  (.seq (.reg false [⟨some 1, none, .call 150 [(.c (.p (.fn 151)))] false⟩, 
    ⟨some 2, none, .bld [.p (.int .i64 0), .p .nilf] [(0, 1, (.c (.p (.int .i64 3)))), (1, 1, (.t 1))]⟩, 
    ⟨some 3, none, .call 150 [(.c (.p (.fn 152)))] false⟩, 
    ⟨some 4, none, .bld [.p (.int .i64 0), .p .nilf] [(0, 1, (.c (.p (.int .i64 4)))), (1, 1, (.t 3))]⟩, 
    ⟨some 5, none, .call 150 [(.c (.p (.fn 153)))] false⟩, 
    ⟨some 6, none, .bld [.p (.int .i64 0), .p .nilf] [(0, 1, (.c (.p (.int .i64 5)))), (1, 1, (.t 5))]⟩, 
    ⟨some 7, none, .call 150 [(.c (.p (.fn 154)))] false⟩, 
    ⟨some 8, none, .bld [.p (.int .i64 0), .p .nilf] [(0, 1, (.c (.p (.int .i64 6)))), (1, 1, (.t 7))]⟩, 
    ⟨some 9, none, .call 150 [(.c (.p (.fn 156)))] false⟩, 
    ⟨some 10, none, .bld [.p (.int .i64 0), .p .nilf] [(0, 1, (.c (.p (.int .i64 7)))), (1, 1, (.t 9))]⟩, 
    ⟨some 11, none, .bld [.p (.int .i64 0), .p .nilf] [(0, 1, (.c (.p (.int .i64 8)))), (1, 1, (.c (.p (.fn 157))))]⟩, 
    ⟨some 12, none, .bld [.p (.int .i64 0), .p .nilf] [(0, 1, (.c (.p (.int .i64 9)))), (1, 1, (.c (.p (.fn 160))))]⟩, 
    ⟨some 13, none, .bld [.p (.int .i64 0), .p .nilf] [(0, 1, (.c (.p (.int .i64 10)))), (1, 1, (.c (.p (.fn 162))))]⟩, 
    ⟨some 14, none, .bld [.p (.int .i64 0), .p .nilf] [(0, 1, (.c (.p (.int .i64 11)))), (1, 1, (.c (.p (.fn 165))))]⟩, 
    ⟨some 15, none, .bld [.p (.int .i64 0), .p .nilf] [(0, 1, (.c (.p (.int .i64 12)))), (1, 1, (.c (.p (.fn 166))))]⟩, 
    ⟨some 16, none, .bsl 2 10 [.p (.int .i64 0), .p .nilf] [(0, (.t 2)), (1, (.t 4)), (2, (.t 6)), (3, (.t 8)), (4, (.t 10)), (5, (.t 11)), (6, (.t 12)), (7, (.t 13)), (8, (.t 14)), (9, (.t 15))]⟩, 
    ⟨some 0, none, .mov (.t 16)⟩] [0] [])
  .ret)),
  [.tmp 0], false⟩
def lp113_0 : IC :=
  (.loop [1, 3, 4] [1, 3] (.seq (.seq (.reg false [⟨some 24, none, .mov (.t 4)⟩, 
        ⟨some 25, none, .bin .lss (.t 24) (.c (.p (.int .i64 3)))⟩] [1, 3, 4, 25] [1, 3])
      (.cond (.t 25)
      .skip
      (.exit 0)))
      (.seq (.block 1 (.seq (.reg false [⟨some 28, none, .mov (.t 4)⟩, 
          ⟨some 29, none, .ixa (.t 3) (.t 28) 1 3⟩, 
          ⟨some 30, none, .ld (.t 29) 1 false⟩, 
          ⟨some 31, none, .bin .lss (.t 30) (.c (.p (.int .i64 1)))⟩, 
          ⟨some 32, none, .mov (.t 31)⟩, 
          ⟨some 33, (some (32, false)), .mov (.t 4)⟩, 
          ⟨some 34, (some (32, false)), .ixa (.t 3) (.t 33) 1 3⟩, 
          ⟨some 35, (some (32, false)), .ld (.t 34) 1 false⟩, 
          ⟨some 36, (some (32, false)), .bin .gtr (.t 35) (.c (.p (.int .i64 1073741823)))⟩, 
          ⟨some 37, none, .pick (.t 32) (.c (.p (.bool true))) (.t 36)⟩] [1, 3, 4, 37] [1, 3])
        (.cond (.t 37)
        (.seq (.reg false [⟨some 2, none, .mov (.c (.p (.int .i64 7)))⟩] [2] [])
          .ret)
        .skip)))
      (.reg false [⟨some 26, none, .mov (.t 4)⟩, 
        ⟨some 27, none, .bin .add (.t 26) (.c (.p (.int .i64 1)))⟩, 
        ⟨some 4, none, .mov (.t 27)⟩] [1, 3, 4] [1, 3]))))
def lp113_1 : IC :=
  (.loop [1, 5, 6] [1, 5] (.seq (.seq (.reg false [⟨some 53, none, .mov (.t 6)⟩, 
        ⟨some 54, none, .bin .lss (.t 53) (.c (.p (.int .i64 7)))⟩] [1, 5, 6, 54] [1, 5])
      (.cond (.t 54)
      .skip
      (.exit 2)))
      (.seq (.block 3 (.seq (.reg false [⟨some 57, none, .mov (.t 6)⟩, 
          ⟨some 58, none, .ixa (.t 5) (.t 57) 1 7⟩, 
          ⟨some 59, none, .ld (.t 58) 1 false⟩, 
          ⟨some 60, none, .bin .lss (.t 59) (.c (.p (.int .i64 0)))⟩, 
          ⟨some 61, none, .mov (.t 60)⟩, 
          ⟨some 62, (some (61, false)), .mov (.t 6)⟩, 
          ⟨some 63, (some (61, false)), .ixa (.t 5) (.t 62) 1 7⟩, 
          ⟨some 64, (some (61, false)), .ld (.t 63) 1 false⟩, 
          ⟨some 65, (some (61, false)), .bin .gtr (.t 64) (.c (.p (.int .i64 1073741823)))⟩, 
          ⟨some 66, none, .pick (.t 61) (.c (.p (.bool true))) (.t 65)⟩] [1, 5, 6, 66] [1, 5])
        (.cond (.t 66)
        (.seq (.reg false [⟨some 2, none, .mov (.c (.p (.int .i64 7)))⟩] [2] [])
          .ret)
        .skip)))
      (.reg false [⟨some 55, none, .mov (.t 6)⟩, 
        ⟨some 56, none, .bin .add (.t 55) (.c (.p (.int .i64 1)))⟩, 
        ⟨some 6, none, .mov (.t 56)⟩] [1, 5, 6] [1, 5]))))
def lp113_2 : IC :=
  (.loop [1, 7, 8] [1, 7] (.seq (.seq (.reg false [⟨some 82, none, .mov (.t 8)⟩, 
        ⟨some 83, none, .bin .lss (.t 82) (.c (.p (.int .i64 7)))⟩] [1, 7, 8, 83] [1, 7])
      (.cond (.t 83)
      .skip
      (.exit 4)))
      (.seq (.block 5 (.seq (.reg false [⟨some 86, none, .mov (.t 8)⟩, 
          ⟨some 87, none, .ixa (.t 7) (.t 86) 1 7⟩, 
          ⟨some 88, none, .ld (.t 87) 1 false⟩, 
          ⟨some 89, none, .bin .lss (.t 88) (.c (.p (.int .i64 0)))⟩, 
          ⟨some 90, none, .mov (.t 89)⟩, 
          ⟨some 91, (some (90, false)), .mov (.t 8)⟩, 
          ⟨some 92, (some (90, false)), .ixa (.t 7) (.t 91) 1 7⟩, 
          ⟨some 93, (some (90, false)), .ld (.t 92) 1 false⟩, 
          ⟨some 94, (some (90, false)), .bin .gtr (.t 93) (.c (.p (.int .i64 1048576)))⟩, 
          ⟨some 95, none, .pick (.t 90) (.c (.p (.bool true))) (.t 94)⟩, 
          ⟨some 96, none, .mov (.t 95)⟩, 
          ⟨some 97, (some (96, false)), .mov (.t 8)⟩, 
          ⟨some 98, (some (96, false)), .bin .lss (.t 97) (.c (.p (.int .i64 2)))⟩, 
          ⟨some 99, (some (96, false)), .mov (.t 98)⟩, 
          ⟨some 100, (some (99, true)), .mov (.t 8)⟩, 
          ⟨some 101, (some (99, true)), .ixa (.t 7) (.t 100) 1 7⟩, 
          ⟨some 102, (some (99, true)), .ld (.t 101) 1 false⟩, 
          ⟨some 103, (some (99, true)), .bin .gtr (.t 102) (.c (.p (.int .i64 4)))⟩, 
          ⟨some 104, (some (96, false)), .pick (.t 99) (.t 103) (.c (.p (.bool false)))⟩, 
          ⟨some 105, none, .pick (.t 96) (.c (.p (.bool true))) (.t 104)⟩] [1, 7, 8, 105] [1, 7])
        (.cond (.t 105)
        (.seq (.reg false [⟨some 2, none, .mov (.c (.p (.int .i64 7)))⟩] [2] [])
          .ret)
        .skip)))
      (.reg false [⟨some 84, none, .mov (.t 8)⟩, 
        ⟨some 85, none, .bin .add (.t 84) (.c (.p (.int .i64 1)))⟩, 
        ⟨some 8, none, .mov (.t 85)⟩] [1, 7, 8] [1, 7]))))
def ir113 : IFn :=   -- tympan/tympanref13.Check
⟨(.seq (.reg false [⟨some 1, none, .bx (.t 0) 19 true⟩, 
    ⟨some 2, none, .mov (.c (.p (.int .i64 0)))⟩] [1] [1])
  (.seq (.seq (.reg false [⟨some 9, none, .off (.t 1) 0⟩, 
    ⟨some 10, none, .ld (.t 9) 1 false⟩, 
    ⟨some 11, none, .bin .lss (.t 10) (.c (.p (.int .i64 1)))⟩, 
    ⟨some 12, none, .mov (.t 11)⟩, 
    ⟨some 13, (some (12, false)), .off (.t 1) 0⟩, 
    ⟨some 14, (some (12, false)), .ld (.t 13) 1 false⟩, 
    ⟨some 15, (some (12, false)), .bin .gtr (.t 14) (.c (.p (.int .i64 8)))⟩, 
    ⟨some 16, none, .pick (.t 12) (.c (.p (.bool true))) (.t 15)⟩] [1, 16] [1])
  (.cond (.t 16)
  (.seq (.reg false [⟨some 2, none, .mov (.c (.p (.int .i64 6)))⟩] [2] [])
    .ret)
  .skip))
  (.seq (.reg false [⟨some 17, none, .off (.t 1) 1⟩, 
    ⟨some 18, none, .ld (.t 17) 1 false⟩, 
    ⟨some 19, none, .off (.t 1) 3⟩, 
    ⟨some 20, none, .ld (.t 19) 1 false⟩, 
    ⟨some 21, none, .off (.t 1) 4⟩, 
    ⟨some 22, none, .ld (.t 21) 1 false⟩, 
    ⟨some 23, none, .bld [.p (.int .i64 0), .p (.int .i64 0), .p (.int .i64 0)] [(0, 1, (.t 18)), (1, 1, (.t 20)), (2, 1, (.t 22))]⟩, 
    ⟨some 3, none, .al [.p (.int .i64 0), .p (.int .i64 0), .p (.int .i64 0)] true⟩, 
    ⟨none, none, .st (.t 3) (.t 23) 3⟩] [1, 3] [1, 3])
  (.seq (.seq (.reg false [⟨some 4, none, .mov (.c (.p (.int .i64 0)))⟩] [1, 3, 4] [1, 3])
  (.block 0 lp113_0))
  (.seq (.reg false [⟨some 38, none, .off (.t 1) 2⟩, 
    ⟨some 39, none, .ld (.t 38) 1 false⟩, 
    ⟨some 40, none, .off (.t 1) 6⟩, 
    ⟨some 41, none, .ld (.t 40) 1 false⟩, 
    ⟨some 42, none, .off (.t 1) 7⟩, 
    ⟨some 43, none, .ld (.t 42) 1 false⟩, 
    ⟨some 44, none, .off (.t 1) 8⟩, 
    ⟨some 45, none, .ld (.t 44) 1 false⟩, 
    ⟨some 46, none, .off (.t 1) 9⟩, 
    ⟨some 47, none, .ld (.t 46) 1 false⟩, 
    ⟨some 48, none, .off (.t 1) 10⟩, 
    ⟨some 49, none, .ld (.t 48) 1 false⟩, 
    ⟨some 50, none, .off (.t 1) 5⟩, 
    ⟨some 51, none, .ld (.t 50) 1 false⟩, 
    ⟨some 52, none, .bld [.p (.int .i64 0), .p (.int .i64 0), .p (.int .i64 0), .p (.int .i64 0), .p (.int .i64 0), .p (.int .i64 0), .p (.int .i64 0)] [(0, 1, (.t 39)), (1, 1, (.t 41)), (2, 1, (.t 43)), (3, 1, (.t 45)), (4, 1, (.t 47)), (5, 1, (.t 49)), (6, 1, (.t 51))]⟩, 
    ⟨some 5, none, .al [.p (.int .i64 0), .p (.int .i64 0), .p (.int .i64 0), .p (.int .i64 0), .p (.int .i64 0), .p (.int .i64 0), .p (.int .i64 0)] true⟩, 
    ⟨none, none, .st (.t 5) (.t 52) 7⟩] [1, 5] [1, 5])
  (.seq (.seq (.reg false [⟨some 6, none, .mov (.c (.p (.int .i64 0)))⟩] [1, 5, 6] [1, 5])
  (.block 2 lp113_1))
  (.seq (.reg false [⟨some 67, none, .off (.t 1) 11⟩, 
    ⟨some 68, none, .ld (.t 67) 1 false⟩, 
    ⟨some 69, none, .off (.t 1) 12⟩, 
    ⟨some 70, none, .ld (.t 69) 1 false⟩, 
    ⟨some 71, none, .off (.t 1) 13⟩, 
    ⟨some 72, none, .ld (.t 71) 1 false⟩, 
    ⟨some 73, none, .off (.t 1) 14⟩, 
    ⟨some 74, none, .ld (.t 73) 1 false⟩, 
    ⟨some 75, none, .off (.t 1) 15⟩, 
    ⟨some 76, none, .ld (.t 75) 1 false⟩, 
    ⟨some 77, none, .off (.t 1) 16⟩, 
    ⟨some 78, none, .ld (.t 77) 1 false⟩, 
    ⟨some 79, none, .off (.t 1) 17⟩, 
    ⟨some 80, none, .ld (.t 79) 1 false⟩, 
    ⟨some 81, none, .bld [.p (.int .i64 0), .p (.int .i64 0), .p (.int .i64 0), .p (.int .i64 0), .p (.int .i64 0), .p (.int .i64 0), .p (.int .i64 0)] [(0, 1, (.t 68)), (1, 1, (.t 70)), (2, 1, (.t 72)), (3, 1, (.t 74)), (4, 1, (.t 76)), (5, 1, (.t 78)), (6, 1, (.t 80))]⟩, 
    ⟨some 7, none, .al [.p (.int .i64 0), .p (.int .i64 0), .p (.int .i64 0), .p (.int .i64 0), .p (.int .i64 0), .p (.int .i64 0), .p (.int .i64 0)] true⟩, 
    ⟨none, none, .st (.t 7) (.t 81) 7⟩] [1, 7] [1, 7])
  (.seq (.seq (.reg false [⟨some 8, none, .mov (.c (.p (.int .i64 0)))⟩] [1, 7, 8] [1, 7])
  (.block 4 lp113_2))
  (.seq (.seq (.reg false [⟨some 106, none, .off (.t 1) 4⟩, 
    ⟨some 107, none, .ld (.t 106) 1 false⟩, 
    ⟨some 108, none, .off (.t 1) 3⟩, 
    ⟨some 109, none, .ld (.t 108) 1 false⟩, 
    ⟨some 110, none, .bin .gtr (.t 107) (.t 109)⟩, 
    ⟨some 111, none, .mov (.t 110)⟩, 
    ⟨some 112, (some (111, false)), .off (.t 1) 5⟩, 
    ⟨some 113, (some (111, false)), .ld (.t 112) 1 false⟩, 
    ⟨some 114, (some (111, false)), .off (.t 1) 4⟩, 
    ⟨some 115, (some (111, false)), .ld (.t 114) 1 false⟩, 
    ⟨some 116, (some (111, false)), .bin .gtr (.t 113) (.t 115)⟩, 
    ⟨some 117, none, .pick (.t 111) (.c (.p (.bool true))) (.t 116)⟩, 
    ⟨some 118, none, .mov (.t 117)⟩, 
    ⟨some 119, (some (118, false)), .off (.t 1) 5⟩, 
    ⟨some 120, (some (118, false)), .ld (.t 119) 1 false⟩, 
    ⟨some 121, (some (118, false)), .bin .gtr (.t 120) (.c (.p (.int .i64 536870912)))⟩, 
    ⟨some 122, none, .pick (.t 118) (.c (.p (.bool true))) (.t 121)⟩, 
    ⟨some 123, none, .mov (.t 122)⟩, 
    ⟨some 124, (some (123, false)), .off (.t 1) 6⟩, 
    ⟨some 125, (some (123, false)), .ld (.t 124) 1 false⟩, 
    ⟨some 126, (some (123, false)), .bin .gtr (.t 125) (.c (.p (.int .i64 536870912)))⟩, 
    ⟨some 127, none, .pick (.t 123) (.c (.p (.bool true))) (.t 126)⟩, 
    ⟨some 128, none, .mov (.t 127)⟩, 
    ⟨some 129, (some (128, false)), .off (.t 1) 7⟩, 
    ⟨some 130, (some (128, false)), .ld (.t 129) 1 false⟩, 
    ⟨some 131, (some (128, false)), .bin .gtr (.t 130) (.c (.p (.int .i64 536870912)))⟩, 
    ⟨some 132, none, .pick (.t 128) (.c (.p (.bool true))) (.t 131)⟩] [132] [])
  (.cond (.t 132)
  (.seq (.reg false [⟨some 2, none, .mov (.c (.p (.int .i64 7)))⟩] [2] [])
    .ret)
  .skip))
  (.seq (.reg false [⟨some 2, none, .mov (.c (.p (.int .i64 0)))⟩] [2] [])
  .ret)))))))))),
  [.tmp 2], false⟩
def ir114 : IFn :=   -- tympan/tympanref12.Right
⟨(.seq (.reg false [⟨some 1, none, .bx (.t 0) 3 true⟩, 
    ⟨some 2, none, .mov (.c (.p (.bool false)))⟩] [1] [1])
  (.seq (.reg false [⟨some 3, none, .off (.t 1) 0⟩, 
    ⟨some 4, none, .ld (.t 3) 1 false⟩, 
    ⟨some 5, none, .bin .geq (.t 4) (.c (.p (.int .i64 0)))⟩, 
    ⟨some 6, none, .mov (.t 5)⟩, 
    ⟨some 7, (some (6, true)), .off (.t 1) 0⟩, 
    ⟨some 8, (some (6, true)), .ld (.t 7) 1 false⟩, 
    ⟨some 9, (some (6, true)), .bin .leq (.t 8) (.c (.p (.int .i64 2)))⟩, 
    ⟨some 10, none, .pick (.t 6) (.t 9) (.c (.p (.bool false)))⟩, 
    ⟨some 11, none, .mov (.t 10)⟩, 
    ⟨some 12, (some (11, true)), .off (.t 1) 1⟩, 
    ⟨some 13, (some (11, true)), .ld (.t 12) 1 false⟩, 
    ⟨some 14, (some (11, true)), .bin .geq (.t 13) (.c (.p (.int .i64 1)))⟩, 
    ⟨some 15, none, .pick (.t 11) (.t 14) (.c (.p (.bool false)))⟩, 
    ⟨some 16, none, .mov (.t 15)⟩, 
    ⟨some 17, (some (16, true)), .off (.t 1) 1⟩, 
    ⟨some 18, (some (16, true)), .ld (.t 17) 1 false⟩, 
    ⟨some 19, (some (16, true)), .bin .leq (.t 18) (.c (.p (.int .i64 1073741823)))⟩, 
    ⟨some 20, none, .pick (.t 16) (.t 19) (.c (.p (.bool false)))⟩, 
    ⟨some 21, none, .mov (.t 20)⟩, 
    ⟨some 22, (some (21, true)), .off (.t 1) 2⟩, 
    ⟨some 23, (some (21, true)), .ld (.t 22) 1 false⟩, 
    ⟨some 24, (some (21, true)), .bin .geq (.t 23) (.c (.p (.int .i64 0)))⟩, 
    ⟨some 25, none, .pick (.t 21) (.t 24) (.c (.p (.bool false)))⟩, 
    ⟨some 26, none, .mov (.t 25)⟩, 
    ⟨some 27, (some (26, true)), .off (.t 1) 2⟩, 
    ⟨some 28, (some (26, true)), .ld (.t 27) 1 false⟩, 
    ⟨some 29, (some (26, true)), .bin .leq (.t 28) (.c (.p (.int .i64 3)))⟩, 
    ⟨some 30, none, .pick (.t 26) (.t 29) (.c (.p (.bool false)))⟩, 
    ⟨some 2, none, .mov (.t 30)⟩] [2] [])
  .ret)),
  [.tmp 2], false⟩
def lp115_0 : IC :=
  (.loop [0, 1, 2, 7, 8] [] (.seq (.seq (.reg false [⟨some 9, none, .mov (.t 8)⟩, 
        ⟨some 10, none, .mov (.t 0)⟩, 
        ⟨some 11, none, .len (.t 10)⟩, 
        ⟨some 12, none, .bin .lss (.t 9) (.t 11)⟩] [0, 1, 2, 7, 8, 12] [])
      (.cond (.t 12)
      .skip
      (.exit 0)))
      (.seq (.block 1 (.seq (.reg false [⟨some 15, none, .mov (.t 0)⟩, 
          ⟨some 16, none, .mov (.t 8)⟩, 
          ⟨some 17, none, .ixs (.t 15) (.t 16) 7⟩, 
          ⟨some 18, none, .off (.t 17) 0⟩, 
          ⟨some 19, none, .ld (.t 18) 1 false⟩, 
          ⟨some 20, none, .mov (.t 1)⟩, 
          ⟨some 21, none, .bin .eql (.t 19) (.t 20)⟩] [0, 1, 2, 7, 8, 21] [])
        (.cond (.t 21)
        (.seq (.seq (.reg false [⟨some 22, none, .mov (.t 0)⟩, 
            ⟨some 23, none, .mov (.t 8)⟩, 
            ⟨some 24, none, .ixs (.t 22) (.t 23) 7⟩, 
            ⟨some 25, none, .off (.t 24) 6⟩, 
            ⟨some 26, none, .ld (.t 25) 1 false⟩, 
            ⟨some 27, none, .mov (.t 7)⟩, 
            ⟨some 28, none, .bin .neq (.t 26) (.t 27)⟩, 
            ⟨some 29, none, .mov (.t 28)⟩, 
            ⟨some 30, (some (29, false)), .mov (.t 7)⟩, 
            ⟨some 31, (some (29, false)), .mov (.t 2)⟩, 
            ⟨some 32, (some (29, false)), .bin .geq (.t 30) (.t 31)⟩, 
            ⟨some 33, none, .pick (.t 29) (.c (.p (.bool true))) (.t 32)⟩] [0, 1, 2, 7, 8, 33] [])
          (.cond (.t 33)
          (.seq (.reg false [⟨some 34, none, .mov (.t 8)⟩, 
              ⟨some 6, none, .mov (.t 34)⟩] [6] [])
            .ret)
          .skip))
          (.reg false [⟨some 35, none, .mov (.t 7)⟩, 
            ⟨some 36, none, .bin .add (.t 35) (.c (.p (.int .i64 1)))⟩, 
            ⟨some 7, none, .mov (.t 36)⟩] [0, 1, 2, 7, 8] []))
        .skip)))
      (.reg false [⟨some 13, none, .mov (.t 8)⟩, 
        ⟨some 14, none, .bin .add (.t 13) (.c (.p (.int .i64 1)))⟩, 
        ⟨some 8, none, .mov (.t 14)⟩] [0, 1, 2, 7, 8] []))))
def ir115 : IFn :=   -- tympan/tympanref15.anchors
⟨(.seq (.reg false [⟨some 6, none, .mov (.c (.p (.int .i64 0)))⟩] [0, 1, 2] [])
  (.seq (.reg false [⟨some 7, none, .mov (.c (.p (.int .i64 0)))⟩] [0, 1, 2, 7] [])
  (.seq (.seq (.reg false [⟨some 8, none, .mov (.c (.p (.int .i64 0)))⟩] [0, 1, 2, 7, 8] [])
  (.block 0 lp115_0))
  (.seq (.seq (.reg false [⟨some 37, none, .mov (.t 7)⟩, 
    ⟨some 38, none, .mov (.t 2)⟩, 
    ⟨some 39, none, .bin .lss (.t 37) (.t 38)⟩] [0, 39] [])
  (.cond (.t 39)
  (.seq (.reg false [⟨some 40, none, .mov (.t 0)⟩, 
      ⟨some 41, none, .len (.t 40)⟩, 
      ⟨some 6, none, .mov (.t 41)⟩] [6] [])
    .ret)
  .skip))
  (.seq (.reg false [⟨some 6, none, .mov (.c (.p (.int .i64 (-1))))⟩] [6] [])
  .ret))))),
  [.tmp 6], false⟩
def ir116 : IFn :=   -- tympan/tympanref10.Long
⟨(.seq (.reg false [⟨some 2, none, .mov (.c (.p (.bool false)))⟩] [0] [])
  (.seq (.reg false [⟨some 3, none, .mov (.t 0)⟩, 
    ⟨some 4, none, .bin .geq (.t 3) (.c (.p (.int .i64 0)))⟩, 
    ⟨some 5, none, .mov (.t 4)⟩, 
    ⟨some 6, (some (5, true)), .mov (.t 0)⟩, 
    ⟨some 7, (some (5, true)), .bin .leq (.t 6) (.c (.p (.int .i64 1073741823)))⟩, 
    ⟨some 8, none, .pick (.t 5) (.t 7) (.c (.p (.bool false)))⟩, 
    ⟨some 2, none, .mov (.t 8)⟩] [2] [])
  .ret)),
  [.tmp 2], false⟩
def lp117_0 : IC :=
  (.loop [0, 1, 7, 8] [] (.seq (.reg false [⟨some 9, none, .bin .lss (.t 8) (.t 7)⟩] [0, 1, 7, 8, 9] [])
      (.seq (.cond (.t 9)
      .skip
      (.exit 0))
      (.seq (.block 1 (.seq (.reg false [⟨some 10, none, .mov (.t 8)⟩, 
          ⟨some 5, none, .mov (.t 10)⟩] [0, 1, 5, 7, 8] [])
        (.seq (.reg false [⟨some 11, none, .mov (.t 1)⟩, 
          ⟨some 12, none, .mov (.t 0)⟩, 
          ⟨some 13, none, .mov (.t 5)⟩, 
          ⟨some 14, none, .ixs (.t 12) (.t 13) 7⟩, 
          ⟨some 15, none, .ld (.t 14) 7 true⟩, 
          ⟨some 16, none, .callv (.t 11) [(.t 15)] false⟩] [0, 1, 5, 7, 8, 16] [])
        (.cond (.t 16)
        (.seq (.reg false [⟨some 17, none, .mov (.t 5)⟩, 
            ⟨some 4, none, .mov (.t 17)⟩] [4] [])
          .ret)
        .skip))))
      (.reg false [⟨some 18, none, .bin .add (.t 8) (.c (.p (.int .i64 1)))⟩, 
        ⟨some 8, none, .mov (.t 18)⟩] [0, 1, 7, 8] [])))))
def ir117 : IFn :=   -- slices.IndexFunc[[]tympan/api.Item,tympan/api.Item]
⟨(.seq (.reg false [⟨some 4, none, .mov (.c (.p (.int .i64 0)))⟩] [0, 1] [])
  (.seq (.seq (.reg false [⟨some 6, none, .mov (.t 0)⟩, 
    ⟨some 7, none, .len (.t 6)⟩, 
    ⟨some 8, none, .mov (.c (.p (.int .i64 0)))⟩] [0, 1, 7, 8] [])
  (.block 0 lp117_0))
  (.seq (.reg false [⟨some 4, none, .mov (.c (.p (.int .i64 (-1))))⟩] [4] [])
  .ret))),
  [.tmp 4], false⟩
def ir118 : IFn :=   -- tympan/valid.Anchors$1
⟨(.seq (.reg false [⟨some 3, none, .bx (.t 0) 7 true⟩, 
    ⟨some 4, none, .mov (.c (.p (.bool false)))⟩] [1, 2, 3] [3])
  (.seq (.seq (.reg false [⟨some 5, none, .off (.t 3) 0⟩, 
    ⟨some 6, none, .ld (.t 5) 1 false⟩, 
    ⟨some 7, none, .ld (.t 1) 1 false⟩, 
    ⟨some 8, none, .bin .neq (.t 6) (.t 7)⟩] [2, 3, 8] [3])
  (.cond (.t 8)
  (.seq (.reg false [⟨some 4, none, .mov (.c (.p (.bool false)))⟩] [4] [])
    .ret)
  .skip))
  (.seq (.reg false [⟨some 9, none, .ld (.t 2) 1 false⟩, 
    ⟨some 10, none, .bin .add (.t 9) (.c (.p (.int .i64 1)))⟩, 
    ⟨none, none, .st (.t 2) (.t 10) 1⟩] [2, 3] [3])
  (.seq (.reg false [⟨some 11, none, .off (.t 3) 6⟩, 
    ⟨some 12, none, .ld (.t 11) 1 false⟩, 
    ⟨some 13, none, .ld (.t 2) 1 false⟩, 
    ⟨some 14, none, .bin .sub (.t 13) (.c (.p (.int .i64 1)))⟩, 
    ⟨some 15, none, .bin .neq (.t 12) (.t 14)⟩, 
    ⟨some 4, none, .mov (.t 15)⟩] [4] [])
  .ret)))),
  [.tmp 4], false⟩
def lp119_0 : IC :=
  (.loop [6, 17, 18, 19] [6] (.seq (.reg false [⟨some 20, none, .bin .lss (.t 19) (.t 18)⟩] [6, 17, 18, 19, 20] [6])
      (.seq (.cond (.t 20)
      .skip
      (.exit 0))
      (.seq (.block 1 (.seq (.reg false [⟨some 21, none, .ixs (.t 17) (.t 19) 2⟩, 
          ⟨some 22, none, .ld (.t 21) 2 true⟩, 
          ⟨some 8, none, .al [.p (.int .i64 0), .p .nilf] true⟩, 
          ⟨none, none, .st (.t 8) (.t 22) 2⟩] [6, 8, 17, 18, 19] [6, 8])
        (.seq (.reg false [⟨some 23, none, .off (.t 8) 1⟩, 
          ⟨some 24, none, .ld (.t 23) 1 false⟩, 
          ⟨some 25, none, .ld (.t 6) 23 true⟩, 
          ⟨some 26, none, .callv (.t 24) [(.t 25)] false⟩, 
          ⟨some 9, none, .mov (.t 26)⟩] [6, 8, 9, 17, 18, 19] [6, 8])
        (.seq (.reg false [⟨some 27, none, .mov (.t 9)⟩, 
          ⟨some 28, none, .bin .geq (.t 27) (.c (.p (.int .i64 0)))⟩] [6, 8, 9, 17, 18, 19, 28] [6, 8])
        (.cond (.t 28)
        (.seq (.reg false [⟨some 29, none, .off (.t 8) 0⟩, 
            ⟨some 30, none, .ld (.t 29) 1 false⟩, 
            ⟨some 31, none, .mov (.t 9)⟩, 
            ⟨some 4, none, .mov (.t 30)⟩, 
            ⟨some 5, none, .mov (.t 31)⟩] [4, 5] [])
          .ret)
        .skip)))))
      (.reg false [⟨some 32, none, .bin .add (.t 19) (.c (.p (.int .i64 1)))⟩, 
        ⟨some 19, none, .mov (.t 32)⟩] [6, 17, 18, 19] [6])))))
def ir119 : IFn :=   -- tympan/check.Pages
⟨(.seq (.reg false [⟨some 2, none, .bx (.t 0) 22 true⟩, 
    ⟨some 4, none, .mov (.c (.p (.int .i64 0)))⟩, 
    ⟨some 5, none, .mov (.c (.p (.int .i64 0)))⟩] [1, 2] [2])
  (.seq (.seq (.reg false [⟨some 10, none, .ld (.t 2) 22 true⟩, 
    ⟨some 11, none, .call 56 [(.t 10)] false⟩, 
    ⟨some 12, none, .un .not (.t 11)⟩] [1, 2, 12] [2])
  (.cond (.t 12)
  (.seq (.reg false [⟨some 4, none, .mov (.c (.p (.int .i64 1)))⟩, 
      ⟨some 5, none, .mov (.c (.p (.int .i64 0)))⟩] [4, 5] [])
    .ret)
  .skip))
  (.seq (.reg false [⟨some 13, none, .ld (.t 2) 22 true⟩, 
    ⟨some 14, none, .call 46 [(.t 13)] false⟩, 
    ⟨some 15, none, .mov (.t 1)⟩, 
    ⟨some 16, none, .bld [.p (.int .i64 0), .p (.int .i64 0), .p (.int .i64 0), .p (.int .i64 0), .p (.int .i64 0), .p (.int .i64 0), .p (.int .i64 0), .p (.int .i64 0), .p (.int .i64 0), .p (.int .i64 0), .p (.int .i64 0), .p (.int .i64 0), .p (.int .i64 0), .p (.int .i64 0), .p (.int .i64 0), .p (.int .i64 0), .p (.int .i64 0), .p (.int .i64 0), .p (.bool false), .nils, .nils, .nils, .nils] [(0, 22, (.t 14)), (22, 1, (.t 15))]⟩, 
    ⟨some 6, none, .al [.p (.int .i64 0), .p (.int .i64 0), .p (.int .i64 0), .p (.int .i64 0), .p (.int .i64 0), .p (.int .i64 0), .p (.int .i64 0), .p (.int .i64 0), .p (.int .i64 0), .p (.int .i64 0), .p (.int .i64 0), .p (.int .i64 0), .p (.int .i64 0), .p (.int .i64 0), .p (.int .i64 0), .p (.int .i64 0), .p (.int .i64 0), .p (.int .i64 0), .p (.bool false), .nils, .nils, .nils, .nils] true⟩, 
    ⟨none, none, .st (.t 6) (.t 16) 23⟩] [6] [6])
  (.seq (.seq (.reg false [⟨some 17, none, .call 167 [] false⟩, 
    ⟨some 18, none, .len (.t 17)⟩, 
    ⟨some 19, none, .mov (.c (.p (.int .i64 0)))⟩] [6, 17, 18, 19] [6])
  (.block 0 lp119_0))
  (.seq (.reg false [⟨some 4, none, .mov (.c (.p (.int .i64 0)))⟩, 
    ⟨some 5, none, .mov (.c (.p (.int .i64 0)))⟩] [4, 5] [])
  .ret))))),
  [.tmp 4, .tmp 5], false⟩
def ir120 : IFn :=   -- tympan/check.Right
⟨(.seq (.reg false [⟨some 2, none, .bx (.t 0) 22 true⟩, 
    ⟨some 4, none, .mov (.c (.p (.bool false)))⟩] [1, 2] [2])
  (.seq (.reg false [⟨some 8, none, .ld (.t 2) 22 true⟩, 
    ⟨some 9, none, .mov (.t 1)⟩, 
    ⟨some 10, none, .call 119 [(.t 8), (.t 9)] false⟩, 
    ⟨some 7, none, .mov (.t 10)⟩, 
    ⟨some 11, none, .ext (.t 7) 0⟩, 
    ⟨some 12, none, .ext (.t 7) 1⟩, 
    ⟨some 5, none, .mov (.t 11)⟩, 
    ⟨some 6, none, .mov (.t 12)⟩] [5] [])
  (.seq (.reg false [⟨some 13, none, .mov (.t 5)⟩, 
    ⟨some 14, none, .bin .eql (.t 13) (.c (.p (.int .i64 0)))⟩, 
    ⟨some 4, none, .mov (.t 14)⟩] [4] [])
  .ret))),
  [.tmp 4], false⟩
def lp121_0 : IC :=
  (.loop [1, 5, 8, 9, 10] [] (.seq (.reg false [⟨some 11, none, .bin .lss (.t 10) (.t 9)⟩] [1, 5, 8, 9, 10, 11] [])
      (.seq (.cond (.t 11)
      .skip
      (.exit 0))
      (.seq (.block 1 (.seq (.reg false [⟨some 12, none, .mov (.t 10)⟩, 
          ⟨some 13, none, .ixs (.t 8) (.t 10) 3⟩, 
          ⟨some 14, none, .ld (.t 13) 3 true⟩, 
          ⟨some 7, none, .al [.p (.int .i64 0), .p (.int .i64 0), .p (.int .i64 0)] true⟩, 
          ⟨some 6, none, .mov (.t 12)⟩, 
          ⟨none, none, .st (.t 7) (.t 14) 3⟩] [1, 5, 6, 7, 8, 9, 10] [7])
        (.seq (.reg false [⟨some 15, none, .off (.t 7) 0⟩, 
          ⟨some 16, none, .ld (.t 15) 1 false⟩, 
          ⟨some 17, none, .mov (.t 1)⟩, 
          ⟨some 18, none, .bin .eql (.t 16) (.t 17)⟩] [1, 5, 6, 8, 9, 10, 18] [])
        (.cond (.t 18)
        (.reg false [⟨some 19, none, .mov (.t 5)⟩, 
            ⟨some 20, none, .mov (.t 6)⟩, 
            ⟨some 21, none, .bsl 1 1 [.p (.int .i64 0)] [(0, (.t 20))]⟩, 
            ⟨some 22, none, .app (.t 19) (.t 21) 1⟩, 
            ⟨some 5, none, .mov (.t 22)⟩] [1, 5, 8, 9, 10] [])
        .skip))))
      (.reg false [⟨some 23, none, .bin .add (.t 10) (.c (.p (.int .i64 1)))⟩, 
        ⟨some 10, none, .mov (.t 23)⟩] [1, 5, 8, 9, 10] [])))))
def ir121 : IFn :=   -- tympan/figure.Of
⟨(.seq (.reg false [⟨some 4, none, .mov (.c (.nils))⟩] [0, 1] [])
  (.seq (.reg false [⟨some 5, none, .nrow 1⟩] [0, 1, 5] [])
  (.seq (.seq (.reg false [⟨some 8, none, .mov (.t 0)⟩, 
    ⟨some 9, none, .len (.t 8)⟩, 
    ⟨some 10, none, .mov (.c (.p (.int .i64 0)))⟩] [1, 5, 8, 9, 10] [])
  (.block 0 lp121_0))
  (.seq (.reg false [⟨some 24, none, .mov (.t 5)⟩, 
    ⟨some 4, none, .mov (.t 24)⟩] [4] [])
  .ret)))),
  [.tmp 4], false⟩
def ir122 : IFn :=   -- slices.Sort[[]int,int]
⟨(.seq (.reg false [⟨some 3, none, .mov (.t 0)⟩, 
    ⟨some 4, none, .len (.t 3)⟩, 
    ⟨some 2, none, .mov (.t 4)⟩] [0, 2] [])
  (.reg false [⟨some 5, none, .mov (.t 0)⟩, 
    ⟨some 6, none, .mov (.t 2)⟩, 
    ⟨some 7, none, .mov (.t 2)⟩, 
    ⟨some 8, none, .conv .u64 (.t 7)⟩, 
    ⟨some 9, none, .call 169 [(.t 8)] false⟩, 
    ⟨some 10, none, .call 168 [(.t 5), (.c (.p (.int .i64 0))), (.t 6), (.t 9)] false⟩] [] [])),
  [], false⟩
def lp123_0 : IC :=
  (.loop [2, 3, 4, 5, 8, 9, 11] [4, 5, 8, 9] (.seq (.reg false [⟨some 12, none, .bin .lss (.t 11) (.c (.p (.int .i64 3)))⟩] [2, 3, 4, 5, 8, 9, 11, 12] [4, 5, 8, 9])
      (.seq (.cond (.t 12)
      .skip
      (.exit 0))
      (.seq (.block 1 (.seq (.reg false [⟨some 13, none, .mov (.t 11)⟩, 
          ⟨some 10, none, .mov (.t 13)⟩] [2, 3, 4, 5, 8, 9, 10, 11] [4, 5, 8, 9])
        (.reg true [⟨some 14, none, .mov (.t 10)⟩, 
          ⟨some 15, none, .mov (.t 3)⟩, 
          ⟨some 16, none, .mov (.t 10)⟩, 
          ⟨some 17, none, .ixa (.t 4) (.t 16) 1 3⟩, 
          ⟨some 18, none, .ld (.t 17) 1 false⟩, 
          ⟨some 19, none, .mov (.t 2)⟩, 
          ⟨some 20, none, .call 127 [(.t 18), (.t 19), (.c (.p (.int .i64 1073741824)))] true⟩, 
          ⟨some 21, none, .mov (.t 10)⟩, 
          ⟨some 22, none, .ixa (.t 5) (.t 21) 1 3⟩, 
          ⟨some 23, none, .ld (.t 22) 1 false⟩, 
          ⟨some 24, none, .mov (.t 2)⟩, 
          ⟨some 25, none, .call 127 [(.t 23), (.t 24), (.c (.p (.int .i64 1073741824)))] true⟩, 
          ⟨some 26, none, .callv (.t 15) [(.t 20), (.t 25)] true⟩, 
          ⟨some 27, none, .mov (.t 2)⟩, 
          ⟨some 28, none, .call 127 [(.t 26), (.t 27), (.c (.p (.int .i64 1073741824)))] true⟩, 
          ⟨some 29, none, .ixa (.t 9) (.t 14) 1 3⟩, 
          ⟨none, none, .st (.t 29) (.t 28) 1⟩] [2, 3, 4, 5, 8, 9, 11] [4, 5, 8, 9])))
      (.reg false [⟨some 30, none, .bin .add (.t 11) (.c (.p (.int .i64 1)))⟩, 
        ⟨some 11, none, .mov (.t 30)⟩] [2, 3, 4, 5, 8, 9, 11] [4, 5, 8, 9])))))
def ir123 : IFn :=   -- tympan/queue.zip
⟨(.seq (.reg false [⟨some 4, none, .bx (.t 0) 3 true⟩, 
    ⟨some 5, none, .bx (.t 1) 3 true⟩, 
    ⟨some 8, none, .al [.p (.int .i64 0), .p (.int .i64 0), .p (.int .i64 0)] true⟩] [2, 3, 4, 5, 8] [4, 5, 8])
  (.seq (.reg false [⟨some 9, none, .al [.p (.int .i64 0), .p (.int .i64 0), .p (.int .i64 0)] true⟩] [2, 3, 4, 5, 8, 9] [4, 5, 8, 9])
  (.seq (.seq (.reg false [⟨some 11, none, .mov (.c (.p (.int .i64 0)))⟩] [2, 3, 4, 5, 8, 9, 11] [4, 5, 8, 9])
  (.block 0 lp123_0))
  (.seq (.reg false [⟨some 31, none, .ld (.t 9) 3 true⟩, 
    ⟨none, none, .st (.t 8) (.t 31) 3⟩] [8] [8])
  .ret)))),
  [.cell 8 3 true], false⟩
def ir124 : IFn :=   -- (tympan/queue.Counts).Add$1
⟨(.seq (.reg false [⟨some 4, none, .mov (.c (.p (.int .i64 0)))⟩] [0, 1] [])
  (.seq (.reg false [⟨some 5, none, .mov (.t 0)⟩, 
    ⟨some 6, none, .mov (.t 1)⟩, 
    ⟨some 7, none, .bin .add (.t 5) (.t 6)⟩, 
    ⟨some 4, none, .mov (.t 7)⟩] [4] [])
  .ret)),
  [.tmp 4], false⟩
def ir125 : IFn :=   -- tympan/figure.At
⟨(.seq (.reg false [⟨some 4, none, .al [.p (.int .i64 0), .p (.int .i64 0), .p (.int .i64 0)] true⟩, 
    ⟨some 5, none, .mov (.c (.p (.bool false)))⟩] [0, 1, 4] [4])
  (.seq (.seq (.reg false [⟨some 6, none, .mov (.t 1)⟩, 
    ⟨some 7, none, .bin .lss (.t 6) (.c (.p (.int .i64 0)))⟩, 
    ⟨some 8, none, .mov (.t 7)⟩, 
    ⟨some 9, (some (8, false)), .mov (.t 1)⟩, 
    ⟨some 10, (some (8, false)), .mov (.t 0)⟩, 
    ⟨some 11, (some (8, false)), .len (.t 10)⟩, 
    ⟨some 12, (some (8, false)), .bin .geq (.t 9) (.t 11)⟩, 
    ⟨some 13, none, .pick (.t 8) (.c (.p (.bool true))) (.t 12)⟩] [0, 1, 4, 13] [4])
  (.cond (.t 13)
  (.seq (.reg false [⟨some 14, none, .bld [.p (.int .i64 0), .p (.int .i64 0), .p (.int .i64 0)] []⟩, 
      ⟨none, none, .st (.t 4) (.t 14) 3⟩, 
      ⟨some 5, none, .mov (.c (.p (.bool false)))⟩] [4, 5] [4])
    .ret)
  .skip))
  (.seq (.reg false [⟨some 15, none, .mov (.t 0)⟩, 
    ⟨some 16, none, .mov (.t 1)⟩, 
    ⟨some 17, none, .ixs (.t 15) (.t 16) 3⟩, 
    ⟨some 18, none, .ld (.t 17) 3 true⟩, 
    ⟨none, none, .st (.t 4) (.t 18) 3⟩, 
    ⟨some 5, none, .mov (.c (.p (.bool true)))⟩] [4, 5] [4])
  .ret))),
  [.cell 4 3 true, .tmp 5], false⟩
def ir126 : IFn :=   -- tympan/tympanref23.held
⟨(.seq (.reg false [⟨some 6, none, .mov (.c (.p (.int .i64 0)))⟩] [0, 1, 2] [])
  (.seq (.reg false [⟨some 7, none, .mov (.t 1)⟩, 
    ⟨some 8, none, .mov (.t 0)⟩, 
    ⟨some 9, none, .mov (.t 2)⟩, 
    ⟨some 10, none, .mnmx false (.t 8) (.t 9)⟩, 
    ⟨some 11, none, .mnmx true (.t 7) (.t 10)⟩, 
    ⟨some 6, none, .mov (.t 11)⟩] [6] [])
  .ret)),
  [.tmp 6], false⟩
def ir127 : IFn :=   -- tympan/queue.held
⟨(.seq (.reg false [⟨some 6, none, .mov (.c (.p (.int .i64 0)))⟩] [0, 1, 2] [])
  (.seq (.reg false [⟨some 7, none, .mov (.t 0)⟩, 
    ⟨some 8, none, .mov (.t 1)⟩, 
    ⟨some 9, none, .mnmx true (.t 7) (.t 8)⟩, 
    ⟨some 10, none, .mov (.t 2)⟩, 
    ⟨some 11, none, .mnmx false (.t 9) (.t 10)⟩, 
    ⟨some 6, none, .mov (.t 11)⟩] [6] [])
  .ret)),
  [.tmp 6], false⟩
def ir128 : IFn :=   -- tympan/queue.Ready$1
⟨(.seq (.reg false [⟨some 4, none, .mov (.c (.p (.int .i64 0)))⟩] [0, 1] [])
  (.seq (.reg false [⟨some 5, none, .mov (.t 1)⟩, 
    ⟨some 6, none, .mov (.t 0)⟩, 
    ⟨some 7, none, .bin .sub (.t 5) (.t 6)⟩, 
    ⟨some 4, none, .mov (.t 7)⟩] [4] [])
  .ret)),
  [.tmp 4], false⟩
def ir130 : IFn :=   -- tympan/area.High
⟨(.seq (.reg false [⟨some 3, none, .bx (.t 0) 19 true⟩, 
    ⟨some 5, none, .bx (.t 2) 2 true⟩, 
    ⟨some 6, none, .mov (.c (.p (.int .i64 0)))⟩] [1, 3, 5] [3, 5])
  (.seq (.reg true [⟨some 7, none, .mov (.t 1)⟩, 
    ⟨some 8, none, .off (.t 5) 0⟩, 
    ⟨some 9, none, .ld (.t 8) 1 false⟩, 
    ⟨some 10, none, .off (.t 3) 7⟩, 
    ⟨some 11, none, .ld (.t 10) 1 false⟩, 
    ⟨some 12, none, .call 170 [(.t 7), (.t 9), (.t 11)] true⟩, 
    ⟨some 13, none, .mov (.t 1)⟩, 
    ⟨some 14, none, .off (.t 5) 1⟩, 
    ⟨some 15, none, .ld (.t 14) 1 false⟩, 
    ⟨some 16, none, .off (.t 3) 7⟩, 
    ⟨some 17, none, .ld (.t 16) 1 false⟩, 
    ⟨some 18, none, .call 170 [(.t 13), (.t 15), (.t 17)] true⟩, 
    ⟨some 19, none, .bin .add (.t 12) (.t 18)⟩, 
    ⟨some 6, none, .mov (.t 19)⟩] [6] [])
  .ret)),
  [.tmp 6], false⟩
def ir131 : IFn :=   -- tympan/area.Stack
⟨(.seq (.reg false [⟨some 3, none, .bx (.t 0) 19 true⟩, 
    ⟨some 6, none, .mov (.c (.p (.int .i64 0)))⟩] [1, 2, 3] [3])
  (.seq (.reg false [⟨some 8, none, .mov (.t 1)⟩, 
    ⟨some 9, none, .mov (.t 2)⟩, 
    ⟨some 10, none, .off (.t 3) 7⟩, 
    ⟨some 11, none, .ld (.t 10) 1 false⟩, 
    ⟨some 12, none, .call 170 [(.t 8), (.t 9), (.t 11)] false⟩, 
    ⟨some 7, none, .mov (.t 12)⟩] [3, 7] [3])
  (.seq (.seq (.reg false [⟨some 13, none, .mov (.t 7)⟩, 
    ⟨some 14, none, .bin .eql (.t 13) (.c (.p (.int .i64 0)))⟩] [3, 7, 14] [3])
  (.cond (.t 14)
  (.seq (.reg false [⟨some 6, none, .mov (.c (.p (.int .i64 0)))⟩] [6] [])
    .ret)
  .skip))
  (.seq (.reg false [⟨some 15, none, .mov (.t 7)⟩, 
    ⟨some 16, none, .off (.t 3) 7⟩, 
    ⟨some 17, none, .ld (.t 16) 1 false⟩, 
    ⟨some 18, none, .mnmx true (.t 17) (.c (.p (.int .i64 0)))⟩, 
    ⟨some 19, none, .mnmx false (.t 18) (.c (.p (.int .i64 1125899906842624)))⟩, 
    ⟨some 20, none, .bin .sub (.t 15) (.t 19)⟩, 
    ⟨some 6, none, .mov (.t 20)⟩] [6] [])
  .ret)))),
  [.tmp 6], false⟩
def lp132_0 : IC :=
  (.loop [1, 4, 5, 7, 11, 18, 19, 20] [5, 7] (.seq (.reg false [⟨some 21, none, .bin .lss (.t 20) (.t 19)⟩] [1, 4, 5, 7, 11, 18, 19, 20, 21] [5, 7])
      (.seq (.cond (.t 21)
      .skip
      (.exit 0))
      (.seq (.block 1 (.seq (.reg false [⟨some 22, none, .ixs (.t 18) (.t 20) 3⟩, 
          ⟨some 23, none, .ld (.t 22) 3 true⟩, 
          ⟨some 13, none, .al [.p (.int .i64 0), .p (.int .i64 0), .p (.int .i64 0)] true⟩, 
          ⟨none, none, .st (.t 13) (.t 23) 3⟩] [1, 4, 5, 7, 11, 13, 18, 19, 20] [5, 7, 13])
        (.seq (.reg false [⟨some 25, none, .mov (.t 1)⟩, 
          ⟨some 26, none, .ld (.t 7) 3 true⟩, 
          ⟨some 27, none, .ld (.t 13) 3 true⟩, 
          ⟨some 28, none, .call 68 [(.t 25), (.t 26), (.t 27)] false⟩, 
          ⟨some 24, none, .mov (.t 28)⟩, 
          ⟨some 29, none, .ext (.t 24) 0⟩, 
          ⟨some 30, none, .ext (.t 24) 1⟩, 
          ⟨some 14, none, .mov (.t 29)⟩, 
          ⟨some 15, none, .mov (.t 30)⟩] [1, 4, 5, 7, 11, 13, 14, 15, 18, 19, 20] [5, 7, 13])
        (.seq (.reg false [⟨some 31, none, .mov (.t 15)⟩, 
          ⟨some 32, none, .mov (.t 31)⟩, 
          ⟨some 33, (some (32, true)), .ld (.t 13) 3 true⟩, 
          ⟨some 34, (some (32, true)), .call 73 [(.t 33)] false⟩, 
          ⟨some 35, (some (32, true)), .bin .gtr (.t 34) (.c (.p (.int .i64 0)))⟩, 
          ⟨some 36, none, .pick (.t 32) (.t 35) (.c (.p (.bool false)))⟩, 
          ⟨some 37, none, .mov (.t 36)⟩, 
          ⟨some 38, (some (37, true)), .ld (.t 5) 19 true⟩, 
          ⟨some 39, (some (37, true)), .mov (.t 1)⟩, 
          ⟨some 40, (some (37, true)), .mov (.t 14)⟩, 
          ⟨some 41, (some (37, true)), .call 131 [(.t 38), (.t 39), (.t 40)] false⟩, 
          ⟨some 42, (some (37, true)), .mov (.t 4)⟩, 
          ⟨some 43, (some (37, true)), .bin .leq (.t 41) (.t 42)⟩, 
          ⟨some 44, none, .pick (.t 37) (.t 43) (.c (.p (.bool false)))⟩] [1, 4, 5, 7, 11, 14, 18, 19, 20, 44] [5, 7])
        (.cond (.t 44)
        (.reg false [⟨some 45, none, .mov (.t 11)⟩, 
            ⟨some 46, none, .mov (.t 14)⟩, 
            ⟨some 47, none, .bsl 1 1 [.nils] [(0, (.t 46))]⟩, 
            ⟨some 48, none, .app (.t 45) (.t 47) 1⟩, 
            ⟨some 11, none, .mov (.t 48)⟩] [1, 4, 5, 7, 11, 18, 19, 20] [5, 7])
        .skip)))))
      (.reg false [⟨some 49, none, .bin .add (.t 20) (.c (.p (.int .i64 1)))⟩, 
        ⟨some 20, none, .mov (.t 49)⟩] [1, 4, 5, 7, 11, 18, 19, 20] [5, 7])))))
def ir132 : IFn :=   -- tympan/area.Alone
⟨(.seq (.reg false [⟨some 5, none, .bx (.t 0) 19 true⟩, 
    ⟨some 7, none, .bx (.t 2) 3 true⟩, 
    ⟨some 8, none, .bx (.t 3) 3 true⟩, 
    ⟨some 10, none, .mov (.c (.nils))⟩] [1, 4, 5, 7, 8] [5, 7, 8])
  (.seq (.reg false [⟨some 11, none, .nrow 1⟩] [1, 4, 5, 7, 8, 11] [5, 7, 8])
  (.seq (.seq (.reg false [⟨some 16, none, .ld (.t 8) 3 true⟩, 
    ⟨some 17, none, .call 133 [(.t 16)] false⟩, 
    ⟨some 18, none, .call 79 [(.t 17), (.c (.p (.int .i64 8)))] false⟩, 
    ⟨some 19, none, .len (.t 18)⟩, 
    ⟨some 20, none, .mov (.c (.p (.int .i64 0)))⟩] [1, 4, 5, 7, 11, 18, 19, 20] [5, 7])
  (.block 0 lp132_0))
  (.seq (.reg false [⟨some 50, none, .mov (.t 11)⟩, 
    ⟨some 10, none, .mov (.t 50)⟩] [10] [])
  .ret)))),
  [.tmp 10], false⟩
def lp133_0 : IC :=
  (.loop [1, 2, 4] [1, 2] (.seq (.reg false [⟨some 5, none, .bin .lss (.t 4) (.c (.p (.int .i64 3)))⟩] [1, 2, 4, 5] [1, 2])
      (.seq (.cond (.t 5)
      .skip
      (.exit 0))
      (.seq (.block 1 (.seq (.reg false [⟨some 6, none, .mov (.t 4)⟩, 
          ⟨some 3, none, .mov (.t 6)⟩] [1, 2, 3, 4] [1, 2])
        (.reg false [⟨some 7, none, .mov (.t 3)⟩, 
          ⟨some 8, none, .mov (.t 3)⟩, 
          ⟨some 9, none, .ixa (.t 1) (.t 8) 1 3⟩, 
          ⟨some 10, none, .ld (.t 9) 1 false⟩, 
          ⟨some 11, none, .mnmx false (.t 10) (.c (.p (.int .i64 16)))⟩, 
          ⟨some 12, none, .ixa (.t 1) (.t 7) 1 3⟩, 
          ⟨none, none, .st (.t 12) (.t 11) 1⟩] [1, 2, 4] [1, 2])))
      (.reg false [⟨some 13, none, .bin .add (.t 4) (.c (.p (.int .i64 1)))⟩, 
        ⟨some 4, none, .mov (.t 13)⟩] [1, 2, 4] [1, 2])))))
def ir133 : IFn :=   -- tympan/area.some
⟨(.seq (.reg false [⟨some 1, none, .bx (.t 0) 3 true⟩, 
    ⟨some 2, none, .al [.p (.int .i64 0), .p (.int .i64 0), .p (.int .i64 0)] true⟩] [1, 2] [1, 2])
  (.seq (.seq (.reg false [⟨some 4, none, .mov (.c (.p (.int .i64 0)))⟩] [1, 2, 4] [1, 2])
  (.block 0 lp133_0))
  (.seq (.reg false [⟨some 14, none, .ld (.t 1) 3 true⟩, 
    ⟨none, none, .st (.t 2) (.t 14) 3⟩] [2] [2])
  .ret))),
  [.cell 2 3 true], false⟩
def ir134 : IFn :=   -- tympan/area.top
⟨(.seq (.reg false [⟨some 1, none, .bx (.t 0) 19 true⟩, 
    ⟨some 2, none, .al [.p (.int .i64 0), .p (.int .i64 0), .p .nilf] true⟩] [1, 2] [1, 2])
  (.seq (.reg false [⟨some 3, none, .off (.t 1) 11⟩, 
    ⟨some 4, none, .ld (.t 3) 1 false⟩, 
    ⟨some 5, none, .off (.t 1) 9⟩, 
    ⟨some 6, none, .ld (.t 5) 1 false⟩, 
    ⟨some 7, none, .bld [.p (.int .i64 0), .p (.int .i64 0), .p .nilf] [(0, 1, (.t 4)), (1, 1, (.t 6)), (2, 1, (.c (.p (.fn 171))))]⟩, 
    ⟨none, none, .st (.t 2) (.t 7) 3⟩] [2] [2])
  .ret)),
  [.cell 2 3 true], false⟩
def ir135 : IFn :=   -- tympan/area.bottom
⟨(.seq (.reg false [⟨some 1, none, .bx (.t 0) 19 true⟩, 
    ⟨some 2, none, .al [.p (.int .i64 0), .p (.int .i64 0), .p .nilf] true⟩] [1, 2] [1, 2])
  (.seq (.reg false [⟨some 3, none, .off (.t 1) 12⟩, 
    ⟨some 4, none, .ld (.t 3) 1 false⟩, 
    ⟨some 5, none, .off (.t 1) 10⟩, 
    ⟨some 6, none, .ld (.t 5) 1 false⟩, 
    ⟨some 7, none, .bld [.p (.int .i64 0), .p (.int .i64 0), .p .nilf] [(0, 1, (.t 4)), (1, 1, (.t 6)), (2, 1, (.c (.p (.fn 172))))]⟩, 
    ⟨none, none, .st (.t 2) (.t 7) 3⟩] [2] [2])
  .ret)),
  [.cell 2 3 true], false⟩
def lp136_0 : IC :=
  (.loop [2, 3, 4, 5, 18, 19, 20] [4, 5] (.seq (.reg false [⟨some 21, none, .bin .lss (.t 20) (.t 19)⟩] [2, 3, 4, 5, 18, 19, 20, 21] [4, 5])
      (.seq (.cond (.t 21)
      .skip
      (.exit 0))
      (.seq (.block 1 (.seq (.reg false [⟨some 22, none, .ixs (.t 18) (.t 20) 1⟩, 
          ⟨some 23, none, .ld (.t 22) 1 false⟩, 
          ⟨some 10, none, .mov (.t 23)⟩] [2, 3, 4, 5, 10, 18, 19, 20] [4, 5])
        (.seq (.reg false [⟨some 25, none, .mov (.t 2)⟩, 
          ⟨some 26, none, .mov (.t 10)⟩, 
          ⟨some 27, none, .call 125 [(.t 25), (.t 26)] false⟩, 
          ⟨some 24, none, .mov (.t 27)⟩, 
          ⟨some 28, none, .ext (.t 24) 0⟩, 
          ⟨some 29, none, .ext (.t 24) 1⟩, 
          ⟨some 11, none, .al [.p (.int .i64 0), .p (.int .i64 0), .p (.int .i64 0)] true⟩, 
          ⟨none, none, .st (.t 11) (.t 28) 3⟩, 
          ⟨some 12, none, .mov (.t 29)⟩] [2, 3, 4, 5, 11, 12, 18, 19, 20] [4, 5, 11])
        (.seq (.reg false [⟨some 30, none, .mov (.t 12)⟩, 
          ⟨some 31, none, .un .not (.t 30)⟩, 
          ⟨some 32, none, .mov (.t 31)⟩, 
          ⟨some 33, (some (32, false)), .off (.t 4) 2⟩, 
          ⟨some 34, (some (32, false)), .ld (.t 33) 1 false⟩, 
          ⟨some 35, (some (32, false)), .ld (.t 11) 3 true⟩, 
          ⟨some 36, (some (32, false)), .callv (.t 34) [(.t 35)] false⟩, 
          ⟨some 37, (some (32, false)), .un .not (.t 36)⟩, 
          ⟨some 38, none, .pick (.t 32) (.c (.p (.bool true))) (.t 37)⟩] [2, 3, 4, 5, 18, 19, 20, 38] [4, 5])
        (.cond (.t 38)
        (.seq (.reg false [⟨some 8, none, .mov (.c (.p (.bool false)))⟩] [8] [])
          .ret)
        .skip)))))
      (.reg false [⟨some 39, none, .bin .add (.t 20) (.c (.p (.int .i64 1)))⟩, 
        ⟨some 20, none, .mov (.t 39)⟩] [2, 3, 4, 5, 18, 19, 20] [4, 5])))))
def ir136 : IFn :=   -- (tympan/area.place).fits
⟨(.seq (.reg false [⟨some 4, none, .bx (.t 0) 3 true⟩, 
    ⟨some 5, none, .bx (.t 1) 19 true⟩, 
    ⟨some 8, none, .mov (.c (.p (.bool false)))⟩] [2, 3, 4, 5] [4, 5])
  (.seq (.seq (.reg false [⟨some 13, none, .mov (.t 3)⟩, 
    ⟨some 14, none, .len (.t 13)⟩, 
    ⟨some 15, none, .off (.t 4) 0⟩, 
    ⟨some 16, none, .ld (.t 15) 1 false⟩, 
    ⟨some 17, none, .bin .gtr (.t 14) (.t 16)⟩] [2, 3, 4, 5, 17] [4, 5])
  (.cond (.t 17)
  (.seq (.reg false [⟨some 8, none, .mov (.c (.p (.bool false)))⟩] [8] [])
    .ret)
  .skip))
  (.seq (.seq (.reg false [⟨some 18, none, .mov (.t 3)⟩, 
    ⟨some 19, none, .len (.t 18)⟩, 
    ⟨some 20, none, .mov (.c (.p (.int .i64 0)))⟩] [2, 3, 4, 5, 18, 19, 20] [4, 5])
  (.block 0 lp136_0))
  (.seq (.reg true [⟨some 40, none, .mov (.t 2)⟩, 
    ⟨some 41, none, .mov (.t 3)⟩, 
    ⟨some 42, none, .off (.t 5) 7⟩, 
    ⟨some 43, none, .ld (.t 42) 1 false⟩, 
    ⟨some 44, none, .call 170 [(.t 40), (.t 41), (.t 43)] true⟩, 
    ⟨some 45, none, .off (.t 4) 1⟩, 
    ⟨some 46, none, .ld (.t 45) 1 false⟩, 
    ⟨some 47, none, .bin .leq (.t 44) (.t 46)⟩, 
    ⟨some 8, none, .mov (.t 47)⟩] [8] [])
  .ret)))),
  [.tmp 8], false⟩
def ir137 : IFn :=   -- slices.Collect[[]tympan/api.Piece]
⟨(.seq (.reg false [⟨some 2, none, .mov (.c (.nils))⟩] [0] [])
  (.seq (.reg false [⟨some 3, none, .mov (.t 0)⟩, 
    ⟨some 4, none, .call 173 [(.c (.nils)), (.t 3)] false⟩, 
    ⟨some 2, none, .mov (.t 4)⟩] [2] [])
  .ret)),
  [.tmp 2], false⟩
def ir138 : IFn :=   -- tympan/split.all
⟨(.seq (.reg false [⟨some 2, none, .bx (.t 0) 1 false⟩, 
    ⟨some 3, none, .bx (.t 1) 4 false⟩, 
    ⟨some 4, none, .mov (.c (.p .nilf))⟩] [2, 3] [])
  (.seq (.reg false [⟨some 5, none, .mkf (.func 174) [] [(.t 3), (.t 2)]⟩, 
    ⟨some 4, none, .mov (.t 5)⟩] [4] [])
  .ret)),
  [.tmp 4], false⟩
def ir139 : IFn :=   -- slices.Clone[[]tympan/api.Item,tympan/api.Item]
⟨(.seq (.reg false [⟨some 2, none, .mov (.c (.nils))⟩] [0] [])
  (.seq (.seq (.reg false [⟨some 3, none, .mov (.t 0)⟩, 
    ⟨some 4, none, .eqn .sl false (.t 3)⟩] [0, 4] [])
  (.cond (.t 4)
  (.seq (.reg false [⟨some 2, none, .mov (.c (.nils))⟩] [2] [])
    .ret)
  .skip))
  (.seq (.reg false [⟨some 5, none, .bsl 7 0 [.p (.int .i64 0), .p (.int .i64 0), .p (.int .i64 0), .p (.int .i64 0), .p (.int .i64 0), .p (.int .i64 0), .p (.int .i64 0)] []⟩, 
    ⟨some 6, none, .mov (.t 0)⟩, 
    ⟨some 7, none, .app (.t 5) (.t 6) 7⟩, 
    ⟨some 2, none, .mov (.t 7)⟩] [2] [])
  .ret))),
  [.tmp 2], false⟩
def ir140 : IFn :=   -- slices.Clone[[]tympan/api.Sp,tympan/api.Sp]
⟨(.seq (.reg false [⟨some 2, none, .mov (.c (.nils))⟩] [0] [])
  (.seq (.seq (.reg false [⟨some 3, none, .mov (.t 0)⟩, 
    ⟨some 4, none, .eqn .sl false (.t 3)⟩] [0, 4] [])
  (.cond (.t 4)
  (.seq (.reg false [⟨some 2, none, .mov (.c (.nils))⟩] [2] [])
    .ret)
  .skip))
  (.seq (.reg false [⟨some 5, none, .bsl 1 0 [.p (.int .i64 0)] []⟩, 
    ⟨some 6, none, .mov (.t 0)⟩, 
    ⟨some 7, none, .app (.t 5) (.t 6) 1⟩, 
    ⟨some 2, none, .mov (.t 7)⟩] [2] [])
  .ret))),
  [.tmp 2], false⟩
def ir141 : IFn :=   -- slices.Clone[[]int,int]
⟨(.seq (.reg false [⟨some 2, none, .mov (.c (.nils))⟩] [0] [])
  (.seq (.seq (.reg false [⟨some 3, none, .mov (.t 0)⟩, 
    ⟨some 4, none, .eqn .sl false (.t 3)⟩] [0, 4] [])
  (.cond (.t 4)
  (.seq (.reg false [⟨some 2, none, .mov (.c (.nils))⟩] [2] [])
    .ret)
  .skip))
  (.seq (.reg false [⟨some 5, none, .bsl 1 0 [.p (.int .i64 0)] []⟩, 
    ⟨some 6, none, .mov (.t 0)⟩, 
    ⟨some 7, none, .app (.t 5) (.t 6) 1⟩, 
    ⟨some 2, none, .mov (.t 7)⟩] [2] [])
  .ret))),
  [.tmp 2], false⟩
def ir142 : IFn :=   -- tympan/grid.or
⟨(.seq (.reg false [⟨some 6, none, .mov (.c (.p (.int .i64 0)))⟩] [0, 1, 2] [])
  (.seq (.seq (.reg false [⟨some 10, none, .mov (.t 2)⟩, 
    ⟨some 11, none, .mov (.t 0)⟩, 
    ⟨some 12, none, .mov (.t 1)⟩, 
    ⟨some 13, none, .callv (.t 10) [(.t 11), (.t 12)] false⟩, 
    ⟨some 9, none, .mov (.t 13)⟩, 
    ⟨some 14, none, .ext (.t 9) 0⟩, 
    ⟨some 15, none, .ext (.t 9) 1⟩, 
    ⟨some 7, none, .mov (.t 14)⟩, 
    ⟨some 8, none, .mov (.t 15)⟩] [0, 7, 8] [])
  (.seq (.reg false [⟨some 16, none, .mov (.t 8)⟩] [0, 7, 16] [])
  (.cond (.t 16)
  (.seq (.reg false [⟨some 17, none, .mov (.t 7)⟩, 
      ⟨some 6, none, .mov (.t 17)⟩] [6] [])
    .ret)
  .skip)))
  (.seq (.reg false [⟨some 18, none, .mov (.t 0)⟩, 
    ⟨some 6, none, .mov (.t 18)⟩] [6] [])
  .ret))),
  [.tmp 6], false⟩
def ir143 : IFn :=   -- tympan/sp.Down
⟨(.seq (.reg false [⟨some 4, none, .mov (.c (.p (.int .i64 0)))⟩, 
    ⟨some 5, none, .mov (.c (.p (.bool false)))⟩] [0, 1] [])
  (.seq (.seq (.reg false [⟨some 6, none, .mov (.t 1)⟩, 
    ⟨some 7, none, .bin .lss (.t 6) (.c (.p (.int .i64 1)))⟩] [0, 1, 7] [])
  (.cond (.t 7)
  (.seq (.reg false [⟨some 4, none, .mov (.c (.p (.int .i64 0)))⟩, 
      ⟨some 5, none, .mov (.c (.p (.bool false)))⟩] [4, 5] [])
    .ret)
  .skip))
  (.seq (.reg false [⟨some 8, none, .mov (.t 0)⟩, 
    ⟨some 9, none, .mov (.t 0)⟩, 
    ⟨some 10, none, .mov (.t 1)⟩, 
    ⟨some 11, none, .call 178 [(.t 9), (.t 10)] false⟩, 
    ⟨some 12, none, .call 177 [(.t 8), (.t 11)] false⟩, 
    ⟨some 13, none, .ext (.t 12) 0⟩, 
    ⟨some 14, none, .ext (.t 12) 1⟩, 
    ⟨some 4, none, .mov (.t 13)⟩, 
    ⟨some 5, none, .mov (.t 14)⟩] [4, 5] [])
  .ret))),
  [.tmp 4, .tmp 5], false⟩
def ir144 : IFn :=   -- tympan/sp.Up
⟨(.seq (.reg false [⟨some 4, none, .mov (.c (.p (.int .i64 0)))⟩, 
    ⟨some 5, none, .mov (.c (.p (.bool false)))⟩] [0, 1] [])
  (.seq (.seq (.reg false [⟨some 7, none, .mov (.t 1)⟩, 
    ⟨some 8, none, .bin .lss (.t 7) (.c (.p (.int .i64 1)))⟩] [0, 1, 8] [])
  (.cond (.t 8)
  (.seq (.reg false [⟨some 4, none, .mov (.c (.p (.int .i64 0)))⟩, 
      ⟨some 5, none, .mov (.c (.p (.bool false)))⟩] [4, 5] [])
    .ret)
  .skip))
  (.seq (.seq (.reg false [⟨some 9, none, .mov (.t 0)⟩, 
    ⟨some 10, none, .mov (.t 1)⟩, 
    ⟨some 11, none, .call 178 [(.t 9), (.t 10)] false⟩, 
    ⟨some 6, none, .mov (.t 11)⟩] [0, 1, 6] [])
  (.seq (.reg false [⟨some 12, none, .mov (.t 6)⟩, 
    ⟨some 13, none, .bin .gtr (.t 12) (.c (.p (.int .i64 0)))⟩] [0, 1, 6, 13] [])
  (.cond (.t 13)
  (.seq (.reg false [⟨some 14, none, .mov (.t 0)⟩, 
      ⟨some 15, none, .mov (.t 1)⟩, 
      ⟨some 16, none, .mov (.t 6)⟩, 
      ⟨some 17, none, .bin .sub (.t 15) (.t 16)⟩, 
      ⟨some 18, none, .call 179 [(.t 14), (.t 17)] false⟩, 
      ⟨some 19, none, .ext (.t 18) 0⟩, 
      ⟨some 20, none, .ext (.t 18) 1⟩, 
      ⟨some 4, none, .mov (.t 19)⟩, 
      ⟨some 5, none, .mov (.t 20)⟩] [4, 5] [])
    .ret)
  .skip)))
  (.seq (.reg false [⟨some 21, none, .mov (.t 0)⟩, 
    ⟨some 4, none, .mov (.t 21)⟩, 
    ⟨some 5, none, .mov (.c (.p (.bool true)))⟩] [4, 5] [])
  .ret)))),
  [.tmp 4, .tmp 5], false⟩
def lp145_0 : IC :=
  (.loop [0, 1, 7, 8] [] (.seq (.reg false [⟨some 9, none, .bin .lss (.t 8) (.t 7)⟩] [0, 1, 7, 8, 9] [])
      (.seq (.cond (.t 9)
      .skip
      (.exit 0))
      (.seq (.block 1 (.seq (.reg false [⟨some 10, none, .mov (.t 8)⟩, 
          ⟨some 5, none, .mov (.t 10)⟩] [0, 1, 5, 7, 8] [])
        (.seq (.reg false [⟨some 11, none, .mov (.t 1)⟩, 
          ⟨some 12, none, .mov (.t 0)⟩, 
          ⟨some 13, none, .mov (.t 5)⟩, 
          ⟨some 14, none, .ixs (.t 12) (.t 13) 1⟩, 
          ⟨some 15, none, .ld (.t 14) 1 false⟩, 
          ⟨some 16, none, .callv (.t 11) [(.t 15)] false⟩] [0, 1, 5, 7, 8, 16] [])
        (.cond (.t 16)
        (.seq (.reg false [⟨some 17, none, .mov (.t 5)⟩, 
            ⟨some 4, none, .mov (.t 17)⟩] [4] [])
          .ret)
        .skip))))
      (.reg false [⟨some 18, none, .bin .add (.t 8) (.c (.p (.int .i64 1)))⟩, 
        ⟨some 8, none, .mov (.t 18)⟩] [0, 1, 7, 8] [])))))
def ir145 : IFn :=   -- slices.IndexFunc[[]tympan/api.Sp,tympan/api.Sp]
⟨(.seq (.reg false [⟨some 4, none, .mov (.c (.p (.int .i64 0)))⟩] [0, 1] [])
  (.seq (.seq (.reg false [⟨some 6, none, .mov (.t 0)⟩, 
    ⟨some 7, none, .len (.t 6)⟩, 
    ⟨some 8, none, .mov (.c (.p (.int .i64 0)))⟩] [0, 1, 7, 8] [])
  (.block 0 lp145_0))
  (.seq (.reg false [⟨some 4, none, .mov (.c (.p (.int .i64 (-1))))⟩] [4] [])
  .ret))),
  [.tmp 4], false⟩
def ir146 : IFn :=   -- tympan/tympanref14.got
⟨(.seq (.reg false [⟨some 2, none, .bx (.t 0) 2 true⟩, 
    ⟨some 4, none, .mov (.c (.p (.int .i64 0)))⟩] [1, 2] [2])
  (.seq (.seq (.reg false [⟨some 5, none, .off (.t 2) 1⟩, 
    ⟨some 6, none, .ld (.t 5) 1 false⟩] [1, 2, 6] [2])
  (.cond (.t 6)
  (.seq (.reg false [⟨some 7, none, .off (.t 2) 0⟩, 
      ⟨some 8, none, .ld (.t 7) 1 false⟩, 
      ⟨some 4, none, .mov (.t 8)⟩] [4] [])
    .ret)
  .skip))
  (.seq (.reg false [⟨some 9, none, .mov (.t 1)⟩, 
    ⟨some 4, none, .mov (.t 9)⟩] [4] [])
  .ret))),
  [.tmp 4], false⟩
def ir147 : IFn :=   -- tympan/tympanref01.Down
⟨(.seq (.reg false [⟨some 4, none, .al [.p (.int .i64 0), .p (.bool false)] true⟩] [0, 1, 4] [4])
  (.seq (.seq (.reg false [⟨some 6, none, .mov (.t 1)⟩, 
    ⟨some 7, none, .bin .lss (.t 6) (.c (.p (.int .i64 1)))⟩] [0, 1, 4, 7] [4])
  (.cond (.t 7)
  (.seq (.reg false [⟨some 8, none, .bld [.p (.int .i64 0), .p (.bool false)] []⟩, 
      ⟨none, none, .st (.t 4) (.t 8) 2⟩] [4] [4])
    .ret)
  .skip))
  (.seq (.reg false [⟨some 9, none, .mov (.t 0)⟩, 
    ⟨some 10, none, .mov (.t 1)⟩, 
    ⟨some 11, none, .bin .rem (.t 9) (.t 10)⟩, 
    ⟨some 5, none, .mov (.t 11)⟩] [0, 1, 4, 5] [4])
  (.seq (.seq (.reg false [⟨some 12, none, .mov (.t 5)⟩, 
    ⟨some 13, none, .bin .lss (.t 12) (.c (.p (.int .i64 0)))⟩] [0, 1, 4, 5, 13] [4])
  (.cond (.t 13)
  (.reg false [⟨some 14, none, .mov (.t 5)⟩, 
      ⟨some 15, none, .mov (.t 1)⟩, 
      ⟨some 16, none, .bin .add (.t 14) (.t 15)⟩, 
      ⟨some 5, none, .mov (.t 16)⟩] [0, 4, 5] [4])
  .skip))
  (.seq (.reg false [⟨some 17, none, .mov (.t 0)⟩, 
    ⟨some 18, none, .mov (.t 5)⟩, 
    ⟨some 19, none, .call 180 [(.t 17), (.t 18)] false⟩, 
    ⟨none, none, .st (.t 4) (.t 19) 2⟩] [4] [4])
  .ret))))),
  [.cell 4 2 true], false⟩
def ir148 : IFn :=   -- tympan/tympanref01.Up
⟨(.seq (.reg false [⟨some 4, none, .al [.p (.int .i64 0), .p (.bool false)] true⟩] [0, 1, 4] [4])
  (.seq (.seq (.reg false [⟨some 6, none, .mov (.t 1)⟩, 
    ⟨some 7, none, .bin .lss (.t 6) (.c (.p (.int .i64 1)))⟩] [0, 1, 4, 7] [4])
  (.cond (.t 7)
  (.seq (.reg false [⟨some 8, none, .bld [.p (.int .i64 0), .p (.bool false)] []⟩, 
      ⟨none, none, .st (.t 4) (.t 8) 2⟩] [4] [4])
    .ret)
  .skip))
  (.seq (.reg false [⟨some 9, none, .mov (.t 0)⟩, 
    ⟨some 10, none, .mov (.t 1)⟩, 
    ⟨some 11, none, .bin .rem (.t 9) (.t 10)⟩, 
    ⟨some 5, none, .mov (.t 11)⟩] [0, 1, 4, 5] [4])
  (.seq (.seq (.reg false [⟨some 12, none, .mov (.t 5)⟩, 
    ⟨some 13, none, .bin .lss (.t 12) (.c (.p (.int .i64 0)))⟩] [0, 1, 4, 5, 13] [4])
  (.cond (.t 13)
  (.reg false [⟨some 14, none, .mov (.t 5)⟩, 
      ⟨some 15, none, .mov (.t 1)⟩, 
      ⟨some 16, none, .bin .add (.t 14) (.t 15)⟩, 
      ⟨some 5, none, .mov (.t 16)⟩] [0, 1, 4, 5] [4])
  .skip))
  (.seq (.seq (.reg false [⟨some 17, none, .mov (.t 5)⟩, 
    ⟨some 18, none, .bin .eql (.t 17) (.c (.p (.int .i64 0)))⟩] [0, 1, 4, 5, 18] [4])
  (.cond (.t 18)
  (.seq (.reg false [⟨some 19, none, .mov (.t 0)⟩, 
      ⟨some 20, none, .bld [.p (.int .i64 0), .p (.bool false)] [(0, 1, (.t 19)), (1, 1, (.c (.p (.bool true))))]⟩, 
      ⟨none, none, .st (.t 4) (.t 20) 2⟩] [4] [4])
    .ret)
  .skip))
  (.seq (.reg false [⟨some 21, none, .mov (.t 0)⟩, 
    ⟨some 22, none, .mov (.t 1)⟩, 
    ⟨some 23, none, .mov (.t 5)⟩, 
    ⟨some 24, none, .bin .sub (.t 22) (.t 23)⟩, 
    ⟨some 25, none, .call 181 [(.t 21), (.t 24)] false⟩, 
    ⟨none, none, .st (.t 4) (.t 25) 2⟩] [4] [4])
  .ret)))))),
  [.cell 4 2 true], false⟩
def ir149 : IFn :=   -- tympan/tympanref14.Near
⟨(.seq (.reg false [⟨some 4, none, .mov (.c (.p (.int .i64 0)))⟩] [0, 1] [])
  (.seq (.seq (.reg false [⟨some 8, none, .mov (.t 1)⟩, 
    ⟨some 9, none, .bin .lss (.t 8) (.c (.p (.int .i64 1)))⟩] [0, 1, 9] [])
  (.cond (.t 9)
  (.seq (.reg false [⟨some 10, none, .mov (.t 0)⟩, 
      ⟨some 4, none, .mov (.t 10)⟩] [4] [])
    .ret)
  .skip))
  (.seq (.reg false [⟨some 11, none, .mov (.t 0)⟩, 
    ⟨some 12, none, .mov (.t 1)⟩, 
    ⟨some 13, none, .call 147 [(.t 11), (.t 12)] false⟩, 
    ⟨some 14, none, .mov (.t 0)⟩, 
    ⟨some 15, none, .mov (.t 1)⟩, 
    ⟨some 16, none, .call 148 [(.t 14), (.t 15)] false⟩, 
    ⟨some 5, none, .al [.p (.int .i64 0), .p (.bool false)] true⟩, 
    ⟨some 6, none, .al [.p (.int .i64 0), .p (.bool false)] true⟩, 
    ⟨none, none, .st (.t 5) (.t 13) 2⟩, 
    ⟨none, none, .st (.t 6) (.t 16) 2⟩] [0, 1, 5, 6] [5, 6])
  (.seq (.reg false [⟨some 17, none, .mov (.t 0)⟩, 
    ⟨some 18, none, .mov (.t 1)⟩, 
    ⟨some 19, none, .bin .rem (.t 17) (.t 18)⟩, 
    ⟨some 7, none, .mov (.t 19)⟩] [0, 1, 5, 6, 7] [5, 6])
  (.seq (.seq (.reg false [⟨some 20, none, .mov (.t 7)⟩, 
    ⟨some 21, none, .bin .lss (.t 20) (.c (.p (.int .i64 0)))⟩] [0, 1, 5, 6, 7, 21] [5, 6])
  (.cond (.t 21)
  (.reg false [⟨some 22, none, .mov (.t 7)⟩, 
      ⟨some 23, none, .mov (.t 1)⟩, 
      ⟨some 24, none, .bin .add (.t 22) (.t 23)⟩, 
      ⟨some 7, none, .mov (.t 24)⟩] [0, 1, 5, 6, 7] [5, 6])
  .skip))
  (.seq (.seq (.reg false [⟨some 25, none, .mov (.t 7)⟩, 
    ⟨some 26, none, .mov (.t 1)⟩, 
    ⟨some 27, none, .mov (.t 7)⟩, 
    ⟨some 28, none, .bin .sub (.t 26) (.t 27)⟩, 
    ⟨some 29, none, .bin .lss (.t 25) (.t 28)⟩] [0, 5, 6, 7, 29] [5, 6])
  (.cond (.t 29)
  (.seq (.reg false [⟨some 30, none, .ld (.t 5) 2 true⟩, 
      ⟨some 31, none, .mov (.t 0)⟩, 
      ⟨some 32, none, .call 146 [(.t 30), (.t 31)] false⟩, 
      ⟨some 4, none, .mov (.t 32)⟩] [4] [])
    .ret)
  .skip))
  (.seq (.seq (.reg false [⟨some 33, none, .mov (.t 7)⟩, 
    ⟨some 34, none, .bin .eql (.t 33) (.c (.p (.int .i64 0)))⟩] [0, 6, 34] [6])
  (.cond (.t 34)
  (.seq (.reg false [⟨some 35, none, .mov (.t 0)⟩, 
      ⟨some 4, none, .mov (.t 35)⟩] [4] [])
    .ret)
  .skip))
  (.seq (.reg false [⟨some 36, none, .ld (.t 6) 2 true⟩, 
    ⟨some 37, none, .mov (.t 0)⟩, 
    ⟨some 38, none, .call 146 [(.t 36), (.t 37)] false⟩, 
    ⟨some 4, none, .mov (.t 38)⟩] [4] [])
  .ret)))))))),
  [.tmp 4], false⟩
def ir150 : IFn :=   -- tympan/valid.when
⟨(.seq (.reg false [⟨some 1, none, .bx (.t 0) 1 false⟩, 
    ⟨some 2, none, .mov (.c (.p .nilf))⟩] [1] [])
  (.seq (.reg false [⟨some 3, none, .mkf (.func 182) [] [(.t 1)]⟩, 
    ⟨some 2, none, .mov (.t 3)⟩] [2] [])
  .ret)),
  [.tmp 2], false⟩
def ir151 : IFn :=   -- tympan/valid.clauses$1
⟨(.seq (.reg false [⟨some 1, none, .bx (.t 0) 22 true⟩, 
    ⟨some 2, none, .mov (.c (.p (.bool false)))⟩] [1] [1])
  (.seq (.reg false [⟨some 3, none, .off (.t 1) 19⟩, 
    ⟨some 4, none, .ld (.t 3) 1 false⟩, 
    ⟨some 5, none, .len (.t 4)⟩, 
    ⟨some 6, none, .bin .gtr (.t 5) (.c (.p (.int .i64 4096)))⟩, 
    ⟨some 2, none, .mov (.t 6)⟩] [2] [])
  .ret)),
  [.tmp 2], false⟩
def ir152 : IFn :=   -- tympan/valid.clauses$2
⟨(.seq (.reg false [⟨some 1, none, .bx (.t 0) 22 true⟩, 
    ⟨some 2, none, .mov (.c (.p (.bool false)))⟩] [1] [1])
  (.seq (.reg false [⟨some 3, none, .off (.t 1) 21⟩, 
    ⟨some 4, none, .ld (.t 3) 1 false⟩, 
    ⟨some 5, none, .len (.t 4)⟩, 
    ⟨some 6, none, .bin .gtr (.t 5) (.c (.p (.int .i64 256)))⟩, 
    ⟨some 2, none, .mov (.t 6)⟩] [2] [])
  .ret)),
  [.tmp 2], false⟩
def ir153 : IFn :=   -- tympan/valid.clauses$3
⟨(.seq (.reg false [⟨some 1, none, .bx (.t 0) 22 true⟩, 
    ⟨some 2, none, .mov (.c (.p (.bool false)))⟩] [1] [1])
  (.seq (.reg false [⟨some 3, none, .off (.t 1) 20⟩, 
    ⟨some 4, none, .ld (.t 3) 1 false⟩, 
    ⟨some 5, none, .len (.t 4)⟩, 
    ⟨some 6, none, .bin .gtr (.t 5) (.c (.p (.int .i64 512)))⟩, 
    ⟨some 2, none, .mov (.t 6)⟩] [2] [])
  .ret)),
  [.tmp 2], false⟩
def ir154 : IFn :=   -- tympan/valid.clauses$4
⟨(.seq (.reg false [⟨some 1, none, .bx (.t 0) 22 true⟩, 
    ⟨some 2, none, .mov (.c (.p (.bool false)))⟩] [1] [1])
  (.seq (.reg false [⟨some 3, none, .off (.t 1) 0⟩, 
    ⟨some 4, none, .ld (.t 3) 19 true⟩, 
    ⟨some 5, none, .call 155 [(.t 4)] false⟩, 
    ⟨some 6, none, .bin .eql (.t 5) (.c (.p (.int .i64 6)))⟩, 
    ⟨some 2, none, .mov (.t 6)⟩] [2] [])
  .ret)),
  [.tmp 2], false⟩
def ir156 : IFn :=   -- tympan/valid.clauses$5
⟨(.seq (.reg false [⟨some 1, none, .bx (.t 0) 22 true⟩, 
    ⟨some 2, none, .mov (.c (.p (.bool false)))⟩] [1] [1])
  (.seq (.reg false [⟨some 3, none, .off (.t 1) 0⟩, 
    ⟨some 4, none, .ld (.t 3) 19 true⟩, 
    ⟨some 5, none, .call 155 [(.t 4)] false⟩, 
    ⟨some 6, none, .bin .eql (.t 5) (.c (.p (.int .i64 7)))⟩, 
    ⟨some 2, none, .mov (.t 6)⟩] [2] [])
  .ret)),
  [.tmp 2], false⟩
def ir157 : IFn :=   -- tympan/valid.clauses$6
⟨(.seq (.reg false [⟨some 1, none, .bx (.t 0) 22 true⟩, 
    ⟨some 2, none, .mov (.c (.p (.int .i64 0)))⟩] [1] [1])
  (.seq (.reg true [⟨some 3, none, .call 158 [(.c (.p (.fn 159)))] true⟩, 
    ⟨some 4, none, .off (.t 1) 19⟩, 
    ⟨some 5, none, .ld (.t 4) 1 false⟩, 
    ⟨some 6, none, .callv (.t 3) [(.t 5)] true⟩, 
    ⟨some 2, none, .mov (.t 6)⟩] [2] [])
  .ret)),
  [.tmp 2], false⟩
def ir158 : IFn :=   -- tympan/valid.first[tympan/api.Item]
⟨(.seq (.reg false [⟨some 1, none, .bx (.t 0) 1 false⟩, 
    ⟨some 2, none, .mov (.c (.p .nilf))⟩] [1] [])
  (.seq (.reg false [⟨some 3, none, .mkf (.func 185) [] [(.t 1)]⟩, 
    ⟨some 2, none, .mov (.t 3)⟩] [2] [])
  .ret)),
  [.tmp 2], false⟩
def ir160 : IFn :=   -- tympan/valid.clauses$7
⟨(.seq (.reg false [⟨some 1, none, .bx (.t 0) 22 true⟩, 
    ⟨some 2, none, .mov (.c (.p (.int .i64 0)))⟩] [1] [1])
  (.seq (.reg true [⟨some 3, none, .call 161 [(.c (.p (.fn 18)))] true⟩, 
    ⟨some 4, none, .off (.t 1) 20⟩, 
    ⟨some 5, none, .ld (.t 4) 1 false⟩, 
    ⟨some 6, none, .callv (.t 3) [(.t 5)] true⟩, 
    ⟨some 2, none, .mov (.t 6)⟩] [2] [])
  .ret)),
  [.tmp 2], false⟩
def ir161 : IFn :=   -- tympan/valid.first[tympan/api.Note]
⟨(.seq (.reg false [⟨some 1, none, .bx (.t 0) 1 false⟩, 
    ⟨some 2, none, .mov (.c (.p .nilf))⟩] [1] [])
  (.seq (.reg false [⟨some 3, none, .mkf (.func 190) [] [(.t 1)]⟩, 
    ⟨some 2, none, .mov (.t 3)⟩] [2] [])
  .ret)),
  [.tmp 2], false⟩
def ir162 : IFn :=   -- tympan/valid.clauses$8
⟨(.seq (.reg false [⟨some 1, none, .bx (.t 0) 22 true⟩, 
    ⟨some 2, none, .mov (.c (.p (.int .i64 0)))⟩] [1] [1])
  (.seq (.reg true [⟨some 3, none, .call 163 [(.c (.p (.fn 164)))] true⟩, 
    ⟨some 4, none, .off (.t 1) 21⟩, 
    ⟨some 5, none, .ld (.t 4) 1 false⟩, 
    ⟨some 6, none, .callv (.t 3) [(.t 5)] true⟩, 
    ⟨some 2, none, .mov (.t 6)⟩] [2] [])
  .ret)),
  [.tmp 2], false⟩
def ir163 : IFn :=   -- tympan/valid.first[tympan/api.Float]
⟨(.seq (.reg false [⟨some 1, none, .bx (.t 0) 1 false⟩, 
    ⟨some 2, none, .mov (.c (.p .nilf))⟩] [1] [])
  (.seq (.reg false [⟨some 3, none, .mkf (.func 193) [] [(.t 1)]⟩, 
    ⟨some 2, none, .mov (.t 3)⟩] [2] [])
  .ret)),
  [.tmp 2], false⟩
def ir164 : IFn :=   -- tympan/figure.Check
⟨(.seq (.reg false [⟨some 1, none, .bx (.t 0) 3 true⟩, 
    ⟨some 2, none, .mov (.c (.p (.int .i64 0)))⟩] [1] [1])
  (.seq (.seq (.reg false [⟨some 3, none, .off (.t 1) 0⟩, 
    ⟨some 4, none, .ld (.t 3) 1 false⟩, 
    ⟨some 5, none, .bin .lss (.t 4) (.c (.p (.int .i64 0)))⟩, 
    ⟨some 6, none, .mov (.t 5)⟩, 
    ⟨some 7, (some (6, false)), .off (.t 1) 0⟩, 
    ⟨some 8, (some (6, false)), .ld (.t 7) 1 false⟩, 
    ⟨some 9, (some (6, false)), .bin .geq (.t 8) (.c (.p (.int .i64 3)))⟩, 
    ⟨some 10, none, .pick (.t 6) (.c (.p (.bool true))) (.t 9)⟩, 
    ⟨some 11, none, .mov (.t 10)⟩, 
    ⟨some 12, (some (11, false)), .off (.t 1) 1⟩, 
    ⟨some 13, (some (11, false)), .ld (.t 12) 1 false⟩, 
    ⟨some 14, (some (11, false)), .bin .lss (.t 13) (.c (.p (.int .i64 1)))⟩, 
    ⟨some 15, none, .pick (.t 11) (.c (.p (.bool true))) (.t 14)⟩, 
    ⟨some 16, none, .mov (.t 15)⟩, 
    ⟨some 17, (some (16, false)), .off (.t 1) 1⟩, 
    ⟨some 18, (some (16, false)), .ld (.t 17) 1 false⟩, 
    ⟨some 19, (some (16, false)), .bin .gtr (.t 18) (.c (.p (.int .i64 1073741823)))⟩, 
    ⟨some 20, none, .pick (.t 16) (.c (.p (.bool true))) (.t 19)⟩, 
    ⟨some 21, none, .mov (.t 20)⟩, 
    ⟨some 22, (some (21, false)), .off (.t 1) 2⟩, 
    ⟨some 23, (some (21, false)), .ld (.t 22) 1 false⟩, 
    ⟨some 24, (some (21, false)), .bin .lss (.t 23) (.c (.p (.int .i64 0)))⟩, 
    ⟨some 25, none, .pick (.t 21) (.c (.p (.bool true))) (.t 24)⟩, 
    ⟨some 26, none, .mov (.t 25)⟩, 
    ⟨some 27, (some (26, false)), .off (.t 1) 2⟩, 
    ⟨some 28, (some (26, false)), .ld (.t 27) 1 false⟩, 
    ⟨some 29, (some (26, false)), .bin .gtr (.t 28) (.c (.p (.int .i64 3)))⟩, 
    ⟨some 30, none, .pick (.t 26) (.c (.p (.bool true))) (.t 29)⟩] [30] [])
  (.cond (.t 30)
  (.seq (.reg false [⟨some 2, none, .mov (.c (.p (.int .i64 10)))⟩] [2] [])
    .ret)
  .skip))
  (.seq (.reg false [⟨some 2, none, .mov (.c (.p (.int .i64 0)))⟩] [2] [])
  .ret))),
  [.tmp 2], false⟩
def ir165 : IFn :=   -- tympan/valid.loose
⟨(.seq (.reg false [⟨some 1, none, .bx (.t 0) 22 true⟩, 
    ⟨some 2, none, .mov (.c (.p (.int .i64 0)))⟩] [1] [1])
  (.seq (.reg true [⟨some 5, none, .off (.t 1) 19⟩, 
    ⟨some 6, none, .ld (.t 5) 1 false⟩, 
    ⟨some 7, none, .off (.t 1) 20⟩, 
    ⟨some 8, none, .ld (.t 7) 1 false⟩, 
    ⟨some 9, none, .len (.t 8)⟩, 
    ⟨some 10, none, .call 196 [(.t 6), (.c (.p (.int .i64 5))), (.t 9)] true⟩, 
    ⟨some 11, none, .off (.t 1) 19⟩, 
    ⟨some 12, none, .ld (.t 11) 1 false⟩, 
    ⟨some 13, none, .off (.t 1) 21⟩, 
    ⟨some 14, none, .ld (.t 13) 1 false⟩, 
    ⟨some 15, none, .len (.t 14)⟩, 
    ⟨some 16, none, .call 196 [(.t 12), (.c (.p (.int .i64 6))), (.t 15)] true⟩, 
    ⟨some 3, none, .mov (.t 10)⟩, 
    ⟨some 4, none, .mov (.t 16)⟩] [3, 4] [])
  (.seq (.seq (.reg false [⟨some 17, none, .mov (.t 3)⟩, 
    ⟨some 18, none, .bin .lss (.t 17) (.c (.p (.int .i64 0)))⟩, 
    ⟨some 19, none, .mov (.t 18)⟩, 
    ⟨some 20, (some (19, false)), .mov (.t 4)⟩, 
    ⟨some 21, (some (19, false)), .bin .lss (.t 20) (.c (.p (.int .i64 0)))⟩, 
    ⟨some 22, none, .pick (.t 19) (.c (.p (.bool true))) (.t 21)⟩] [3, 4, 22] [])
  (.cond (.t 22)
  (.seq (.reg false [⟨some 23, none, .mov (.t 3)⟩, 
      ⟨some 24, none, .mov (.t 4)⟩, 
      ⟨some 25, none, .mnmx true (.t 23) (.t 24)⟩, 
      ⟨some 2, none, .mov (.t 25)⟩] [2] [])
    .ret)
  .skip))
  (.seq (.reg false [⟨some 26, none, .mov (.t 3)⟩, 
    ⟨some 27, none, .mov (.t 4)⟩, 
    ⟨some 28, none, .mnmx false (.t 26) (.t 27)⟩, 
    ⟨some 2, none, .mov (.t 28)⟩] [2] [])
  .ret)))),
  [.tmp 2], false⟩
def ir166 : IFn :=   -- tympan/valid.tall
⟨(.seq (.reg false [⟨some 1, none, .bx (.t 0) 22 true⟩, 
    ⟨some 2, none, .mov (.c (.p (.int .i64 0)))⟩] [1] [1])
  (.seq (.reg false [⟨some 4, none, .ld (.t 1) 22 true⟩, 
    ⟨some 5, none, .call 46 [(.t 4)] false⟩, 
    ⟨some 3, none, .al [.p (.int .i64 0), .p (.int .i64 0), .p (.int .i64 0), .p (.int .i64 0), .p (.int .i64 0), .p (.int .i64 0), .p (.int .i64 0), .p (.int .i64 0), .p (.int .i64 0), .p (.int .i64 0), .p (.int .i64 0), .p (.int .i64 0), .p (.int .i64 0), .p (.int .i64 0), .p (.int .i64 0), .p (.int .i64 0), .p (.int .i64 0), .p (.int .i64 0), .p (.bool false), .nils, .nils, .nils] false⟩, 
    ⟨none, none, .st (.t 3) (.t 5) 22⟩] [3] [])
  (.seq (.reg false [⟨some 6, none, .off (.t 3) 21⟩, 
    ⟨some 7, none, .ld (.t 6) 1 false⟩, 
    ⟨some 8, none, .mkf (.func 197) [] [(.t 3)]⟩, 
    ⟨some 9, none, .call 194 [(.t 7), (.t 8)] false⟩, 
    ⟨some 2, none, .mov (.t 9)⟩] [2] [])
  .ret))),
  [.tmp 2], false⟩
def ir167 : IFn :=   -- tympan/check.clauses
⟨(.seq (.reg false [⟨some 0, none, .mov (.c (.nils))⟩] [] [])
  (.seq (.reg false [⟨some 1, none, .bld [.p (.int .i64 0), .p .nilf] [(0, 1, (.c (.p (.int .i64 6)))), (1, 1, (.c (.p (.fn 198))))]⟩, 
    ⟨some 2, none, .bld [.p (.int .i64 0), .p .nilf] [(0, 1, (.c (.p (.int .i64 17)))), (1, 1, (.c (.p (.fn 199))))]⟩, 
    ⟨some 3, none, .bld [.p (.int .i64 0), .p .nilf] [(0, 1, (.c (.p (.int .i64 8)))), (1, 1, (.c (.p (.fn 200))))]⟩, 
    ⟨some 4, none, .bld [.p (.int .i64 0), .p .nilf] [(0, 1, (.c (.p (.int .i64 9)))), (1, 1, (.c (.p (.fn 201))))]⟩, 
    ⟨some 5, none, .bld [.p (.int .i64 0), .p .nilf] [(0, 1, (.c (.p (.int .i64 10)))), (1, 1, (.c (.p (.fn 202))))]⟩, 
    ⟨some 6, none, .bld [.p (.int .i64 0), .p .nilf] [(0, 1, (.c (.p (.int .i64 7)))), (1, 1, (.c (.p (.fn 203))))]⟩, 
    ⟨some 7, none, .bld [.p (.int .i64 0), .p .nilf] [(0, 1, (.c (.p (.int .i64 11)))), (1, 1, (.c (.p (.fn 204))))]⟩, 
    ⟨some 8, none, .bsl 2 7 [.p (.int .i64 0), .p .nilf] [(0, (.t 1)), (1, (.t 2)), (2, (.t 3)), (3, (.t 4)), (4, (.t 5)), (5, (.t 6)), (6, (.t 7))]⟩, 
    ⟨some 0, none, .mov (.t 8)⟩] [0] [])
  .ret)),
  [.tmp 0], false⟩
def lp168_0 : IC :=
  (.loop [0, 1, 2, 3, 8, 9] [] (.block 1 (.seq (.reg false [⟨some 19, none, .mov (.t 2)⟩, 
          ⟨some 20, none, .mov (.t 1)⟩, 
          ⟨some 21, none, .bin .sub (.t 19) (.t 20)⟩, 
          ⟨some 10, none, .mov (.t 21)⟩] [0, 1, 2, 3, 8, 9, 10] [])
        (.seq (.seq (.reg false [⟨some 22, none, .mov (.t 10)⟩, 
          ⟨some 23, none, .bin .leq (.t 22) (.c (.p (.int .i64 12)))⟩] [0, 1, 2, 3, 8, 9, 10, 23] [])
        (.cond (.t 23)
        (.seq (.reg false [⟨some 24, none, .mov (.t 0)⟩, 
            ⟨some 25, none, .mov (.t 1)⟩, 
            ⟨some 26, none, .mov (.t 2)⟩, 
            ⟨some 27, none, .call 205 [(.t 24), (.t 25), (.t 26)] false⟩] [] [])
          .ret)
        .skip))
        (.seq (.seq (.reg false [⟨some 28, none, .mov (.t 3)⟩, 
          ⟨some 29, none, .bin .eql (.t 28) (.c (.p (.int .i64 0)))⟩] [0, 1, 2, 3, 8, 9, 10, 29] [])
        (.cond (.t 29)
        (.seq (.reg false [⟨some 30, none, .mov (.t 0)⟩, 
            ⟨some 31, none, .mov (.t 1)⟩, 
            ⟨some 32, none, .mov (.t 2)⟩, 
            ⟨some 33, none, .call 206 [(.t 30), (.t 31), (.t 32)] false⟩] [] [])
          .ret)
        .skip))
        (.seq (.seq (.reg false [⟨some 34, none, .mov (.t 8)⟩, 
          ⟨some 35, none, .un .not (.t 34)⟩] [0, 1, 2, 3, 8, 9, 10, 35] [])
        (.cond (.t 35)
        (.seq (.reg false [⟨some 36, none, .mov (.t 0)⟩, 
            ⟨some 37, none, .mov (.t 1)⟩, 
            ⟨some 38, none, .mov (.t 2)⟩, 
            ⟨some 39, none, .call 207 [(.t 36), (.t 37), (.t 38)] false⟩] [0, 1, 2, 3, 8, 9, 10] [])
          (.reg false [⟨some 40, none, .mov (.t 3)⟩, 
            ⟨some 41, none, .bin .sub (.t 40) (.c (.p (.int .i64 1)))⟩, 
            ⟨some 3, none, .mov (.t 41)⟩] [0, 1, 2, 3, 8, 9, 10] []))
        .skip))
        (.seq (.reg false [⟨some 43, none, .mov (.t 0)⟩, 
          ⟨some 44, none, .mov (.t 1)⟩, 
          ⟨some 45, none, .mov (.t 2)⟩, 
          ⟨some 46, none, .call 208 [(.t 43), (.t 44), (.t 45)] false⟩, 
          ⟨some 42, none, .mov (.t 46)⟩, 
          ⟨some 47, none, .ext (.t 42) 0⟩, 
          ⟨some 48, none, .ext (.t 42) 1⟩, 
          ⟨some 11, none, .mov (.t 47)⟩, 
          ⟨some 12, none, .mov (.t 48)⟩] [0, 1, 2, 3, 8, 9, 10, 11, 12] [])
        (.seq (.seq (.reg false [⟨some 49, none, .mov (.t 12)⟩, 
          ⟨some 50, none, .bin .eql (.t 49) (.c (.p (.int .i64 2)))⟩] [0, 1, 2, 3, 8, 9, 10, 11, 12, 50] [])
        (.cond (.t 50)
        (.seq (.reg false [⟨some 51, none, .mov (.t 0)⟩, 
            ⟨some 52, none, .mov (.t 1)⟩, 
            ⟨some 53, none, .mov (.t 2)⟩, 
            ⟨some 54, none, .call 209 [(.t 51), (.t 52), (.t 53)] false⟩] [0, 1, 2, 3, 8, 9, 10, 11] [])
          (.seq (.reg false [⟨some 55, none, .mov (.t 2)⟩, 
            ⟨some 56, none, .bin .sub (.t 55) (.c (.p (.int .i64 1)))⟩, 
            ⟨some 57, none, .mov (.t 11)⟩, 
            ⟨some 58, none, .mov (.t 1)⟩, 
            ⟨some 59, none, .bin .sub (.t 57) (.t 58)⟩, 
            ⟨some 60, none, .bin .sub (.t 56) (.t 59)⟩, 
            ⟨some 11, none, .mov (.t 60)⟩] [0, 1, 2, 3, 8, 9, 10, 11] [])
          (.reg false [⟨some 12, none, .mov (.c (.p (.int .i64 1)))⟩] [0, 1, 2, 3, 8, 9, 10, 11, 12] [])))
        .skip))
        (.seq (.seq (.reg false [⟨some 61, none, .mov (.t 8)⟩, 
          ⟨some 62, none, .mov (.t 61)⟩, 
          ⟨some 63, (some (62, true)), .mov (.t 9)⟩, 
          ⟨some 64, none, .pick (.t 62) (.t 63) (.c (.p (.bool false)))⟩, 
          ⟨some 65, none, .mov (.t 64)⟩, 
          ⟨some 66, (some (65, true)), .mov (.t 12)⟩, 
          ⟨some 67, (some (65, true)), .bin .eql (.t 66) (.c (.p (.int .i64 1)))⟩, 
          ⟨some 68, none, .pick (.t 65) (.t 67) (.c (.p (.bool false)))⟩] [0, 1, 2, 3, 8, 9, 10, 11, 68] [])
        (.cond (.t 68)
        (.seq (.reg false [⟨some 69, none, .mov (.t 0)⟩, 
            ⟨some 70, none, .mov (.t 1)⟩, 
            ⟨some 71, none, .mov (.t 2)⟩, 
            ⟨some 72, none, .call 210 [(.t 69), (.t 70), (.t 71)] false⟩] [0, 1, 2, 3, 8, 9, 10, 11, 72] [])
          (.cond (.t 72)
          .ret
          .skip))
        .skip))
        (.seq (.seq (.reg true [⟨some 73, none, .mov (.t 1)⟩, 
          ⟨some 74, none, .bin .gtr (.t 73) (.c (.p (.int .i64 0)))⟩, 
          ⟨some 75, none, .mov (.t 74)⟩, 
          ⟨some 76, (some (75, true)), .mov (.t 0)⟩, 
          ⟨some 77, (some (75, true)), .mov (.t 1)⟩, 
          ⟨some 78, (some (75, true)), .bin .sub (.t 77) (.c (.p (.int .i64 1)))⟩, 
          ⟨some 79, (some (75, true)), .ixs (.t 76) (.t 78) 1⟩, 
          ⟨some 80, (some (75, true)), .ld (.t 79) 1 false⟩, 
          ⟨some 81, (some (75, true)), .mov (.t 0)⟩, 
          ⟨some 82, (some (75, true)), .mov (.t 11)⟩, 
          ⟨some 83, (some (75, true)), .ixs (.t 81) (.t 82) 1⟩, 
          ⟨some 84, (some (75, true)), .ld (.t 83) 1 false⟩, 
          ⟨some 85, (some (75, true)), .call 211 [(.t 80), (.t 84)] true⟩, 
          ⟨some 86, (some (75, true)), .un .not (.t 85)⟩, 
          ⟨some 87, none, .pick (.t 75) (.t 86) (.c (.p (.bool false)))⟩] [0, 1, 2, 3, 8, 9, 10, 11, 87] [])
        (.cond (.t 87)
        (.seq (.reg false [⟨some 88, none, .mov (.t 0)⟩, 
            ⟨some 89, none, .mov (.t 1)⟩, 
            ⟨some 90, none, .mov (.t 2)⟩, 
            ⟨some 91, none, .mov (.t 11)⟩, 
            ⟨some 92, none, .call 212 [(.t 88), (.t 89), (.t 90), (.t 91)] false⟩, 
            ⟨some 13, none, .mov (.t 92)⟩] [0, 2, 3, 8, 9, 13] [])
          (.seq (.reg false [⟨some 93, none, .mov (.t 13)⟩, 
            ⟨some 1, none, .mov (.t 93)⟩] [0, 1, 2, 3, 8, 9] [])
          (.exit 1)))
        .skip))
        (.seq (.reg false [⟨some 95, none, .mov (.t 0)⟩, 
          ⟨some 96, none, .mov (.t 1)⟩, 
          ⟨some 97, none, .mov (.t 2)⟩, 
          ⟨some 98, none, .mov (.t 11)⟩, 
          ⟨some 99, none, .call 213 [(.t 95), (.t 96), (.t 97), (.t 98)] false⟩, 
          ⟨some 94, none, .mov (.t 99)⟩, 
          ⟨some 100, none, .ext (.t 94) 0⟩, 
          ⟨some 101, none, .ext (.t 94) 1⟩, 
          ⟨some 14, none, .mov (.t 100)⟩, 
          ⟨some 15, none, .mov (.t 101)⟩] [0, 1, 2, 3, 10, 14, 15] [])
        (.seq (.reg false [⟨some 102, none, .mov (.t 15)⟩, 
          ⟨some 9, none, .mov (.t 102)⟩] [0, 1, 2, 3, 9, 10, 14] [])
        (.seq (.reg false [⟨some 103, none, .mov (.t 14)⟩, 
          ⟨some 104, none, .mov (.t 1)⟩, 
          ⟨some 105, none, .bin .sub (.t 103) (.t 104)⟩, 
          ⟨some 106, none, .mov (.t 2)⟩, 
          ⟨some 107, none, .mov (.t 14)⟩, 
          ⟨some 108, none, .bin .sub (.t 106) (.t 107)⟩, 
          ⟨some 16, none, .mov (.t 105)⟩, 
          ⟨some 17, none, .mov (.t 108)⟩] [0, 1, 2, 3, 9, 10, 14, 16, 17] [])
        (.seq (.reg false [⟨some 109, none, .mov (.t 10)⟩, 
          ⟨some 110, none, .bin .quo (.t 109) (.c (.p (.int .i64 8)))⟩, 
          ⟨some 18, none, .mov (.t 110)⟩] [0, 1, 2, 3, 9, 14, 16, 17, 18] [])
        (.seq (.reg false [⟨some 111, none, .mov (.t 16)⟩, 
          ⟨some 112, none, .mov (.t 17)⟩, 
          ⟨some 113, none, .bin .lss (.t 111) (.t 112)⟩] [0, 1, 2, 3, 9, 14, 16, 17, 18, 113] [])
        (.cond (.t 113)
        (.seq (.reg false [⟨some 114, none, .mov (.t 16)⟩, 
            ⟨some 115, none, .mov (.t 18)⟩, 
            ⟨some 116, none, .bin .geq (.t 114) (.t 115)⟩, 
            ⟨some 8, none, .mov (.t 116)⟩] [0, 1, 2, 3, 8, 9, 14] [])
          (.seq (.reg false [⟨some 117, none, .mov (.t 0)⟩, 
            ⟨some 118, none, .mov (.t 1)⟩, 
            ⟨some 119, none, .mov (.t 14)⟩, 
            ⟨some 120, none, .mov (.t 3)⟩, 
            ⟨some 121, none, .call 168 [(.t 117), (.t 118), (.t 119), (.t 120)] false⟩] [0, 2, 3, 8, 9, 14] [])
          (.reg false [⟨some 122, none, .mov (.t 14)⟩, 
            ⟨some 123, none, .bin .add (.t 122) (.c (.p (.int .i64 1)))⟩, 
            ⟨some 1, none, .mov (.t 123)⟩] [0, 1, 2, 3, 8, 9] [])))
        (.seq (.reg false [⟨some 124, none, .mov (.t 17)⟩, 
            ⟨some 125, none, .mov (.t 18)⟩, 
            ⟨some 126, none, .bin .geq (.t 124) (.t 125)⟩, 
            ⟨some 8, none, .mov (.t 126)⟩] [0, 1, 2, 3, 8, 9, 14] [])
          (.seq (.reg false [⟨some 127, none, .mov (.t 0)⟩, 
            ⟨some 128, none, .mov (.t 14)⟩, 
            ⟨some 129, none, .bin .add (.t 128) (.c (.p (.int .i64 1)))⟩, 
            ⟨some 130, none, .mov (.t 2)⟩, 
            ⟨some 131, none, .mov (.t 3)⟩, 
            ⟨some 132, none, .call 168 [(.t 127), (.t 129), (.t 130), (.t 131)] false⟩] [0, 1, 3, 8, 9, 14] [])
          (.reg false [⟨some 133, none, .mov (.t 14)⟩, 
            ⟨some 2, none, .mov (.t 133)⟩] [0, 1, 2, 3, 8, 9] [])))))))))))))))))))
def ir168 : IFn :=   -- slices.pdqsortOrdered[int]
⟨(.seq (.reg false [⟨some 8, none, .mov (.c (.p (.bool true)))⟩] [0, 1, 2, 3, 8] [])
  (.seq (.reg false [⟨some 9, none, .mov (.c (.p (.bool true)))⟩] [0, 1, 2, 3, 8, 9] [])
  (.block 0 lp168_0))),
  [], false⟩
def ir169 : IFn :=   -- math/bits.Len
⟨(.seq (.reg false [⟨some 2, none, .mov (.c (.p (.int .i64 0)))⟩] [0] [])
  (.seq (.cond (.c (.p (.bool false)))
  (.seq (.reg false [⟨some 3, none, .mov (.t 0)⟩, 
      ⟨some 4, none, .conv .u32 (.t 3)⟩, 
      ⟨some 5, none, .call 214 [(.t 4)] false⟩, 
      ⟨some 2, none, .mov (.t 5)⟩] [2] [])
    .ret)
  .skip)
  (.seq (.reg false [⟨some 6, none, .mov (.t 0)⟩, 
    ⟨some 7, none, .call 215 [(.t 6)] false⟩, 
    ⟨some 2, none, .mov (.t 7)⟩] [2] [])
  .ret))),
  [.tmp 2], false⟩
end Go.EnvOf
