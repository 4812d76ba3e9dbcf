/- The engine's instructions for the functions, part 0. -/
import Derived.Test.YtfjgcfloallohaaEngAll2
namespace Go.EnvOf
open Go Go.Eng
set_option maxRecDepth 100000
def ir3 : IFn :=   -- tympan/tympanlaw11.NoteTells
⟨(.seq (.reg false [⟨some 2, none, .bx (.t 0) 2 true⟩, 
    ⟨some 4, none, .mov (.c (.p (.bool false)))⟩] [1, 2] [2])
  (.seq (.seq (.reg false [⟨some 6, none, .off (.t 2) 0⟩, 
    ⟨some 7, none, .ld (.t 6) 1 false⟩, 
    ⟨some 8, none, .len (.t 7)⟩, 
    ⟨some 9, none, .bin .gtr (.t 8) (.c (.p (.int .i64 100)))⟩, 
    ⟨some 10, none, .mov (.t 9)⟩, 
    ⟨some 11, (some (10, false)), .off (.t 2) 1⟩, 
    ⟨some 12, (some (10, false)), .ld (.t 11) 1 false⟩, 
    ⟨some 13, (some (10, false)), .len (.t 12)⟩, 
    ⟨some 14, (some (10, false)), .bin .gtr (.t 13) (.c (.p (.int .i64 100)))⟩, 
    ⟨some 15, none, .pick (.t 10) (.c (.p (.bool true))) (.t 14)⟩] [1, 2, 15] [2])
  (.cond (.t 15)
  (.seq (.reg false [⟨some 16, none, .call 17 [] false⟩, 
      ⟨some 4, none, .mov (.t 16)⟩] [4] [])
    .ret)
  .skip))
  (.seq (.reg false [⟨some 17, none, .ld (.t 2) 2 true⟩, 
    ⟨some 18, none, .call 18 [(.t 17)] false⟩, 
    ⟨some 5, none, .mov (.t 18)⟩] [1, 2, 5] [2])
  (.seq (.seq (.reg false [⟨some 19, none, .mov (.t 5)⟩, 
    ⟨some 20, none, .bin .eql (.t 19) (.c (.p (.int .i64 0)))⟩, 
    ⟨some 21, none, .ld (.t 2) 2 true⟩, 
    ⟨some 22, none, .call 19 [(.t 21)] false⟩, 
    ⟨some 23, none, .eqb true (.t 20) (.t 22)⟩, 
    ⟨some 24, none, .mov (.t 23)⟩, 
    ⟨some 25, (some (24, false)), .mov (.t 5)⟩, 
    ⟨some 26, (some (24, false)), .bin .neq (.t 25) (.c (.p (.int .i64 0)))⟩, 
    ⟨some 27, (some (24, false)), .mov (.t 26)⟩, 
    ⟨some 28, (some (27, true)), .mov (.t 5)⟩, 
    ⟨some 29, (some (27, true)), .bin .neq (.t 28) (.c (.p (.int .i64 9)))⟩, 
    ⟨some 30, (some (24, false)), .pick (.t 27) (.t 29) (.c (.p (.bool false)))⟩, 
    ⟨some 31, none, .pick (.t 24) (.c (.p (.bool true))) (.t 30)⟩] [1, 2, 31] [2])
  (.cond (.t 31)
  (.seq (.reg false [⟨some 4, none, .mov (.c (.p (.bool false)))⟩] [4] [])
    .ret)
  .skip))
  (.seq (.reg true [⟨some 32, none, .ldl 2 (.t 2) 2 true⟩, 
    ⟨some 33, none, .mov (.t 1)⟩, 
    ⟨some 34, none, .call 20 [(.t 32), (.t 33)] false⟩, 
    ⟨some 35, none, .ldl 2 (.t 2) 2 true⟩, 
    ⟨some 36, none, .mov (.t 1)⟩, 
    ⟨some 37, none, .call 21 [(.t 35), (.t 36)] false⟩, 
    ⟨some 38, none, .eqb false (.t 34) (.t 37)⟩, 
    ⟨some 39, none, .mov (.t 38)⟩, 
    ⟨some 40, (some (39, true)), .ldl 2 (.t 2) 2 true⟩, 
    ⟨some 41, (some (39, true)), .mov (.t 1)⟩, 
    ⟨some 42, (some (39, true)), .call 22 [(.t 40), (.t 41)] false⟩, 
    ⟨some 43, (some (39, true)), .ldl 2 (.t 2) 2 true⟩, 
    ⟨some 44, (some (39, true)), .mov (.t 1)⟩, 
    ⟨some 45, (some (39, true)), .call 23 [(.t 43), (.t 44)] false⟩, 
    ⟨some 46, (some (39, true)), .bin .eql (.t 42) (.t 45)⟩, 
    ⟨some 47, none, .pick (.t 39) (.t 46) (.c (.p (.bool false)))⟩, 
    ⟨some 48, none, .mov (.t 47)⟩, 
    ⟨some 49, (some (48, true)), .ldl 2 (.t 2) 2 true⟩, 
    ⟨some 50, (some (48, true)), .mov (.t 1)⟩, 
    ⟨some 51, (some (48, true)), .call 25 [(.t 49), (.t 50)] false⟩, 
    ⟨some 52, (some (48, true)), .ldl 2 (.t 2) 2 true⟩, 
    ⟨some 53, (some (48, true)), .mov (.t 1)⟩, 
    ⟨some 54, (some (48, true)), .call 26 [(.t 52), (.t 53)] false⟩, 
    ⟨some 55, (some (48, true)), .call 24 [(.t 51), (.t 54)] false⟩, 
    ⟨some 56, none, .pick (.t 48) (.t 55) (.c (.p (.bool false)))⟩, 
    ⟨some 57, none, .mov (.t 56)⟩, 
    ⟨some 58, (some (57, true)), .ldl 2 (.t 2) 2 true⟩, 
    ⟨some 59, (some (57, true)), .mov (.t 1)⟩, 
    ⟨some 60, (some (57, true)), .call 27 [(.t 58), (.t 59)] false⟩, 
    ⟨some 61, (some (57, true)), .ldl 2 (.t 2) 2 true⟩, 
    ⟨some 62, (some (57, true)), .mov (.t 1)⟩, 
    ⟨some 63, (some (57, true)), .call 28 [(.t 61), (.t 62)] false⟩, 
    ⟨some 64, (some (57, true)), .bin .eql (.t 60) (.t 63)⟩, 
    ⟨some 65, none, .pick (.t 57) (.t 64) (.c (.p (.bool false)))⟩, 
    ⟨some 66, none, .mov (.t 65)⟩, 
    ⟨some 67, (some (66, true)), .call 17 [] false⟩, 
    ⟨some 68, none, .pick (.t 66) (.t 67) (.c (.p (.bool false)))⟩, 
    ⟨some 4, none, .mov (.t 68)⟩] [4] [])
  .ret))))),
  [.tmp 4], false⟩
def ir4 : IFn :=   -- tympan/tympanlaw11.NoteHigh
⟨(.seq (.reg false [⟨some 3, none, .bx (.t 0) 2 true⟩, 
    ⟨some 6, none, .mov (.c (.p (.bool false)))⟩] [1, 2, 3] [3])
  (.seq (.seq (.reg false [⟨some 7, none, .off (.t 3) 0⟩, 
    ⟨some 8, none, .ld (.t 7) 1 false⟩, 
    ⟨some 9, none, .len (.t 8)⟩, 
    ⟨some 10, none, .bin .gtr (.t 9) (.c (.p (.int .i64 100)))⟩] [1, 2, 3, 10] [3])
  (.cond (.t 10)
  (.seq (.reg false [⟨some 11, none, .call 17 [] false⟩, 
      ⟨some 6, none, .mov (.t 11)⟩] [6] [])
    .ret)
  .skip))
  (.seq (.reg true [⟨some 12, none, .ldl 3 (.t 3) 2 true⟩, 
    ⟨some 13, none, .mov (.t 1)⟩, 
    ⟨some 14, none, .mov (.t 2)⟩, 
    ⟨some 15, none, .call 29 [(.t 12), (.t 13), (.t 14)] false⟩, 
    ⟨some 16, none, .ldl 3 (.t 3) 2 true⟩, 
    ⟨some 17, none, .mov (.t 1)⟩, 
    ⟨some 18, none, .mov (.t 2)⟩, 
    ⟨some 19, none, .call 30 [(.t 16), (.t 17), (.t 18)] false⟩, 
    ⟨some 20, none, .bin .eql (.t 15) (.t 19)⟩, 
    ⟨some 21, none, .mov (.t 20)⟩, 
    ⟨some 22, (some (21, true)), .call 17 [] false⟩, 
    ⟨some 23, none, .pick (.t 21) (.t 22) (.c (.p (.bool false)))⟩, 
    ⟨some 6, none, .mov (.t 23)⟩] [6] [])
  .ret))),
  [.tmp 6], false⟩
def ir8 : IFn :=   -- tympan/tympanlaw14.GridSnaps
⟨(.seq (.reg false [⟨some 2, none, .bx (.t 0) 22 true⟩, 
    ⟨some 3, none, .bx (.t 1) 22 true⟩, 
    ⟨some 4, none, .mov (.c (.p (.bool false)))⟩] [2, 3] [2, 3])
  (.seq (.seq (.reg false [⟨some 5, none, .ld (.t 2) 22 true⟩, 
    ⟨some 6, none, .call 44 [(.t 5)] false⟩, 
    ⟨some 7, none, .mov (.t 6)⟩, 
    ⟨some 8, (some (7, false)), .ld (.t 3) 22 true⟩, 
    ⟨some 9, (some (7, false)), .call 44 [(.t 8)] false⟩, 
    ⟨some 10, none, .pick (.t 7) (.c (.p (.bool true))) (.t 9)⟩] [2, 3, 10] [2, 3])
  (.cond (.t 10)
  (.seq (.reg false [⟨some 11, none, .call 45 [] false⟩, 
      ⟨some 4, none, .mov (.t 11)⟩] [4] [])
    .ret)
  .skip))
  (.seq (.reg true [⟨some 12, none, .ldl 2 (.t 2) 22 true⟩, 
    ⟨some 13, none, .call 46 [(.t 12)] false⟩, 
    ⟨some 14, none, .ldl 2 (.t 2) 22 true⟩, 
    ⟨some 15, none, .call 50 [(.t 14)] false⟩, 
    ⟨some 16, none, .call 49 [(.t 13), (.t 15)] false⟩, 
    ⟨some 17, none, .mov (.t 16)⟩, 
    ⟨some 18, (some (17, true)), .ldl 2 (.t 2) 22 true⟩, 
    ⟨some 19, (some (17, true)), .call 48 [(.t 18)] false⟩, 
    ⟨some 20, (some (17, true)), .ldl 2 (.t 2) 22 true⟩, 
    ⟨some 21, (some (17, true)), .call 51 [(.t 20)] false⟩, 
    ⟨some 22, (some (17, true)), .eqb false (.t 19) (.t 21)⟩, 
    ⟨some 23, none, .pick (.t 17) (.t 22) (.c (.p (.bool false)))⟩, 
    ⟨some 24, none, .mov (.t 23)⟩, 
    ⟨some 25, (some (24, true)), .ldl 2 (.t 2) 22 true⟩, 
    ⟨some 26, (some (24, true)), .ldl 3 (.t 3) 22 true⟩, 
    ⟨some 27, (some (24, true)), .call 52 [(.t 25), (.t 26)] false⟩, 
    ⟨some 28, (some (24, true)), .ldl 2 (.t 2) 22 true⟩, 
    ⟨some 29, (some (24, true)), .ldl 3 (.t 3) 22 true⟩, 
    ⟨some 30, (some (24, true)), .call 49 [(.t 28), (.t 29)] false⟩, 
    ⟨some 31, (some (24, true)), .eqb false (.t 27) (.t 30)⟩, 
    ⟨some 32, none, .pick (.t 24) (.t 31) (.c (.p (.bool false)))⟩, 
    ⟨some 33, none, .mov (.t 32)⟩, 
    ⟨some 34, (some (33, true)), .ldl 2 (.t 2) 22 true⟩, 
    ⟨some 35, (some (33, true)), .ldl 2 (.t 2) 22 true⟩, 
    ⟨some 36, (some (33, true)), .call 52 [(.t 34), (.t 35)] false⟩, 
    ⟨some 37, none, .pick (.t 33) (.t 36) (.c (.p (.bool false)))⟩, 
    ⟨some 38, none, .mov (.t 37)⟩, 
    ⟨some 39, (some (38, true)), .call 45 [] false⟩, 
    ⟨some 40, none, .pick (.t 38) (.t 39) (.c (.p (.bool false)))⟩, 
    ⟨some 4, none, .mov (.t 40)⟩] [4] [])
  .ret))),
  [.tmp 4], false⟩
def ir9 : IFn :=   -- tympan/tympanlaw15.ValidTells
⟨(.seq (.reg false [⟨some 1, none, .bx (.t 0) 22 true⟩, 
    ⟨some 2, none, .mov (.c (.p (.bool false)))⟩] [1] [1])
  (.seq (.seq (.reg false [⟨some 5, none, .ld (.t 1) 22 true⟩, 
    ⟨some 6, none, .call 44 [(.t 5)] false⟩] [1, 6] [1])
  (.cond (.t 6)
  (.seq (.reg false [⟨some 7, none, .call 53 [] false⟩, 
      ⟨some 2, none, .mov (.t 7)⟩] [2] [])
    .ret)
  .skip))
  (.seq (.reg false [⟨some 9, none, .ld (.t 1) 22 true⟩, 
    ⟨some 10, none, .call 54 [(.t 9)] false⟩, 
    ⟨some 8, none, .mov (.t 10)⟩, 
    ⟨some 11, none, .ext (.t 8) 0⟩, 
    ⟨some 12, none, .ext (.t 8) 1⟩, 
    ⟨some 3, none, .mov (.t 11)⟩, 
    ⟨some 4, none, .mov (.t 12)⟩] [1, 3, 4] [1])
  (.seq (.reg false [⟨some 13, none, .ld (.t 1) 22 true⟩, 
    ⟨some 14, none, .call 55 [(.t 13)] false⟩, 
    ⟨some 15, none, .mov (.t 3)⟩, 
    ⟨some 16, none, .mov (.t 4)⟩, 
    ⟨some 17, none, .bld [.p (.int .i64 0), .p (.int .i64 0)] [(0, 1, (.t 15)), (1, 1, (.t 16))]⟩, 
    ⟨some 18, none, .eqa false [true, true] (.t 14) (.t 17)⟩, 
    ⟨some 19, none, .mov (.t 18)⟩, 
    ⟨some 20, (some (19, true)), .ld (.t 1) 22 true⟩, 
    ⟨some 21, (some (19, true)), .call 56 [(.t 20)] false⟩, 
    ⟨some 22, (some (19, true)), .mov (.t 3)⟩, 
    ⟨some 23, (some (19, true)), .bin .eql (.t 22) (.c (.p (.int .i64 0)))⟩, 
    ⟨some 24, (some (19, true)), .eqb false (.t 21) (.t 23)⟩, 
    ⟨some 25, none, .pick (.t 19) (.t 24) (.c (.p (.bool false)))⟩, 
    ⟨some 26, none, .mov (.t 25)⟩, 
    ⟨some 27, (some (26, true)), .call 53 [] false⟩, 
    ⟨some 28, none, .pick (.t 26) (.t 27) (.c (.p (.bool false)))⟩, 
    ⟨some 2, none, .mov (.t 28)⟩] [2] [])
  .ret)))),
  [.tmp 2], false⟩
def lp11_0 : IC :=
  (.loop [1, 2, 5, 6] [2, 5] (.seq (.seq (.reg false [⟨some 33, none, .mov (.t 6)⟩, 
        ⟨some 34, none, .mov (.t 1)⟩, 
        ⟨some 35, none, .bin .lss (.t 33) (.t 34)⟩] [1, 2, 5, 6, 35] [2, 5])
      (.cond (.t 35)
      .skip
      (.exit 0)))
      (.seq (.block 1 (.seq (.seq (.reg false [⟨some 38, none, .off (.t 2) 19⟩, 
          ⟨some 39, none, .ld (.t 38) 1 false⟩, 
          ⟨some 40, none, .mov (.t 6)⟩, 
          ⟨some 41, none, .ixs (.t 39) (.t 40) 7⟩, 
          ⟨some 42, none, .ld (.t 41) 7 true⟩, 
          ⟨some 43, none, .call 57 [(.t 42)] false⟩, 
          ⟨some 44, none, .un .not (.t 43)⟩] [1, 2, 5, 6, 44] [2, 5])
        (.cond (.t 44)
        (.seq (.reg false [⟨some 4, none, .mov (.c (.p (.bool false)))⟩] [4] [])
          .ret)
        .skip))
        (.seq (.seq (.reg false [⟨some 45, none, .off (.t 2) 19⟩, 
          ⟨some 46, none, .ld (.t 45) 1 false⟩, 
          ⟨some 47, none, .mov (.t 6)⟩, 
          ⟨some 48, none, .ixs (.t 46) (.t 47) 7⟩, 
          ⟨some 49, none, .off (.t 48) 0⟩, 
          ⟨some 50, none, .ld (.t 49) 1 false⟩, 
          ⟨some 51, none, .bin .eql (.t 50) (.c (.p (.int .i64 5)))⟩, 
          ⟨some 52, none, .mov (.t 51)⟩, 
          ⟨some 53, (some (52, true)), .off (.t 5) 20⟩, 
          ⟨some 54, (some (52, true)), .ld (.t 53) 1 false⟩, 
          ⟨some 55, (some (52, true)), .len (.t 54)⟩, 
          ⟨some 56, (some (52, true)), .off (.t 2) 20⟩, 
          ⟨some 57, (some (52, true)), .ld (.t 56) 1 false⟩, 
          ⟨some 58, (some (52, true)), .len (.t 57)⟩, 
          ⟨some 59, (some (52, true)), .bin .lss (.t 55) (.t 58)⟩, 
          ⟨some 60, none, .pick (.t 52) (.t 59) (.c (.p (.bool false)))⟩] [1, 2, 5, 6, 60] [2, 5])
        (.cond (.t 60)
        (.reg false [⟨some 61, none, .off (.t 2) 20⟩, 
            ⟨some 62, none, .ld (.t 61) 1 false⟩, 
            ⟨some 63, none, .off (.t 5) 20⟩, 
            ⟨some 64, none, .ld (.t 63) 1 false⟩, 
            ⟨some 65, none, .len (.t 64)⟩, 
            ⟨some 66, none, .bin .add (.t 65) (.c (.p (.int .i64 1)))⟩, 
            ⟨some 67, none, .slc (.t 62) none (some (.t 66)) 2⟩, 
            ⟨some 68, none, .off (.t 5) 20⟩, 
            ⟨none, none, .st (.t 68) (.t 67) 1⟩] [1, 2, 5, 6] [2, 5])
        .skip))
        (.seq (.reg false [⟨some 69, none, .off (.t 2) 19⟩, 
          ⟨some 70, none, .ld (.t 69) 1 false⟩, 
          ⟨some 71, none, .mov (.t 6)⟩, 
          ⟨some 72, none, .ixs (.t 70) (.t 71) 7⟩, 
          ⟨some 73, none, .off (.t 72) 0⟩, 
          ⟨some 74, none, .ld (.t 73) 1 false⟩, 
          ⟨some 75, none, .bin .eql (.t 74) (.c (.p (.int .i64 6)))⟩, 
          ⟨some 76, none, .mov (.t 75)⟩, 
          ⟨some 77, (some (76, true)), .off (.t 5) 21⟩, 
          ⟨some 78, (some (76, true)), .ld (.t 77) 1 false⟩, 
          ⟨some 79, (some (76, true)), .len (.t 78)⟩, 
          ⟨some 80, (some (76, true)), .off (.t 2) 21⟩, 
          ⟨some 81, (some (76, true)), .ld (.t 80) 1 false⟩, 
          ⟨some 82, (some (76, true)), .len (.t 81)⟩, 
          ⟨some 83, (some (76, true)), .bin .lss (.t 79) (.t 82)⟩, 
          ⟨some 84, none, .pick (.t 76) (.t 83) (.c (.p (.bool false)))⟩] [1, 2, 5, 6, 84] [2, 5])
        (.cond (.t 84)
        (.reg false [⟨some 85, none, .off (.t 2) 21⟩, 
            ⟨some 86, none, .ld (.t 85) 1 false⟩, 
            ⟨some 87, none, .off (.t 5) 21⟩, 
            ⟨some 88, none, .ld (.t 87) 1 false⟩, 
            ⟨some 89, none, .len (.t 88)⟩, 
            ⟨some 90, none, .bin .add (.t 89) (.c (.p (.int .i64 1)))⟩, 
            ⟨some 91, none, .slc (.t 86) none (some (.t 90)) 3⟩, 
            ⟨some 92, none, .off (.t 5) 21⟩, 
            ⟨none, none, .st (.t 92) (.t 91) 1⟩] [1, 2, 5, 6] [2, 5])
        .skip)))))
      (.reg false [⟨some 36, none, .mov (.t 6)⟩, 
        ⟨some 37, none, .bin .add (.t 36) (.c (.p (.int .i64 1)))⟩, 
        ⟨some 6, none, .mov (.t 37)⟩] [1, 2, 5, 6] [2, 5]))))
def ir11 : IFn :=   -- tympan/tympanlaw15.ValidLess
⟨(.seq (.reg false [⟨some 2, none, .bx (.t 0) 22 true⟩, 
    ⟨some 4, none, .mov (.c (.p (.bool false)))⟩] [1, 2] [2])
  (.seq (.seq (.reg false [⟨some 7, none, .ld (.t 2) 22 true⟩, 
    ⟨some 8, none, .call 44 [(.t 7)] false⟩, 
    ⟨some 9, none, .mov (.t 8)⟩, 
    ⟨some 10, (some (9, false)), .mov (.t 1)⟩, 
    ⟨some 11, (some (9, false)), .bin .lss (.t 10) (.c (.p (.int .i64 0)))⟩, 
    ⟨some 12, none, .pick (.t 9) (.c (.p (.bool true))) (.t 11)⟩, 
    ⟨some 13, none, .mov (.t 12)⟩, 
    ⟨some 14, (some (13, false)), .mov (.t 1)⟩, 
    ⟨some 15, (some (13, false)), .off (.t 2) 19⟩, 
    ⟨some 16, (some (13, false)), .ld (.t 15) 1 false⟩, 
    ⟨some 17, (some (13, false)), .len (.t 16)⟩, 
    ⟨some 18, (some (13, false)), .bin .gtr (.t 14) (.t 17)⟩, 
    ⟨some 19, none, .pick (.t 13) (.c (.p (.bool true))) (.t 18)⟩, 
    ⟨some 20, none, .mov (.t 19)⟩, 
    ⟨some 21, (some (20, false)), .ld (.t 2) 22 true⟩, 
    ⟨some 22, (some (20, false)), .call 56 [(.t 21)] false⟩, 
    ⟨some 23, (some (20, false)), .un .not (.t 22)⟩, 
    ⟨some 24, none, .pick (.t 20) (.c (.p (.bool true))) (.t 23)⟩] [1, 2, 24] [2])
  (.cond (.t 24)
  (.seq (.reg false [⟨some 25, none, .call 53 [] false⟩, 
      ⟨some 4, none, .mov (.t 25)⟩] [4] [])
    .ret)
  .skip))
  (.seq (.prep [5] (.reg true [⟨some 26, none, .off (.t 2) 0⟩, 
    ⟨some 27, none, .ldl 2 (.t 26) 19 true⟩, 
    ⟨some 28, none, .off (.t 2) 19⟩, 
    ⟨some 29, none, .ldl 2 (.t 28) 1 false⟩, 
    ⟨some 30, none, .mov (.t 1)⟩, 
    ⟨some 31, none, .slc (.t 29) none (some (.t 30)) 7⟩, 
    ⟨some 32, none, .bld [.p (.int .i64 0), .p (.int .i64 0), .p (.int .i64 0), .p (.int .i64 0), .p (.int .i64 0), .p (.int .i64 0), .p (.int .i64 0), .p (.int .i64 0), .p (.int .i64 0), .p (.int .i64 0), .p (.int .i64 0), .p (.int .i64 0), .p (.int .i64 0), .p (.int .i64 0), .p (.int .i64 0), .p (.int .i64 0), .p (.int .i64 0), .p (.int .i64 0), .p (.bool false), .nils, .nils, .nils] [(0, 19, (.t 27)), (19, 1, (.t 31))]⟩, 
    ⟨some 5, none, .alp [.p (.int .i64 0), .p (.int .i64 0), .p (.int .i64 0), .p (.int .i64 0), .p (.int .i64 0), .p (.int .i64 0), .p (.int .i64 0), .p (.int .i64 0), .p (.int .i64 0), .p (.int .i64 0), .p (.int .i64 0), .p (.int .i64 0), .p (.int .i64 0), .p (.int .i64 0), .p (.int .i64 0), .p (.int .i64 0), .p (.int .i64 0), .p (.int .i64 0), .p (.bool false), .nils, .nils, .nils]⟩, 
    ⟨none, none, .stl 5 (.t 5) (.t 32) 22⟩] [1, 2, 5] [2, 5]))
  (.seq (.seq (.reg false [⟨some 6, none, .mov (.c (.p (.int .i64 0)))⟩] [1, 2, 5, 6] [2, 5])
  (.block 0 lp11_0))
  (.seq (.reg false [⟨some 93, none, .ld (.t 5) 22 true⟩, 
    ⟨some 94, none, .call 56 [(.t 93)] false⟩, 
    ⟨some 95, none, .mov (.t 94)⟩, 
    ⟨some 96, (some (95, true)), .call 53 [] false⟩, 
    ⟨some 97, none, .pick (.t 95) (.t 96) (.c (.p (.bool false)))⟩, 
    ⟨some 4, none, .mov (.t 97)⟩] [4] [])
  .ret))))),
  [.tmp 4], false⟩
def lp12_0 : IC :=
  (.loop [0, 1, 5, 6] [] (.seq (.seq (.reg false [⟨some 12, none, .mov (.t 6)⟩, 
        ⟨some 13, none, .mov (.t 5)⟩, 
        ⟨some 14, none, .len (.t 13)⟩, 
        ⟨some 15, none, .bin .lss (.t 12) (.t 14)⟩] [0, 1, 5, 6, 15] [])
      (.cond (.t 15)
      .skip
      (.exit 0)))
      (.seq (.block 1 (.seq (.reg false [⟨some 18, none, .mov (.t 5)⟩, 
          ⟨some 19, none, .mov (.t 6)⟩, 
          ⟨some 20, none, .ixs (.t 18) (.t 19) 1⟩, 
          ⟨some 21, none, .ld (.t 20) 1 false⟩, 
          ⟨some 22, none, .mov (.t 6)⟩, 
          ⟨some 23, none, .bin .add (.c (.p (.int .i64 3))) (.t 22)⟩, 
          ⟨some 24, none, .bin .neq (.t 21) (.t 23)⟩] [0, 1, 5, 6, 24] [])
        (.cond (.t 24)
        (.seq (.reg false [⟨some 4, none, .mov (.c (.p (.bool false)))⟩] [4] [])
          .ret)
        .skip)))
      (.reg false [⟨some 16, none, .mov (.t 6)⟩, 
        ⟨some 17, none, .bin .add (.t 16) (.c (.p (.int .i64 1)))⟩, 
        ⟨some 6, none, .mov (.t 17)⟩] [0, 1, 5, 6] []))))
def ir12 : IFn :=   -- tympan/tympanlaw15.ValidAnchors
⟨(.seq (.reg false [⟨some 4, none, .mov (.c (.p (.bool false)))⟩] [0, 1] [])
  (.seq (.seq (.reg false [⟨some 7, none, .mov (.t 0)⟩, 
    ⟨some 8, none, .len (.t 7)⟩, 
    ⟨some 9, none, .bin .gtr (.t 8) (.c (.p (.int .i64 200)))⟩] [0, 1, 9] [])
  (.cond (.t 9)
  (.seq (.reg false [⟨some 10, none, .call 53 [] false⟩, 
      ⟨some 4, none, .mov (.t 10)⟩] [4] [])
    .ret)
  .skip))
  (.seq (.reg false [⟨some 11, none, .call 58 [] false⟩, 
    ⟨some 5, none, .mov (.t 11)⟩] [0, 1, 5] [])
  (.seq (.seq (.reg false [⟨some 6, none, .mov (.c (.p (.int .i64 0)))⟩] [0, 1, 5, 6] [])
  (.block 0 lp12_0))
  (.seq (.reg false [⟨some 25, none, .mov (.t 5)⟩, 
    ⟨some 26, none, .len (.t 25)⟩, 
    ⟨some 27, none, .bin .eql (.t 26) (.c (.p (.int .i64 10)))⟩, 
    ⟨some 28, none, .mov (.t 27)⟩, 
    ⟨some 29, (some (28, true)), .mov (.t 0)⟩, 
    ⟨some 30, (some (28, true)), .mov (.t 1)⟩, 
    ⟨some 31, (some (28, true)), .call 59 [(.t 29), (.t 30)] false⟩, 
    ⟨some 32, (some (28, true)), .mov (.t 0)⟩, 
    ⟨some 33, (some (28, true)), .mov (.t 1)⟩, 
    ⟨some 34, (some (28, true)), .call 60 [(.t 32), (.t 33)] false⟩, 
    ⟨some 35, (some (28, true)), .bin .eql (.t 31) (.t 34)⟩, 
    ⟨some 36, none, .pick (.t 28) (.t 35) (.c (.p (.bool false)))⟩, 
    ⟨some 37, none, .mov (.t 36)⟩, 
    ⟨some 38, (some (37, true)), .call 53 [] false⟩, 
    ⟨some 39, none, .pick (.t 37) (.t 38) (.c (.p (.bool false)))⟩, 
    ⟨some 4, none, .mov (.t 39)⟩] [4] [])
  .ret))))),
  [.tmp 4], false⟩
def ir17 : IFn :=   -- tympan/tympanlaw11.awake
⟨(.seq (.reg false [⟨some 0, none, .mov (.c (.p (.bool false)))⟩] [] [])
  (.seq (.reg false [⟨some 2, none, .bsl 1 3 [.p (.int .i64 0)] [(0, (.c (.p (.int .i64 3)))), (1, (.c (.p (.int .i64 4)))), (2, (.c (.p (.int .i64 5))))]⟩, 
    ⟨some 3, none, .bsl 1 2 [.p (.int .i64 0)] [(0, (.c (.p (.int .i64 7)))), (1, (.c (.p (.int .i64 10000))))]⟩, 
    ⟨some 4, none, .bld [.nils, .nils] [(0, 1, (.t 2)), (1, 1, (.t 3))]⟩, 
    ⟨some 1, none, .al [.nils, .nils] true⟩, 
    ⟨none, none, .st (.t 1) (.t 4) 2⟩] [1] [1])
  (.seq (.reg false [⟨some 5, none, .ld (.t 1) 2 true⟩, 
    ⟨some 6, none, .call 18 [(.t 5)] false⟩, 
    ⟨some 7, none, .bin .eql (.t 6) (.c (.p (.int .i64 0)))⟩, 
    ⟨some 8, none, .mov (.t 7)⟩, 
    ⟨some 9, (some (8, true)), .ld (.t 1) 2 true⟩, 
    ⟨some 10, (some (8, true)), .call 20 [(.t 9), (.c (.p (.int .i64 1)))] false⟩, 
    ⟨some 11, none, .pick (.t 8) (.t 10) (.c (.p (.bool false)))⟩, 
    ⟨some 12, none, .mov (.t 11)⟩, 
    ⟨some 13, (some (12, true)), .ld (.t 1) 2 true⟩, 
    ⟨some 14, (some (12, true)), .call 20 [(.t 13), (.c (.p (.int .i64 2)))] false⟩, 
    ⟨some 15, (some (12, true)), .un .not (.t 14)⟩, 
    ⟨some 16, none, .pick (.t 12) (.t 15) (.c (.p (.bool false)))⟩, 
    ⟨some 17, none, .mov (.t 16)⟩, 
    ⟨some 18, (some (17, true)), .ld (.t 1) 2 true⟩, 
    ⟨some 19, (some (17, true)), .call 29 [(.t 18), (.c (.p (.int .i64 1))), (.c (.p (.int .i64 3)))] false⟩, 
    ⟨some 20, (some (17, true)), .bin .eql (.t 19) (.c (.p (.int .i64 9)))⟩, 
    ⟨some 21, none, .pick (.t 17) (.t 20) (.c (.p (.bool false)))⟩, 
    ⟨some 22, none, .mov (.t 21)⟩, 
    ⟨some 23, (some (22, true)), .ld (.t 1) 2 true⟩, 
    ⟨some 24, (some (22, true)), .call 22 [(.t 23), (.c (.p (.int .i64 1)))] false⟩, 
    ⟨some 25, (some (22, true)), .bin .eql (.t 24) (.c (.p (.int .i64 7)))⟩, 
    ⟨some 26, none, .pick (.t 22) (.t 25) (.c (.p (.bool false)))⟩, 
    ⟨some 27, none, .mov (.t 26)⟩, 
    ⟨some 28, (some (27, true)), .ld (.t 1) 2 true⟩, 
    ⟨some 29, (some (27, true)), .call 27 [(.t 28), (.c (.p (.int .i64 1)))] false⟩, 
    ⟨some 30, (some (27, true)), .bin .eql (.t 29) (.c (.p (.int .i64 3)))⟩, 
    ⟨some 31, none, .pick (.t 27) (.t 30) (.c (.p (.bool false)))⟩, 
    ⟨some 0, none, .mov (.t 31)⟩] [0] [])
  .ret))),
  [.tmp 0], false⟩
def lp18_0 : IC :=
  (.loop [1, 3, 29, 30, 31] [1] (.seq (.reg false [⟨some 32, none, .bin .lss (.t 31) (.t 30)⟩] [1, 3, 29, 30, 31, 32] [1])
      (.seq (.cond (.t 32)
      .skip
      (.exit 0))
      (.seq (.block 1 (.seq (.reg false [⟨some 33, none, .ixs (.t 29) (.t 31) 1⟩, 
          ⟨some 34, none, .ld (.t 33) 1 false⟩, 
          ⟨some 5, none, .mov (.t 34)⟩] [1, 3, 5, 29, 30, 31] [1])
        (.reg false [⟨some 35, none, .mov (.t 3)⟩, 
          ⟨some 36, none, .mov (.t 35)⟩, 
          ⟨some 37, (some (36, false)), .mov (.t 5)⟩, 
          ⟨some 38, (some (36, false)), .bin .lss (.t 37) (.c (.p (.int .i64 1)))⟩, 
          ⟨some 39, none, .pick (.t 36) (.c (.p (.bool true))) (.t 38)⟩, 
          ⟨some 40, none, .mov (.t 39)⟩, 
          ⟨some 41, (some (40, false)), .mov (.t 5)⟩, 
          ⟨some 42, (some (40, false)), .bin .gtr (.t 41) (.c (.p (.int .i64 1073741823)))⟩, 
          ⟨some 43, none, .pick (.t 40) (.c (.p (.bool true))) (.t 42)⟩, 
          ⟨some 3, none, .mov (.t 43)⟩] [1, 3, 29, 30, 31] [1])))
      (.reg false [⟨some 44, none, .bin .add (.t 31) (.c (.p (.int .i64 1)))⟩, 
        ⟨some 31, none, .mov (.t 44)⟩] [1, 3, 29, 30, 31] [1])))))
def lp18_1 : IC :=
  (.loop [3, 46, 47, 48] [] (.seq (.reg false [⟨some 49, none, .bin .lss (.t 48) (.t 47)⟩] [3, 46, 47, 48, 49] [])
      (.seq (.cond (.t 49)
      .skip
      (.exit 2))
      (.seq (.block 3 (.seq (.reg false [⟨some 50, none, .ixs (.t 46) (.t 48) 1⟩, 
          ⟨some 51, none, .ld (.t 50) 1 false⟩, 
          ⟨some 7, none, .mov (.t 51)⟩] [3, 7, 46, 47, 48] [])
        (.reg false [⟨some 52, none, .mov (.t 3)⟩, 
          ⟨some 53, none, .mov (.t 52)⟩, 
          ⟨some 54, (some (53, false)), .mov (.t 7)⟩, 
          ⟨some 55, (some (53, false)), .bin .lss (.t 54) (.c (.p (.int .i64 0)))⟩, 
          ⟨some 56, none, .pick (.t 53) (.c (.p (.bool true))) (.t 55)⟩, 
          ⟨some 57, none, .mov (.t 56)⟩, 
          ⟨some 58, (some (57, false)), .mov (.t 7)⟩, 
          ⟨some 59, (some (57, false)), .bin .gtr (.t 58) (.c (.p (.int .i64 10000)))⟩, 
          ⟨some 60, none, .pick (.t 57) (.c (.p (.bool true))) (.t 59)⟩, 
          ⟨some 3, none, .mov (.t 60)⟩] [3, 46, 47, 48] [])))
      (.reg false [⟨some 61, none, .bin .add (.t 48) (.c (.p (.int .i64 1)))⟩, 
        ⟨some 48, none, .mov (.t 61)⟩] [3, 46, 47, 48] [])))))
def ir18 : IFn :=   -- tympan/note.Check
⟨(.seq (.reg false [⟨some 1, none, .bx (.t 0) 2 true⟩, 
    ⟨some 2, none, .mov (.c (.p (.int .i64 0)))⟩] [1] [1])
  (.seq (.reg false [⟨some 8, none, .off (.t 1) 0⟩, 
    ⟨some 9, none, .ld (.t 8) 1 false⟩, 
    ⟨some 10, none, .len (.t 9)⟩, 
    ⟨some 11, none, .bin .lss (.t 10) (.c (.p (.int .i64 1)))⟩, 
    ⟨some 12, none, .mov (.t 11)⟩, 
    ⟨some 13, (some (12, false)), .off (.t 1) 0⟩, 
    ⟨some 14, (some (12, false)), .ld (.t 13) 1 false⟩, 
    ⟨some 15, (some (12, false)), .len (.t 14)⟩, 
    ⟨some 16, (some (12, false)), .bin .gtr (.t 15) (.c (.p (.int .i64 64)))⟩, 
    ⟨some 17, none, .pick (.t 12) (.c (.p (.bool true))) (.t 16)⟩, 
    ⟨some 18, none, .mov (.t 17)⟩, 
    ⟨some 19, (some (18, false)), .off (.t 1) 1⟩, 
    ⟨some 20, (some (18, false)), .ld (.t 19) 1 false⟩, 
    ⟨some 21, (some (18, false)), .len (.t 20)⟩, 
    ⟨some 22, (some (18, false)), .off (.t 1) 0⟩, 
    ⟨some 23, (some (18, false)), .ld (.t 22) 1 false⟩, 
    ⟨some 24, (some (18, false)), .len (.t 23)⟩, 
    ⟨some 25, (some (18, false)), .bin .sub (.t 24) (.c (.p (.int .i64 1)))⟩, 
    ⟨some 26, (some (18, false)), .bin .neq (.t 21) (.t 25)⟩, 
    ⟨some 27, none, .pick (.t 18) (.c (.p (.bool true))) (.t 26)⟩, 
    ⟨some 3, none, .mov (.t 27)⟩] [1, 3] [1])
  (.seq (.seq (.reg false [⟨some 28, none, .off (.t 1) 0⟩, 
    ⟨some 29, none, .ld (.t 28) 1 false⟩, 
    ⟨some 30, none, .len (.t 29)⟩, 
    ⟨some 31, none, .mov (.c (.p (.int .i64 0)))⟩] [1, 3, 29, 30, 31] [1])
  (.block 0 lp18_0))
  (.seq (.seq (.reg false [⟨some 45, none, .off (.t 1) 1⟩, 
    ⟨some 46, none, .ld (.t 45) 1 false⟩, 
    ⟨some 47, none, .len (.t 46)⟩, 
    ⟨some 48, none, .mov (.c (.p (.int .i64 0)))⟩] [3, 46, 47, 48] [])
  (.block 2 lp18_1))
  (.seq (.seq (.reg false [⟨some 62, none, .mov (.t 3)⟩] [62] [])
  (.cond (.t 62)
  (.seq (.reg false [⟨some 2, none, .mov (.c (.p (.int .i64 9)))⟩] [2] [])
    .ret)
  .skip))
  (.seq (.reg false [⟨some 2, none, .mov (.c (.p (.int .i64 0)))⟩] [2] [])
  .ret)))))),
  [.tmp 2], false⟩
def lp19_0 : IC :=
  (.loop [1, 3] [1] (.seq (.seq (.reg false [⟨some 25, none, .mov (.t 3)⟩, 
        ⟨some 26, none, .off (.t 1) 0⟩, 
        ⟨some 27, none, .ld (.t 26) 1 false⟩, 
        ⟨some 28, none, .len (.t 27)⟩, 
        ⟨some 29, none, .bin .lss (.t 25) (.t 28)⟩] [1, 3, 29] [1])
      (.cond (.t 29)
      .skip
      (.exit 0)))
      (.seq (.block 1 (.seq (.reg false [⟨some 32, none, .off (.t 1) 0⟩, 
          ⟨some 33, none, .ld (.t 32) 1 false⟩, 
          ⟨some 34, none, .mov (.t 3)⟩, 
          ⟨some 35, none, .ixs (.t 33) (.t 34) 1⟩, 
          ⟨some 36, none, .ld (.t 35) 1 false⟩, 
          ⟨some 37, none, .bin .lss (.t 36) (.c (.p (.int .i64 1)))⟩, 
          ⟨some 38, none, .mov (.t 37)⟩, 
          ⟨some 39, (some (38, false)), .off (.t 1) 0⟩, 
          ⟨some 40, (some (38, false)), .ld (.t 39) 1 false⟩, 
          ⟨some 41, (some (38, false)), .mov (.t 3)⟩, 
          ⟨some 42, (some (38, false)), .ixs (.t 40) (.t 41) 1⟩, 
          ⟨some 43, (some (38, false)), .ld (.t 42) 1 false⟩, 
          ⟨some 44, (some (38, false)), .bin .gtr (.t 43) (.c (.p (.int .i64 1073741823)))⟩, 
          ⟨some 45, none, .pick (.t 38) (.c (.p (.bool true))) (.t 44)⟩] [1, 3, 45] [1])
        (.cond (.t 45)
        (.seq (.reg false [⟨some 2, none, .mov (.c (.p (.bool false)))⟩] [2] [])
          .ret)
        .skip)))
      (.reg false [⟨some 30, none, .mov (.t 3)⟩, 
        ⟨some 31, none, .bin .add (.t 30) (.c (.p (.int .i64 1)))⟩, 
        ⟨some 3, none, .mov (.t 31)⟩] [1, 3] [1]))))
def lp19_1 : IC :=
  (.loop [1, 4] [1] (.seq (.seq (.reg false [⟨some 46, none, .mov (.t 4)⟩, 
        ⟨some 47, none, .off (.t 1) 1⟩, 
        ⟨some 48, none, .ld (.t 47) 1 false⟩, 
        ⟨some 49, none, .len (.t 48)⟩, 
        ⟨some 50, none, .bin .lss (.t 46) (.t 49)⟩] [1, 4, 50] [1])
      (.cond (.t 50)
      .skip
      (.exit 2)))
      (.seq (.block 3 (.seq (.reg false [⟨some 53, none, .off (.t 1) 1⟩, 
          ⟨some 54, none, .ld (.t 53) 1 false⟩, 
          ⟨some 55, none, .mov (.t 4)⟩, 
          ⟨some 56, none, .ixs (.t 54) (.t 55) 1⟩, 
          ⟨some 57, none, .ld (.t 56) 1 false⟩, 
          ⟨some 58, none, .bin .lss (.t 57) (.c (.p (.int .i64 0)))⟩, 
          ⟨some 59, none, .mov (.t 58)⟩, 
          ⟨some 60, (some (59, false)), .off (.t 1) 1⟩, 
          ⟨some 61, (some (59, false)), .ld (.t 60) 1 false⟩, 
          ⟨some 62, (some (59, false)), .mov (.t 4)⟩, 
          ⟨some 63, (some (59, false)), .ixs (.t 61) (.t 62) 1⟩, 
          ⟨some 64, (some (59, false)), .ld (.t 63) 1 false⟩, 
          ⟨some 65, (some (59, false)), .bin .gtr (.t 64) (.c (.p (.int .i64 10000)))⟩, 
          ⟨some 66, none, .pick (.t 59) (.c (.p (.bool true))) (.t 65)⟩] [1, 4, 66] [1])
        (.cond (.t 66)
        (.seq (.reg false [⟨some 2, none, .mov (.c (.p (.bool false)))⟩] [2] [])
          .ret)
        .skip)))
      (.reg false [⟨some 51, none, .mov (.t 4)⟩, 
        ⟨some 52, none, .bin .add (.t 51) (.c (.p (.int .i64 1)))⟩, 
        ⟨some 4, none, .mov (.t 52)⟩] [1, 4] [1]))))
def ir19 : IFn :=   -- tympan/tympanref11.Check
⟨(.seq (.reg false [⟨some 1, none, .bx (.t 0) 2 true⟩, 
    ⟨some 2, none, .mov (.c (.p (.bool false)))⟩] [1] [1])
  (.seq (.seq (.reg false [⟨some 5, none, .off (.t 1) 0⟩, 
    ⟨some 6, none, .ld (.t 5) 1 false⟩, 
    ⟨some 7, none, .len (.t 6)⟩, 
    ⟨some 8, none, .bin .lss (.t 7) (.c (.p (.int .i64 1)))⟩, 
    ⟨some 9, none, .mov (.t 8)⟩, 
    ⟨some 10, (some (9, false)), .off (.t 1) 0⟩, 
    ⟨some 11, (some (9, false)), .ld (.t 10) 1 false⟩, 
    ⟨some 12, (some (9, false)), .len (.t 11)⟩, 
    ⟨some 13, (some (9, false)), .bin .gtr (.t 12) (.c (.p (.int .i64 64)))⟩, 
    ⟨some 14, none, .pick (.t 9) (.c (.p (.bool true))) (.t 13)⟩, 
    ⟨some 15, none, .mov (.t 14)⟩, 
    ⟨some 16, (some (15, false)), .off (.t 1) 1⟩, 
    ⟨some 17, (some (15, false)), .ld (.t 16) 1 false⟩, 
    ⟨some 18, (some (15, false)), .len (.t 17)⟩, 
    ⟨some 19, (some (15, false)), .off (.t 1) 0⟩, 
    ⟨some 20, (some (15, false)), .ld (.t 19) 1 false⟩, 
    ⟨some 21, (some (15, false)), .len (.t 20)⟩, 
    ⟨some 22, (some (15, false)), .bin .sub (.t 21) (.c (.p (.int .i64 1)))⟩, 
    ⟨some 23, (some (15, false)), .bin .neq (.t 18) (.t 22)⟩, 
    ⟨some 24, none, .pick (.t 15) (.c (.p (.bool true))) (.t 23)⟩] [1, 24] [1])
  (.cond (.t 24)
  (.seq (.reg false [⟨some 2, none, .mov (.c (.p (.bool false)))⟩] [2] [])
    .ret)
  .skip))
  (.seq (.seq (.reg false [⟨some 3, none, .mov (.c (.p (.int .i64 0)))⟩] [1, 3] [1])
  (.block 0 lp19_0))
  (.seq (.seq (.reg false [⟨some 4, none, .mov (.c (.p (.int .i64 0)))⟩] [1, 4] [1])
  (.block 2 lp19_1))
  (.seq (.reg false [⟨some 2, none, .mov (.c (.p (.bool true)))⟩] [2] [])
  .ret))))),
  [.tmp 2], false⟩
def ir20 : IFn :=   -- tympan/note.May
⟨(.seq (.reg false [⟨some 2, none, .bx (.t 0) 2 true⟩, 
    ⟨some 4, none, .mov (.c (.p (.bool false)))⟩] [1, 2] [2])
  (.seq (.reg false [⟨some 5, none, .ld (.t 2) 2 true⟩, 
    ⟨some 6, none, .mov (.t 1)⟩, 
    ⟨some 7, none, .call 84 [(.t 5), (.t 6)] false⟩, 
    ⟨some 4, none, .mov (.t 7)⟩] [4] [])
  .ret)),
  [.tmp 4], false⟩
def ir21 : IFn :=   -- tympan/tympanref11.May
⟨(.seq (.reg false [⟨some 2, none, .bx (.t 0) 2 true⟩, 
    ⟨some 4, none, .mov (.c (.p (.bool false)))⟩] [1, 2] [2])
  (.seq (.reg false [⟨some 5, none, .mov (.t 1)⟩, 
    ⟨some 6, none, .off (.t 2) 0⟩, 
    ⟨some 7, none, .ld (.t 6) 1 false⟩, 
    ⟨some 8, none, .len (.t 7)⟩, 
    ⟨some 9, none, .bin .eql (.t 5) (.t 8)⟩, 
    ⟨some 10, none, .mov (.t 9)⟩, 
    ⟨some 11, (some (10, false)), .ld (.t 2) 2 true⟩, 
    ⟨some 12, (some (10, false)), .mov (.t 1)⟩, 
    ⟨some 13, (some (10, false)), .call 85 [(.t 11), (.t 12)] false⟩, 
    ⟨some 14, none, .pick (.t 10) (.c (.p (.bool true))) (.t 13)⟩, 
    ⟨some 4, none, .mov (.t 14)⟩] [4] [])
  .ret)),
  [.tmp 4], false⟩
def ir22 : IFn :=   -- tympan/note.Pen
⟨(.seq (.reg false [⟨some 2, none, .bx (.t 0) 2 true⟩, 
    ⟨some 4, none, .mov (.c (.p (.int .i64 0)))⟩] [1, 2] [2])
  (.seq (.seq (.reg false [⟨some 5, none, .ld (.t 2) 2 true⟩, 
    ⟨some 6, none, .mov (.t 1)⟩, 
    ⟨some 7, none, .call 86 [(.t 5), (.t 6)] false⟩] [1, 2, 7] [2])
  (.cond (.t 7)
  (.seq (.reg false [⟨some 8, none, .off (.t 2) 1⟩, 
      ⟨some 9, none, .ld (.t 8) 1 false⟩, 
      ⟨some 10, none, .mov (.t 1)⟩, 
      ⟨some 11, none, .bin .sub (.t 10) (.c (.p (.int .i64 1)))⟩, 
      ⟨some 12, none, .ixs (.t 9) (.t 11) 1⟩, 
      ⟨some 13, none, .ld (.t 12) 1 false⟩, 
      ⟨some 4, none, .mov (.t 13)⟩] [4] [])
    .ret)
  .skip))
  (.seq (.reg false [⟨some 4, none, .mov (.c (.p (.int .i64 0)))⟩] [4] [])
  .ret))),
  [.tmp 4], false⟩
def ir23 : IFn :=   -- tympan/tympanref11.Pen
⟨(.seq (.reg false [⟨some 2, none, .bx (.t 0) 2 true⟩, 
    ⟨some 4, none, .mov (.c (.p (.int .i64 0)))⟩] [1, 2] [2])
  (.seq (.seq (.reg false [⟨some 5, none, .ld (.t 2) 2 true⟩, 
    ⟨some 6, none, .mov (.t 1)⟩, 
    ⟨some 7, none, .call 85 [(.t 5), (.t 6)] false⟩] [1, 2, 7] [2])
  (.cond (.t 7)
  (.seq (.reg false [⟨some 8, none, .off (.t 2) 1⟩, 
      ⟨some 9, none, .ld (.t 8) 1 false⟩, 
      ⟨some 10, none, .mov (.t 1)⟩, 
      ⟨some 11, none, .bin .sub (.t 10) (.c (.p (.int .i64 1)))⟩, 
      ⟨some 12, none, .ixs (.t 9) (.t 11) 1⟩, 
      ⟨some 13, none, .ld (.t 12) 1 false⟩, 
      ⟨some 4, none, .mov (.t 13)⟩] [4] [])
    .ret)
  .skip))
  (.seq (.reg false [⟨some 4, none, .mov (.c (.p (.int .i64 0)))⟩] [4] [])
  .ret))),
  [.tmp 4], false⟩
def lp24_0 : IC :=
  (.loop [0, 1, 5] [] (.seq (.seq (.reg false [⟨some 11, none, .mov (.t 5)⟩, 
        ⟨some 12, none, .mov (.t 0)⟩, 
        ⟨some 13, none, .len (.t 12)⟩, 
        ⟨some 14, none, .bin .lss (.t 11) (.t 13)⟩] [0, 1, 5, 14] [])
      (.cond (.t 14)
      .skip
      (.exit 0)))
      (.seq (.block 1 (.seq (.reg true [⟨some 17, none, .mov (.t 0)⟩, 
          ⟨some 18, none, .mov (.t 5)⟩, 
          ⟨some 19, none, .ixs (.t 17) (.t 18) 1⟩, 
          ⟨some 20, none, .ld (.t 19) 1 false⟩, 
          ⟨some 21, none, .mov (.t 1)⟩, 
          ⟨some 22, none, .mov (.t 5)⟩, 
          ⟨some 23, none, .ixs (.t 21) (.t 22) 1⟩, 
          ⟨some 24, none, .ld (.t 23) 1 false⟩, 
          ⟨some 25, none, .bin .neq (.t 20) (.t 24)⟩] [0, 1, 5, 25] [])
        (.cond (.t 25)
        (.seq (.reg false [⟨some 4, none, .mov (.c (.p (.bool false)))⟩] [4] [])
          .ret)
        .skip)))
      (.reg false [⟨some 15, none, .mov (.t 5)⟩, 
        ⟨some 16, none, .bin .add (.t 15) (.c (.p (.int .i64 1)))⟩, 
        ⟨some 5, none, .mov (.t 16)⟩] [0, 1, 5] []))))
def ir24 : IFn :=   -- tympan/tympanref11.Ints
⟨(.seq (.reg false [⟨some 4, none, .mov (.c (.p (.bool false)))⟩] [0, 1] [])
  (.seq (.seq (.reg false [⟨some 6, none, .mov (.t 0)⟩, 
    ⟨some 7, none, .len (.t 6)⟩, 
    ⟨some 8, none, .mov (.t 1)⟩, 
    ⟨some 9, none, .len (.t 8)⟩, 
    ⟨some 10, none, .bin .neq (.t 7) (.t 9)⟩] [0, 1, 10] [])
  (.cond (.t 10)
  (.seq (.reg false [⟨some 4, none, .mov (.c (.p (.bool false)))⟩] [4] [])
    .ret)
  .skip))
  (.seq (.seq (.reg false [⟨some 5, none, .mov (.c (.p (.int .i64 0)))⟩] [0, 1, 5] [])
  (.block 0 lp24_0))
  (.seq (.reg false [⟨some 4, none, .mov (.c (.p (.bool true)))⟩] [4] [])
  .ret)))),
  [.tmp 4], false⟩
def ir25 : IFn :=   -- tympan/note.Stops
⟨(.seq (.reg false [⟨some 2, none, .bx (.t 0) 2 true⟩, 
    ⟨some 4, none, .mov (.c (.nils))⟩] [1, 2] [2])
  (.seq (.reg false [⟨some 5, none, .mov (.t 1)⟩, 
    ⟨some 6, none, .mnmx true (.t 5) (.c (.p (.int .i64 (-1))))⟩, 
    ⟨some 7, none, .off (.t 2) 0⟩, 
    ⟨some 8, none, .ld (.t 7) 1 false⟩, 
    ⟨some 9, none, .len (.t 8)⟩, 
    ⟨some 10, none, .mnmx false (.t 6) (.t 9)⟩, 
    ⟨some 1, none, .mov (.t 10)⟩] [1, 2] [2])
  (.seq (.reg false [⟨some 11, none, .mov (.t 1)⟩, 
    ⟨some 12, none, .bin .add (.t 11) (.c (.p (.int .i64 1)))⟩, 
    ⟨some 13, none, .off (.t 2) 0⟩, 
    ⟨some 14, none, .ld (.t 13) 1 false⟩, 
    ⟨some 15, none, .len (.t 14)⟩, 
    ⟨some 16, none, .ld (.t 2) 2 true⟩, 
    ⟨some 17, none, .mkf (.func 84) [(.t 16)] []⟩, 
    ⟨some 18, none, .call 87 [(.t 12), (.t 15), (.t 17)] false⟩, 
    ⟨some 4, none, .mov (.t 18)⟩] [4] [])
  .ret))),
  [.tmp 4], false⟩
def lp26_0 : IC :=
  (.loop [1, 2, 5, 6] [2] (.seq (.seq (.reg false [⟨some 7, none, .mov (.t 6)⟩, 
        ⟨some 8, none, .off (.t 2) 0⟩, 
        ⟨some 9, none, .ld (.t 8) 1 false⟩, 
        ⟨some 10, none, .len (.t 9)⟩, 
        ⟨some 11, none, .bin .leq (.t 7) (.t 10)⟩] [1, 2, 5, 6, 11] [2])
      (.cond (.t 11)
      .skip
      (.exit 0)))
      (.seq (.block 1 (.seq (.reg false [⟨some 14, none, .mov (.t 6)⟩, 
          ⟨some 15, none, .mov (.t 1)⟩, 
          ⟨some 16, none, .bin .gtr (.t 14) (.t 15)⟩, 
          ⟨some 17, none, .mov (.t 16)⟩, 
          ⟨some 18, (some (17, true)), .ld (.t 2) 2 true⟩, 
          ⟨some 19, (some (17, true)), .mov (.t 6)⟩, 
          ⟨some 20, (some (17, true)), .call 21 [(.t 18), (.t 19)] false⟩, 
          ⟨some 21, none, .pick (.t 17) (.t 20) (.c (.p (.bool false)))⟩] [1, 2, 5, 6, 21] [2])
        (.cond (.t 21)
        (.reg false [⟨some 22, none, .mov (.t 5)⟩, 
            ⟨some 23, none, .mov (.t 6)⟩, 
            ⟨some 24, none, .bsl 1 1 [.p (.int .i64 0)] [(0, (.t 23))]⟩, 
            ⟨some 25, none, .app (.t 22) (.t 24) 1⟩, 
            ⟨some 5, none, .mov (.t 25)⟩] [1, 2, 5, 6] [2])
        .skip)))
      (.reg false [⟨some 12, none, .mov (.t 6)⟩, 
        ⟨some 13, none, .bin .add (.t 12) (.c (.p (.int .i64 1)))⟩, 
        ⟨some 6, none, .mov (.t 13)⟩] [1, 2, 5, 6] [2]))))
def ir26 : IFn :=   -- tympan/tympanref11.Stops
⟨(.seq (.reg false [⟨some 2, none, .bx (.t 0) 2 true⟩, 
    ⟨some 4, none, .mov (.c (.nils))⟩] [1, 2] [2])
  (.seq (.reg false [⟨some 5, none, .nrow 1⟩] [1, 2, 5] [2])
  (.seq (.seq (.reg false [⟨some 6, none, .mov (.c (.p (.int .i64 0)))⟩] [1, 2, 5, 6] [2])
  (.block 0 lp26_0))
  (.seq (.reg false [⟨some 26, none, .mov (.t 5)⟩, 
    ⟨some 4, none, .mov (.t 26)⟩] [4] [])
  .ret)))),
  [.tmp 4], false⟩
def ir27 : IFn :=   -- tympan/note.First
⟨(.seq (.reg false [⟨some 2, none, .bx (.t 0) 2 true⟩, 
    ⟨some 4, none, .mov (.c (.p (.int .i64 0)))⟩] [1, 2] [2])
  (.seq (.reg false [⟨some 6, none, .ld (.t 2) 2 true⟩, 
    ⟨some 7, none, .mov (.t 1)⟩, 
    ⟨some 8, none, .call 25 [(.t 6), (.t 7)] false⟩, 
    ⟨some 5, none, .mov (.t 8)⟩] [5] [])
  (.seq (.seq (.reg false [⟨some 9, none, .mov (.t 5)⟩, 
    ⟨some 10, none, .len (.t 9)⟩, 
    ⟨some 11, none, .bin .eql (.t 10) (.c (.p (.int .i64 0)))⟩] [5, 11] [])
  (.cond (.t 11)
  (.seq (.reg false [⟨some 4, none, .mov (.c (.p (.int .i64 (-1))))⟩] [4] [])
    .ret)
  .skip))
  (.seq (.reg false [⟨some 12, none, .mov (.t 5)⟩, 
    ⟨some 13, none, .ixs (.t 12) (.c (.p (.int .i64 0))) 1⟩, 
    ⟨some 14, none, .ld (.t 13) 1 false⟩, 
    ⟨some 4, none, .mov (.t 14)⟩] [4] [])
  .ret)))),
  [.tmp 4], false⟩
def ir28 : IFn :=   -- tympan/tympanref11.First
⟨(.seq (.reg false [⟨some 2, none, .bx (.t 0) 2 true⟩, 
    ⟨some 4, none, .mov (.c (.p (.int .i64 0)))⟩] [1, 2] [2])
  (.seq (.reg false [⟨some 6, none, .ld (.t 2) 2 true⟩, 
    ⟨some 7, none, .mov (.t 1)⟩, 
    ⟨some 8, none, .call 26 [(.t 6), (.t 7)] false⟩, 
    ⟨some 5, none, .mov (.t 8)⟩] [5] [])
  (.seq (.seq (.reg false [⟨some 9, none, .mov (.t 5)⟩, 
    ⟨some 10, none, .len (.t 9)⟩, 
    ⟨some 11, none, .bin .eql (.t 10) (.c (.p (.int .i64 0)))⟩] [5, 11] [])
  (.cond (.t 11)
  (.seq (.reg false [⟨some 4, none, .mov (.c (.p (.int .i64 (-1))))⟩] [4] [])
    .ret)
  .skip))
  (.seq (.reg false [⟨some 12, none, .mov (.t 5)⟩, 
    ⟨some 13, none, .ixs (.t 12) (.c (.p (.int .i64 0))) 1⟩, 
    ⟨some 14, none, .ld (.t 13) 1 false⟩, 
    ⟨some 4, none, .mov (.t 14)⟩] [4] [])
  .ret)))),
  [.tmp 4], false⟩
def lp29_0 : IC :=
  (.loop [2, 3, 7, 8] [3] (.seq (.seq (.reg false [⟨some 17, none, .mov (.t 8)⟩, 
        ⟨some 18, none, .mov (.t 2)⟩, 
        ⟨some 19, none, .bin .lss (.t 17) (.t 18)⟩] [2, 3, 7, 8, 19] [3])
      (.cond (.t 19)
      .skip
      (.exit 0)))
      (.seq (.block 1 (.reg false [⟨some 22, none, .mov (.t 7)⟩, 
          ⟨some 23, none, .off (.t 3) 0⟩, 
          ⟨some 24, none, .ld (.t 23) 1 false⟩, 
          ⟨some 25, none, .mov (.t 8)⟩, 
          ⟨some 26, none, .ixs (.t 24) (.t 25) 1⟩, 
          ⟨some 27, none, .ld (.t 26) 1 false⟩, 
          ⟨some 28, none, .mnmx true (.t 27) (.c (.p (.int .i64 0)))⟩, 
          ⟨some 29, none, .mnmx false (.t 28) (.c (.p (.int .i64 1125899906842624)))⟩, 
          ⟨some 30, none, .bin .add (.t 22) (.t 29)⟩, 
          ⟨some 31, none, .mnmx false (.t 30) (.c (.p (.int .i64 1125899906842624)))⟩, 
          ⟨some 7, none, .mov (.t 31)⟩] [2, 3, 7, 8] [3]))
      (.reg false [⟨some 20, none, .mov (.t 8)⟩, 
        ⟨some 21, none, .bin .add (.t 20) (.c (.p (.int .i64 1)))⟩, 
        ⟨some 8, none, .mov (.t 21)⟩] [2, 3, 7, 8] [3]))))
def ir29 : IFn :=   -- tympan/note.High
⟨(.seq (.reg false [⟨some 3, none, .bx (.t 0) 2 true⟩, 
    ⟨some 6, none, .mov (.c (.p (.int .i64 0)))⟩] [1, 2, 3] [3])
  (.seq (.reg true [⟨some 9, none, .mov (.t 1)⟩, 
    ⟨some 10, none, .mnmx true (.t 9) (.c (.p (.int .i64 0)))⟩, 
    ⟨some 11, none, .mov (.t 2)⟩, 
    ⟨some 12, none, .off (.t 3) 0⟩, 
    ⟨some 13, none, .ldl 3 (.t 12) 1 false⟩, 
    ⟨some 14, none, .len (.t 13)⟩, 
    ⟨some 15, none, .mnmx false (.t 11) (.t 14)⟩, 
    ⟨some 1, none, .mov (.t 10)⟩, 
    ⟨some 2, none, .mov (.t 15)⟩] [1, 2, 3] [3])
  (.seq (.reg false [⟨some 7, none, .mov (.c (.p (.int .i64 0)))⟩] [1, 2, 3, 7] [3])
  (.seq (.seq (.reg false [⟨some 16, none, .mov (.t 1)⟩, 
    ⟨some 8, none, .mov (.t 16)⟩] [2, 3, 7, 8] [3])
  (.block 0 lp29_0))
  (.seq (.reg false [⟨some 32, none, .mov (.t 7)⟩, 
    ⟨some 6, none, .mov (.t 32)⟩] [6] [])
  .ret))))),
  [.tmp 6], false⟩
def lp30_0 : IC :=
  (.loop [1, 2, 3, 7, 8] [3] (.seq (.seq (.reg false [⟨some 9, none, .mov (.t 8)⟩, 
        ⟨some 10, none, .off (.t 3) 0⟩, 
        ⟨some 11, none, .ld (.t 10) 1 false⟩, 
        ⟨some 12, none, .len (.t 11)⟩, 
        ⟨some 13, none, .bin .lss (.t 9) (.t 12)⟩] [1, 2, 3, 7, 8, 13] [3])
      (.cond (.t 13)
      .skip
      (.exit 0)))
      (.seq (.block 1 (.seq (.reg false [⟨some 16, none, .mov (.t 8)⟩, 
          ⟨some 17, none, .mov (.t 1)⟩, 
          ⟨some 18, none, .bin .geq (.t 16) (.t 17)⟩, 
          ⟨some 19, none, .mov (.t 18)⟩, 
          ⟨some 20, (some (19, true)), .mov (.t 8)⟩, 
          ⟨some 21, (some (19, true)), .mov (.t 2)⟩, 
          ⟨some 22, (some (19, true)), .bin .lss (.t 20) (.t 21)⟩, 
          ⟨some 23, none, .pick (.t 19) (.t 22) (.c (.p (.bool false)))⟩] [1, 2, 3, 7, 8, 23] [3])
        (.cond (.t 23)
        (.reg false [⟨some 24, none, .mov (.t 7)⟩, 
            ⟨some 25, none, .off (.t 3) 0⟩, 
            ⟨some 26, none, .ld (.t 25) 1 false⟩, 
            ⟨some 27, none, .mov (.t 8)⟩, 
            ⟨some 28, none, .ixs (.t 26) (.t 27) 1⟩, 
            ⟨some 29, none, .ld (.t 28) 1 false⟩, 
            ⟨some 30, none, .mnmx false (.t 29) (.c (.p (.int .i64 1125899906842624)))⟩, 
            ⟨some 31, none, .mnmx true (.c (.p (.int .i64 0))) (.t 30)⟩, 
            ⟨some 32, none, .bin .add (.t 24) (.t 31)⟩, 
            ⟨some 33, none, .mnmx false (.t 32) (.c (.p (.int .i64 1125899906842624)))⟩, 
            ⟨some 7, none, .mov (.t 33)⟩] [1, 2, 3, 7, 8] [3])
        .skip)))
      (.reg false [⟨some 14, none, .mov (.t 8)⟩, 
        ⟨some 15, none, .bin .add (.t 14) (.c (.p (.int .i64 1)))⟩, 
        ⟨some 8, none, .mov (.t 15)⟩] [1, 2, 3, 7, 8] [3]))))
def ir30 : IFn :=   -- tympan/tympanref11.High
⟨(.seq (.reg false [⟨some 3, none, .bx (.t 0) 2 true⟩, 
    ⟨some 6, none, .mov (.c (.p (.int .i64 0)))⟩] [1, 2, 3] [3])
  (.seq (.reg false [⟨some 7, none, .mov (.c (.p (.int .i64 0)))⟩] [1, 2, 3, 7] [3])
  (.seq (.seq (.reg false [⟨some 8, none, .mov (.c (.p (.int .i64 0)))⟩] [1, 2, 3, 7, 8] [3])
  (.block 0 lp30_0))
  (.seq (.reg false [⟨some 34, none, .mov (.t 7)⟩, 
    ⟨some 6, none, .mov (.t 34)⟩] [6] [])
  .ret)))),
  [.tmp 6], false⟩
def lp31_0 : IC :=
  (.loop [3, 6, 7, 8] [] (.seq (.reg false [⟨some 9, none, .bin .lss (.t 8) (.t 7)⟩] [3, 6, 7, 8, 9] [])
      (.seq (.cond (.t 9)
      .skip
      (.exit 0))
      (.seq (.block 1 (.seq (.reg false [⟨some 10, none, .ixs (.t 6) (.t 8) 2⟩, 
          ⟨some 11, none, .ld (.t 10) 2 true⟩, 
          ⟨some 5, none, .al [.nils, .nils] true⟩, 
          ⟨none, none, .st (.t 5) (.t 11) 2⟩] [3, 5, 6, 7, 8] [5])
        (.reg false [⟨some 12, none, .mov (.t 3)⟩, 
          ⟨some 13, none, .off (.t 5) 0⟩, 
          ⟨some 14, none, .ld (.t 13) 1 false⟩, 
          ⟨some 15, none, .len (.t 14)⟩, 
          ⟨some 16, none, .bin .add (.t 12) (.t 15)⟩, 
          ⟨some 3, none, .mov (.t 16)⟩] [3, 6, 7, 8] [])))
      (.reg false [⟨some 17, none, .bin .add (.t 8) (.c (.p (.int .i64 1)))⟩, 
        ⟨some 8, none, .mov (.t 17)⟩] [3, 6, 7, 8] [])))))
def ir31 : IFn :=   -- tympan/note.Lines
⟨(.seq (.reg false [⟨some 2, none, .mov (.c (.p (.int .i64 0)))⟩] [0] [])
  (.seq (.reg false [⟨some 3, none, .mov (.c (.p (.int .i64 0)))⟩] [0, 3] [])
  (.seq (.seq (.reg false [⟨some 6, none, .mov (.t 0)⟩, 
    ⟨some 7, none, .len (.t 6)⟩, 
    ⟨some 8, none, .mov (.c (.p (.int .i64 0)))⟩] [3, 6, 7, 8] [])
  (.block 0 lp31_0))
  (.seq (.reg false [⟨some 18, none, .mov (.t 3)⟩, 
    ⟨some 2, none, .mov (.t 18)⟩] [2] [])
  .ret)))),
  [.tmp 2], false⟩
def ir32 : IFn :=   -- tympan/note.Same
⟨(.seq (.reg false [⟨some 2, none, .bx (.t 0) 2 true⟩, 
    ⟨some 3, none, .bx (.t 1) 2 true⟩, 
    ⟨some 4, none, .mov (.c (.p (.bool false)))⟩] [2, 3] [2, 3])
  (.seq (.reg false [⟨some 5, none, .off (.t 2) 0⟩, 
    ⟨some 6, none, .ld (.t 5) 1 false⟩, 
    ⟨some 7, none, .off (.t 3) 0⟩, 
    ⟨some 8, none, .ld (.t 7) 1 false⟩, 
    ⟨some 9, none, .call 88 [(.t 6), (.t 8)] false⟩, 
    ⟨some 10, none, .mov (.t 9)⟩, 
    ⟨some 11, (some (10, true)), .off (.t 2) 1⟩, 
    ⟨some 12, (some (10, true)), .ld (.t 11) 1 false⟩, 
    ⟨some 13, (some (10, true)), .off (.t 3) 1⟩, 
    ⟨some 14, (some (10, true)), .ld (.t 13) 1 false⟩, 
    ⟨some 15, (some (10, true)), .call 89 [(.t 12), (.t 14)] false⟩, 
    ⟨some 16, none, .pick (.t 10) (.t 15) (.c (.p (.bool false)))⟩, 
    ⟨some 4, none, .mov (.t 16)⟩] [4] [])
  .ret)),
  [.tmp 4], false⟩
def lp33_0 : IC :=
  (.loop [2, 3, 5] [2, 3] (.seq (.seq (.reg false [⟨some 23, none, .mov (.t 5)⟩, 
        ⟨some 24, none, .off (.t 2) 0⟩, 
        ⟨some 25, none, .ld (.t 24) 1 false⟩, 
        ⟨some 26, none, .len (.t 25)⟩, 
        ⟨some 27, none, .bin .lss (.t 23) (.t 26)⟩] [2, 3, 5, 27] [2, 3])
      (.cond (.t 27)
      .skip
      (.exit 0)))
      (.seq (.block 1 (.seq (.reg true [⟨some 30, none, .off (.t 2) 0⟩, 
          ⟨some 31, none, .ldl 2 (.t 30) 1 false⟩, 
          ⟨some 32, none, .mov (.t 5)⟩, 
          ⟨some 33, none, .ixs (.t 31) (.t 32) 1⟩, 
          ⟨some 34, none, .ld (.t 33) 1 false⟩, 
          ⟨some 35, none, .off (.t 3) 0⟩, 
          ⟨some 36, none, .ldl 3 (.t 35) 1 false⟩, 
          ⟨some 37, none, .mov (.t 5)⟩, 
          ⟨some 38, none, .ixs (.t 36) (.t 37) 1⟩, 
          ⟨some 39, none, .ld (.t 38) 1 false⟩, 
          ⟨some 40, none, .bin .neq (.t 34) (.t 39)⟩] [2, 3, 5, 40] [2, 3])
        (.cond (.t 40)
        (.seq (.reg false [⟨some 4, none, .mov (.c (.p (.bool false)))⟩] [4] [])
          .ret)
        .skip)))
      (.reg false [⟨some 28, none, .mov (.t 5)⟩, 
        ⟨some 29, none, .bin .add (.t 28) (.c (.p (.int .i64 1)))⟩, 
        ⟨some 5, none, .mov (.t 29)⟩] [2, 3, 5] [2, 3]))))
def lp33_1 : IC :=
  (.loop [2, 3, 6] [2, 3] (.seq (.seq (.reg false [⟨some 41, none, .mov (.t 6)⟩, 
        ⟨some 42, none, .off (.t 2) 1⟩, 
        ⟨some 43, none, .ld (.t 42) 1 false⟩, 
        ⟨some 44, none, .len (.t 43)⟩, 
        ⟨some 45, none, .bin .lss (.t 41) (.t 44)⟩] [2, 3, 6, 45] [2, 3])
      (.cond (.t 45)
      .skip
      (.exit 2)))
      (.seq (.block 3 (.seq (.reg true [⟨some 48, none, .off (.t 2) 1⟩, 
          ⟨some 49, none, .ldl 2 (.t 48) 1 false⟩, 
          ⟨some 50, none, .mov (.t 6)⟩, 
          ⟨some 51, none, .ixs (.t 49) (.t 50) 1⟩, 
          ⟨some 52, none, .ld (.t 51) 1 false⟩, 
          ⟨some 53, none, .off (.t 3) 1⟩, 
          ⟨some 54, none, .ldl 3 (.t 53) 1 false⟩, 
          ⟨some 55, none, .mov (.t 6)⟩, 
          ⟨some 56, none, .ixs (.t 54) (.t 55) 1⟩, 
          ⟨some 57, none, .ld (.t 56) 1 false⟩, 
          ⟨some 58, none, .bin .neq (.t 52) (.t 57)⟩] [2, 3, 6, 58] [2, 3])
        (.cond (.t 58)
        (.seq (.reg false [⟨some 4, none, .mov (.c (.p (.bool false)))⟩] [4] [])
          .ret)
        .skip)))
      (.reg false [⟨some 46, none, .mov (.t 6)⟩, 
        ⟨some 47, none, .bin .add (.t 46) (.c (.p (.int .i64 1)))⟩, 
        ⟨some 6, none, .mov (.t 47)⟩] [2, 3, 6] [2, 3]))))
def ir33 : IFn :=   -- tympan/tympanref11.Same
⟨(.seq (.reg false [⟨some 2, none, .bx (.t 0) 2 true⟩, 
    ⟨some 3, none, .bx (.t 1) 2 true⟩, 
    ⟨some 4, none, .mov (.c (.p (.bool false)))⟩] [2, 3] [2, 3])
  (.seq (.seq (.reg false [⟨some 7, none, .off (.t 2) 0⟩, 
    ⟨some 8, none, .ld (.t 7) 1 false⟩, 
    ⟨some 9, none, .len (.t 8)⟩, 
    ⟨some 10, none, .off (.t 3) 0⟩, 
    ⟨some 11, none, .ld (.t 10) 1 false⟩, 
    ⟨some 12, none, .len (.t 11)⟩, 
    ⟨some 13, none, .bin .neq (.t 9) (.t 12)⟩, 
    ⟨some 14, none, .mov (.t 13)⟩, 
    ⟨some 15, (some (14, false)), .off (.t 2) 1⟩, 
    ⟨some 16, (some (14, false)), .ld (.t 15) 1 false⟩, 
    ⟨some 17, (some (14, false)), .len (.t 16)⟩, 
    ⟨some 18, (some (14, false)), .off (.t 3) 1⟩, 
    ⟨some 19, (some (14, false)), .ld (.t 18) 1 false⟩, 
    ⟨some 20, (some (14, false)), .len (.t 19)⟩, 
    ⟨some 21, (some (14, false)), .bin .neq (.t 17) (.t 20)⟩, 
    ⟨some 22, none, .pick (.t 14) (.c (.p (.bool true))) (.t 21)⟩] [2, 3, 22] [2, 3])
  (.cond (.t 22)
  (.seq (.reg false [⟨some 4, none, .mov (.c (.p (.bool false)))⟩] [4] [])
    .ret)
  .skip))
  (.seq (.seq (.reg false [⟨some 5, none, .mov (.c (.p (.int .i64 0)))⟩] [2, 3, 5] [2, 3])
  (.block 0 lp33_0))
  (.seq (.seq (.reg false [⟨some 6, none, .mov (.c (.p (.int .i64 0)))⟩] [2, 3, 6] [2, 3])
  (.block 2 lp33_1))
  (.seq (.reg false [⟨some 4, none, .mov (.c (.p (.bool true)))⟩] [4] [])
  .ret))))),
  [.tmp 4], false⟩
def lp44_0 : IC :=
  (.loop [1, 3] [1] (.seq (.seq (.reg false [⟨some 4, none, .mov (.t 3)⟩, 
        ⟨some 5, none, .off (.t 1) 20⟩, 
        ⟨some 6, none, .ld (.t 5) 1 false⟩, 
        ⟨some 7, none, .len (.t 6)⟩, 
        ⟨some 8, none, .bin .lss (.t 4) (.t 7)⟩, 
        ⟨some 9, none, .mov (.t 8)⟩, 
        ⟨some 10, (some (9, true)), .mov (.t 3)⟩, 
        ⟨some 11, (some (9, true)), .bin .lss (.t 10) (.c (.p (.int .i64 100)))⟩, 
        ⟨some 12, none, .pick (.t 9) (.t 11) (.c (.p (.bool false)))⟩] [1, 3, 12] [1])
      (.cond (.t 12)
      .skip
      (.exit 0)))
      (.seq (.block 1 (.seq (.reg false [⟨some 15, none, .off (.t 1) 20⟩, 
          ⟨some 16, none, .ld (.t 15) 1 false⟩, 
          ⟨some 17, none, .mov (.t 3)⟩, 
          ⟨some 18, none, .ixs (.t 16) (.t 17) 2⟩, 
          ⟨some 19, none, .off (.t 18) 0⟩, 
          ⟨some 20, none, .ld (.t 19) 1 false⟩, 
          ⟨some 21, none, .len (.t 20)⟩, 
          ⟨some 22, none, .bin .gtr (.t 21) (.c (.p (.int .i64 100)))⟩, 
          ⟨some 23, none, .mov (.t 22)⟩, 
          ⟨some 24, (some (23, false)), .off (.t 1) 20⟩, 
          ⟨some 25, (some (23, false)), .ld (.t 24) 1 false⟩, 
          ⟨some 26, (some (23, false)), .mov (.t 3)⟩, 
          ⟨some 27, (some (23, false)), .ixs (.t 25) (.t 26) 2⟩, 
          ⟨some 28, (some (23, false)), .off (.t 27) 1⟩, 
          ⟨some 29, (some (23, false)), .ld (.t 28) 1 false⟩, 
          ⟨some 30, (some (23, false)), .len (.t 29)⟩, 
          ⟨some 31, (some (23, false)), .bin .gtr (.t 30) (.c (.p (.int .i64 100)))⟩, 
          ⟨some 32, none, .pick (.t 23) (.c (.p (.bool true))) (.t 31)⟩] [1, 3, 32] [1])
        (.cond (.t 32)
        (.seq (.reg false [⟨some 2, none, .mov (.c (.p (.bool true)))⟩] [2] [])
          .ret)
        .skip)))
      (.reg false [⟨some 13, none, .mov (.t 3)⟩, 
        ⟨some 14, none, .bin .add (.t 13) (.c (.p (.int .i64 1)))⟩, 
        ⟨some 3, none, .mov (.t 14)⟩] [1, 3] [1]))))
def ir44 : IFn :=   -- tympan/tympanlaw14.Large
⟨(.seq (.reg false [⟨some 1, none, .bx (.t 0) 22 true⟩, 
    ⟨some 2, none, .mov (.c (.p (.bool false)))⟩] [1] [1])
  (.seq (.seq (.reg false [⟨some 3, none, .mov (.c (.p (.int .i64 0)))⟩] [1, 3] [1])
  (.block 0 lp44_0))
  (.seq (.reg false [⟨some 33, none, .off (.t 1) 19⟩, 
    ⟨some 34, none, .ld (.t 33) 1 false⟩, 
    ⟨some 35, none, .len (.t 34)⟩, 
    ⟨some 36, none, .bin .gtr (.t 35) (.c (.p (.int .i64 100)))⟩, 
    ⟨some 37, none, .mov (.t 36)⟩, 
    ⟨some 38, (some (37, false)), .off (.t 1) 20⟩, 
    ⟨some 39, (some (37, false)), .ld (.t 38) 1 false⟩, 
    ⟨some 40, (some (37, false)), .len (.t 39)⟩, 
    ⟨some 41, (some (37, false)), .bin .gtr (.t 40) (.c (.p (.int .i64 100)))⟩, 
    ⟨some 42, none, .pick (.t 37) (.c (.p (.bool true))) (.t 41)⟩, 
    ⟨some 43, none, .mov (.t 42)⟩, 
    ⟨some 44, (some (43, false)), .off (.t 1) 21⟩, 
    ⟨some 45, (some (43, false)), .ld (.t 44) 1 false⟩, 
    ⟨some 46, (some (43, false)), .len (.t 45)⟩, 
    ⟨some 47, (some (43, false)), .bin .gtr (.t 46) (.c (.p (.int .i64 100)))⟩, 
    ⟨some 48, none, .pick (.t 43) (.c (.p (.bool true))) (.t 47)⟩, 
    ⟨some 2, none, .mov (.t 48)⟩] [2] [])
  .ret))),
  [.tmp 2], false⟩
def ir45 : IFn :=   -- tympan/tympanlaw14.awake
⟨(.seq (.reg false [⟨some 0, none, .mov (.c (.p (.bool false)))⟩] [] [])
  (.seq (.reg false [⟨some 3, none, .bld [.p (.int .i64 0), .p (.int .i64 0), .p (.int .i64 0), .p (.int .i64 0), .p (.int .i64 0), .p (.int .i64 0), .p (.int .i64 0), .p (.int .i64 0), .p (.int .i64 0), .p (.int .i64 0), .p (.int .i64 0), .p (.int .i64 0), .p (.int .i64 0), .p (.int .i64 0), .p (.int .i64 0), .p (.int .i64 0), .p (.int .i64 0), .p (.int .i64 0), .p (.bool false)] [(5, 1, (.c (.p (.int .i64 6)))), (3, 1, (.c (.p (.int .i64 20)))), (4, 1, (.c (.p (.int .i64 14))))]⟩, 
    ⟨some 4, none, .bld [.p (.int .i64 0), .p (.int .i64 0), .p (.int .i64 0), .p (.int .i64 0), .p (.int .i64 0), .p (.int .i64 0), .p (.int .i64 0)] [(0, 1, (.c (.p (.int .i64 1)))), (1, 1, (.c (.p (.int .i64 7))))]⟩, 
    ⟨some 5, none, .bld [.p (.int .i64 0), .p (.int .i64 0), .p (.int .i64 0), .p (.int .i64 0), .p (.int .i64 0), .p (.int .i64 0), .p (.int .i64 0)] [(0, 1, (.c (.p (.int .i64 2)))), (1, 1, (.c (.p (.int .i64 3)))), (3, 1, (.c (.p (.int .i64 2))))]⟩, 
    ⟨some 6, none, .bsl 7 2 [.p (.int .i64 0), .p (.int .i64 0), .p (.int .i64 0), .p (.int .i64 0), .p (.int .i64 0), .p (.int .i64 0), .p (.int .i64 0)] [(0, (.t 4)), (1, (.t 5))]⟩, 
    ⟨some 7, none, .bld [.p (.int .i64 0), .p (.int .i64 0), .p (.int .i64 0)] [(1, 1, (.c (.p (.int .i64 1))))]⟩, 
    ⟨some 8, none, .bsl 3 1 [.p (.int .i64 0), .p (.int .i64 0), .p (.int .i64 0)] [(0, (.t 7))]⟩, 
    ⟨some 9, none, .bld [.p (.int .i64 0), .p (.int .i64 0), .p (.int .i64 0), .p (.int .i64 0), .p (.int .i64 0), .p (.int .i64 0), .p (.int .i64 0), .p (.int .i64 0), .p (.int .i64 0), .p (.int .i64 0), .p (.int .i64 0), .p (.int .i64 0), .p (.int .i64 0), .p (.int .i64 0), .p (.int .i64 0), .p (.int .i64 0), .p (.int .i64 0), .p (.int .i64 0), .p (.bool false), .nils, .nils, .nils] [(0, 19, (.t 3)), (19, 1, (.t 6)), (21, 1, (.t 8))]⟩, 
    ⟨some 1, none, .al [.p (.int .i64 0), .p (.int .i64 0), .p (.int .i64 0), .p (.int .i64 0), .p (.int .i64 0), .p (.int .i64 0), .p (.int .i64 0), .p (.int .i64 0), .p (.int .i64 0), .p (.int .i64 0), .p (.int .i64 0), .p (.int .i64 0), .p (.int .i64 0), .p (.int .i64 0), .p (.int .i64 0), .p (.int .i64 0), .p (.int .i64 0), .p (.int .i64 0), .p (.bool false), .nils, .nils, .nils] true⟩, 
    ⟨none, none, .st (.t 1) (.t 9) 22⟩] [1] [1])
  (.seq (.reg false [⟨some 10, none, .ld (.t 1) 22 true⟩, 
    ⟨some 11, none, .call 46 [(.t 10)] false⟩, 
    ⟨some 2, none, .al [.p (.int .i64 0), .p (.int .i64 0), .p (.int .i64 0), .p (.int .i64 0), .p (.int .i64 0), .p (.int .i64 0), .p (.int .i64 0), .p (.int .i64 0), .p (.int .i64 0), .p (.int .i64 0), .p (.int .i64 0), .p (.int .i64 0), .p (.int .i64 0), .p (.int .i64 0), .p (.int .i64 0), .p (.int .i64 0), .p (.int .i64 0), .p (.int .i64 0), .p (.bool false), .nils, .nils, .nils] true⟩, 
    ⟨none, none, .st (.t 2) (.t 11) 22⟩] [1, 2] [1, 2])
  (.seq (.reg false [⟨some 12, none, .ld (.t 1) 22 true⟩, 
    ⟨some 13, none, .call 48 [(.t 12)] false⟩, 
    ⟨some 14, none, .un .not (.t 13)⟩, 
    ⟨some 15, none, .mov (.t 14)⟩, 
    ⟨some 16, (some (15, true)), .ld (.t 2) 22 true⟩, 
    ⟨some 17, (some (15, true)), .call 48 [(.t 16)] false⟩, 
    ⟨some 18, none, .pick (.t 15) (.t 17) (.c (.p (.bool false)))⟩, 
    ⟨some 19, none, .mov (.t 18)⟩, 
    ⟨some 20, (some (19, true)), .off (.t 2) 0⟩, 
    ⟨some 21, (some (19, true)), .off (.t 20) 3⟩, 
    ⟨some 22, (some (19, true)), .ld (.t 21) 1 false⟩, 
    ⟨some 23, (some (19, true)), .bin .eql (.t 22) (.c (.p (.int .i64 18)))⟩, 
    ⟨some 24, none, .pick (.t 19) (.t 23) (.c (.p (.bool false)))⟩, 
    ⟨some 25, none, .mov (.t 24)⟩, 
    ⟨some 26, (some (25, true)), .off (.t 2) 0⟩, 
    ⟨some 27, (some (25, true)), .off (.t 26) 4⟩, 
    ⟨some 28, (some (25, true)), .ld (.t 27) 1 false⟩, 
    ⟨some 29, (some (25, true)), .bin .eql (.t 28) (.c (.p (.int .i64 12)))⟩, 
    ⟨some 30, none, .pick (.t 25) (.t 29) (.c (.p (.bool false)))⟩, 
    ⟨some 31, none, .mov (.t 30)⟩, 
    ⟨some 32, (some (31, true)), .off (.t 2) 19⟩, 
    ⟨some 33, (some (31, true)), .ld (.t 32) 1 false⟩, 
    ⟨some 34, (some (31, true)), .ixs (.t 33) (.c (.p (.int .i64 0))) 7⟩, 
    ⟨some 35, (some (31, true)), .off (.t 34) 1⟩, 
    ⟨some 36, (some (31, true)), .ld (.t 35) 1 false⟩, 
    ⟨some 37, (some (31, true)), .bin .eql (.t 36) (.c (.p (.int .i64 12)))⟩, 
    ⟨some 38, none, .pick (.t 31) (.t 37) (.c (.p (.bool false)))⟩, 
    ⟨some 39, none, .mov (.t 38)⟩, 
    ⟨some 40, (some (39, true)), .off (.t 2) 19⟩, 
    ⟨some 41, (some (39, true)), .ld (.t 40) 1 false⟩, 
    ⟨some 42, (some (39, true)), .ixs (.t 41) (.c (.p (.int .i64 1))) 7⟩, 
    ⟨some 43, (some (39, true)), .off (.t 42) 1⟩, 
    ⟨some 44, (some (39, true)), .ld (.t 43) 1 false⟩, 
    ⟨some 45, (some (39, true)), .bin .eql (.t 44) (.c (.p (.int .i64 6)))⟩, 
    ⟨some 46, none, .pick (.t 39) (.t 45) (.c (.p (.bool false)))⟩, 
    ⟨some 47, none, .mov (.t 46)⟩, 
    ⟨some 48, (some (47, true)), .off (.t 2) 21⟩, 
    ⟨some 49, (some (47, true)), .ld (.t 48) 1 false⟩, 
    ⟨some 50, (some (47, true)), .ixs (.t 49) (.c (.p (.int .i64 0))) 3⟩, 
    ⟨some 51, (some (47, true)), .off (.t 50) 1⟩, 
    ⟨some 52, (some (47, true)), .ld (.t 51) 1 false⟩, 
    ⟨some 53, (some (47, true)), .bin .eql (.t 52) (.c (.p (.int .i64 6)))⟩, 
    ⟨some 54, none, .pick (.t 47) (.t 53) (.c (.p (.bool false)))⟩, 
    ⟨some 55, none, .mov (.t 54)⟩, 
    ⟨some 56, (some (55, true)), .call 93 [(.c (.p (.int .i64 2))), (.c (.p (.int .i64 6)))] false⟩, 
    ⟨some 57, (some (55, true)), .bin .eql (.t 56) (.c (.p (.int .i64 0)))⟩, 
    ⟨some 58, none, .pick (.t 55) (.t 57) (.c (.p (.bool false)))⟩, 
    ⟨some 0, none, .mov (.t 58)⟩] [0] [])
  .ret)))),
  [.tmp 0], false⟩
def lp46_0 : IC :=
  (.loop [2, 3, 4, 44, 45] [2, 3] (.seq (.reg false [⟨some 46, none, .bin .lss (.t 45) (.t 44)⟩] [2, 3, 4, 44, 45, 46] [2, 3])
      (.seq (.cond (.t 46)
      .skip
      (.exit 0))
      (.seq (.block 1 (.seq (.reg false [⟨some 47, none, .mov (.t 45)⟩, 
          ⟨some 5, none, .mov (.t 47)⟩] [2, 3, 4, 5, 44, 45] [2, 3])
        (.reg true [⟨some 48, none, .ldl 3 (.t 3) 1 true⟩, 
          ⟨some 49, none, .off (.t 4) 21⟩, 
          ⟨some 50, none, .ld (.t 49) 1 false⟩, 
          ⟨some 51, none, .mov (.t 5)⟩, 
          ⟨some 52, none, .ixs (.t 50) (.t 51) 3⟩, 
          ⟨some 53, none, .off (.t 52) 1⟩, 
          ⟨some 54, none, .bsl 1 1 [.p .nilp] [(0, (.t 53))]⟩, 
          ⟨some 55, none, .call 97 [(.t 48), (.c (.p (.fn 99))), (.t 54)] false⟩] [2, 3, 4, 44, 45] [2, 3])))
      (.reg false [⟨some 56, none, .bin .add (.t 45) (.c (.p (.int .i64 1)))⟩, 
        ⟨some 45, none, .mov (.t 56)⟩] [2, 3, 4, 44, 45] [2, 3])))))
def ir46 : IFn :=   -- tympan/grid.Snap
⟨(.seq (.reg false [⟨some 1, none, .bx (.t 0) 22 true⟩, 
    ⟨some 2, none, .al [.p (.int .i64 0), .p (.int .i64 0), .p (.int .i64 0), .p (.int .i64 0), .p (.int .i64 0), .p (.int .i64 0), .p (.int .i64 0), .p (.int .i64 0), .p (.int .i64 0), .p (.int .i64 0), .p (.int .i64 0), .p (.int .i64 0), .p (.int .i64 0), .p (.int .i64 0), .p (.int .i64 0), .p (.int .i64 0), .p (.int .i64 0), .p (.int .i64 0), .p (.bool false), .nils, .nils, .nils] true⟩] [1, 2] [1, 2])
  (.seq (.reg false [⟨some 6, none, .off (.t 1) 0⟩, 
    ⟨some 7, none, .off (.t 6) 5⟩, 
    ⟨some 8, none, .ld (.t 7) 1 false⟩, 
    ⟨some 9, none, .bld [.p (.int .i64 0)] [(0, 1, (.t 8))]⟩, 
    ⟨some 3, none, .al [.p (.int .i64 0)] true⟩, 
    ⟨none, none, .st (.t 3) (.t 9) 1⟩] [1, 2, 3] [1, 2, 3])
  (.seq (.seq (.reg false [⟨some 10, none, .off (.t 3) 0⟩, 
    ⟨some 11, none, .ld (.t 10) 1 false⟩, 
    ⟨some 12, none, .bin .lss (.t 11) (.c (.p (.int .i64 1)))⟩] [1, 2, 3, 12] [1, 2, 3])
  (.cond (.t 12)
  (.seq (.reg false [⟨some 13, none, .ld (.t 1) 22 true⟩, 
      ⟨none, none, .st (.t 2) (.t 13) 22⟩] [2] [2])
    .ret)
  .skip))
  (.seq (.prep [4] (.reg true [⟨some 14, none, .off (.t 1) 0⟩, 
    ⟨some 15, none, .ldl 1 (.t 14) 19 true⟩, 
    ⟨some 16, none, .ldl 3 (.t 3) 1 true⟩, 
    ⟨some 17, none, .off (.t 1) 19⟩, 
    ⟨some 18, none, .ldl 1 (.t 17) 1 false⟩, 
    ⟨some 19, none, .call 94 [(.t 16), (.t 18)] false⟩, 
    ⟨some 20, none, .ldl 3 (.t 3) 1 true⟩, 
    ⟨some 21, none, .off (.t 1) 20⟩, 
    ⟨some 22, none, .ldl 1 (.t 21) 1 false⟩, 
    ⟨some 23, none, .call 95 [(.t 20), (.t 22)] false⟩, 
    ⟨some 24, none, .off (.t 1) 21⟩, 
    ⟨some 25, none, .ldl 1 (.t 24) 1 false⟩, 
    ⟨some 26, none, .call 96 [(.t 25)] false⟩, 
    ⟨some 27, none, .bld [.p (.int .i64 0), .p (.int .i64 0), .p (.int .i64 0), .p (.int .i64 0), .p (.int .i64 0), .p (.int .i64 0), .p (.int .i64 0), .p (.int .i64 0), .p (.int .i64 0), .p (.int .i64 0), .p (.int .i64 0), .p (.int .i64 0), .p (.int .i64 0), .p (.int .i64 0), .p (.int .i64 0), .p (.int .i64 0), .p (.int .i64 0), .p (.int .i64 0), .p (.bool false), .nils, .nils, .nils] [(0, 19, (.t 15)), (19, 1, (.t 19)), (20, 1, (.t 23)), (21, 1, (.t 26))]⟩, 
    ⟨some 4, none, .alp [.p (.int .i64 0), .p (.int .i64 0), .p (.int .i64 0), .p (.int .i64 0), .p (.int .i64 0), .p (.int .i64 0), .p (.int .i64 0), .p (.int .i64 0), .p (.int .i64 0), .p (.int .i64 0), .p (.int .i64 0), .p (.int .i64 0), .p (.int .i64 0), .p (.int .i64 0), .p (.int .i64 0), .p (.int .i64 0), .p (.int .i64 0), .p (.int .i64 0), .p (.bool false), .nils, .nils, .nils]⟩, 
    ⟨none, none, .stl 4 (.t 4) (.t 27) 22⟩] [2, 3, 4] [2, 3, 4]))
  (.esc [4] (.seq (.reg false [⟨some 28, none, .ld (.t 3) 1 true⟩, 
    ⟨some 29, none, .off (.t 4) 0⟩, 
    ⟨some 30, none, .off (.t 29) 3⟩, 
    ⟨some 31, none, .off (.t 4) 0⟩, 
    ⟨some 32, none, .off (.t 31) 4⟩, 
    ⟨some 33, none, .bsl 1 2 [.p .nilp] [(0, (.t 30)), (1, (.t 32))]⟩, 
    ⟨some 34, none, .call 97 [(.t 28), (.c (.p (.fn 98))), (.t 33)] false⟩] [2, 3, 4] [2, 3])
  (.seq (.reg false [⟨some 35, none, .ld (.t 3) 1 true⟩, 
    ⟨some 36, none, .off (.t 4) 0⟩, 
    ⟨some 37, none, .off (.t 36) 6⟩, 
    ⟨some 38, none, .off (.t 4) 0⟩, 
    ⟨some 39, none, .off (.t 38) 7⟩, 
    ⟨some 40, none, .bsl 1 2 [.p .nilp] [(0, (.t 37)), (1, (.t 39))]⟩, 
    ⟨some 41, none, .call 97 [(.t 35), (.c (.p (.fn 99))), (.t 40)] false⟩] [2, 3, 4] [2, 3])
  (.seq (.seq (.reg false [⟨some 42, none, .off (.t 4) 21⟩, 
    ⟨some 43, none, .ld (.t 42) 1 false⟩, 
    ⟨some 44, none, .len (.t 43)⟩, 
    ⟨some 45, none, .mov (.c (.p (.int .i64 0)))⟩] [2, 3, 4, 44, 45] [2, 3])
  (.block 0 lp46_0))
  (.seq (.reg false [⟨some 57, none, .ld (.t 4) 22 true⟩, 
    ⟨none, none, .st (.t 2) (.t 57) 22⟩] [2] [2])
  .ret))))))))),
  [.cell 2 22 true], false⟩
def lp48_0 : IC :=
  (.loop [1, 4, 5, 34, 35, 36] [1] (.seq (.reg false [⟨some 37, none, .bin .lss (.t 36) (.t 35)⟩] [1, 4, 5, 34, 35, 36, 37] [1])
      (.seq (.cond (.t 37)
      .skip
      (.exit 0))
      (.seq (.block 1 (.seq (.reg false [⟨some 38, none, .ixs (.t 34) (.t 36) 7⟩, 
          ⟨some 39, none, .ld (.t 38) 7 true⟩, 
          ⟨some 7, none, .al [.p (.int .i64 0), .p (.int .i64 0), .p (.int .i64 0), .p (.int .i64 0), .p (.int .i64 0), .p (.int .i64 0), .p (.int .i64 0)] true⟩, 
          ⟨none, none, .st (.t 7) (.t 39) 7⟩] [1, 4, 5, 7, 34, 35, 36] [1, 7])
        (.seq (.reg false [⟨some 40, none, .off (.t 7) 0⟩, 
          ⟨some 41, none, .ld (.t 40) 1 false⟩] [1, 4, 5, 7, 34, 35, 36, 41] [1, 7])
        (.block 2 (.seq (.block 4 (.seq (.block 3 (.seq (.seq (.seq (.reg false [⟨some 43, none, .bin .eql (.t 41) (.c (.p (.int .i64 2)))⟩, 
                ⟨some 42, none, .mov (.t 43)⟩] [1, 4, 5, 7, 34, 35, 36, 41, 42] [1, 7])
              (.cond (.t 42)
              (.exit 3)
              .skip))
              (.seq (.reg false [⟨some 45, none, .bin .eql (.t 41) (.c (.p (.int .i64 1)))⟩, 
                ⟨some 44, none, .mov (.t 45)⟩] [1, 4, 5, 7, 34, 35, 36, 44] [1, 7])
              (.cond (.t 44)
              (.exit 4)
              .skip)))
              (.exit 2)))
            (.reg false [⟨some 46, none, .mov (.t 5)⟩, 
              ⟨some 47, none, .mov (.t 46)⟩, 
              ⟨some 48, (some (47, false)), .off (.t 7) 3⟩, 
              ⟨some 49, (some (47, false)), .ld (.t 48) 1 false⟩, 
              ⟨some 50, (some (47, false)), .bin .neq (.t 49) (.c (.p (.int .i64 0)))⟩, 
              ⟨some 51, none, .pick (.t 47) (.c (.p (.bool true))) (.t 50)⟩, 
              ⟨some 52, none, .mov (.t 51)⟩, 
              ⟨some 53, (some (52, false)), .off (.t 7) 4⟩, 
              ⟨some 54, (some (52, false)), .ld (.t 53) 1 false⟩, 
              ⟨some 55, (some (52, false)), .bin .neq (.t 54) (.c (.p (.int .i64 0)))⟩, 
              ⟨some 56, none, .pick (.t 52) (.c (.p (.bool true))) (.t 55)⟩, 
              ⟨some 57, none, .mov (.t 56)⟩, 
              ⟨some 58, (some (57, false)), .off (.t 7) 5⟩, 
              ⟨some 59, (some (57, false)), .ld (.t 58) 1 false⟩, 
              ⟨some 60, (some (57, false)), .bin .neq (.t 59) (.c (.p (.int .i64 0)))⟩, 
              ⟨some 61, none, .pick (.t 57) (.c (.p (.bool true))) (.t 60)⟩, 
              ⟨some 5, none, .mov (.t 61)⟩] [1, 4, 5, 7, 34, 35, 36] [1, 7])))
          (.seq (.reg false [⟨some 62, none, .mov (.t 5)⟩, 
            ⟨some 63, none, .mov (.t 62)⟩, 
            ⟨some 64, (some (63, false)), .mov (.t 4)⟩, 
            ⟨some 65, (some (63, false)), .off (.t 7) 1⟩, 
            ⟨some 66, (some (63, false)), .ld (.t 65) 1 false⟩, 
            ⟨some 67, (some (63, false)), .bsl 1 1 [.p (.int .i64 0)] [(0, (.t 66))]⟩, 
            ⟨some 68, (some (63, false)), .callv (.t 64) [(.t 67)] false⟩, 
            ⟨some 69, none, .pick (.t 63) (.c (.p (.bool true))) (.t 68)⟩, 
            ⟨some 5, none, .mov (.t 69)⟩] [1, 4, 5, 34, 35, 36] [1])
          (.exit 2)))))))
      (.reg false [⟨some 70, none, .bin .add (.t 36) (.c (.p (.int .i64 1)))⟩, 
        ⟨some 36, none, .mov (.t 70)⟩] [1, 4, 5, 34, 35, 36] [1])))))
def lp48_1 : IC :=
  (.loop [1, 4, 5, 72, 73, 74] [1] (.seq (.reg false [⟨some 75, none, .bin .lss (.t 74) (.t 73)⟩] [1, 4, 5, 72, 73, 74, 75] [1])
      (.seq (.cond (.t 75)
      .skip
      (.exit 5))
      (.seq (.block 6 (.seq (.reg false [⟨some 76, none, .ixs (.t 72) (.t 74) 2⟩, 
          ⟨some 77, none, .ld (.t 76) 2 true⟩, 
          ⟨some 9, none, .al [.nils, .nils] true⟩, 
          ⟨none, none, .st (.t 9) (.t 77) 2⟩] [1, 4, 5, 9, 72, 73, 74] [1, 9])
        (.reg false [⟨some 78, none, .mov (.t 5)⟩, 
          ⟨some 79, none, .mov (.t 78)⟩, 
          ⟨some 80, (some (79, false)), .mov (.t 4)⟩, 
          ⟨some 81, (some (79, false)), .off (.t 9) 0⟩, 
          ⟨some 82, (some (79, false)), .ld (.t 81) 1 false⟩, 
          ⟨some 83, (some (79, false)), .callv (.t 80) [(.t 82)] false⟩, 
          ⟨some 84, none, .pick (.t 79) (.c (.p (.bool true))) (.t 83)⟩, 
          ⟨some 5, none, .mov (.t 84)⟩] [1, 4, 5, 72, 73, 74] [1])))
      (.reg false [⟨some 85, none, .bin .add (.t 74) (.c (.p (.int .i64 1)))⟩, 
        ⟨some 74, none, .mov (.t 85)⟩] [1, 4, 5, 72, 73, 74] [1])))))
def lp48_2 : IC :=
  (.loop [4, 5, 87, 88, 89] [] (.seq (.reg false [⟨some 90, none, .bin .lss (.t 89) (.t 88)⟩] [4, 5, 87, 88, 89, 90] [])
      (.seq (.cond (.t 90)
      .skip
      (.exit 7))
      (.seq (.block 8 (.seq (.reg false [⟨some 91, none, .ixs (.t 87) (.t 89) 3⟩, 
          ⟨some 92, none, .ld (.t 91) 3 true⟩, 
          ⟨some 11, none, .al [.p (.int .i64 0), .p (.int .i64 0), .p (.int .i64 0)] true⟩, 
          ⟨none, none, .st (.t 11) (.t 92) 3⟩] [4, 5, 11, 87, 88, 89] [11])
        (.reg false [⟨some 93, none, .mov (.t 5)⟩, 
          ⟨some 94, none, .mov (.t 93)⟩, 
          ⟨some 95, (some (94, false)), .mov (.t 4)⟩, 
          ⟨some 96, (some (94, false)), .off (.t 11) 1⟩, 
          ⟨some 97, (some (94, false)), .ld (.t 96) 1 false⟩, 
          ⟨some 98, (some (94, false)), .bsl 1 1 [.p (.int .i64 0)] [(0, (.t 97))]⟩, 
          ⟨some 99, (some (94, false)), .callv (.t 95) [(.t 98)] false⟩, 
          ⟨some 100, none, .pick (.t 94) (.c (.p (.bool true))) (.t 99)⟩, 
          ⟨some 5, none, .mov (.t 100)⟩] [4, 5, 87, 88, 89] [])))
      (.reg false [⟨some 101, none, .bin .add (.t 89) (.c (.p (.int .i64 1)))⟩, 
        ⟨some 89, none, .mov (.t 101)⟩] [4, 5, 87, 88, 89] [])))))
def ir48 : IFn :=   -- tympan/grid.On
⟨(.seq (.reg false [⟨some 1, none, .bx (.t 0) 22 true⟩, 
    ⟨some 2, none, .mov (.c (.p (.bool false)))⟩] [1] [1])
  (.seq (.reg false [⟨some 12, none, .off (.t 1) 0⟩, 
    ⟨some 13, none, .off (.t 12) 5⟩, 
    ⟨some 14, none, .ld (.t 13) 1 false⟩, 
    ⟨some 3, none, .al [.p (.int .i64 0)] false⟩, 
    ⟨none, none, .st (.t 3) (.t 14) 1⟩] [1, 3] [1])
  (.seq (.seq (.reg false [⟨some 15, none, .ld (.t 3) 1 false⟩, 
    ⟨some 16, none, .bin .lss (.t 15) (.c (.p (.int .i64 1)))⟩] [1, 3, 16] [1])
  (.cond (.t 16)
  (.seq (.reg false [⟨some 2, none, .mov (.c (.p (.bool true)))⟩] [2] [])
    .ret)
  .skip))
  (.seq (.reg false [⟨some 17, none, .mkf (.func 101) [] [(.t 3)]⟩, 
    ⟨some 4, none, .mov (.t 17)⟩] [1, 4] [1])
  (.seq (.reg false [⟨some 18, none, .mov (.t 4)⟩, 
    ⟨some 19, none, .off (.t 1) 0⟩, 
    ⟨some 20, none, .off (.t 19) 3⟩, 
    ⟨some 21, none, .ld (.t 20) 1 false⟩, 
    ⟨some 22, none, .off (.t 1) 0⟩, 
    ⟨some 23, none, .off (.t 22) 4⟩, 
    ⟨some 24, none, .ld (.t 23) 1 false⟩, 
    ⟨some 25, none, .off (.t 1) 0⟩, 
    ⟨some 26, none, .off (.t 25) 6⟩, 
    ⟨some 27, none, .ld (.t 26) 1 false⟩, 
    ⟨some 28, none, .off (.t 1) 0⟩, 
    ⟨some 29, none, .off (.t 28) 7⟩, 
    ⟨some 30, none, .ld (.t 29) 1 false⟩, 
    ⟨some 31, none, .bsl 1 4 [.p (.int .i64 0)] [(0, (.t 21)), (1, (.t 24)), (2, (.t 27)), (3, (.t 30))]⟩, 
    ⟨some 32, none, .callv (.t 18) [(.t 31)] false⟩, 
    ⟨some 5, none, .mov (.t 32)⟩] [1, 4, 5] [1])
  (.seq (.seq (.reg false [⟨some 33, none, .off (.t 1) 19⟩, 
    ⟨some 34, none, .ld (.t 33) 1 false⟩, 
    ⟨some 35, none, .len (.t 34)⟩, 
    ⟨some 36, none, .mov (.c (.p (.int .i64 0)))⟩] [1, 4, 5, 34, 35, 36] [1])
  (.block 0 lp48_0))
  (.seq (.seq (.reg false [⟨some 71, none, .off (.t 1) 20⟩, 
    ⟨some 72, none, .ld (.t 71) 1 false⟩, 
    ⟨some 73, none, .len (.t 72)⟩, 
    ⟨some 74, none, .mov (.c (.p (.int .i64 0)))⟩] [1, 4, 5, 72, 73, 74] [1])
  (.block 5 lp48_1))
  (.seq (.seq (.reg false [⟨some 86, none, .off (.t 1) 21⟩, 
    ⟨some 87, none, .ld (.t 86) 1 false⟩, 
    ⟨some 88, none, .len (.t 87)⟩, 
    ⟨some 89, none, .mov (.c (.p (.int .i64 0)))⟩] [4, 5, 87, 88, 89] [])
  (.block 7 lp48_2))
  (.seq (.reg false [⟨some 102, none, .mov (.t 5)⟩, 
    ⟨some 103, none, .un .not (.t 102)⟩, 
    ⟨some 2, none, .mov (.t 103)⟩] [2] [])
  .ret))))))))),
  [.tmp 2], false⟩
def lp49_0 : IC :=
  (.loop [2, 3, 5] [2, 3] (.seq (.seq (.reg false [⟨some 13, none, .mov (.t 5)⟩, 
        ⟨some 14, none, .off (.t 2) 19⟩, 
        ⟨some 15, none, .ld (.t 14) 1 false⟩, 
        ⟨some 16, none, .len (.t 15)⟩, 
        ⟨some 17, none, .bin .lss (.t 13) (.t 16)⟩] [2, 3, 5, 17] [2, 3])
      (.cond (.t 17)
      .skip
      (.exit 0)))
      (.seq (.block 1 (.seq (.reg true [⟨some 20, none, .off (.t 2) 19⟩, 
          ⟨some 21, none, .ldl 2 (.t 20) 1 false⟩, 
          ⟨some 22, none, .mov (.t 5)⟩, 
          ⟨some 23, none, .ixs (.t 21) (.t 22) 7⟩, 
          ⟨some 24, none, .ld (.t 23) 7 true⟩, 
          ⟨some 25, none, .off (.t 3) 19⟩, 
          ⟨some 26, none, .ldl 3 (.t 25) 1 false⟩, 
          ⟨some 27, none, .mov (.t 5)⟩, 
          ⟨some 28, none, .ixs (.t 26) (.t 27) 7⟩, 
          ⟨some 29, none, .ld (.t 28) 7 true⟩, 
          ⟨some 30, none, .eqa true [true, true, true, true, true, true, true] (.t 24) (.t 29)⟩] [2, 3, 5, 30] [2, 3])
        (.cond (.t 30)
        (.seq (.reg false [⟨some 4, none, .mov (.c (.p (.bool false)))⟩] [4] [])
          .ret)
        .skip)))
      (.reg false [⟨some 18, none, .mov (.t 5)⟩, 
        ⟨some 19, none, .bin .add (.t 18) (.c (.p (.int .i64 1)))⟩, 
        ⟨some 5, none, .mov (.t 19)⟩] [2, 3, 5] [2, 3]))))
def ir49 : IFn :=   -- tympan/tympanref14.Same
⟨(.seq (.reg false [⟨some 2, none, .bx (.t 0) 22 true⟩, 
    ⟨some 3, none, .bx (.t 1) 22 true⟩, 
    ⟨some 4, none, .mov (.c (.p (.bool false)))⟩] [2, 3] [2, 3])
  (.seq (.seq (.reg false [⟨some 6, none, .off (.t 2) 19⟩, 
    ⟨some 7, none, .ld (.t 6) 1 false⟩, 
    ⟨some 8, none, .len (.t 7)⟩, 
    ⟨some 9, none, .off (.t 3) 19⟩, 
    ⟨some 10, none, .ld (.t 9) 1 false⟩, 
    ⟨some 11, none, .len (.t 10)⟩, 
    ⟨some 12, none, .bin .neq (.t 8) (.t 11)⟩] [2, 3, 12] [2, 3])
  (.cond (.t 12)
  (.seq (.reg false [⟨some 4, none, .mov (.c (.p (.bool false)))⟩] [4] [])
    .ret)
  .skip))
  (.seq (.seq (.reg false [⟨some 5, none, .mov (.c (.p (.int .i64 0)))⟩] [2, 3, 5] [2, 3])
  (.block 0 lp49_0))
  (.seq (.reg false [⟨some 31, none, .off (.t 2) 0⟩, 
    ⟨some 32, none, .ld (.t 31) 19 true⟩, 
    ⟨some 33, none, .off (.t 3) 0⟩, 
    ⟨some 34, none, .ld (.t 33) 19 true⟩, 
    ⟨some 35, none, .eqa false [true, true, true, true, true, true, true, true, true, true, true, true, true, true, true, true, true, true, false] (.t 32) (.t 34)⟩, 
    ⟨some 36, none, .mov (.t 35)⟩, 
    ⟨some 37, (some (36, true)), .off (.t 2) 20⟩, 
    ⟨some 38, (some (36, true)), .ld (.t 37) 1 false⟩, 
    ⟨some 39, (some (36, true)), .off (.t 3) 20⟩, 
    ⟨some 40, (some (36, true)), .ld (.t 39) 1 false⟩, 
    ⟨some 41, (some (36, true)), .call 104 [(.t 38), (.t 40)] false⟩, 
    ⟨some 42, none, .pick (.t 36) (.t 41) (.c (.p (.bool false)))⟩, 
    ⟨some 43, none, .mov (.t 42)⟩, 
    ⟨some 44, (some (43, true)), .off (.t 2) 21⟩, 
    ⟨some 45, (some (43, true)), .ld (.t 44) 1 false⟩, 
    ⟨some 46, (some (43, true)), .off (.t 3) 21⟩, 
    ⟨some 47, (some (43, true)), .ld (.t 46) 1 false⟩, 
    ⟨some 48, (some (43, true)), .call 105 [(.t 45), (.t 47)] false⟩, 
    ⟨some 49, none, .pick (.t 43) (.t 48) (.c (.p (.bool false)))⟩, 
    ⟨some 4, none, .mov (.t 49)⟩] [4] [])
  .ret)))),
  [.tmp 4], false⟩
def lp50_0 : IC :=
  (.loop [1, 2, 3, 4, 5] [1, 2, 4] (.seq (.seq (.reg false [⟨some 48, none, .mov (.t 5)⟩, 
        ⟨some 49, none, .off (.t 1) 19⟩, 
        ⟨some 50, none, .ld (.t 49) 1 false⟩, 
        ⟨some 51, none, .len (.t 50)⟩, 
        ⟨some 52, none, .bin .lss (.t 48) (.t 51)⟩] [1, 2, 3, 4, 5, 52] [1, 2, 4])
      (.cond (.t 52)
      .skip
      (.exit 0)))
      (.seq (.block 1 (.reg true [⟨some 55, none, .off (.t 4) 19⟩, 
          ⟨some 56, none, .ldl 4 (.t 55) 1 false⟩, 
          ⟨some 57, none, .off (.t 1) 19⟩, 
          ⟨some 58, none, .ldl 1 (.t 57) 1 false⟩, 
          ⟨some 59, none, .mov (.t 5)⟩, 
          ⟨some 60, none, .ixs (.t 58) (.t 59) 7⟩, 
          ⟨some 61, none, .ld (.t 60) 7 true⟩, 
          ⟨some 62, none, .mov (.t 3)⟩, 
          ⟨some 63, none, .call 108 [(.t 61), (.t 62)] false⟩, 
          ⟨some 64, none, .bsl 7 1 [.p (.int .i64 0), .p (.int .i64 0), .p (.int .i64 0), .p (.int .i64 0), .p (.int .i64 0), .p (.int .i64 0), .p (.int .i64 0)] [(0, (.t 63))]⟩, 
          ⟨some 65, none, .app (.t 56) (.t 64) 7⟩, 
          ⟨some 66, none, .off (.t 4) 19⟩, 
          ⟨none, none, .stl 4 (.t 66) (.t 65) 1⟩] [1, 2, 3, 4, 5] [1, 2, 4]))
      (.reg false [⟨some 53, none, .mov (.t 5)⟩, 
        ⟨some 54, none, .bin .add (.t 53) (.c (.p (.int .i64 1)))⟩, 
        ⟨some 5, none, .mov (.t 54)⟩] [1, 2, 3, 4, 5] [1, 2, 4]))))
def lp50_1 : IC :=
  (.loop [1, 2, 3, 4, 6, 7, 8] [1, 2, 4, 7] (.seq (.seq (.reg false [⟨some 81, none, .mov (.t 8)⟩, 
              ⟨some 82, none, .off (.t 1) 20⟩, 
              ⟨some 83, none, .ld (.t 82) 1 false⟩, 
              ⟨some 84, none, .mov (.t 6)⟩, 
              ⟨some 85, none, .ixs (.t 83) (.t 84) 2⟩, 
              ⟨some 86, none, .off (.t 85) 0⟩, 
              ⟨some 87, none, .ld (.t 86) 1 false⟩, 
              ⟨some 88, none, .len (.t 87)⟩, 
              ⟨some 89, none, .bin .lss (.t 81) (.t 88)⟩] [1, 2, 3, 4, 6, 7, 8, 89] [1, 2, 4, 7])
            (.cond (.t 89)
            .skip
            (.exit 4)))
            (.seq (.block 5 (.reg true [⟨some 92, none, .off (.t 7) 0⟩, 
                ⟨some 93, none, .ldl 7 (.t 92) 1 false⟩, 
                ⟨some 94, none, .off (.t 1) 20⟩, 
                ⟨some 95, none, .ldl 1 (.t 94) 1 false⟩, 
                ⟨some 96, none, .mov (.t 6)⟩, 
                ⟨some 97, none, .ixs (.t 95) (.t 96) 2⟩, 
                ⟨some 98, none, .off (.t 97) 0⟩, 
                ⟨some 99, none, .ld (.t 98) 1 false⟩, 
                ⟨some 100, none, .mov (.t 8)⟩, 
                ⟨some 101, none, .ixs (.t 99) (.t 100) 1⟩, 
                ⟨some 102, none, .ld (.t 101) 1 false⟩, 
                ⟨some 103, none, .mov (.t 3)⟩, 
                ⟨some 104, none, .call 107 [(.t 102), (.t 103)] false⟩, 
                ⟨some 105, none, .bsl 1 1 [.p (.int .i64 0)] [(0, (.t 104))]⟩, 
                ⟨some 106, none, .app (.t 93) (.t 105) 1⟩, 
                ⟨some 107, none, .off (.t 7) 0⟩, 
                ⟨none, none, .stl 7 (.t 107) (.t 106) 1⟩] [1, 2, 3, 4, 6, 7, 8] [1, 2, 4, 7]))
            (.reg false [⟨some 90, none, .mov (.t 8)⟩, 
              ⟨some 91, none, .bin .add (.t 90) (.c (.p (.int .i64 1)))⟩, 
              ⟨some 8, none, .mov (.t 91)⟩] [1, 2, 3, 4, 6, 7, 8] [1, 2, 4, 7]))))
def lp50_2 : IC :=
  (.loop [1, 2, 3, 4, 6] [1, 2, 4] (.seq (.seq (.reg false [⟨some 67, none, .mov (.t 6)⟩, 
        ⟨some 68, none, .off (.t 1) 20⟩, 
        ⟨some 69, none, .ld (.t 68) 1 false⟩, 
        ⟨some 70, none, .len (.t 69)⟩, 
        ⟨some 71, none, .bin .lss (.t 67) (.t 70)⟩] [1, 2, 3, 4, 6, 71] [1, 2, 4])
      (.cond (.t 71)
      .skip
      (.exit 2)))
      (.seq (.block 3 (.seq (.reg false [⟨some 74, none, .off (.t 1) 20⟩, 
          ⟨some 75, none, .ld (.t 74) 1 false⟩, 
          ⟨some 76, none, .mov (.t 6)⟩, 
          ⟨some 77, none, .ixs (.t 75) (.t 76) 2⟩, 
          ⟨some 78, none, .off (.t 77) 1⟩, 
          ⟨some 79, none, .ld (.t 78) 1 false⟩, 
          ⟨some 80, none, .bld [.nils, .nils] [(1, 1, (.t 79))]⟩, 
          ⟨some 7, none, .al [.nils, .nils] true⟩, 
          ⟨none, none, .st (.t 7) (.t 80) 2⟩] [1, 2, 3, 4, 6, 7] [1, 2, 4, 7])
        (.seq (.seq (.reg false [⟨some 8, none, .mov (.c (.p (.int .i64 0)))⟩] [1, 2, 3, 4, 6, 7, 8] [1, 2, 4, 7])
        (.block 4 lp50_1))
        (.reg false [⟨some 108, none, .off (.t 4) 20⟩, 
          ⟨some 109, none, .ld (.t 108) 1 false⟩, 
          ⟨some 110, none, .ld (.t 7) 2 true⟩, 
          ⟨some 111, none, .bsl 2 1 [.nils, .nils] [(0, (.t 110))]⟩, 
          ⟨some 112, none, .app (.t 109) (.t 111) 2⟩, 
          ⟨some 113, none, .off (.t 4) 20⟩, 
          ⟨none, none, .st (.t 113) (.t 112) 1⟩] [1, 2, 3, 4, 6] [1, 2, 4]))))
      (.reg false [⟨some 72, none, .mov (.t 6)⟩, 
        ⟨some 73, none, .bin .add (.t 72) (.c (.p (.int .i64 1)))⟩, 
        ⟨some 6, none, .mov (.t 73)⟩] [1, 2, 3, 4, 6] [1, 2, 4]))))
def lp50_3 : IC :=
  (.loop [1, 2, 3, 4, 9] [1, 2, 4] (.seq (.seq (.reg false [⟨some 114, none, .mov (.t 9)⟩, 
        ⟨some 115, none, .off (.t 1) 21⟩, 
        ⟨some 116, none, .ld (.t 115) 1 false⟩, 
        ⟨some 117, none, .len (.t 116)⟩, 
        ⟨some 118, none, .bin .lss (.t 114) (.t 117)⟩] [1, 2, 3, 4, 9, 118] [1, 2, 4])
      (.cond (.t 118)
      .skip
      (.exit 6)))
      (.seq (.block 7 (.seq (.reg false [⟨some 121, none, .off (.t 1) 21⟩, 
          ⟨some 122, none, .ld (.t 121) 1 false⟩, 
          ⟨some 123, none, .mov (.t 9)⟩, 
          ⟨some 124, none, .ixs (.t 122) (.t 123) 3⟩, 
          ⟨some 125, none, .ld (.t 124) 3 true⟩, 
          ⟨some 10, none, .al [.p (.int .i64 0), .p (.int .i64 0), .p (.int .i64 0)] true⟩, 
          ⟨none, none, .st (.t 10) (.t 125) 3⟩] [1, 2, 3, 4, 9, 10] [1, 2, 4, 10])
        (.seq (.reg false [⟨some 126, none, .off (.t 10) 1⟩, 
          ⟨some 127, none, .ld (.t 126) 1 false⟩, 
          ⟨some 128, none, .mov (.t 3)⟩, 
          ⟨some 129, none, .call 107 [(.t 127), (.t 128)] false⟩, 
          ⟨some 130, none, .off (.t 10) 1⟩, 
          ⟨none, none, .st (.t 130) (.t 129) 1⟩] [1, 2, 3, 4, 9, 10] [1, 2, 4, 10])
        (.reg false [⟨some 131, none, .off (.t 4) 21⟩, 
          ⟨some 132, none, .ld (.t 131) 1 false⟩, 
          ⟨some 133, none, .ld (.t 10) 3 true⟩, 
          ⟨some 134, none, .bsl 3 1 [.p (.int .i64 0), .p (.int .i64 0), .p (.int .i64 0)] [(0, (.t 133))]⟩, 
          ⟨some 135, none, .app (.t 132) (.t 134) 3⟩, 
          ⟨some 136, none, .off (.t 4) 21⟩, 
          ⟨none, none, .st (.t 136) (.t 135) 1⟩] [1, 2, 3, 4, 9] [1, 2, 4]))))
      (.reg false [⟨some 119, none, .mov (.t 9)⟩, 
        ⟨some 120, none, .bin .add (.t 119) (.c (.p (.int .i64 1)))⟩, 
        ⟨some 9, none, .mov (.t 120)⟩] [1, 2, 3, 4, 9] [1, 2, 4]))))
def ir50 : IFn :=   -- tympan/tympanref14.Snap
⟨(.seq (.reg false [⟨some 1, none, .bx (.t 0) 22 true⟩, 
    ⟨some 2, none, .al [.p (.int .i64 0), .p (.int .i64 0), .p (.int .i64 0), .p (.int .i64 0), .p (.int .i64 0), .p (.int .i64 0), .p (.int .i64 0), .p (.int .i64 0), .p (.int .i64 0), .p (.int .i64 0), .p (.int .i64 0), .p (.int .i64 0), .p (.int .i64 0), .p (.int .i64 0), .p (.int .i64 0), .p (.int .i64 0), .p (.int .i64 0), .p (.int .i64 0), .p (.bool false), .nils, .nils, .nils] true⟩] [1, 2] [1, 2])
  (.seq (.reg false [⟨some 11, none, .off (.t 1) 0⟩, 
    ⟨some 12, none, .off (.t 11) 5⟩, 
    ⟨some 13, none, .ld (.t 12) 1 false⟩, 
    ⟨some 3, none, .mov (.t 13)⟩] [1, 2, 3] [1, 2])
  (.seq (.seq (.reg false [⟨some 14, none, .mov (.t 3)⟩, 
    ⟨some 15, none, .bin .lss (.t 14) (.c (.p (.int .i64 1)))⟩] [1, 2, 3, 15] [1, 2])
  (.cond (.t 15)
  (.seq (.reg false [⟨some 16, none, .ld (.t 1) 22 true⟩, 
      ⟨none, none, .st (.t 2) (.t 16) 22⟩] [2] [2])
    .ret)
  .skip))
  (.seq (.reg false [⟨some 17, none, .off (.t 1) 0⟩, 
    ⟨some 18, none, .ld (.t 17) 19 true⟩, 
    ⟨some 19, none, .bld [.p (.int .i64 0), .p (.int .i64 0), .p (.int .i64 0), .p (.int .i64 0), .p (.int .i64 0), .p (.int .i64 0), .p (.int .i64 0), .p (.int .i64 0), .p (.int .i64 0), .p (.int .i64 0), .p (.int .i64 0), .p (.int .i64 0), .p (.int .i64 0), .p (.int .i64 0), .p (.int .i64 0), .p (.int .i64 0), .p (.int .i64 0), .p (.int .i64 0), .p (.bool false), .nils, .nils, .nils] [(0, 19, (.t 18))]⟩, 
    ⟨some 4, none, .al [.p (.int .i64 0), .p (.int .i64 0), .p (.int .i64 0), .p (.int .i64 0), .p (.int .i64 0), .p (.int .i64 0), .p (.int .i64 0), .p (.int .i64 0), .p (.int .i64 0), .p (.int .i64 0), .p (.int .i64 0), .p (.int .i64 0), .p (.int .i64 0), .p (.int .i64 0), .p (.int .i64 0), .p (.int .i64 0), .p (.int .i64 0), .p (.int .i64 0), .p (.bool false), .nils, .nils, .nils] true⟩, 
    ⟨none, none, .st (.t 4) (.t 19) 22⟩] [1, 2, 3, 4] [1, 2, 4])
  (.seq (.reg false [⟨some 20, none, .off (.t 1) 0⟩, 
    ⟨some 21, none, .off (.t 20) 3⟩, 
    ⟨some 22, none, .ld (.t 21) 1 false⟩, 
    ⟨some 23, none, .mov (.t 3)⟩, 
    ⟨some 24, none, .call 106 [(.t 22), (.t 23)] false⟩, 
    ⟨some 25, none, .off (.t 4) 0⟩, 
    ⟨some 26, none, .off (.t 25) 3⟩, 
    ⟨none, none, .st (.t 26) (.t 24) 1⟩] [1, 2, 3, 4] [1, 2, 4])
  (.seq (.reg false [⟨some 27, none, .off (.t 1) 0⟩, 
    ⟨some 28, none, .off (.t 27) 4⟩, 
    ⟨some 29, none, .ld (.t 28) 1 false⟩, 
    ⟨some 30, none, .mov (.t 3)⟩, 
    ⟨some 31, none, .call 106 [(.t 29), (.t 30)] false⟩, 
    ⟨some 32, none, .off (.t 4) 0⟩, 
    ⟨some 33, none, .off (.t 32) 4⟩, 
    ⟨none, none, .st (.t 33) (.t 31) 1⟩] [1, 2, 3, 4] [1, 2, 4])
  (.seq (.reg false [⟨some 34, none, .off (.t 1) 0⟩, 
    ⟨some 35, none, .off (.t 34) 6⟩, 
    ⟨some 36, none, .ld (.t 35) 1 false⟩, 
    ⟨some 37, none, .mov (.t 3)⟩, 
    ⟨some 38, none, .call 107 [(.t 36), (.t 37)] false⟩, 
    ⟨some 39, none, .off (.t 4) 0⟩, 
    ⟨some 40, none, .off (.t 39) 6⟩, 
    ⟨none, none, .st (.t 40) (.t 38) 1⟩] [1, 2, 3, 4] [1, 2, 4])
  (.seq (.reg false [⟨some 41, none, .off (.t 1) 0⟩, 
    ⟨some 42, none, .off (.t 41) 7⟩, 
    ⟨some 43, none, .ld (.t 42) 1 false⟩, 
    ⟨some 44, none, .mov (.t 3)⟩, 
    ⟨some 45, none, .call 107 [(.t 43), (.t 44)] false⟩, 
    ⟨some 46, none, .off (.t 4) 0⟩, 
    ⟨some 47, none, .off (.t 46) 7⟩, 
    ⟨none, none, .st (.t 47) (.t 45) 1⟩] [1, 2, 3, 4] [1, 2, 4])
  (.seq (.seq (.reg false [⟨some 5, none, .mov (.c (.p (.int .i64 0)))⟩] [1, 2, 3, 4, 5] [1, 2, 4])
  (.block 0 lp50_0))
  (.seq (.seq (.reg false [⟨some 6, none, .mov (.c (.p (.int .i64 0)))⟩] [1, 2, 3, 4, 6] [1, 2, 4])
  (.block 2 lp50_2))
  (.seq (.seq (.reg false [⟨some 9, none, .mov (.c (.p (.int .i64 0)))⟩] [1, 2, 3, 4, 9] [1, 2, 4])
  (.block 6 lp50_3))
  (.seq (.reg false [⟨some 137, none, .ld (.t 4) 22 true⟩, 
    ⟨none, none, .st (.t 2) (.t 137) 22⟩] [2] [2])
  .ret)))))))))))),
  [.cell 2 22 true], false⟩
def lp51_0 : IC :=
  (.loop [1, 3, 4] [1] (.seq (.seq (.reg false [⟨some 44, none, .mov (.t 4)⟩, 
        ⟨some 45, none, .off (.t 1) 19⟩, 
        ⟨some 46, none, .ld (.t 45) 1 false⟩, 
        ⟨some 47, none, .len (.t 46)⟩, 
        ⟨some 48, none, .bin .lss (.t 44) (.t 47)⟩] [1, 3, 4, 48] [1])
      (.cond (.t 48)
      .skip
      (.exit 0)))
      (.seq (.block 1 (.seq (.reg false [⟨some 51, none, .off (.t 1) 19⟩, 
          ⟨some 52, none, .ld (.t 51) 1 false⟩, 
          ⟨some 53, none, .mov (.t 4)⟩, 
          ⟨some 54, none, .ixs (.t 52) (.t 53) 7⟩, 
          ⟨some 55, none, .ld (.t 54) 7 true⟩, 
          ⟨some 5, none, .al [.p (.int .i64 0), .p (.int .i64 0), .p (.int .i64 0), .p (.int .i64 0), .p (.int .i64 0), .p (.int .i64 0), .p (.int .i64 0)] true⟩, 
          ⟨none, none, .st (.t 5) (.t 55) 7⟩] [1, 3, 4, 5] [1, 5])
        (.seq (.reg false [⟨some 56, none, .off (.t 5) 0⟩, 
          ⟨some 57, none, .ld (.t 56) 1 false⟩, 
          ⟨some 58, none, .bin .eql (.t 57) (.c (.p (.int .i64 1)))⟩, 
          ⟨some 59, none, .mov (.t 58)⟩, 
          ⟨some 60, (some (59, false)), .off (.t 5) 0⟩, 
          ⟨some 61, (some (59, false)), .ld (.t 60) 1 false⟩, 
          ⟨some 62, (some (59, false)), .bin .eql (.t 61) (.c (.p (.int .i64 2)))⟩, 
          ⟨some 63, none, .pick (.t 59) (.c (.p (.bool true))) (.t 62)⟩, 
          ⟨some 64, none, .mov (.t 63)⟩, 
          ⟨some 65, (some (64, true)), .off (.t 5) 1⟩, 
          ⟨some 66, (some (64, true)), .ld (.t 65) 1 false⟩, 
          ⟨some 67, (some (64, true)), .mov (.t 3)⟩, 
          ⟨some 68, (some (64, true)), .bin .rem (.t 66) (.t 67)⟩, 
          ⟨some 69, (some (64, true)), .bin .neq (.t 68) (.c (.p (.int .i64 0)))⟩, 
          ⟨some 70, none, .pick (.t 64) (.t 69) (.c (.p (.bool false)))⟩, 
          ⟨some 71, none, .mov (.t 70)⟩, 
          ⟨some 72, (some (71, false)), .off (.t 5) 0⟩, 
          ⟨some 73, (some (71, false)), .ld (.t 72) 1 false⟩, 
          ⟨some 74, (some (71, false)), .bin .eql (.t 73) (.c (.p (.int .i64 2)))⟩, 
          ⟨some 75, (some (71, false)), .mov (.t 74)⟩, 
          ⟨some 76, (some (75, true)), .off (.t 5) 3⟩, 
          ⟨some 77, (some (75, true)), .ld (.t 76) 1 false⟩, 
          ⟨some 78, (some (75, true)), .bin .neq (.t 77) (.c (.p (.int .i64 0)))⟩, 
          ⟨some 79, (some (75, true)), .mov (.t 78)⟩, 
          ⟨some 80, (some (79, false)), .off (.t 5) 4⟩, 
          ⟨some 81, (some (79, false)), .ld (.t 80) 1 false⟩, 
          ⟨some 82, (some (79, false)), .bin .neq (.t 81) (.c (.p (.int .i64 0)))⟩, 
          ⟨some 83, (some (75, true)), .pick (.t 79) (.c (.p (.bool true))) (.t 82)⟩, 
          ⟨some 84, (some (75, true)), .mov (.t 83)⟩, 
          ⟨some 85, (some (84, false)), .off (.t 5) 5⟩, 
          ⟨some 86, (some (84, false)), .ld (.t 85) 1 false⟩, 
          ⟨some 87, (some (84, false)), .bin .neq (.t 86) (.c (.p (.int .i64 0)))⟩, 
          ⟨some 88, (some (75, true)), .pick (.t 84) (.c (.p (.bool true))) (.t 87)⟩, 
          ⟨some 89, (some (71, false)), .pick (.t 75) (.t 88) (.c (.p (.bool false)))⟩, 
          ⟨some 90, none, .pick (.t 71) (.c (.p (.bool true))) (.t 89)⟩] [1, 3, 4, 90] [1])
        (.cond (.t 90)
        (.seq (.reg false [⟨some 2, none, .mov (.c (.p (.bool false)))⟩] [2] [])
          .ret)
        .skip))))
      (.reg false [⟨some 49, none, .mov (.t 4)⟩, 
        ⟨some 50, none, .bin .add (.t 49) (.c (.p (.int .i64 1)))⟩, 
        ⟨some 4, none, .mov (.t 50)⟩] [1, 3, 4] [1]))))
def lp51_1 : IC :=
  (.loop [1, 3, 6, 7] [1] (.seq (.seq (.reg false [⟨some 98, none, .mov (.t 7)⟩, 
              ⟨some 99, none, .off (.t 1) 20⟩, 
              ⟨some 100, none, .ld (.t 99) 1 false⟩, 
              ⟨some 101, none, .mov (.t 6)⟩, 
              ⟨some 102, none, .ixs (.t 100) (.t 101) 2⟩, 
              ⟨some 103, none, .off (.t 102) 0⟩, 
              ⟨some 104, none, .ld (.t 103) 1 false⟩, 
              ⟨some 105, none, .len (.t 104)⟩, 
              ⟨some 106, none, .bin .lss (.t 98) (.t 105)⟩] [1, 3, 6, 7, 106] [1])
            (.cond (.t 106)
            .skip
            (.exit 4)))
            (.seq (.block 5 (.seq (.reg false [⟨some 109, none, .off (.t 1) 20⟩, 
                ⟨some 110, none, .ld (.t 109) 1 false⟩, 
                ⟨some 111, none, .mov (.t 6)⟩, 
                ⟨some 112, none, .ixs (.t 110) (.t 111) 2⟩, 
                ⟨some 113, none, .off (.t 112) 0⟩, 
                ⟨some 114, none, .ld (.t 113) 1 false⟩, 
                ⟨some 115, none, .mov (.t 7)⟩, 
                ⟨some 116, none, .ixs (.t 114) (.t 115) 1⟩, 
                ⟨some 117, none, .ld (.t 116) 1 false⟩, 
                ⟨some 118, none, .mov (.t 3)⟩, 
                ⟨some 119, none, .bin .rem (.t 117) (.t 118)⟩, 
                ⟨some 120, none, .bin .neq (.t 119) (.c (.p (.int .i64 0)))⟩] [1, 3, 6, 7, 120] [1])
              (.cond (.t 120)
              (.seq (.reg false [⟨some 2, none, .mov (.c (.p (.bool false)))⟩] [2] [])
                .ret)
              .skip)))
            (.reg false [⟨some 107, none, .mov (.t 7)⟩, 
              ⟨some 108, none, .bin .add (.t 107) (.c (.p (.int .i64 1)))⟩, 
              ⟨some 7, none, .mov (.t 108)⟩] [1, 3, 6, 7] [1]))))
def lp51_2 : IC :=
  (.loop [1, 3, 6] [1] (.seq (.seq (.reg false [⟨some 91, none, .mov (.t 6)⟩, 
        ⟨some 92, none, .off (.t 1) 20⟩, 
        ⟨some 93, none, .ld (.t 92) 1 false⟩, 
        ⟨some 94, none, .len (.t 93)⟩, 
        ⟨some 95, none, .bin .lss (.t 91) (.t 94)⟩] [1, 3, 6, 95] [1])
      (.cond (.t 95)
      .skip
      (.exit 2)))
      (.seq (.block 3 (.seq (.reg false [⟨some 7, none, .mov (.c (.p (.int .i64 0)))⟩] [1, 3, 6, 7] [1])
        (.block 4 lp51_1)))
      (.reg false [⟨some 96, none, .mov (.t 6)⟩, 
        ⟨some 97, none, .bin .add (.t 96) (.c (.p (.int .i64 1)))⟩, 
        ⟨some 6, none, .mov (.t 97)⟩] [1, 3, 6] [1]))))
def lp51_3 : IC :=
  (.loop [1, 3, 8] [1] (.seq (.seq (.reg false [⟨some 121, none, .mov (.t 8)⟩, 
        ⟨some 122, none, .off (.t 1) 21⟩, 
        ⟨some 123, none, .ld (.t 122) 1 false⟩, 
        ⟨some 124, none, .len (.t 123)⟩, 
        ⟨some 125, none, .bin .lss (.t 121) (.t 124)⟩] [1, 3, 8, 125] [1])
      (.cond (.t 125)
      .skip
      (.exit 6)))
      (.seq (.block 7 (.seq (.reg false [⟨some 128, none, .off (.t 1) 21⟩, 
          ⟨some 129, none, .ld (.t 128) 1 false⟩, 
          ⟨some 130, none, .mov (.t 8)⟩, 
          ⟨some 131, none, .ixs (.t 129) (.t 130) 3⟩, 
          ⟨some 132, none, .off (.t 131) 1⟩, 
          ⟨some 133, none, .ld (.t 132) 1 false⟩, 
          ⟨some 134, none, .mov (.t 3)⟩, 
          ⟨some 135, none, .bin .rem (.t 133) (.t 134)⟩, 
          ⟨some 136, none, .bin .neq (.t 135) (.c (.p (.int .i64 0)))⟩] [1, 3, 8, 136] [1])
        (.cond (.t 136)
        (.seq (.reg false [⟨some 2, none, .mov (.c (.p (.bool false)))⟩] [2] [])
          .ret)
        .skip)))
      (.reg false [⟨some 126, none, .mov (.t 8)⟩, 
        ⟨some 127, none, .bin .add (.t 126) (.c (.p (.int .i64 1)))⟩, 
        ⟨some 8, none, .mov (.t 127)⟩] [1, 3, 8] [1]))))
def ir51 : IFn :=   -- tympan/tympanref14.On
⟨(.seq (.reg false [⟨some 1, none, .bx (.t 0) 22 true⟩, 
    ⟨some 2, none, .mov (.c (.p (.bool false)))⟩] [1] [1])
  (.seq (.reg false [⟨some 9, none, .off (.t 1) 0⟩, 
    ⟨some 10, none, .off (.t 9) 5⟩, 
    ⟨some 11, none, .ld (.t 10) 1 false⟩, 
    ⟨some 3, none, .mov (.t 11)⟩] [1, 3] [1])
  (.seq (.seq (.reg false [⟨some 12, none, .mov (.t 3)⟩, 
    ⟨some 13, none, .bin .lss (.t 12) (.c (.p (.int .i64 1)))⟩] [1, 3, 13] [1])
  (.cond (.t 13)
  (.seq (.reg false [⟨some 2, none, .mov (.c (.p (.bool true)))⟩] [2] [])
    .ret)
  .skip))
  (.seq (.seq (.reg false [⟨some 14, none, .off (.t 1) 0⟩, 
    ⟨some 15, none, .off (.t 14) 3⟩, 
    ⟨some 16, none, .ld (.t 15) 1 false⟩, 
    ⟨some 17, none, .mov (.t 3)⟩, 
    ⟨some 18, none, .bin .rem (.t 16) (.t 17)⟩, 
    ⟨some 19, none, .bin .neq (.t 18) (.c (.p (.int .i64 0)))⟩, 
    ⟨some 20, none, .mov (.t 19)⟩, 
    ⟨some 21, (some (20, false)), .off (.t 1) 0⟩, 
    ⟨some 22, (some (20, false)), .off (.t 21) 4⟩, 
    ⟨some 23, (some (20, false)), .ld (.t 22) 1 false⟩, 
    ⟨some 24, (some (20, false)), .mov (.t 3)⟩, 
    ⟨some 25, (some (20, false)), .bin .rem (.t 23) (.t 24)⟩, 
    ⟨some 26, (some (20, false)), .bin .neq (.t 25) (.c (.p (.int .i64 0)))⟩, 
    ⟨some 27, none, .pick (.t 20) (.c (.p (.bool true))) (.t 26)⟩, 
    ⟨some 28, none, .mov (.t 27)⟩, 
    ⟨some 29, (some (28, false)), .off (.t 1) 0⟩, 
    ⟨some 30, (some (28, false)), .off (.t 29) 6⟩, 
    ⟨some 31, (some (28, false)), .ld (.t 30) 1 false⟩, 
    ⟨some 32, (some (28, false)), .mov (.t 3)⟩, 
    ⟨some 33, (some (28, false)), .bin .rem (.t 31) (.t 32)⟩, 
    ⟨some 34, (some (28, false)), .bin .neq (.t 33) (.c (.p (.int .i64 0)))⟩, 
    ⟨some 35, none, .pick (.t 28) (.c (.p (.bool true))) (.t 34)⟩, 
    ⟨some 36, none, .mov (.t 35)⟩, 
    ⟨some 37, (some (36, false)), .off (.t 1) 0⟩, 
    ⟨some 38, (some (36, false)), .off (.t 37) 7⟩, 
    ⟨some 39, (some (36, false)), .ld (.t 38) 1 false⟩, 
    ⟨some 40, (some (36, false)), .mov (.t 3)⟩, 
    ⟨some 41, (some (36, false)), .bin .rem (.t 39) (.t 40)⟩, 
    ⟨some 42, (some (36, false)), .bin .neq (.t 41) (.c (.p (.int .i64 0)))⟩, 
    ⟨some 43, none, .pick (.t 36) (.c (.p (.bool true))) (.t 42)⟩] [1, 3, 43] [1])
  (.cond (.t 43)
  (.seq (.reg false [⟨some 2, none, .mov (.c (.p (.bool false)))⟩] [2] [])
    .ret)
  .skip))
  (.seq (.seq (.reg false [⟨some 4, none, .mov (.c (.p (.int .i64 0)))⟩] [1, 3, 4] [1])
  (.block 0 lp51_0))
  (.seq (.seq (.reg false [⟨some 6, none, .mov (.c (.p (.int .i64 0)))⟩] [1, 3, 6] [1])
  (.block 2 lp51_2))
  (.seq (.seq (.reg false [⟨some 8, none, .mov (.c (.p (.int .i64 0)))⟩] [1, 3, 8] [1])
  (.block 6 lp51_3))
  (.seq (.reg false [⟨some 2, none, .mov (.c (.p (.bool true)))⟩] [2] [])
  .ret)))))))),
  [.tmp 2], false⟩
def ir52 : IFn :=   -- tympan/grid.Same
⟨(.seq (.reg false [⟨some 2, none, .bx (.t 0) 22 true⟩, 
    ⟨some 3, none, .bx (.t 1) 22 true⟩, 
    ⟨some 4, none, .mov (.c (.p (.bool false)))⟩] [2, 3] [2, 3])
  (.seq (.reg false [⟨some 5, none, .off (.t 2) 0⟩, 
    ⟨some 6, none, .ld (.t 5) 19 true⟩, 
    ⟨some 7, none, .off (.t 3) 0⟩, 
    ⟨some 8, none, .ld (.t 7) 19 true⟩, 
    ⟨some 9, none, .eqa false [true, true, true, true, true, true, true, true, true, true, true, true, true, true, true, true, true, true, false] (.t 6) (.t 8)⟩, 
    ⟨some 10, none, .mov (.t 9)⟩, 
    ⟨some 11, (some (10, true)), .off (.t 2) 19⟩, 
    ⟨some 12, (some (10, true)), .ld (.t 11) 1 false⟩, 
    ⟨some 13, (some (10, true)), .off (.t 3) 19⟩, 
    ⟨some 14, (some (10, true)), .ld (.t 13) 1 false⟩, 
    ⟨some 15, (some (10, true)), .call 109 [(.t 12), (.t 14)] false⟩, 
    ⟨some 16, none, .pick (.t 10) (.t 15) (.c (.p (.bool false)))⟩, 
    ⟨some 17, none, .mov (.t 16)⟩, 
    ⟨some 18, (some (17, true)), .off (.t 2) 20⟩, 
    ⟨some 19, (some (17, true)), .ld (.t 18) 1 false⟩, 
    ⟨some 20, (some (17, true)), .off (.t 3) 20⟩, 
    ⟨some 21, (some (17, true)), .ld (.t 20) 1 false⟩, 
    ⟨some 22, (some (17, true)), .call 110 [(.t 19), (.t 21), (.c (.p (.fn 32)))] false⟩, 
    ⟨some 23, none, .pick (.t 17) (.t 22) (.c (.p (.bool false)))⟩, 
    ⟨some 24, none, .mov (.t 23)⟩, 
    ⟨some 25, (some (24, true)), .off (.t 2) 21⟩, 
    ⟨some 26, (some (24, true)), .ld (.t 25) 1 false⟩, 
    ⟨some 27, (some (24, true)), .off (.t 3) 21⟩, 
    ⟨some 28, (some (24, true)), .ld (.t 27) 1 false⟩, 
    ⟨some 29, (some (24, true)), .call 111 [(.t 26), (.t 28)] false⟩, 
    ⟨some 30, none, .pick (.t 24) (.t 29) (.c (.p (.bool false)))⟩, 
    ⟨some 4, none, .mov (.t 30)⟩] [4] [])
  .ret)),
  [.tmp 4], false⟩
def ir53 : IFn :=   -- tympan/tympanlaw15.awake
⟨(.seq (.reg false [⟨some 0, none, .mov (.c (.p (.bool false)))⟩] [] [])
  (.seq (.reg false [⟨some 5, none, .bld [.p (.int .i64 0), .p (.int .i64 0), .p (.int .i64 0), .p (.int .i64 0), .p (.int .i64 0), .p (.int .i64 0), .p (.int .i64 0), .p (.int .i64 0), .p (.int .i64 0), .p (.int .i64 0), .p (.int .i64 0), .p (.int .i64 0), .p (.int .i64 0), .p (.int .i64 0), .p (.int .i64 0), .p (.int .i64 0), .p (.int .i64 0), .p (.int .i64 0), .p (.bool false)] [(0, 1, (.c (.p (.int .i64 1)))), (1, 1, (.c (.p (.int .i64 1)))), (3, 1, (.c (.p (.int .i64 9)))), (4, 1, (.c (.p (.int .i64 9))))]⟩, 
    ⟨some 6, none, .bld [.p (.int .i64 0), .p (.int .i64 0), .p (.int .i64 0), .p (.int .i64 0), .p (.int .i64 0), .p (.int .i64 0), .p (.int .i64 0)] [(0, 1, (.c (.p (.int .i64 1)))), (1, 1, (.c (.p (.int .i64 3))))]⟩, 
    ⟨some 7, none, .bld [.p (.int .i64 0), .p (.int .i64 0), .p (.int .i64 0), .p (.int .i64 0), .p (.int .i64 0), .p (.int .i64 0), .p (.int .i64 0)] [(0, 1, (.c (.p (.int .i64 6))))]⟩, 
    ⟨some 8, none, .bsl 7 2 [.p (.int .i64 0), .p (.int .i64 0), .p (.int .i64 0), .p (.int .i64 0), .p (.int .i64 0), .p (.int .i64 0), .p (.int .i64 0)] [(0, (.t 6)), (1, (.t 7))]⟩, 
    ⟨some 9, none, .bld [.p (.int .i64 0), .p (.int .i64 0), .p (.int .i64 0)] [(1, 1, (.c (.p (.int .i64 9))))]⟩, 
    ⟨some 10, none, .bsl 3 1 [.p (.int .i64 0), .p (.int .i64 0), .p (.int .i64 0)] [(0, (.t 9))]⟩, 
    ⟨some 11, none, .bld [.p (.int .i64 0), .p (.int .i64 0), .p (.int .i64 0), .p (.int .i64 0), .p (.int .i64 0), .p (.int .i64 0), .p (.int .i64 0), .p (.int .i64 0), .p (.int .i64 0), .p (.int .i64 0), .p (.int .i64 0), .p (.int .i64 0), .p (.int .i64 0), .p (.int .i64 0), .p (.int .i64 0), .p (.int .i64 0), .p (.int .i64 0), .p (.int .i64 0), .p (.bool false), .nils, .nils, .nils] [(0, 19, (.t 5)), (19, 1, (.t 8)), (21, 1, (.t 10))]⟩, 
    ⟨some 1, none, .al [.p (.int .i64 0), .p (.int .i64 0), .p (.int .i64 0), .p (.int .i64 0), .p (.int .i64 0), .p (.int .i64 0), .p (.int .i64 0), .p (.int .i64 0), .p (.int .i64 0), .p (.int .i64 0), .p (.int .i64 0), .p (.int .i64 0), .p (.int .i64 0), .p (.int .i64 0), .p (.int .i64 0), .p (.int .i64 0), .p (.int .i64 0), .p (.int .i64 0), .p (.bool false), .nils, .nils, .nils] true⟩, 
    ⟨none, none, .st (.t 1) (.t 11) 22⟩] [1] [1])
  (.seq (.reg false [⟨some 12, none, .ld (.t 1) 22 true⟩, 
    ⟨some 2, none, .al [.p (.int .i64 0), .p (.int .i64 0), .p (.int .i64 0), .p (.int .i64 0), .p (.int .i64 0), .p (.int .i64 0), .p (.int .i64 0), .p (.int .i64 0), .p (.int .i64 0), .p (.int .i64 0), .p (.int .i64 0), .p (.int .i64 0), .p (.int .i64 0), .p (.int .i64 0), .p (.int .i64 0), .p (.int .i64 0), .p (.int .i64 0), .p (.int .i64 0), .p (.bool false), .nils, .nils, .nils] true⟩, 
    ⟨none, none, .st (.t 2) (.t 12) 22⟩] [1, 2] [1, 2])
  (.seq (.reg false [⟨some 13, none, .bld [.p (.int .i64 0), .p (.int .i64 0), .p (.int .i64 0)] [(1, 1, (.c (.p (.int .i64 10))))]⟩, 
    ⟨some 14, none, .bsl 3 1 [.p (.int .i64 0), .p (.int .i64 0), .p (.int .i64 0)] [(0, (.t 13))]⟩, 
    ⟨some 15, none, .off (.t 2) 21⟩, 
    ⟨none, none, .st (.t 15) (.t 14) 1⟩] [1, 2] [1, 2])
  (.seq (.reg false [⟨some 17, none, .ld (.t 2) 22 true⟩, 
    ⟨some 18, none, .call 54 [(.t 17)] false⟩, 
    ⟨some 16, none, .mov (.t 18)⟩, 
    ⟨some 19, none, .ext (.t 16) 0⟩, 
    ⟨some 20, none, .ext (.t 16) 1⟩, 
    ⟨some 3, none, .mov (.t 19)⟩, 
    ⟨some 4, none, .mov (.t 20)⟩] [1, 3, 4] [1])
  (.seq (.reg false [⟨some 21, none, .ld (.t 1) 22 true⟩, 
    ⟨some 22, none, .call 56 [(.t 21)] false⟩, 
    ⟨some 23, none, .mov (.t 22)⟩, 
    ⟨some 24, (some (23, true)), .mov (.t 3)⟩, 
    ⟨some 25, (some (23, true)), .bin .eql (.t 24) (.c (.p (.int .i64 12)))⟩, 
    ⟨some 26, none, .pick (.t 23) (.t 25) (.c (.p (.bool false)))⟩, 
    ⟨some 27, none, .mov (.t 26)⟩, 
    ⟨some 28, (some (27, true)), .mov (.t 4)⟩, 
    ⟨some 29, (some (27, true)), .bin .eql (.t 28) (.c (.p (.int .i64 0)))⟩, 
    ⟨some 30, none, .pick (.t 27) (.t 29) (.c (.p (.bool false)))⟩, 
    ⟨some 0, none, .mov (.t 30)⟩] [0] [])
  .ret)))))),
  [.tmp 0], false⟩
def lp54_0 : IC :=
  (.loop [1, 7, 8, 9] [1] (.seq (.reg false [⟨some 10, none, .bin .lss (.t 9) (.t 8)⟩] [1, 7, 8, 9, 10] [1])
      (.seq (.cond (.t 10)
      .skip
      (.exit 0))
      (.seq (.block 1 (.seq (.reg false [⟨some 11, none, .ixs (.t 7) (.t 9) 2⟩, 
          ⟨some 12, none, .ld (.t 11) 2 true⟩, 
          ⟨some 5, none, .al [.p (.int .i64 0), .p .nilf] true⟩, 
          ⟨none, none, .st (.t 5) (.t 12) 2⟩] [1, 5, 7, 8, 9] [1, 5])
        (.seq (.reg false [⟨some 13, none, .off (.t 5) 1⟩, 
          ⟨some 14, none, .ld (.t 13) 1 false⟩, 
          ⟨some 15, none, .ld (.t 1) 22 true⟩, 
          ⟨some 16, none, .callv (.t 14) [(.t 15)] false⟩, 
          ⟨some 6, none, .mov (.t 16)⟩] [1, 5, 6, 7, 8, 9] [1, 5])
        (.seq (.reg false [⟨some 17, none, .mov (.t 6)⟩, 
          ⟨some 18, none, .bin .geq (.t 17) (.c (.p (.int .i64 0)))⟩] [1, 5, 6, 7, 8, 9, 18] [1, 5])
        (.cond (.t 18)
        (.seq (.reg false [⟨some 19, none, .off (.t 5) 0⟩, 
            ⟨some 20, none, .ld (.t 19) 1 false⟩, 
            ⟨some 21, none, .mov (.t 6)⟩, 
            ⟨some 2, none, .mov (.t 20)⟩, 
            ⟨some 3, none, .mov (.t 21)⟩] [2, 3] [])
          .ret)
        .skip)))))
      (.reg false [⟨some 22, none, .bin .add (.t 9) (.c (.p (.int .i64 1)))⟩, 
        ⟨some 9, none, .mov (.t 22)⟩] [1, 7, 8, 9] [1])))))
def ir54 : IFn :=   -- tympan/valid.Check
⟨(.seq (.reg false [⟨some 1, none, .bx (.t 0) 22 true⟩, 
    ⟨some 2, none, .mov (.c (.p (.int .i64 0)))⟩, 
    ⟨some 3, none, .mov (.c (.p (.int .i64 0)))⟩] [1] [1])
  (.seq (.seq (.reg false [⟨some 7, none, .call 112 [] false⟩, 
    ⟨some 8, none, .len (.t 7)⟩, 
    ⟨some 9, none, .mov (.c (.p (.int .i64 0)))⟩] [1, 7, 8, 9] [1])
  (.block 0 lp54_0))
  (.seq (.reg false [⟨some 2, none, .mov (.c (.p (.int .i64 0)))⟩, 
    ⟨some 3, none, .mov (.c (.p (.int .i64 0)))⟩] [2, 3] [])
  .ret))),
  [.tmp 2, .tmp 3], false⟩
def lp55_0 : IC :=
  (.loop [1, 2, 4] [1, 2] (.seq (.seq (.reg false [⟨some 33, none, .mov (.t 4)⟩, 
        ⟨some 34, none, .off (.t 1) 19⟩, 
        ⟨some 35, none, .ld (.t 34) 1 false⟩, 
        ⟨some 36, none, .len (.t 35)⟩, 
        ⟨some 37, none, .bin .lss (.t 33) (.t 36)⟩] [1, 2, 4, 37] [1, 2])
      (.cond (.t 37)
      .skip
      (.exit 0)))
      (.seq (.block 1 (.seq (.reg false [⟨some 40, none, .off (.t 1) 19⟩, 
          ⟨some 41, none, .ld (.t 40) 1 false⟩, 
          ⟨some 42, none, .mov (.t 4)⟩, 
          ⟨some 43, none, .ixs (.t 41) (.t 42) 7⟩, 
          ⟨some 44, none, .ld (.t 43) 7 true⟩, 
          ⟨some 45, none, .call 57 [(.t 44)] false⟩, 
          ⟨some 46, none, .un .not (.t 45)⟩] [1, 2, 4, 46] [1, 2])
        (.cond (.t 46)
        (.seq (.reg false [⟨some 47, none, .mov (.t 4)⟩, 
            ⟨some 48, none, .bld [.p (.int .i64 0), .p (.int .i64 0)] [(0, 1, (.c (.p (.int .i64 8)))), (1, 1, (.t 47))]⟩, 
            ⟨none, none, .st (.t 2) (.t 48) 2⟩] [2] [2])
          .ret)
        .skip)))
      (.reg false [⟨some 38, none, .mov (.t 4)⟩, 
        ⟨some 39, none, .bin .add (.t 38) (.c (.p (.int .i64 1)))⟩, 
        ⟨some 4, none, .mov (.t 39)⟩] [1, 2, 4] [1, 2]))))
def lp55_1 : IC :=
  (.loop [1, 2, 5] [1, 2] (.seq (.seq (.reg false [⟨some 49, none, .mov (.t 5)⟩, 
        ⟨some 50, none, .off (.t 1) 20⟩, 
        ⟨some 51, none, .ld (.t 50) 1 false⟩, 
        ⟨some 52, none, .len (.t 51)⟩, 
        ⟨some 53, none, .bin .lss (.t 49) (.t 52)⟩] [1, 2, 5, 53] [1, 2])
      (.cond (.t 53)
      .skip
      (.exit 2)))
      (.seq (.block 3 (.seq (.reg false [⟨some 56, none, .off (.t 1) 20⟩, 
          ⟨some 57, none, .ld (.t 56) 1 false⟩, 
          ⟨some 58, none, .mov (.t 5)⟩, 
          ⟨some 59, none, .ixs (.t 57) (.t 58) 2⟩, 
          ⟨some 60, none, .ld (.t 59) 2 true⟩, 
          ⟨some 61, none, .call 19 [(.t 60)] false⟩, 
          ⟨some 62, none, .un .not (.t 61)⟩] [1, 2, 5, 62] [1, 2])
        (.cond (.t 62)
        (.seq (.reg false [⟨some 63, none, .mov (.t 5)⟩, 
            ⟨some 64, none, .bld [.p (.int .i64 0), .p (.int .i64 0)] [(0, 1, (.c (.p (.int .i64 9)))), (1, 1, (.t 63))]⟩, 
            ⟨none, none, .st (.t 2) (.t 64) 2⟩] [2] [2])
          .ret)
        .skip)))
      (.reg false [⟨some 54, none, .mov (.t 5)⟩, 
        ⟨some 55, none, .bin .add (.t 54) (.c (.p (.int .i64 1)))⟩, 
        ⟨some 5, none, .mov (.t 55)⟩] [1, 2, 5] [1, 2]))))
def lp55_2 : IC :=
  (.loop [1, 2, 6] [1, 2] (.seq (.seq (.reg false [⟨some 65, none, .mov (.t 6)⟩, 
        ⟨some 66, none, .off (.t 1) 21⟩, 
        ⟨some 67, none, .ld (.t 66) 1 false⟩, 
        ⟨some 68, none, .len (.t 67)⟩, 
        ⟨some 69, none, .bin .lss (.t 65) (.t 68)⟩] [1, 2, 6, 69] [1, 2])
      (.cond (.t 69)
      .skip
      (.exit 4)))
      (.seq (.block 5 (.seq (.reg false [⟨some 72, none, .off (.t 1) 21⟩, 
          ⟨some 73, none, .ld (.t 72) 1 false⟩, 
          ⟨some 74, none, .mov (.t 6)⟩, 
          ⟨some 75, none, .ixs (.t 73) (.t 74) 3⟩, 
          ⟨some 76, none, .ld (.t 75) 3 true⟩, 
          ⟨some 77, none, .call 114 [(.t 76)] false⟩, 
          ⟨some 78, none, .un .not (.t 77)⟩] [1, 2, 6, 78] [1, 2])
        (.cond (.t 78)
        (.seq (.reg false [⟨some 79, none, .mov (.t 6)⟩, 
            ⟨some 80, none, .bld [.p (.int .i64 0), .p (.int .i64 0)] [(0, 1, (.c (.p (.int .i64 10)))), (1, 1, (.t 79))]⟩, 
            ⟨none, none, .st (.t 2) (.t 80) 2⟩] [2] [2])
          .ret)
        .skip)))
      (.reg false [⟨some 70, none, .mov (.t 6)⟩, 
        ⟨some 71, none, .bin .add (.t 70) (.c (.p (.int .i64 1)))⟩, 
        ⟨some 6, none, .mov (.t 71)⟩] [1, 2, 6] [1, 2]))))
def lp55_3 : IC :=
  (.loop [2, 9, 10] [2, 9] (.seq (.seq (.reg false [⟨some 112, none, .mov (.t 10)⟩, 
        ⟨some 113, none, .off (.t 9) 21⟩, 
        ⟨some 114, none, .ld (.t 113) 1 false⟩, 
        ⟨some 115, none, .len (.t 114)⟩, 
        ⟨some 116, none, .bin .lss (.t 112) (.t 115)⟩] [2, 9, 10, 116] [2, 9])
      (.cond (.t 116)
      .skip
      (.exit 6)))
      (.seq (.block 7 (.seq (.reg true [⟨some 119, none, .off (.t 9) 21⟩, 
          ⟨some 120, none, .ldl 9 (.t 119) 1 false⟩, 
          ⟨some 121, none, .mov (.t 10)⟩, 
          ⟨some 122, none, .ixs (.t 120) (.t 121) 3⟩, 
          ⟨some 123, none, .off (.t 122) 1⟩, 
          ⟨some 124, none, .ld (.t 123) 1 false⟩, 
          ⟨some 125, none, .off (.t 9) 0⟩, 
          ⟨some 126, none, .off (.t 125) 4⟩, 
          ⟨some 127, none, .ldl 9 (.t 126) 1 false⟩, 
          ⟨some 128, none, .bin .gtr (.t 124) (.t 127)⟩] [2, 9, 10, 128] [2, 9])
        (.cond (.t 128)
        (.seq (.reg false [⟨some 129, none, .mov (.t 10)⟩, 
            ⟨some 130, none, .bld [.p (.int .i64 0), .p (.int .i64 0)] [(0, 1, (.c (.p (.int .i64 12)))), (1, 1, (.t 129))]⟩, 
            ⟨none, none, .st (.t 2) (.t 130) 2⟩] [2] [2])
          .ret)
        .skip)))
      (.reg false [⟨some 117, none, .mov (.t 10)⟩, 
        ⟨some 118, none, .bin .add (.t 117) (.c (.p (.int .i64 1)))⟩, 
        ⟨some 10, none, .mov (.t 118)⟩] [2, 9, 10] [2, 9]))))
def ir55 : IFn :=   -- tympan/tympanref15.Check
⟨(.seq (.reg false [⟨some 1, none, .bx (.t 0) 22 true⟩, 
    ⟨some 2, none, .al [.p (.int .i64 0), .p (.int .i64 0)] true⟩] [1, 2] [1, 2])
  (.seq (.seq (.reg false [⟨some 11, none, .off (.t 1) 19⟩, 
    ⟨some 12, none, .ld (.t 11) 1 false⟩, 
    ⟨some 13, none, .len (.t 12)⟩, 
    ⟨some 14, none, .bin .gtr (.t 13) (.c (.p (.int .i64 4096)))⟩] [1, 2, 14] [1, 2])
  (.cond (.t 14)
  (.seq (.reg false [⟨some 15, none, .bld [.p (.int .i64 0), .p (.int .i64 0)] [(0, 1, (.c (.p (.int .i64 3))))]⟩, 
      ⟨none, none, .st (.t 2) (.t 15) 2⟩] [2] [2])
    .ret)
  .skip))
  (.seq (.seq (.reg false [⟨some 16, none, .off (.t 1) 21⟩, 
    ⟨some 17, none, .ld (.t 16) 1 false⟩, 
    ⟨some 18, none, .len (.t 17)⟩, 
    ⟨some 19, none, .bin .gtr (.t 18) (.c (.p (.int .i64 256)))⟩] [1, 2, 19] [1, 2])
  (.cond (.t 19)
  (.seq (.reg false [⟨some 20, none, .bld [.p (.int .i64 0), .p (.int .i64 0)] [(0, 1, (.c (.p (.int .i64 4))))]⟩, 
      ⟨none, none, .st (.t 2) (.t 20) 2⟩] [2] [2])
    .ret)
  .skip))
  (.seq (.seq (.reg false [⟨some 21, none, .off (.t 1) 20⟩, 
    ⟨some 22, none, .ld (.t 21) 1 false⟩, 
    ⟨some 23, none, .len (.t 22)⟩, 
    ⟨some 24, none, .bin .gtr (.t 23) (.c (.p (.int .i64 512)))⟩] [1, 2, 24] [1, 2])
  (.cond (.t 24)
  (.seq (.reg false [⟨some 25, none, .bld [.p (.int .i64 0), .p (.int .i64 0)] [(0, 1, (.c (.p (.int .i64 5))))]⟩, 
      ⟨none, none, .st (.t 2) (.t 25) 2⟩] [2] [2])
    .ret)
  .skip))
  (.seq (.seq (.reg false [⟨some 26, none, .off (.t 1) 0⟩, 
    ⟨some 27, none, .ld (.t 26) 19 true⟩, 
    ⟨some 28, none, .call 113 [(.t 27)] false⟩, 
    ⟨some 3, none, .mov (.t 28)⟩] [1, 2, 3] [1, 2])
  (.seq (.reg false [⟨some 29, none, .mov (.t 3)⟩, 
    ⟨some 30, none, .bin .neq (.t 29) (.c (.p (.int .i64 0)))⟩] [1, 2, 3, 30] [1, 2])
  (.cond (.t 30)
  (.seq (.reg false [⟨some 31, none, .mov (.t 3)⟩, 
      ⟨some 32, none, .bld [.p (.int .i64 0), .p (.int .i64 0)] [(0, 1, (.t 31))]⟩, 
      ⟨none, none, .st (.t 2) (.t 32) 2⟩] [2] [2])
    .ret)
  .skip)))
  (.seq (.seq (.reg false [⟨some 4, none, .mov (.c (.p (.int .i64 0)))⟩] [1, 2, 4] [1, 2])
  (.block 0 lp55_0))
  (.seq (.seq (.reg false [⟨some 5, none, .mov (.c (.p (.int .i64 0)))⟩] [1, 2, 5] [1, 2])
  (.block 2 lp55_1))
  (.seq (.seq (.reg false [⟨some 6, none, .mov (.c (.p (.int .i64 0)))⟩] [1, 2, 6] [1, 2])
  (.block 4 lp55_2))
  (.seq (.reg true [⟨some 81, none, .off (.t 1) 19⟩, 
    ⟨some 82, none, .ldl 1 (.t 81) 1 false⟩, 
    ⟨some 83, none, .off (.t 1) 20⟩, 
    ⟨some 84, none, .ldl 1 (.t 83) 1 false⟩, 
    ⟨some 85, none, .len (.t 84)⟩, 
    ⟨some 86, none, .call 115 [(.t 82), (.c (.p (.int .i64 5))), (.t 85)] false⟩, 
    ⟨some 87, none, .off (.t 1) 19⟩, 
    ⟨some 88, none, .ldl 1 (.t 87) 1 false⟩, 
    ⟨some 89, none, .off (.t 1) 21⟩, 
    ⟨some 90, none, .ldl 1 (.t 89) 1 false⟩, 
    ⟨some 91, none, .len (.t 90)⟩, 
    ⟨some 92, none, .call 115 [(.t 88), (.c (.p (.int .i64 6))), (.t 91)] false⟩, 
    ⟨some 7, none, .mov (.t 86)⟩, 
    ⟨some 8, none, .mov (.t 92)⟩] [1, 2, 7, 8] [1, 2])
  (.seq (.seq (.reg false [⟨some 93, none, .mov (.t 7)⟩, 
    ⟨some 94, none, .bin .geq (.t 93) (.c (.p (.int .i64 0)))⟩, 
    ⟨some 95, none, .mov (.t 94)⟩, 
    ⟨some 96, (some (95, true)), .mov (.t 8)⟩, 
    ⟨some 97, (some (95, true)), .bin .lss (.t 96) (.c (.p (.int .i64 0)))⟩, 
    ⟨some 98, (some (95, true)), .mov (.t 97)⟩, 
    ⟨some 99, (some (98, false)), .mov (.t 7)⟩, 
    ⟨some 100, (some (98, false)), .mov (.t 8)⟩, 
    ⟨some 101, (some (98, false)), .bin .leq (.t 99) (.t 100)⟩, 
    ⟨some 102, (some (95, true)), .pick (.t 98) (.c (.p (.bool true))) (.t 101)⟩, 
    ⟨some 103, none, .pick (.t 95) (.t 102) (.c (.p (.bool false)))⟩] [1, 2, 7, 8, 103] [1, 2])
  (.cond (.t 103)
  (.seq (.reg false [⟨some 104, none, .mov (.t 7)⟩, 
      ⟨some 105, none, .bld [.p (.int .i64 0), .p (.int .i64 0)] [(0, 1, (.c (.p (.int .i64 11)))), (1, 1, (.t 104))]⟩, 
      ⟨none, none, .st (.t 2) (.t 105) 2⟩] [2] [2])
    .ret)
  .skip))
  (.seq (.seq (.reg false [⟨some 106, none, .mov (.t 8)⟩, 
    ⟨some 107, none, .bin .geq (.t 106) (.c (.p (.int .i64 0)))⟩] [1, 2, 8, 107] [1, 2])
  (.cond (.t 107)
  (.seq (.reg false [⟨some 108, none, .mov (.t 8)⟩, 
      ⟨some 109, none, .bld [.p (.int .i64 0), .p (.int .i64 0)] [(0, 1, (.c (.p (.int .i64 11)))), (1, 1, (.t 108))]⟩, 
      ⟨none, none, .st (.t 2) (.t 109) 2⟩] [2] [2])
    .ret)
  .skip))
  (.seq (.reg false [⟨some 110, none, .ld (.t 1) 22 true⟩, 
    ⟨some 111, none, .call 50 [(.t 110)] false⟩, 
    ⟨some 9, none, .al [.p (.int .i64 0), .p (.int .i64 0), .p (.int .i64 0), .p (.int .i64 0), .p (.int .i64 0), .p (.int .i64 0), .p (.int .i64 0), .p (.int .i64 0), .p (.int .i64 0), .p (.int .i64 0), .p (.int .i64 0), .p (.int .i64 0), .p (.int .i64 0), .p (.int .i64 0), .p (.int .i64 0), .p (.int .i64 0), .p (.int .i64 0), .p (.int .i64 0), .p (.bool false), .nils, .nils, .nils] true⟩, 
    ⟨none, none, .st (.t 9) (.t 111) 22⟩] [2, 9] [2, 9])
  (.seq (.seq (.reg false [⟨some 10, none, .mov (.c (.p (.int .i64 0)))⟩] [2, 9, 10] [2, 9])
  (.block 6 lp55_3))
  (.seq (.reg false [⟨some 131, none, .bld [.p (.int .i64 0), .p (.int .i64 0)] []⟩, 
    ⟨none, none, .st (.t 2) (.t 131) 2⟩] [2] [2])
  .ret)))))))))))))),
  [.cell 2 2 true], false⟩
def ir56 : IFn :=   -- tympan/valid.Right
⟨(.seq (.reg false [⟨some 1, none, .bx (.t 0) 22 true⟩, 
    ⟨some 2, none, .mov (.c (.p (.bool false)))⟩] [1] [1])
  (.seq (.reg false [⟨some 6, none, .ld (.t 1) 22 true⟩, 
    ⟨some 7, none, .call 54 [(.t 6)] false⟩, 
    ⟨some 5, none, .mov (.t 7)⟩, 
    ⟨some 8, none, .ext (.t 5) 0⟩, 
    ⟨some 9, none, .ext (.t 5) 1⟩, 
    ⟨some 3, none, .mov (.t 8)⟩, 
    ⟨some 4, none, .mov (.t 9)⟩] [3] [])
  (.seq (.reg false [⟨some 10, none, .mov (.t 3)⟩, 
    ⟨some 11, none, .bin .eql (.t 10) (.c (.p (.int .i64 0)))⟩, 
    ⟨some 2, none, .mov (.t 11)⟩] [2] [])
  .ret))),
  [.tmp 2], false⟩
def ir57 : IFn :=   -- tympan/tympanref10.Right
⟨(.seq (.reg false [⟨some 1, none, .bx (.t 0) 7 true⟩, 
    ⟨some 2, none, .mov (.c (.p (.bool false)))⟩] [1] [1])
  (.seq (.reg false [⟨some 4, none, .off (.t 1) 0⟩, 
    ⟨some 5, none, .ld (.t 4) 1 false⟩, 
    ⟨some 6, none, .bld [.p (.int .i64 0), .p (.int .i64 0), .p (.int .i64 0), .p (.int .i64 0), .p (.int .i64 0), .p (.int .i64 0), .p (.int .i64 0)] [(0, 1, (.t 5))]⟩, 
    ⟨some 3, none, .al [.p (.int .i64 0), .p (.int .i64 0), .p (.int .i64 0), .p (.int .i64 0), .p (.int .i64 0), .p (.int .i64 0), .p (.int .i64 0)] true⟩, 
    ⟨none, none, .st (.t 3) (.t 6) 7⟩] [1, 3] [1, 3])
  (.seq (.seq (.reg false [⟨some 7, none, .off (.t 1) 0⟩, 
    ⟨some 8, none, .ld (.t 7) 1 false⟩] [1, 3, 8] [1, 3])
  (.block 0 (.seq (.reg false [⟨some 10, none, .bin .eql (.t 8) (.c (.p (.int .i64 1)))⟩, 
      ⟨some 9, none, .mov (.t 10)⟩] [1, 3, 8, 9] [1, 3])
    (.cond (.t 9)
    (.seq (.reg false [⟨some 11, none, .off (.t 1) 1⟩, 
        ⟨some 12, none, .ld (.t 11) 1 false⟩, 
        ⟨some 13, none, .off (.t 3) 1⟩, 
        ⟨none, none, .st (.t 13) (.t 12) 1⟩] [1, 3] [1, 3])
      (.reg false [⟨some 14, none, .off (.t 1) 2⟩, 
        ⟨some 15, none, .ld (.t 14) 1 false⟩, 
        ⟨some 16, none, .off (.t 3) 2⟩, 
        ⟨none, none, .st (.t 16) (.t 15) 1⟩] [1, 3] [1, 3]))
    (.seq (.reg false [⟨some 18, none, .bin .eql (.t 8) (.c (.p (.int .i64 2)))⟩, 
        ⟨some 17, none, .mov (.t 18)⟩] [1, 3, 8, 17] [1, 3])
      (.cond (.t 17)
      (.seq (.reg false [⟨some 19, none, .off (.t 1) 1⟩, 
          ⟨some 20, none, .ld (.t 19) 1 false⟩, 
          ⟨some 21, none, .off (.t 3) 1⟩, 
          ⟨none, none, .st (.t 21) (.t 20) 1⟩] [1, 3] [1, 3])
        (.seq (.reg false [⟨some 22, none, .off (.t 1) 3⟩, 
          ⟨some 23, none, .ld (.t 22) 1 false⟩, 
          ⟨some 24, none, .off (.t 3) 3⟩, 
          ⟨none, none, .st (.t 24) (.t 23) 1⟩] [1, 3] [1, 3])
        (.seq (.reg false [⟨some 25, none, .off (.t 1) 4⟩, 
          ⟨some 26, none, .ld (.t 25) 1 false⟩, 
          ⟨some 27, none, .off (.t 3) 4⟩, 
          ⟨none, none, .st (.t 27) (.t 26) 1⟩] [1, 3] [1, 3])
        (.reg false [⟨some 28, none, .off (.t 1) 5⟩, 
          ⟨some 29, none, .ld (.t 28) 1 false⟩, 
          ⟨some 30, none, .off (.t 3) 5⟩, 
          ⟨none, none, .st (.t 30) (.t 29) 1⟩] [1, 3] [1, 3]))))
      (.seq (.reg false [⟨some 32, none, .bin .eql (.t 8) (.c (.p (.int .i64 3)))⟩, 
          ⟨some 31, none, .mov (.t 32)⟩] [1, 3, 8, 31] [1, 3])
        (.cond (.t 31)
        (.seq (.reg false [⟨some 33, none, .off (.t 1) 6⟩, 
            ⟨some 34, none, .ld (.t 33) 1 false⟩, 
            ⟨some 35, none, .off (.t 3) 6⟩, 
            ⟨none, none, .st (.t 35) (.t 34) 1⟩] [1, 3] [1, 3])
          (.seq (.reg false [⟨some 36, none, .off (.t 1) 6⟩, 
            ⟨some 37, none, .ld (.t 36) 1 false⟩, 
            ⟨some 38, none, .bin .neq (.t 37) (.c (.p (.int .i64 (-10000))))⟩, 
            ⟨some 39, none, .mov (.t 38)⟩, 
            ⟨some 40, (some (39, true)), .off (.t 1) 6⟩, 
            ⟨some 41, (some (39, true)), .ld (.t 40) 1 false⟩, 
            ⟨some 42, (some (39, true)), .bin .lss (.t 41) (.c (.p (.int .i64 0)))⟩, 
            ⟨some 43, (some (39, true)), .mov (.t 42)⟩, 
            ⟨some 44, (some (43, false)), .off (.t 1) 6⟩, 
            ⟨some 45, (some (43, false)), .ld (.t 44) 1 false⟩, 
            ⟨some 46, (some (43, false)), .bin .gtr (.t 45) (.c (.p (.int .i64 10000)))⟩, 
            ⟨some 47, (some (39, true)), .pick (.t 43) (.c (.p (.bool true))) (.t 46)⟩, 
            ⟨some 48, none, .pick (.t 39) (.t 47) (.c (.p (.bool false)))⟩] [1, 3, 48] [1, 3])
          (.cond (.t 48)
          (.seq (.reg false [⟨some 2, none, .mov (.c (.p (.bool false)))⟩] [2] [])
            .ret)
          .skip)))
        (.seq (.reg false [⟨some 50, none, .bin .eql (.t 8) (.c (.p (.int .i64 4)))⟩, 
            ⟨some 49, none, .mov (.t 50)⟩] [1, 3, 8, 49] [1, 3])
          (.cond (.t 49)
          (.seq (.reg false [⟨some 51, none, .off (.t 1) 6⟩, 
              ⟨some 52, none, .ld (.t 51) 1 false⟩, 
              ⟨some 53, none, .off (.t 3) 6⟩, 
              ⟨none, none, .st (.t 53) (.t 52) 1⟩] [1, 3] [1, 3])
            (.seq (.reg false [⟨some 54, none, .off (.t 1) 6⟩, 
              ⟨some 55, none, .ld (.t 54) 1 false⟩, 
              ⟨some 56, none, .bin .lss (.t 55) (.c (.p (.int .i64 0)))⟩, 
              ⟨some 57, none, .mov (.t 56)⟩, 
              ⟨some 58, (some (57, false)), .off (.t 1) 6⟩, 
              ⟨some 59, (some (57, false)), .ld (.t 58) 1 false⟩, 
              ⟨some 60, (some (57, false)), .bin .gtr (.t 59) (.c (.p (.int .i64 1048576)))⟩, 
              ⟨some 61, none, .pick (.t 57) (.c (.p (.bool true))) (.t 60)⟩] [1, 3, 61] [1, 3])
            (.cond (.t 61)
            (.seq (.reg false [⟨some 2, none, .mov (.c (.p (.bool false)))⟩] [2] [])
              .ret)
            .skip)))
          (.seq (.reg false [⟨some 63, none, .bin .eql (.t 8) (.c (.p (.int .i64 5)))⟩, 
              ⟨some 62, none, .mov (.t 63)⟩] [1, 3, 8, 62] [1, 3])
            (.cond (.t 62)
            (.seq (.reg false [⟨some 64, none, .off (.t 1) 6⟩, 
                ⟨some 65, none, .ld (.t 64) 1 false⟩, 
                ⟨some 66, none, .off (.t 3) 6⟩, 
                ⟨none, none, .st (.t 66) (.t 65) 1⟩] [1, 3] [1, 3])
              (.seq (.reg false [⟨some 67, none, .off (.t 1) 6⟩, 
                ⟨some 68, none, .ld (.t 67) 1 false⟩, 
                ⟨some 69, none, .bin .lss (.t 68) (.c (.p (.int .i64 0)))⟩, 
                ⟨some 70, none, .mov (.t 69)⟩, 
                ⟨some 71, (some (70, false)), .off (.t 1) 6⟩, 
                ⟨some 72, (some (70, false)), .ld (.t 71) 1 false⟩, 
                ⟨some 73, (some (70, false)), .bin .gtr (.t 72) (.c (.p (.int .i64 511)))⟩, 
                ⟨some 74, none, .pick (.t 70) (.c (.p (.bool true))) (.t 73)⟩] [1, 3, 74] [1, 3])
              (.cond (.t 74)
              (.seq (.reg false [⟨some 2, none, .mov (.c (.p (.bool false)))⟩] [2] [])
                .ret)
              .skip)))
            (.seq (.reg false [⟨some 76, none, .bin .eql (.t 8) (.c (.p (.int .i64 6)))⟩, 
                ⟨some 75, none, .mov (.t 76)⟩] [1, 3, 8, 75] [1, 3])
              (.cond (.t 75)
              (.seq (.reg false [⟨some 77, none, .off (.t 1) 6⟩, 
                  ⟨some 78, none, .ld (.t 77) 1 false⟩, 
                  ⟨some 79, none, .off (.t 3) 6⟩, 
                  ⟨none, none, .st (.t 79) (.t 78) 1⟩] [1, 3] [1, 3])
                (.seq (.reg false [⟨some 80, none, .off (.t 1) 6⟩, 
                  ⟨some 81, none, .ld (.t 80) 1 false⟩, 
                  ⟨some 82, none, .bin .lss (.t 81) (.c (.p (.int .i64 0)))⟩, 
                  ⟨some 83, none, .mov (.t 82)⟩, 
                  ⟨some 84, (some (83, false)), .off (.t 1) 6⟩, 
                  ⟨some 85, (some (83, false)), .ld (.t 84) 1 false⟩, 
                  ⟨some 86, (some (83, false)), .bin .gtr (.t 85) (.c (.p (.int .i64 255)))⟩, 
                  ⟨some 87, none, .pick (.t 83) (.c (.p (.bool true))) (.t 86)⟩] [1, 3, 87] [1, 3])
                (.cond (.t 87)
                (.seq (.reg false [⟨some 2, none, .mov (.c (.p (.bool false)))⟩] [2] [])
                  .ret)
                .skip)))
              (.seq (.reg false [⟨some 89, none, .bin .eql (.t 8) (.c (.p (.int .i64 7)))⟩, 
                  ⟨some 88, none, .mov (.t 89)⟩] [1, 3, 88] [1, 3])
                (.cond (.t 88)
                .skip
                (.seq (.reg false [⟨some 2, none, .mov (.c (.p (.bool false)))⟩] [2] [])
                  .ret)))))))))))))))))
  (.seq (.reg false [⟨some 90, none, .ld (.t 1) 7 true⟩, 
    ⟨some 91, none, .ld (.t 3) 7 true⟩, 
    ⟨some 92, none, .eqa false [true, true, true, true, true, true, true] (.t 90) (.t 91)⟩, 
    ⟨some 93, none, .mov (.t 92)⟩, 
    ⟨some 94, (some (93, true)), .off (.t 1) 1⟩, 
    ⟨some 95, (some (93, true)), .ld (.t 94) 1 false⟩, 
    ⟨some 96, (some (93, true)), .call 116 [(.t 95)] false⟩, 
    ⟨some 97, none, .pick (.t 93) (.t 96) (.c (.p (.bool false)))⟩, 
    ⟨some 98, none, .mov (.t 97)⟩, 
    ⟨some 99, (some (98, true)), .off (.t 1) 3⟩, 
    ⟨some 100, (some (98, true)), .ld (.t 99) 1 false⟩, 
    ⟨some 101, (some (98, true)), .call 116 [(.t 100)] false⟩, 
    ⟨some 102, none, .pick (.t 98) (.t 101) (.c (.p (.bool false)))⟩, 
    ⟨some 103, none, .mov (.t 102)⟩, 
    ⟨some 104, (some (103, true)), .off (.t 1) 5⟩, 
    ⟨some 105, (some (103, true)), .ld (.t 104) 1 false⟩, 
    ⟨some 106, (some (103, true)), .call 116 [(.t 105)] false⟩, 
    ⟨some 107, none, .pick (.t 103) (.t 106) (.c (.p (.bool false)))⟩, 
    ⟨some 108, none, .mov (.t 107)⟩, 
    ⟨some 109, (some (108, true)), .off (.t 1) 2⟩, 
    ⟨some 110, (some (108, true)), .ld (.t 109) 1 false⟩, 
    ⟨some 111, (some (108, true)), .bin .geq (.t 110) (.c (.p (.int .i64 0)))⟩, 
    ⟨some 112, none, .pick (.t 108) (.t 111) (.c (.p (.bool false)))⟩, 
    ⟨some 113, none, .mov (.t 112)⟩, 
    ⟨some 114, (some (113, true)), .off (.t 1) 2⟩, 
    ⟨some 115, (some (113, true)), .ld (.t 114) 1 false⟩, 
    ⟨some 116, (some (113, true)), .bin .leq (.t 115) (.c (.p (.int .i64 3)))⟩, 
    ⟨some 117, none, .pick (.t 113) (.t 116) (.c (.p (.bool false)))⟩, 
    ⟨some 118, none, .mov (.t 117)⟩, 
    ⟨some 119, (some (118, true)), .off (.t 1) 4⟩, 
    ⟨some 120, (some (118, true)), .ld (.t 119) 1 false⟩, 
    ⟨some 121, (some (118, true)), .bin .geq (.t 120) (.c (.p (.int .i64 0)))⟩, 
    ⟨some 122, none, .pick (.t 118) (.t 121) (.c (.p (.bool false)))⟩, 
    ⟨some 123, none, .mov (.t 122)⟩, 
    ⟨some 124, (some (123, true)), .off (.t 1) 4⟩, 
    ⟨some 125, (some (123, true)), .ld (.t 124) 1 false⟩, 
    ⟨some 126, (some (123, true)), .bin .leq (.t 125) (.c (.p (.int .i64 3)))⟩, 
    ⟨some 127, none, .pick (.t 123) (.t 126) (.c (.p (.bool false)))⟩, 
    ⟨some 128, none, .mov (.t 127)⟩, 
    ⟨some 129, (some (128, true)), .off (.t 1) 0⟩, 
    ⟨some 130, (some (128, true)), .ld (.t 129) 1 false⟩, 
    ⟨some 131, (some (128, true)), .bin .neq (.t 130) (.c (.p (.int .i64 2)))⟩, 
    ⟨some 132, (some (128, true)), .mov (.t 131)⟩, 
    ⟨some 133, (some (132, false)), .off (.t 1) 5⟩, 
    ⟨some 134, (some (132, false)), .ld (.t 133) 1 false⟩, 
    ⟨some 135, (some (132, false)), .off (.t 1) 1⟩, 
    ⟨some 136, (some (132, false)), .ld (.t 135) 1 false⟩, 
    ⟨some 137, (some (132, false)), .bin .leq (.t 134) (.t 136)⟩, 
    ⟨some 138, (some (128, true)), .pick (.t 132) (.c (.p (.bool true))) (.t 137)⟩, 
    ⟨some 139, none, .pick (.t 128) (.t 138) (.c (.p (.bool false)))⟩, 
    ⟨some 2, none, .mov (.t 139)⟩] [2] [])
  .ret)))),
  [.tmp 2], false⟩
def lp58_0 : IC :=
  (.loop [1, 4, 5, 6] [] (.seq (.reg false [⟨some 7, none, .bin .lss (.t 6) (.t 5)⟩] [1, 4, 5, 6, 7] [])
      (.seq (.cond (.t 7)
      .skip
      (.exit 0))
      (.seq (.block 1 (.seq (.reg false [⟨some 8, none, .ixs (.t 4) (.t 6) 2⟩, 
          ⟨some 9, none, .ld (.t 8) 2 true⟩, 
          ⟨some 3, none, .al [.p (.int .i64 0), .p .nilf] true⟩, 
          ⟨none, none, .st (.t 3) (.t 9) 2⟩] [1, 3, 4, 5, 6] [3])
        (.reg false [⟨some 10, none, .mov (.t 1)⟩, 
          ⟨some 11, none, .off (.t 3) 0⟩, 
          ⟨some 12, none, .ld (.t 11) 1 false⟩, 
          ⟨some 13, none, .bsl 1 1 [.p (.int .i64 0)] [(0, (.t 12))]⟩, 
          ⟨some 14, none, .app (.t 10) (.t 13) 1⟩, 
          ⟨some 1, none, .mov (.t 14)⟩] [1, 4, 5, 6] [])))
      (.reg false [⟨some 15, none, .bin .add (.t 6) (.c (.p (.int .i64 1)))⟩, 
        ⟨some 6, none, .mov (.t 15)⟩] [1, 4, 5, 6] [])))))
def ir58 : IFn :=   -- tympan/valid.Clauses
⟨(.seq (.reg false [⟨some 0, none, .mov (.c (.nils))⟩] [] [])
  (.seq (.reg false [⟨some 1, none, .nrow 1⟩] [1] [])
  (.seq (.seq (.reg false [⟨some 4, none, .call 112 [] false⟩, 
    ⟨some 5, none, .len (.t 4)⟩, 
    ⟨some 6, none, .mov (.c (.p (.int .i64 0)))⟩] [1, 4, 5, 6] [])
  (.block 0 lp58_0))
  (.seq (.reg false [⟨some 16, none, .mov (.t 1)⟩, 
    ⟨some 0, none, .mov (.t 16)⟩] [0] [])
  .ret)))),
  [.tmp 0], false⟩
def ir59 : IFn :=   -- tympan/valid.Anchors
⟨(.seq (.reg false [⟨some 3, none, .bx (.t 1) 1 false⟩, 
    ⟨some 4, none, .mov (.c (.p (.int .i64 0)))⟩] [0, 3] [])
  (.seq (.reg false [⟨some 5, none, .al [.p (.int .i64 0)] false⟩, 
    ⟨none, none, .st (.t 5) (.c (.p (.int .i64 0))) 1⟩] [0, 3, 5] [])
  (.seq (.reg false [⟨some 6, none, .mov (.t 0)⟩, 
    ⟨some 7, none, .mkf (.func 118) [] [(.t 3), (.t 5)]⟩, 
    ⟨some 8, none, .call 117 [(.t 6), (.t 7)] false⟩, 
    ⟨some 4, none, .mov (.t 8)⟩] [4] [])
  .ret))),
  [.tmp 4], false⟩
def lp60_0 : IC :=
  (.loop [0, 1, 5, 6] [] (.seq (.seq (.reg false [⟨some 7, none, .mov (.t 6)⟩, 
        ⟨some 8, none, .mov (.t 0)⟩, 
        ⟨some 9, none, .len (.t 8)⟩, 
        ⟨some 10, none, .bin .lss (.t 7) (.t 9)⟩] [0, 1, 5, 6, 10] [])
      (.cond (.t 10)
      .skip
      (.exit 0)))
      (.seq (.block 1 (.seq (.reg false [⟨some 13, none, .mov (.t 0)⟩, 
          ⟨some 14, none, .mov (.t 6)⟩, 
          ⟨some 15, none, .ixs (.t 13) (.t 14) 7⟩, 
          ⟨some 16, none, .off (.t 15) 0⟩, 
          ⟨some 17, none, .ld (.t 16) 1 false⟩, 
          ⟨some 18, none, .mov (.t 1)⟩, 
          ⟨some 19, none, .bin .eql (.t 17) (.t 18)⟩] [0, 1, 5, 6, 19] [])
        (.cond (.t 19)
        (.seq (.seq (.reg false [⟨some 20, none, .mov (.t 0)⟩, 
            ⟨some 21, none, .mov (.t 6)⟩, 
            ⟨some 22, none, .ixs (.t 20) (.t 21) 7⟩, 
            ⟨some 23, none, .off (.t 22) 6⟩, 
            ⟨some 24, none, .ld (.t 23) 1 false⟩, 
            ⟨some 25, none, .mov (.t 5)⟩, 
            ⟨some 26, none, .bin .neq (.t 24) (.t 25)⟩] [0, 1, 5, 6, 26] [])
          (.cond (.t 26)
          (.seq (.reg false [⟨some 27, none, .mov (.t 6)⟩, 
              ⟨some 4, none, .mov (.t 27)⟩] [4] [])
            .ret)
          .skip))
          (.reg false [⟨some 28, none, .mov (.t 5)⟩, 
            ⟨some 29, none, .bin .add (.t 28) (.c (.p (.int .i64 1)))⟩, 
            ⟨some 5, none, .mov (.t 29)⟩] [0, 1, 5, 6] []))
        .skip)))
      (.reg false [⟨some 11, none, .mov (.t 6)⟩, 
        ⟨some 12, none, .bin .add (.t 11) (.c (.p (.int .i64 1)))⟩, 
        ⟨some 6, none, .mov (.t 12)⟩] [0, 1, 5, 6] []))))
def ir60 : IFn :=   -- tympan/tympanref15.Anchors
⟨(.seq (.reg false [⟨some 4, none, .mov (.c (.p (.int .i64 0)))⟩] [0, 1] [])
  (.seq (.reg false [⟨some 5, none, .mov (.c (.p (.int .i64 0)))⟩] [0, 1, 5] [])
  (.seq (.seq (.reg false [⟨some 6, none, .mov (.c (.p (.int .i64 0)))⟩] [0, 1, 5, 6] [])
  (.block 0 lp60_0))
  (.seq (.reg false [⟨some 4, none, .mov (.c (.p (.int .i64 (-1))))⟩] [4] [])
  .ret)))),
  [.tmp 4], false⟩
def ir84 : IFn :=   -- (tympan/note.places).stop
⟨(.seq (.reg false [⟨some 2, none, .bx (.t 0) 2 true⟩, 
    ⟨some 4, none, .mov (.c (.p (.bool false)))⟩] [1, 2] [2])
  (.seq (.reg false [⟨some 5, none, .mov (.t 1)⟩, 
    ⟨some 6, none, .off (.t 2) 0⟩, 
    ⟨some 7, none, .ld (.t 6) 1 false⟩, 
    ⟨some 8, none, .len (.t 7)⟩, 
    ⟨some 9, none, .bin .eql (.t 5) (.t 8)⟩, 
    ⟨some 10, none, .mov (.t 9)⟩, 
    ⟨some 11, (some (10, false)), .ld (.t 2) 2 true⟩, 
    ⟨some 12, (some (10, false)), .mov (.t 1)⟩, 
    ⟨some 13, (some (10, false)), .call 86 [(.t 11), (.t 12)] false⟩, 
    ⟨some 14, none, .pick (.t 10) (.c (.p (.bool true))) (.t 13)⟩, 
    ⟨some 4, none, .mov (.t 14)⟩] [4] [])
  .ret)),
  [.tmp 4], false⟩
def ir85 : IFn :=   -- tympan/tympanref11.split
⟨(.seq (.reg false [⟨some 2, none, .bx (.t 0) 2 true⟩, 
    ⟨some 4, none, .mov (.c (.p (.bool false)))⟩] [1, 2] [2])
  (.seq (.reg false [⟨some 5, none, .mov (.t 1)⟩, 
    ⟨some 6, none, .bin .geq (.t 5) (.c (.p (.int .i64 1)))⟩, 
    ⟨some 7, none, .mov (.t 6)⟩, 
    ⟨some 8, (some (7, true)), .mov (.t 1)⟩, 
    ⟨some 9, (some (7, true)), .off (.t 2) 0⟩, 
    ⟨some 10, (some (7, true)), .ld (.t 9) 1 false⟩, 
    ⟨some 11, (some (7, true)), .len (.t 10)⟩, 
    ⟨some 12, (some (7, true)), .bin .lss (.t 8) (.t 11)⟩, 
    ⟨some 13, none, .pick (.t 7) (.t 12) (.c (.p (.bool false)))⟩, 
    ⟨some 14, none, .mov (.t 13)⟩, 
    ⟨some 15, (some (14, true)), .mov (.t 1)⟩, 
    ⟨some 16, (some (14, true)), .bin .sub (.t 15) (.c (.p (.int .i64 1)))⟩, 
    ⟨some 17, (some (14, true)), .off (.t 2) 1⟩, 
    ⟨some 18, (some (14, true)), .ld (.t 17) 1 false⟩, 
    ⟨some 19, (some (14, true)), .len (.t 18)⟩, 
    ⟨some 20, (some (14, true)), .bin .lss (.t 16) (.t 19)⟩, 
    ⟨some 21, none, .pick (.t 14) (.t 20) (.c (.p (.bool false)))⟩, 
    ⟨some 22, none, .mov (.t 21)⟩, 
    ⟨some 23, (some (22, true)), .off (.t 2) 1⟩, 
    ⟨some 24, (some (22, true)), .ld (.t 23) 1 false⟩, 
    ⟨some 25, (some (22, true)), .mov (.t 1)⟩, 
    ⟨some 26, (some (22, true)), .bin .sub (.t 25) (.c (.p (.int .i64 1)))⟩, 
    ⟨some 27, (some (22, true)), .ixs (.t 24) (.t 26) 1⟩, 
    ⟨some 28, (some (22, true)), .ld (.t 27) 1 false⟩, 
    ⟨some 29, (some (22, true)), .bin .lss (.t 28) (.c (.p (.int .i64 10000)))⟩, 
    ⟨some 30, none, .pick (.t 22) (.t 29) (.c (.p (.bool false)))⟩, 
    ⟨some 4, none, .mov (.t 30)⟩] [4] [])
  .ret)),
  [.tmp 4], false⟩
def ir86 : IFn :=   -- (tympan/note.places).split
⟨(.seq (.reg false [⟨some 2, none, .bx (.t 0) 2 true⟩, 
    ⟨some 4, none, .mov (.c (.p (.bool false)))⟩] [1, 2] [2])
  (.seq (.reg false [⟨some 5, none, .mov (.t 1)⟩, 
    ⟨some 6, none, .bin .gtr (.t 5) (.c (.p (.int .i64 0)))⟩, 
    ⟨some 7, none, .mov (.t 6)⟩, 
    ⟨some 8, (some (7, true)), .mov (.t 1)⟩, 
    ⟨some 9, (some (7, true)), .off (.t 2) 0⟩, 
    ⟨some 10, (some (7, true)), .ld (.t 9) 1 false⟩, 
    ⟨some 11, (some (7, true)), .len (.t 10)⟩, 
    ⟨some 12, (some (7, true)), .bin .lss (.t 8) (.t 11)⟩, 
    ⟨some 13, none, .pick (.t 7) (.t 12) (.c (.p (.bool false)))⟩, 
    ⟨some 14, none, .mov (.t 13)⟩, 
    ⟨some 15, (some (14, true)), .mov (.t 1)⟩, 
    ⟨some 16, (some (14, true)), .off (.t 2) 1⟩, 
    ⟨some 17, (some (14, true)), .ld (.t 16) 1 false⟩, 
    ⟨some 18, (some (14, true)), .len (.t 17)⟩, 
    ⟨some 19, (some (14, true)), .bin .leq (.t 15) (.t 18)⟩, 
    ⟨some 20, none, .pick (.t 14) (.t 19) (.c (.p (.bool false)))⟩, 
    ⟨some 21, none, .mov (.t 20)⟩, 
    ⟨some 22, (some (21, true)), .off (.t 2) 1⟩, 
    ⟨some 23, (some (21, true)), .ld (.t 22) 1 false⟩, 
    ⟨some 24, (some (21, true)), .mov (.t 1)⟩, 
    ⟨some 25, (some (21, true)), .bin .sub (.t 24) (.c (.p (.int .i64 1)))⟩, 
    ⟨some 26, (some (21, true)), .ixs (.t 23) (.t 25) 1⟩, 
    ⟨some 27, (some (21, true)), .ld (.t 26) 1 false⟩, 
    ⟨some 28, (some (21, true)), .bin .lss (.t 27) (.c (.p (.int .i64 10000)))⟩, 
    ⟨some 29, none, .pick (.t 21) (.t 28) (.c (.p (.bool false)))⟩, 
    ⟨some 4, none, .mov (.t 29)⟩] [4] [])
  .ret)),
  [.tmp 4], false⟩
def lp87_0 : IC :=
  (.loop [1, 2, 7, 8] [] (.seq (.seq (.reg false [⟨some 10, none, .mov (.t 8)⟩, 
        ⟨some 11, none, .mov (.t 1)⟩, 
        ⟨some 12, none, .bin .leq (.t 10) (.t 11)⟩] [1, 2, 7, 8, 12] [])
      (.cond (.t 12)
      .skip
      (.exit 0)))
      (.seq (.block 1 (.seq (.reg false [⟨some 15, none, .mov (.t 2)⟩, 
          ⟨some 16, none, .mov (.t 8)⟩, 
          ⟨some 17, none, .callv (.t 15) [(.t 16)] false⟩] [1, 2, 7, 8, 17] [])
        (.cond (.t 17)
        (.reg false [⟨some 18, none, .mov (.t 7)⟩, 
            ⟨some 19, none, .mov (.t 8)⟩, 
            ⟨some 20, none, .bsl 1 1 [.p (.int .i64 0)] [(0, (.t 19))]⟩, 
            ⟨some 21, none, .app (.t 18) (.t 20) 1⟩, 
            ⟨some 7, none, .mov (.t 21)⟩] [1, 2, 7, 8] [])
        .skip)))
      (.reg false [⟨some 13, none, .mov (.t 8)⟩, 
        ⟨some 14, none, .bin .add (.t 13) (.c (.p (.int .i64 1)))⟩, 
        ⟨some 8, none, .mov (.t 14)⟩] [1, 2, 7, 8] []))))
def ir87 : IFn :=   -- tympan/note.all
⟨(.seq (.reg false [⟨some 6, none, .mov (.c (.nils))⟩] [0, 1, 2] [])
  (.seq (.reg false [⟨some 7, none, .nrow 1⟩] [0, 1, 2, 7] [])
  (.seq (.seq (.reg false [⟨some 9, none, .mov (.t 0)⟩, 
    ⟨some 8, none, .mov (.t 9)⟩] [1, 2, 7, 8] [])
  (.block 0 lp87_0))
  (.seq (.reg false [⟨some 22, none, .mov (.t 7)⟩, 
    ⟨some 6, none, .mov (.t 22)⟩] [6] [])
  .ret)))),
  [.tmp 6], false⟩
def lp88_0 : IC :=
  (.loop [0, 1, 12, 13] [] (.seq (.reg false [⟨some 14, none, .bin .lss (.t 13) (.t 12)⟩] [0, 1, 12, 13, 14] [])
      (.seq (.cond (.t 14)
      .skip
      (.exit 0))
      (.seq (.block 1 (.seq (.reg false [⟨some 15, none, .mov (.t 13)⟩, 
          ⟨some 5, none, .mov (.t 15)⟩] [0, 1, 5, 12, 13] [])
        (.seq (.reg true [⟨some 16, none, .mov (.t 0)⟩, 
          ⟨some 17, none, .mov (.t 5)⟩, 
          ⟨some 18, none, .ixs (.t 16) (.t 17) 1⟩, 
          ⟨some 19, none, .ld (.t 18) 1 false⟩, 
          ⟨some 20, none, .mov (.t 1)⟩, 
          ⟨some 21, none, .mov (.t 5)⟩, 
          ⟨some 22, none, .ixs (.t 20) (.t 21) 1⟩, 
          ⟨some 23, none, .ld (.t 22) 1 false⟩, 
          ⟨some 24, none, .bin .neq (.t 19) (.t 23)⟩] [0, 1, 12, 13, 24] [])
        (.cond (.t 24)
        (.seq (.reg false [⟨some 4, none, .mov (.c (.p (.bool false)))⟩] [4] [])
          .ret)
        .skip))))
      (.reg false [⟨some 25, none, .bin .add (.t 13) (.c (.p (.int .i64 1)))⟩, 
        ⟨some 13, none, .mov (.t 25)⟩] [0, 1, 12, 13] [])))))
def ir88 : IFn :=   -- slices.Equal[[]tympan/api.Sp,tympan/api.Sp]
⟨(.seq (.reg false [⟨some 4, none, .mov (.c (.p (.bool false)))⟩] [0, 1] [])
  (.seq (.seq (.reg false [⟨some 6, none, .mov (.t 0)⟩, 
    ⟨some 7, none, .len (.t 6)⟩, 
    ⟨some 8, none, .mov (.t 1)⟩, 
    ⟨some 9, none, .len (.t 8)⟩, 
    ⟨some 10, none, .bin .neq (.t 7) (.t 9)⟩] [0, 1, 10] [])
  (.cond (.t 10)
  (.seq (.reg false [⟨some 4, none, .mov (.c (.p (.bool false)))⟩] [4] [])
    .ret)
  .skip))
  (.seq (.seq (.reg false [⟨some 11, none, .mov (.t 0)⟩, 
    ⟨some 12, none, .len (.t 11)⟩, 
    ⟨some 13, none, .mov (.c (.p (.int .i64 0)))⟩] [0, 1, 12, 13] [])
  (.block 0 lp88_0))
  (.seq (.reg false [⟨some 4, none, .mov (.c (.p (.bool true)))⟩] [4] [])
  .ret)))),
  [.tmp 4], false⟩
def lp89_0 : IC :=
  (.loop [0, 1, 12, 13] [] (.seq (.reg false [⟨some 14, none, .bin .lss (.t 13) (.t 12)⟩] [0, 1, 12, 13, 14] [])
      (.seq (.cond (.t 14)
      .skip
      (.exit 0))
      (.seq (.block 1 (.seq (.reg false [⟨some 15, none, .mov (.t 13)⟩, 
          ⟨some 5, none, .mov (.t 15)⟩] [0, 1, 5, 12, 13] [])
        (.seq (.reg true [⟨some 16, none, .mov (.t 0)⟩, 
          ⟨some 17, none, .mov (.t 5)⟩, 
          ⟨some 18, none, .ixs (.t 16) (.t 17) 1⟩, 
          ⟨some 19, none, .ld (.t 18) 1 false⟩, 
          ⟨some 20, none, .mov (.t 1)⟩, 
          ⟨some 21, none, .mov (.t 5)⟩, 
          ⟨some 22, none, .ixs (.t 20) (.t 21) 1⟩, 
          ⟨some 23, none, .ld (.t 22) 1 false⟩, 
          ⟨some 24, none, .bin .neq (.t 19) (.t 23)⟩] [0, 1, 12, 13, 24] [])
        (.cond (.t 24)
        (.seq (.reg false [⟨some 4, none, .mov (.c (.p (.bool false)))⟩] [4] [])
          .ret)
        .skip))))
      (.reg false [⟨some 25, none, .bin .add (.t 13) (.c (.p (.int .i64 1)))⟩, 
        ⟨some 13, none, .mov (.t 25)⟩] [0, 1, 12, 13] [])))))
def ir89 : IFn :=   -- slices.Equal[[]int,int]
⟨(.seq (.reg false [⟨some 4, none, .mov (.c (.p (.bool false)))⟩] [0, 1] [])
  (.seq (.seq (.reg false [⟨some 6, none, .mov (.t 0)⟩, 
    ⟨some 7, none, .len (.t 6)⟩, 
    ⟨some 8, none, .mov (.t 1)⟩, 
    ⟨some 9, none, .len (.t 8)⟩, 
    ⟨some 10, none, .bin .neq (.t 7) (.t 9)⟩] [0, 1, 10] [])
  (.cond (.t 10)
  (.seq (.reg false [⟨some 4, none, .mov (.c (.p (.bool false)))⟩] [4] [])
    .ret)
  .skip))
  (.seq (.seq (.reg false [⟨some 11, none, .mov (.t 0)⟩, 
    ⟨some 12, none, .len (.t 11)⟩, 
    ⟨some 13, none, .mov (.c (.p (.int .i64 0)))⟩] [0, 1, 12, 13] [])
  (.block 0 lp89_0))
  (.seq (.reg false [⟨some 4, none, .mov (.c (.p (.bool true)))⟩] [4] [])
  .ret)))),
  [.tmp 4], false⟩
def ir93 : IFn :=   -- tympan/grid.Near
⟨(.seq (.reg false [⟨some 4, none, .mov (.c (.p (.int .i64 0)))⟩] [0, 1] [])
  (.seq (.seq (.reg false [⟨some 6, none, .mov (.t 1)⟩, 
    ⟨some 7, none, .bin .lss (.t 6) (.c (.p (.int .i64 1)))⟩] [0, 1, 7] [])
  (.cond (.t 7)
  (.seq (.reg false [⟨some 8, none, .mov (.t 0)⟩, 
      ⟨some 4, none, .mov (.t 8)⟩] [4] [])
    .ret)
  .skip))
  (.seq (.reg false [⟨some 9, none, .mov (.t 0)⟩, 
    ⟨some 10, none, .mov (.t 1)⟩, 
    ⟨some 11, none, .bin .rem (.t 9) (.t 10)⟩, 
    ⟨some 5, none, .mov (.t 11)⟩] [0, 1, 5] [])
  (.seq (.seq (.reg false [⟨some 12, none, .mov (.t 5)⟩, 
    ⟨some 13, none, .bin .lss (.t 12) (.c (.p (.int .i64 0)))⟩] [0, 1, 5, 13] [])
  (.cond (.t 13)
  (.reg false [⟨some 14, none, .mov (.t 5)⟩, 
      ⟨some 15, none, .mov (.t 1)⟩, 
      ⟨some 16, none, .bin .add (.t 14) (.t 15)⟩, 
      ⟨some 5, none, .mov (.t 16)⟩] [0, 1, 5] [])
  .skip))
  (.seq (.seq (.reg false [⟨some 17, none, .mov (.t 5)⟩, 
    ⟨some 18, none, .mov (.t 1)⟩, 
    ⟨some 19, none, .mov (.t 5)⟩, 
    ⟨some 20, none, .bin .sub (.t 18) (.t 19)⟩, 
    ⟨some 21, none, .bin .lss (.t 17) (.t 20)⟩] [0, 1, 21] [])
  (.cond (.t 21)
  (.seq (.reg false [⟨some 22, none, .mov (.t 0)⟩, 
      ⟨some 23, none, .mov (.t 1)⟩, 
      ⟨some 24, none, .call 98 [(.t 22), (.t 23)] false⟩, 
      ⟨some 4, none, .mov (.t 24)⟩] [4] [])
    .ret)
  .skip))
  (.seq (.reg false [⟨some 25, none, .mov (.t 0)⟩, 
    ⟨some 26, none, .mov (.t 1)⟩, 
    ⟨some 27, none, .call 99 [(.t 25), (.t 26)] false⟩, 
    ⟨some 4, none, .mov (.t 27)⟩] [4] [])
  .ret)))))),
  [.tmp 4], false⟩
def lp94_0 : IC :=
  (.loop [2, 5, 11, 12] [2] (.seq (.reg false [⟨some 13, none, .bin .lss (.t 12) (.t 11)⟩] [2, 5, 11, 12, 13] [2])
      (.seq (.cond (.t 13)
      .skip
      (.exit 0))
      (.seq (.block 1 (.seq (.reg false [⟨some 14, none, .mov (.t 12)⟩, 
          ⟨some 6, none, .mov (.t 14)⟩] [2, 5, 6, 11, 12] [2])
        (.seq (.reg false [⟨some 15, none, .mov (.t 5)⟩, 
          ⟨some 16, none, .mov (.t 6)⟩, 
          ⟨some 17, none, .ixs (.t 15) (.t 16) 7⟩, 
          ⟨some 7, none, .mov (.t 17)⟩] [2, 5, 7, 11, 12] [2])
        (.seq (.reg false [⟨some 18, none, .mov (.t 7)⟩, 
          ⟨some 19, none, .nck (.t 18)⟩, 
          ⟨some 20, none, .off (.t 19) 0⟩, 
          ⟨some 21, none, .ld (.t 20) 1 false⟩] [2, 5, 7, 11, 12, 21] [2])
        (.block 2 (.seq (.reg false [⟨some 23, none, .bin .eql (.t 21) (.c (.p (.int .i64 1)))⟩, 
            ⟨some 22, none, .mov (.t 23)⟩] [2, 5, 7, 11, 12, 21, 22] [2])
          (.cond (.t 22)
          (.reg true [⟨some 24, none, .ldl 2 (.t 2) 1 true⟩, 
              ⟨some 25, none, .mov (.t 7)⟩, 
              ⟨some 26, none, .nck (.t 25)⟩, 
              ⟨some 27, none, .off (.t 26) 1⟩, 
              ⟨some 28, none, .bsl 1 1 [.p .nilp] [(0, (.t 27))]⟩, 
              ⟨some 29, none, .call 97 [(.t 24), (.c (.p (.fn 99))), (.t 28)] false⟩] [2, 5, 11, 12] [2])
          (.seq (.reg false [⟨some 31, none, .bin .eql (.t 21) (.c (.p (.int .i64 2)))⟩, 
              ⟨some 30, none, .mov (.t 31)⟩] [2, 5, 7, 11, 12, 30] [2])
            (.cond (.t 30)
            (.seq (.reg true [⟨some 32, none, .ldl 2 (.t 2) 1 true⟩, 
                ⟨some 33, none, .mov (.t 7)⟩, 
                ⟨some 34, none, .nck (.t 33)⟩, 
                ⟨some 35, none, .off (.t 34) 1⟩, 
                ⟨some 36, none, .bsl 1 1 [.p .nilp] [(0, (.t 35))]⟩, 
                ⟨some 37, none, .call 97 [(.t 32), (.c (.p (.fn 93))), (.t 36)] false⟩] [2, 5, 7, 11, 12] [2])
              (.reg false [⟨some 38, none, .mov (.t 7)⟩, 
                ⟨some 39, none, .mov (.t 7)⟩, 
                ⟨some 40, none, .mov (.t 7)⟩, 
                ⟨some 41, none, .nck (.t 38)⟩, 
                ⟨some 42, none, .off (.t 41) 3⟩, 
                ⟨none, none, .st (.t 42) (.c (.p (.int .i64 0))) 1⟩, 
                ⟨some 43, none, .nck (.t 39)⟩, 
                ⟨some 44, none, .off (.t 43) 4⟩, 
                ⟨none, none, .st (.t 44) (.c (.p (.int .i64 0))) 1⟩, 
                ⟨some 45, none, .nck (.t 40)⟩, 
                ⟨some 46, none, .off (.t 45) 5⟩, 
                ⟨none, none, .st (.t 46) (.c (.p (.int .i64 0))) 1⟩] [2, 5, 11, 12] [2]))
            .skip)))))))))
      (.reg false [⟨some 47, none, .bin .add (.t 12) (.c (.p (.int .i64 1)))⟩, 
        ⟨some 12, none, .mov (.t 47)⟩] [2, 5, 11, 12] [2])))))
def ir94 : IFn :=   -- (tympan/grid.snapper).items
⟨(.seq (.reg false [⟨some 2, none, .bx (.t 0) 1 true⟩, 
    ⟨some 4, none, .mov (.c (.nils))⟩] [1, 2] [2])
  (.seq (.reg false [⟨some 8, none, .mov (.t 1)⟩, 
    ⟨some 9, none, .call 139 [(.t 8)] false⟩, 
    ⟨some 5, none, .mov (.t 9)⟩] [2, 5] [2])
  (.seq (.seq (.reg false [⟨some 10, none, .mov (.t 5)⟩, 
    ⟨some 11, none, .len (.t 10)⟩, 
    ⟨some 12, none, .mov (.c (.p (.int .i64 0)))⟩] [2, 5, 11, 12] [2])
  (.block 0 lp94_0))
  (.seq (.reg false [⟨some 48, none, .mov (.t 5)⟩, 
    ⟨some 4, none, .mov (.t 48)⟩] [4] [])
  .ret)))),
  [.tmp 4], false⟩
def lp95_0 : IC :=
  (.loop [2, 5, 6, 12, 13, 14, 34, 35] [2] (.seq (.reg false [⟨some 36, none, .bin .lss (.t 35) (.t 34)⟩] [2, 5, 6, 12, 13, 14, 34, 35, 36] [2])
            (.seq (.cond (.t 36)
            .skip
            (.exit 2))
            (.seq (.block 3 (.seq (.reg false [⟨some 37, none, .mov (.t 35)⟩, 
                ⟨some 8, none, .mov (.t 37)⟩] [2, 5, 6, 8, 12, 13, 14, 34, 35] [2])
              (.reg true [⟨some 38, none, .ldl 2 (.t 2) 1 true⟩, 
                ⟨some 39, none, .mov (.t 5)⟩, 
                ⟨some 40, none, .mov (.t 6)⟩, 
                ⟨some 41, none, .ixs (.t 39) (.t 40) 2⟩, 
                ⟨some 42, none, .off (.t 41) 0⟩, 
                ⟨some 43, none, .ld (.t 42) 1 false⟩, 
                ⟨some 44, none, .mov (.t 8)⟩, 
                ⟨some 45, none, .ixs (.t 43) (.t 44) 1⟩, 
                ⟨some 46, none, .bsl 1 1 [.p .nilp] [(0, (.t 45))]⟩, 
                ⟨some 47, none, .call 97 [(.t 38), (.c (.p (.fn 99))), (.t 46)] false⟩] [2, 5, 6, 12, 13, 14, 34, 35] [2])))
            (.reg false [⟨some 48, none, .bin .add (.t 35) (.c (.p (.int .i64 1)))⟩, 
              ⟨some 35, none, .mov (.t 48)⟩] [2, 5, 6, 12, 13, 14, 34, 35] [2])))))
def lp95_1 : IC :=
  (.loop [2, 5, 12, 13, 14] [2] (.seq (.reg false [⟨some 15, none, .bin .lss (.t 14) (.t 13)⟩] [2, 5, 12, 13, 14, 15] [2])
      (.seq (.cond (.t 15)
      .skip
      (.exit 0))
      (.seq (.block 1 (.seq (.reg false [⟨some 16, none, .mov (.t 14)⟩, 
          ⟨some 17, none, .ixs (.t 12) (.t 14) 2⟩, 
          ⟨some 18, none, .ld (.t 17) 2 true⟩, 
          ⟨some 7, none, .al [.nils, .nils] true⟩, 
          ⟨some 6, none, .mov (.t 16)⟩, 
          ⟨none, none, .st (.t 7) (.t 18) 2⟩] [2, 5, 6, 7, 12, 13, 14] [2, 7])
        (.seq (.reg true [⟨some 19, none, .mov (.t 5)⟩, 
          ⟨some 20, none, .mov (.t 6)⟩, 
          ⟨some 21, none, .off (.t 7) 0⟩, 
          ⟨some 22, none, .ldl 7 (.t 21) 1 false⟩, 
          ⟨some 23, none, .call 140 [(.t 22)] false⟩, 
          ⟨some 24, none, .off (.t 7) 1⟩, 
          ⟨some 25, none, .ldl 7 (.t 24) 1 false⟩, 
          ⟨some 26, none, .call 141 [(.t 25)] false⟩, 
          ⟨some 27, none, .bld [.nils, .nils] [(0, 1, (.t 23)), (1, 1, (.t 26))]⟩, 
          ⟨some 28, none, .ixs (.t 19) (.t 20) 2⟩, 
          ⟨none, none, .st (.t 28) (.t 27) 2⟩] [2, 5, 6, 12, 13, 14] [2])
        (.seq (.reg false [⟨some 29, none, .mov (.t 5)⟩, 
          ⟨some 30, none, .mov (.t 6)⟩, 
          ⟨some 31, none, .ixs (.t 29) (.t 30) 2⟩, 
          ⟨some 32, none, .off (.t 31) 0⟩, 
          ⟨some 33, none, .ld (.t 32) 1 false⟩, 
          ⟨some 34, none, .len (.t 33)⟩, 
          ⟨some 35, none, .mov (.c (.p (.int .i64 0)))⟩] [2, 5, 6, 12, 13, 14, 34, 35] [2])
        (.block 2 lp95_0)))))
      (.reg false [⟨some 49, none, .bin .add (.t 14) (.c (.p (.int .i64 1)))⟩, 
        ⟨some 14, none, .mov (.t 49)⟩] [2, 5, 12, 13, 14] [2])))))
def ir95 : IFn :=   -- (tympan/grid.snapper).notes
⟨(.seq (.reg false [⟨some 2, none, .bx (.t 0) 1 true⟩, 
    ⟨some 4, none, .mov (.c (.nils))⟩] [1, 2] [2])
  (.seq (.reg false [⟨some 9, none, .mov (.t 1)⟩, 
    ⟨some 10, none, .len (.t 9)⟩, 
    ⟨some 11, none, .mks 2 [.nils, .nils] (.t 10)⟩, 
    ⟨some 5, none, .mov (.t 11)⟩] [1, 2, 5] [2])
  (.seq (.seq (.reg false [⟨some 12, none, .mov (.t 1)⟩, 
    ⟨some 13, none, .len (.t 12)⟩, 
    ⟨some 14, none, .mov (.c (.p (.int .i64 0)))⟩] [2, 5, 12, 13, 14] [2])
  (.block 0 lp95_1))
  (.seq (.reg false [⟨some 50, none, .mov (.t 5)⟩, 
    ⟨some 4, none, .mov (.t 50)⟩] [4] [])
  .ret)))),
  [.tmp 4], false⟩
def ir96 : IFn :=   -- slices.Clone[[]tympan/api.Float,tympan/api.Float]
⟨(.seq (.reg false [⟨some 2, none, .mov (.c (.nils))⟩] [0] [])
  (.seq (.seq (.reg false [⟨some 3, none, .mov (.t 0)⟩, 
    ⟨some 4, none, .eqn .sl false (.t 3)⟩] [0, 4] [])
  (.cond (.t 4)
  (.seq (.reg false [⟨some 2, none, .mov (.c (.nils))⟩] [2] [])
    .ret)
  .skip))
  (.seq (.reg false [⟨some 5, none, .bsl 3 0 [.p (.int .i64 0), .p (.int .i64 0), .p (.int .i64 0)] []⟩, 
    ⟨some 6, none, .mov (.t 0)⟩, 
    ⟨some 7, none, .app (.t 5) (.t 6) 3⟩, 
    ⟨some 2, none, .mov (.t 7)⟩] [2] [])
  .ret))),
  [.tmp 2], true⟩
def lp97_0 : IC :=
  (.loop [1, 3, 8, 9, 10] [3] (.seq (.reg false [⟨some 11, none, .bin .lss (.t 10) (.t 9)⟩] [1, 3, 8, 9, 10, 11] [3])
      (.seq (.cond (.t 11)
      .skip
      (.exit 0))
      (.seq (.block 1 (.seq (.reg false [⟨some 12, none, .ixs (.t 8) (.t 10) 1⟩, 
          ⟨some 13, none, .ld (.t 12) 1 false⟩, 
          ⟨some 7, none, .mov (.t 13)⟩] [1, 3, 7, 8, 9, 10] [3])
        (.reg true [⟨some 14, none, .mov (.t 7)⟩, 
          ⟨some 15, none, .mov (.t 1)⟩, 
          ⟨some 16, none, .mov (.t 7)⟩, 
          ⟨some 17, none, .nck (.t 16)⟩, 
          ⟨some 18, none, .ld (.t 17) 1 false⟩, 
          ⟨some 19, none, .off (.t 3) 0⟩, 
          ⟨some 20, none, .ldl 3 (.t 19) 1 false⟩, 
          ⟨some 21, none, .callv (.t 15) [(.t 18), (.t 20)] false⟩, 
          ⟨some 22, none, .nck (.t 14)⟩, 
          ⟨none, none, .st (.t 22) (.t 21) 1⟩] [1, 3, 8, 9, 10] [3])))
      (.reg false [⟨some 23, none, .bin .add (.t 10) (.c (.p (.int .i64 1)))⟩, 
        ⟨some 10, none, .mov (.t 23)⟩] [1, 3, 8, 9, 10] [3])))))
def ir97 : IFn :=   -- (tympan/grid.snapper).turn
⟨(.seq (.reg false [⟨some 3, none, .bx (.t 0) 1 true⟩] [1, 2, 3] [3])
  (.seq (.reg false [⟨some 8, none, .mov (.t 2)⟩, 
    ⟨some 9, none, .len (.t 8)⟩, 
    ⟨some 10, none, .mov (.c (.p (.int .i64 0)))⟩] [1, 3, 8, 9, 10] [3])
  (.block 0 lp97_0))),
  [], false⟩
def ir98 : IFn :=   -- tympan/grid.Down
⟨(.seq (.reg false [⟨some 4, none, .mov (.c (.p (.int .i64 0)))⟩] [0, 1] [])
  (.seq (.reg false [⟨some 5, none, .mov (.t 0)⟩, 
    ⟨some 6, none, .mov (.t 1)⟩, 
    ⟨some 7, none, .call 142 [(.t 5), (.t 6), (.c (.p (.fn 143)))] false⟩, 
    ⟨some 4, none, .mov (.t 7)⟩] [4] [])
  .ret)),
  [.tmp 4], false⟩
def ir99 : IFn :=   -- tympan/grid.Up
⟨(.seq (.reg false [⟨some 4, none, .mov (.c (.p (.int .i64 0)))⟩] [0, 1] [])
  (.seq (.reg false [⟨some 5, none, .mov (.t 0)⟩, 
    ⟨some 6, none, .mov (.t 1)⟩, 
    ⟨some 7, none, .call 142 [(.t 5), (.t 6), (.c (.p (.fn 144)))] false⟩, 
    ⟨some 4, none, .mov (.t 7)⟩] [4] [])
  .ret)),
  [.tmp 4], false⟩
def ir101 : IFn :=   -- tympan/grid.On$1
⟨(.seq (.reg false [⟨some 3, none, .mov (.c (.p (.bool false)))⟩] [0, 1] [])
  (.seq (.reg false [⟨some 4, none, .mov (.t 0)⟩, 
    ⟨some 5, none, .mkf (.func 103) [] [(.t 1)]⟩, 
    ⟨some 6, none, .call 102 [(.t 4), (.t 5)] false⟩, 
    ⟨some 3, none, .mov (.t 6)⟩] [3] [])
  .ret)),
  [.tmp 3], false⟩
def ir102 : IFn :=   -- slices.ContainsFunc[[]tympan/api.Sp,tympan/api.Sp]
⟨(.seq (.reg false [⟨some 4, none, .mov (.c (.p (.bool false)))⟩] [0, 1] [])
  (.seq (.reg false [⟨some 5, none, .mov (.t 0)⟩, 
    ⟨some 6, none, .mov (.t 1)⟩, 
    ⟨some 7, none, .call 145 [(.t 5), (.t 6)] false⟩, 
    ⟨some 8, none, .bin .geq (.t 7) (.c (.p (.int .i64 0)))⟩, 
    ⟨some 4, none, .mov (.t 8)⟩] [4] [])
  .ret)),
  [.tmp 4], false⟩
def ir103 : IFn :=   -- tympan/grid.On$1$1
⟨(.seq (.reg false [⟨some 3, none, .mov (.c (.p (.bool false)))⟩] [0, 1] [])
  (.seq (.reg false [⟨some 4, none, .mov (.t 0)⟩, 
    ⟨some 5, none, .ld (.t 1) 1 false⟩, 
    ⟨some 6, none, .bin .rem (.t 4) (.t 5)⟩, 
    ⟨some 7, none, .bin .neq (.t 6) (.c (.p (.int .i64 0)))⟩, 
    ⟨some 3, none, .mov (.t 7)⟩] [3] [])
  .ret)),
  [.tmp 3], false⟩
end Go.EnvOf
