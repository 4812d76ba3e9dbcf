/- The engine's instructions for the functions, part 0. -/
import Derived.Test.YtfjgcfloallohaaGreatDoorEngAll2
namespace Go.EnvOf
open Go Go.Eng
set_option maxRecDepth 100000
def lp3_0 : IC :=
  (.loop [3, 4, 5] [] (.seq (.seq (.reg false [⟨some 13, none, .mov (.t 5)⟩, 
        ⟨some 14, none, .mov (.t 3)⟩, 
        ⟨some 15, none, .len (.t 14)⟩, 
        ⟨some 16, none, .bin .lss (.t 13) (.t 15)⟩] [3, 4, 5, 16] [])
      (.cond (.t 16)
      .skip
      (.exit 0)))
      (.seq (.block 1 (.seq (.reg true [⟨some 19, none, .mov (.t 3)⟩, 
          ⟨some 20, none, .len (.t 19)⟩, 
          ⟨some 21, none, .mov (.t 4)⟩, 
          ⟨some 22, none, .len (.t 21)⟩, 
          ⟨some 23, none, .bin .neq (.t 20) (.t 22)⟩, 
          ⟨some 24, none, .mov (.t 23)⟩, 
          ⟨some 25, (some (24, false)), .mov (.t 3)⟩, 
          ⟨some 26, (some (24, false)), .mov (.t 5)⟩, 
          ⟨some 27, (some (24, false)), .ixs (.t 25) (.t 26) 2⟩, 
          ⟨some 28, (some (24, false)), .off (.t 27) 0⟩, 
          ⟨some 29, (some (24, false)), .ld (.t 28) 1 false⟩, 
          ⟨some 30, (some (24, false)), .mov (.t 4)⟩, 
          ⟨some 31, (some (24, false)), .mov (.t 5)⟩, 
          ⟨some 32, (some (24, false)), .ixs (.t 30) (.t 31) 2⟩, 
          ⟨some 33, (some (24, false)), .off (.t 32) 0⟩, 
          ⟨some 34, (some (24, false)), .ld (.t 33) 1 false⟩, 
          ⟨some 35, (some (24, false)), .bin .neq (.t 29) (.t 34)⟩, 
          ⟨some 36, none, .pick (.t 24) (.c (.p (.bool true))) (.t 35)⟩, 
          ⟨some 37, none, .mov (.t 36)⟩, 
          ⟨some 38, (some (37, false)), .mov (.t 3)⟩, 
          ⟨some 39, (some (37, false)), .mov (.t 5)⟩, 
          ⟨some 40, (some (37, false)), .ixs (.t 38) (.t 39) 2⟩, 
          ⟨some 41, (some (37, false)), .off (.t 40) 1⟩, 
          ⟨some 42, (some (37, false)), .ld (.t 41) 1 false⟩, 
          ⟨some 43, (some (37, false)), .mov (.t 4)⟩, 
          ⟨some 44, (some (37, false)), .mov (.t 5)⟩, 
          ⟨some 45, (some (37, false)), .ixs (.t 43) (.t 44) 2⟩, 
          ⟨some 46, (some (37, false)), .off (.t 45) 1⟩, 
          ⟨some 47, (some (37, false)), .ld (.t 46) 1 false⟩, 
          ⟨some 48, (some (37, false)), .bin .neq (.t 42) (.t 47)⟩, 
          ⟨some 49, none, .pick (.t 37) (.c (.p (.bool true))) (.t 48)⟩] [3, 4, 5, 49] [])
        (.cond (.t 49)
        (.seq (.reg false [⟨some 2, none, .mov (.c (.p (.bool false)))⟩] [2] [])
          .ret)
        .skip)))
      (.reg false [⟨some 17, none, .mov (.t 5)⟩, 
        ⟨some 18, none, .bin .add (.t 17) (.c (.p (.int .i64 1)))⟩, 
        ⟨some 5, none, .mov (.t 18)⟩] [3, 4, 5] []))))
def ir3 : IFn :=   -- tympan/tympanlaw50.LintTells
⟨(.seq (.reg false [⟨some 1, none, .bx (.t 0) 22 true⟩, 
    ⟨some 2, none, .mov (.c (.p (.bool false)))⟩] [1] [1])
  (.seq (.seq (.reg false [⟨some 6, none, .ld (.t 1) 22 true⟩, 
    ⟨some 7, none, .call 6 [(.t 6)] false⟩] [1, 7] [1])
  (.cond (.t 7)
  (.seq (.reg false [⟨some 8, none, .call 7 [] false⟩, 
      ⟨some 2, none, .mov (.t 8)⟩] [2] [])
    .ret)
  .skip))
  (.seq (.reg true [⟨some 9, none, .ldl 1 (.t 1) 22 true⟩, 
    ⟨some 10, none, .call 8 [(.t 9)] false⟩, 
    ⟨some 11, none, .ldl 1 (.t 1) 22 true⟩, 
    ⟨some 12, none, .call 9 [(.t 11)] false⟩, 
    ⟨some 3, none, .mov (.t 10)⟩, 
    ⟨some 4, none, .mov (.t 12)⟩] [3, 4] [])
  (.seq (.seq (.reg false [⟨some 5, none, .mov (.c (.p (.int .i64 0)))⟩] [3, 4, 5] [])
  (.block 0 lp3_0))
  (.seq (.reg false [⟨some 50, none, .mov (.t 3)⟩, 
    ⟨some 51, none, .len (.t 50)⟩, 
    ⟨some 52, none, .mov (.t 4)⟩, 
    ⟨some 53, none, .len (.t 52)⟩, 
    ⟨some 54, none, .bin .eql (.t 51) (.t 53)⟩, 
    ⟨some 55, none, .mov (.t 54)⟩, 
    ⟨some 56, (some (55, true)), .call 7 [] false⟩, 
    ⟨some 57, none, .pick (.t 55) (.t 56) (.c (.p (.bool false)))⟩, 
    ⟨some 2, none, .mov (.t 57)⟩] [2] [])
  .ret))))),
  [.tmp 2], false⟩
def lp4_0 : IC :=
  (.loop [0, 1, 5, 6] [] (.seq (.seq (.reg false [⟨some 13, none, .mov (.t 6)⟩, 
        ⟨some 14, none, .mov (.t 0)⟩, 
        ⟨some 15, none, .len (.t 14)⟩, 
        ⟨some 16, none, .bin .lss (.t 13) (.t 15)⟩] [0, 1, 5, 6, 16] [])
      (.cond (.t 16)
      .skip
      (.exit 0)))
      (.seq (.block 1 (.seq (.reg false [⟨some 19, none, .mov (.t 0)⟩, 
          ⟨some 20, none, .mov (.t 6)⟩, 
          ⟨some 21, none, .ixs (.t 19) (.t 20) 2⟩, 
          ⟨some 22, none, .off (.t 21) 0⟩, 
          ⟨some 23, none, .ld (.t 22) 1 false⟩, 
          ⟨some 24, none, .mov (.t 1)⟩, 
          ⟨some 25, none, .bin .eql (.t 23) (.t 24)⟩] [0, 1, 5, 6, 25] [])
        (.cond (.t 25)
        (.reg false [⟨some 26, none, .mov (.t 5)⟩, 
            ⟨some 27, none, .mov (.t 0)⟩, 
            ⟨some 28, none, .mov (.t 6)⟩, 
            ⟨some 29, none, .ixs (.t 27) (.t 28) 2⟩, 
            ⟨some 30, none, .ld (.t 29) 2 true⟩, 
            ⟨some 31, none, .bsl 2 1 [.p (.int .i64 0), .p (.int .i64 0)] [(0, (.t 30))]⟩, 
            ⟨some 32, none, .app (.t 26) (.t 31) 2⟩, 
            ⟨some 5, none, .mov (.t 32)⟩] [0, 1, 5, 6] [])
        .skip)))
      (.reg false [⟨some 17, none, .mov (.t 6)⟩, 
        ⟨some 18, none, .bin .add (.t 17) (.c (.p (.int .i64 1)))⟩, 
        ⟨some 6, none, .mov (.t 18)⟩] [0, 1, 5, 6] []))))
def lp4_1 : IC :=
  (.loop [1, 5, 7, 8] [] (.seq (.seq (.reg false [⟨some 36, none, .mov (.t 8)⟩, 
        ⟨some 37, none, .mov (.t 7)⟩, 
        ⟨some 38, none, .len (.t 37)⟩, 
        ⟨some 39, none, .bin .lss (.t 36) (.t 38)⟩] [1, 5, 7, 8, 39] [])
      (.cond (.t 39)
      .skip
      (.exit 2)))
      (.seq (.block 3 (.seq (.reg true [⟨some 42, none, .mov (.t 7)⟩, 
          ⟨some 43, none, .len (.t 42)⟩, 
          ⟨some 44, none, .mov (.t 5)⟩, 
          ⟨some 45, none, .len (.t 44)⟩, 
          ⟨some 46, none, .bin .neq (.t 43) (.t 45)⟩, 
          ⟨some 47, none, .mov (.t 46)⟩, 
          ⟨some 48, (some (47, false)), .mov (.t 7)⟩, 
          ⟨some 49, (some (47, false)), .mov (.t 8)⟩, 
          ⟨some 50, (some (47, false)), .ixs (.t 48) (.t 49) 2⟩, 
          ⟨some 51, (some (47, false)), .ld (.t 50) 2 true⟩, 
          ⟨some 52, (some (47, false)), .mov (.t 5)⟩, 
          ⟨some 53, (some (47, false)), .mov (.t 8)⟩, 
          ⟨some 54, (some (47, false)), .ixs (.t 52) (.t 53) 2⟩, 
          ⟨some 55, (some (47, false)), .ld (.t 54) 2 true⟩, 
          ⟨some 56, (some (47, false)), .eqa true [true, true] (.t 51) (.t 55)⟩, 
          ⟨some 57, none, .pick (.t 47) (.c (.p (.bool true))) (.t 56)⟩] [1, 5, 7, 8, 57] [])
        (.cond (.t 57)
        (.seq (.reg false [⟨some 4, none, .mov (.c (.p (.bool false)))⟩] [4] [])
          .ret)
        .skip)))
      (.reg false [⟨some 40, none, .mov (.t 8)⟩, 
        ⟨some 41, none, .bin .add (.t 40) (.c (.p (.int .i64 1)))⟩, 
        ⟨some 8, none, .mov (.t 41)⟩] [1, 5, 7, 8] []))))
def ir4 : IFn :=   -- tympan/tympanlaw50.LintKinds
⟨(.seq (.reg false [⟨some 4, none, .mov (.c (.p (.bool false)))⟩] [0, 1] [])
  (.seq (.seq (.reg false [⟨some 9, none, .mov (.t 0)⟩, 
    ⟨some 10, none, .len (.t 9)⟩, 
    ⟨some 11, none, .bin .gtr (.t 10) (.c (.p (.int .i64 60)))⟩] [0, 1, 11] [])
  (.cond (.t 11)
  (.seq (.reg false [⟨some 12, none, .call 7 [] false⟩, 
      ⟨some 4, none, .mov (.t 12)⟩] [4] [])
    .ret)
  .skip))
  (.seq (.reg false [⟨some 5, none, .nrow 2⟩] [0, 1, 5] [])
  (.seq (.seq (.reg false [⟨some 6, none, .mov (.c (.p (.int .i64 0)))⟩] [0, 1, 5, 6] [])
  (.block 0 lp4_0))
  (.seq (.reg false [⟨some 33, none, .mov (.t 0)⟩, 
    ⟨some 34, none, .mov (.t 1)⟩, 
    ⟨some 35, none, .call 10 [(.t 33), (.t 34)] false⟩, 
    ⟨some 7, none, .mov (.t 35)⟩] [1, 5, 7] [])
  (.seq (.seq (.reg false [⟨some 8, none, .mov (.c (.p (.int .i64 0)))⟩] [1, 5, 7, 8] [])
  (.block 2 lp4_1))
  (.seq (.reg false [⟨some 58, none, .mov (.t 7)⟩, 
    ⟨some 59, none, .len (.t 58)⟩, 
    ⟨some 60, none, .mov (.t 5)⟩, 
    ⟨some 61, none, .len (.t 60)⟩, 
    ⟨some 62, none, .bin .eql (.t 59) (.t 61)⟩, 
    ⟨some 63, none, .mov (.t 62)⟩, 
    ⟨some 64, (some (63, true)), .mov (.t 1)⟩, 
    ⟨some 65, (some (63, true)), .call 11 [(.t 64)] false⟩, 
    ⟨some 66, (some (63, true)), .mov (.t 1)⟩, 
    ⟨some 67, (some (63, true)), .call 12 [(.t 66)] false⟩, 
    ⟨some 68, (some (63, true)), .eqs false (.t 65) (.t 67)⟩, 
    ⟨some 69, none, .pick (.t 63) (.t 68) (.c (.p (.bool false)))⟩, 
    ⟨some 70, none, .mov (.t 69)⟩, 
    ⟨some 71, (some (70, true)), .call 7 [] false⟩, 
    ⟨some 72, none, .pick (.t 70) (.t 71) (.c (.p (.bool false)))⟩, 
    ⟨some 4, none, .mov (.t 72)⟩] [4] [])
  .ret))))))),
  [.tmp 4], false⟩
def lp5_0 : IC :=
  (.loop [1, 3, 4, 5, 6] [1] (.seq (.seq (.reg false [⟨some 44, none, .mov (.t 6)⟩, 
        ⟨some 45, none, .off (.t 1) 19⟩, 
        ⟨some 46, none, .ld (.t 45) 1 false⟩, 
        ⟨some 47, none, .len (.t 46)⟩, 
        ⟨some 48, none, .bin .lss (.t 44) (.t 47)⟩] [1, 3, 4, 5, 6, 48] [1])
      (.cond (.t 48)
      .skip
      (.exit 0)))
      (.seq (.block 1 (.seq (.reg true [⟨some 51, none, .mov (.t 4)⟩, 
          ⟨some 52, none, .mov (.t 51)⟩, 
          ⟨some 53, (some (52, true)), .off (.t 1) 19⟩, 
          ⟨some 54, (some (52, true)), .ldl 1 (.t 53) 1 false⟩, 
          ⟨some 55, (some (52, true)), .mov (.t 6)⟩, 
          ⟨some 56, (some (52, true)), .ixs (.t 54) (.t 55) 7⟩, 
          ⟨some 57, (some (52, true)), .off (.t 56) 0⟩, 
          ⟨some 58, (some (52, true)), .ld (.t 57) 1 false⟩, 
          ⟨some 59, (some (52, true)), .bin .neq (.t 58) (.c (.p (.int .i64 1)))⟩, 
          ⟨some 60, (some (52, true)), .mov (.t 59)⟩, 
          ⟨some 61, (some (60, false)), .off (.t 1) 19⟩, 
          ⟨some 62, (some (60, false)), .ldl 1 (.t 61) 1 false⟩, 
          ⟨some 63, (some (60, false)), .mov (.t 6)⟩, 
          ⟨some 64, (some (60, false)), .ixs (.t 62) (.t 63) 7⟩, 
          ⟨some 65, (some (60, false)), .off (.t 64) 1⟩, 
          ⟨some 66, (some (60, false)), .ld (.t 65) 1 false⟩, 
          ⟨some 67, (some (60, false)), .off (.t 1) 0⟩, 
          ⟨some 68, (some (60, false)), .off (.t 67) 3⟩, 
          ⟨some 69, (some (60, false)), .ldl 1 (.t 68) 1 false⟩, 
          ⟨some 70, (some (60, false)), .bin .leq (.t 66) (.t 69)⟩, 
          ⟨some 71, (some (52, true)), .pick (.t 60) (.c (.p (.bool true))) (.t 70)⟩, 
          ⟨some 72, none, .pick (.t 52) (.t 71) (.c (.p (.bool false)))⟩, 
          ⟨some 4, none, .mov (.t 72)⟩] [1, 3, 4, 5, 6] [1])
        (.reg false [⟨some 73, none, .mov (.t 5)⟩, 
          ⟨some 74, none, .mov (.t 73)⟩, 
          ⟨some 75, (some (74, true)), .off (.t 1) 19⟩, 
          ⟨some 76, (some (74, true)), .ld (.t 75) 1 false⟩, 
          ⟨some 77, (some (74, true)), .mov (.t 6)⟩, 
          ⟨some 78, (some (74, true)), .ixs (.t 76) (.t 77) 7⟩, 
          ⟨some 79, (some (74, true)), .off (.t 78) 0⟩, 
          ⟨some 80, (some (74, true)), .ld (.t 79) 1 false⟩, 
          ⟨some 81, (some (74, true)), .bin .neq (.t 80) (.c (.p (.int .i64 3)))⟩, 
          ⟨some 82, none, .pick (.t 74) (.t 81) (.c (.p (.bool false)))⟩, 
          ⟨some 5, none, .mov (.t 82)⟩] [1, 3, 4, 5, 6] [1])))
      (.reg false [⟨some 49, none, .mov (.t 6)⟩, 
        ⟨some 50, none, .bin .add (.t 49) (.c (.p (.int .i64 1)))⟩, 
        ⟨some 6, none, .mov (.t 50)⟩] [1, 3, 4, 5, 6] [1]))))
def ir5 : IFn :=   -- tympan/tympanlaw50.LintLow
⟨(.seq (.reg false [⟨some 1, none, .bx (.t 0) 22 true⟩, 
    ⟨some 2, none, .mov (.c (.p (.bool false)))⟩] [1] [1])
  (.seq (.seq (.reg false [⟨some 7, none, .ld (.t 1) 22 true⟩, 
    ⟨some 8, none, .call 6 [(.t 7)] false⟩, 
    ⟨some 9, none, .mov (.t 8)⟩, 
    ⟨some 10, (some (9, false)), .ld (.t 1) 22 true⟩, 
    ⟨some 11, (some (9, false)), .call 13 [(.t 10)] false⟩, 
    ⟨some 12, (some (9, false)), .fldv (.t 11) 0 1 false⟩, 
    ⟨some 13, (some (9, false)), .bin .neq (.t 12) (.c (.p (.int .i64 0)))⟩, 
    ⟨some 14, none, .pick (.t 9) (.c (.p (.bool true))) (.t 13)⟩] [1, 14] [1])
  (.cond (.t 14)
  (.seq (.reg false [⟨some 15, none, .ld (.t 1) 22 true⟩, 
      ⟨some 16, none, .call 6 [(.t 15)] false⟩, 
      ⟨some 17, none, .mov (.t 16)⟩, 
      ⟨some 18, (some (17, false)), .ld (.t 1) 22 true⟩, 
      ⟨some 19, (some (17, false)), .call 8 [(.t 18)] false⟩, 
      ⟨some 20, (some (17, false)), .len (.t 19)⟩, 
      ⟨some 21, (some (17, false)), .bin .eql (.t 20) (.c (.p (.int .i64 0)))⟩, 
      ⟨some 22, none, .pick (.t 17) (.c (.p (.bool true))) (.t 21)⟩, 
      ⟨some 23, none, .mov (.t 22)⟩, 
      ⟨some 24, (some (23, true)), .call 7 [] false⟩, 
      ⟨some 25, none, .pick (.t 23) (.t 24) (.c (.p (.bool false)))⟩, 
      ⟨some 2, none, .mov (.t 25)⟩] [2] [])
    .ret)
  .skip))
  (.seq (.reg false [⟨some 26, none, .ld (.t 1) 22 true⟩, 
    ⟨some 27, none, .call 8 [(.t 26)] false⟩, 
    ⟨some 3, none, .mov (.t 27)⟩] [1, 3] [1])
  (.seq (.reg true [⟨some 28, none, .off (.t 1) 0⟩, 
    ⟨some 29, none, .off (.t 28) 5⟩, 
    ⟨some 30, none, .ldl 1 (.t 29) 1 false⟩, 
    ⟨some 31, none, .bin .eql (.t 30) (.c (.p (.int .i64 0)))⟩, 
    ⟨some 32, none, .off (.t 1) 19⟩, 
    ⟨some 33, none, .ldl 1 (.t 32) 1 false⟩, 
    ⟨some 34, none, .len (.t 33)⟩, 
    ⟨some 35, none, .bin .gtr (.t 34) (.c (.p (.int .i64 0)))⟩, 
    ⟨some 36, none, .mov (.t 35)⟩, 
    ⟨some 37, (some (36, true)), .off (.t 1) 19⟩, 
    ⟨some 38, (some (36, true)), .ldl 1 (.t 37) 1 false⟩, 
    ⟨some 39, (some (36, true)), .ixs (.t 38) (.c (.p (.int .i64 0))) 7⟩, 
    ⟨some 40, (some (36, true)), .off (.t 39) 0⟩, 
    ⟨some 41, (some (36, true)), .ld (.t 40) 1 false⟩, 
    ⟨some 42, (some (36, true)), .bin .eql (.t 41) (.c (.p (.int .i64 1)))⟩, 
    ⟨some 43, none, .pick (.t 36) (.t 42) (.c (.p (.bool false)))⟩, 
    ⟨some 4, none, .mov (.t 31)⟩, 
    ⟨some 5, none, .mov (.t 43)⟩] [1, 3, 4, 5] [1])
  (.seq (.seq (.reg false [⟨some 6, none, .mov (.c (.p (.int .i64 0)))⟩] [1, 3, 4, 5, 6] [1])
  (.block 0 lp5_0))
  (.seq (.seq (.reg false [⟨some 83, none, .mov (.t 4)⟩, 
    ⟨some 84, none, .mov (.t 83)⟩, 
    ⟨some 85, (some (84, true)), .mov (.t 3)⟩, 
    ⟨some 86, (some (84, true)), .call 10 [(.t 85), (.c (.p (.int .i64 1)))] false⟩, 
    ⟨some 87, (some (84, true)), .len (.t 86)⟩, 
    ⟨some 88, (some (84, true)), .bin .gtr (.t 87) (.c (.p (.int .i64 0)))⟩, 
    ⟨some 89, none, .pick (.t 84) (.t 88) (.c (.p (.bool false)))⟩, 
    ⟨some 90, none, .mov (.t 89)⟩, 
    ⟨some 91, (some (90, false)), .mov (.t 5)⟩, 
    ⟨some 92, (some (90, false)), .mov (.t 91)⟩, 
    ⟨some 93, (some (92, true)), .mov (.t 3)⟩, 
    ⟨some 94, (some (92, true)), .call 10 [(.t 93), (.c (.p (.int .i64 4)))] false⟩, 
    ⟨some 95, (some (92, true)), .len (.t 94)⟩, 
    ⟨some 96, (some (92, true)), .mov (.t 3)⟩, 
    ⟨some 97, (some (92, true)), .call 10 [(.t 96), (.c (.p (.int .i64 5)))] false⟩, 
    ⟨some 98, (some (92, true)), .len (.t 97)⟩, 
    ⟨some 99, (some (92, true)), .bin .add (.t 95) (.t 98)⟩, 
    ⟨some 100, (some (92, true)), .bin .gtr (.t 99) (.c (.p (.int .i64 0)))⟩, 
    ⟨some 101, (some (90, false)), .pick (.t 92) (.t 100) (.c (.p (.bool false)))⟩, 
    ⟨some 102, none, .pick (.t 90) (.c (.p (.bool true))) (.t 101)⟩] [1, 3, 102] [1])
  (.cond (.t 102)
  (.seq (.reg false [⟨some 2, none, .mov (.c (.p (.bool false)))⟩] [2] [])
    .ret)
  .skip))
  (.seq (.reg false [⟨some 103, none, .off (.t 1) 21⟩, 
    ⟨some 104, none, .ld (.t 103) 1 false⟩, 
    ⟨some 105, none, .len (.t 104)⟩, 
    ⟨some 106, none, .bin .gtr (.t 105) (.c (.p (.int .i64 0)))⟩, 
    ⟨some 107, none, .mov (.t 106)⟩, 
    ⟨some 108, (some (107, false)), .mov (.t 3)⟩, 
    ⟨some 109, (some (107, false)), .call 10 [(.t 108), (.c (.p (.int .i64 3)))] false⟩, 
    ⟨some 110, (some (107, false)), .len (.t 109)⟩, 
    ⟨some 111, (some (107, false)), .bin .eql (.t 110) (.c (.p (.int .i64 0)))⟩, 
    ⟨some 112, none, .pick (.t 107) (.c (.p (.bool true))) (.t 111)⟩, 
    ⟨some 113, none, .mov (.t 112)⟩, 
    ⟨some 114, (some (113, true)), .off (.t 1) 20⟩, 
    ⟨some 115, (some (113, true)), .ld (.t 114) 1 false⟩, 
    ⟨some 116, (some (113, true)), .len (.t 115)⟩, 
    ⟨some 117, (some (113, true)), .bin .gtr (.t 116) (.c (.p (.int .i64 0)))⟩, 
    ⟨some 118, (some (113, true)), .mov (.t 117)⟩, 
    ⟨some 119, (some (118, false)), .mov (.t 3)⟩, 
    ⟨some 120, (some (118, false)), .call 10 [(.t 119), (.c (.p (.int .i64 2)))] false⟩, 
    ⟨some 121, (some (118, false)), .len (.t 120)⟩, 
    ⟨some 122, (some (118, false)), .bin .eql (.t 121) (.c (.p (.int .i64 0)))⟩, 
    ⟨some 123, (some (113, true)), .pick (.t 118) (.c (.p (.bool true))) (.t 122)⟩, 
    ⟨some 124, none, .pick (.t 113) (.t 123) (.c (.p (.bool false)))⟩, 
    ⟨some 125, none, .mov (.t 124)⟩, 
    ⟨some 126, (some (125, true)), .call 7 [] false⟩, 
    ⟨some 127, none, .pick (.t 125) (.t 126) (.c (.p (.bool false)))⟩, 
    ⟨some 2, none, .mov (.t 127)⟩] [2] [])
  .ret))))))),
  [.tmp 2], false⟩
def lp6_0 : IC :=
  (.loop [1, 3] [1] (.seq (.seq (.reg false [⟨some 4, none, .mov (.t 3)⟩, 
        ⟨some 5, none, .off (.t 1) 20⟩, 
        ⟨some 6, none, .ld (.t 5) 1 false⟩, 
        ⟨some 7, none, .len (.t 6)⟩, 
        ⟨some 8, none, .bin .lss (.t 4) (.t 7)⟩, 
        ⟨some 9, none, .mov (.t 8)⟩, 
        ⟨some 10, (some (9, true)), .mov (.t 3)⟩, 
        ⟨some 11, (some (9, true)), .bin .lss (.t 10) (.c (.p (.int .i64 100)))⟩, 
        ⟨some 12, none, .pick (.t 9) (.t 11) (.c (.p (.bool false)))⟩] [1, 3, 12] [1])
      (.cond (.t 12)
      .skip
      (.exit 0)))
      (.seq (.block 1 (.seq (.reg false [⟨some 15, none, .off (.t 1) 20⟩, 
          ⟨some 16, none, .ld (.t 15) 1 false⟩, 
          ⟨some 17, none, .mov (.t 3)⟩, 
          ⟨some 18, none, .ixs (.t 16) (.t 17) 2⟩, 
          ⟨some 19, none, .off (.t 18) 0⟩, 
          ⟨some 20, none, .ld (.t 19) 1 false⟩, 
          ⟨some 21, none, .len (.t 20)⟩, 
          ⟨some 22, none, .bin .gtr (.t 21) (.c (.p (.int .i64 100)))⟩, 
          ⟨some 23, none, .mov (.t 22)⟩, 
          ⟨some 24, (some (23, false)), .off (.t 1) 20⟩, 
          ⟨some 25, (some (23, false)), .ld (.t 24) 1 false⟩, 
          ⟨some 26, (some (23, false)), .mov (.t 3)⟩, 
          ⟨some 27, (some (23, false)), .ixs (.t 25) (.t 26) 2⟩, 
          ⟨some 28, (some (23, false)), .off (.t 27) 1⟩, 
          ⟨some 29, (some (23, false)), .ld (.t 28) 1 false⟩, 
          ⟨some 30, (some (23, false)), .len (.t 29)⟩, 
          ⟨some 31, (some (23, false)), .bin .gtr (.t 30) (.c (.p (.int .i64 100)))⟩, 
          ⟨some 32, none, .pick (.t 23) (.c (.p (.bool true))) (.t 31)⟩] [1, 3, 32] [1])
        (.cond (.t 32)
        (.seq (.reg false [⟨some 2, none, .mov (.c (.p (.bool true)))⟩] [2] [])
          .ret)
        .skip)))
      (.reg false [⟨some 13, none, .mov (.t 3)⟩, 
        ⟨some 14, none, .bin .add (.t 13) (.c (.p (.int .i64 1)))⟩, 
        ⟨some 3, none, .mov (.t 14)⟩] [1, 3] [1]))))
def ir6 : IFn :=   -- tympan/tympanlaw14.Large
⟨(.seq (.reg false [⟨some 1, none, .bx (.t 0) 22 true⟩, 
    ⟨some 2, none, .mov (.c (.p (.bool false)))⟩] [1] [1])
  (.seq (.seq (.reg false [⟨some 3, none, .mov (.c (.p (.int .i64 0)))⟩] [1, 3] [1])
  (.block 0 lp6_0))
  (.seq (.reg false [⟨some 33, none, .off (.t 1) 19⟩, 
    ⟨some 34, none, .ld (.t 33) 1 false⟩, 
    ⟨some 35, none, .len (.t 34)⟩, 
    ⟨some 36, none, .bin .gtr (.t 35) (.c (.p (.int .i64 100)))⟩, 
    ⟨some 37, none, .mov (.t 36)⟩, 
    ⟨some 38, (some (37, false)), .off (.t 1) 20⟩, 
    ⟨some 39, (some (37, false)), .ld (.t 38) 1 false⟩, 
    ⟨some 40, (some (37, false)), .len (.t 39)⟩, 
    ⟨some 41, (some (37, false)), .bin .gtr (.t 40) (.c (.p (.int .i64 100)))⟩, 
    ⟨some 42, none, .pick (.t 37) (.c (.p (.bool true))) (.t 41)⟩, 
    ⟨some 43, none, .mov (.t 42)⟩, 
    ⟨some 44, (some (43, false)), .off (.t 1) 21⟩, 
    ⟨some 45, (some (43, false)), .ld (.t 44) 1 false⟩, 
    ⟨some 46, (some (43, false)), .len (.t 45)⟩, 
    ⟨some 47, (some (43, false)), .bin .gtr (.t 46) (.c (.p (.int .i64 100)))⟩, 
    ⟨some 48, none, .pick (.t 43) (.c (.p (.bool true))) (.t 47)⟩, 
    ⟨some 2, none, .mov (.t 48)⟩] [2] [])
  .ret))),
  [.tmp 2], false⟩
def ir7 : IFn :=   -- tympan/tympanlaw50.awake
⟨(.seq (.reg false [⟨some 0, none, .mov (.c (.p (.bool false)))⟩] [] [])
  (.seq (.reg false [⟨some 2, none, .bld [.p (.int .i64 0), .p (.int .i64 0), .p (.int .i64 0), .p (.int .i64 0), .p (.int .i64 0), .p (.int .i64 0), .p (.int .i64 0), .p (.int .i64 0), .p (.int .i64 0), .p (.int .i64 0), .p (.int .i64 0), .p (.int .i64 0), .p (.int .i64 0), .p (.int .i64 0), .p (.int .i64 0), .p (.int .i64 0), .p (.int .i64 0), .p (.int .i64 0), .p (.bool false)] [(0, 1, (.c (.p (.int .i64 1)))), (1, 1, (.c (.p (.int .i64 1)))), (3, 1, (.c (.p (.int .i64 9)))), (4, 1, (.c (.p (.int .i64 9))))]⟩, 
    ⟨some 3, none, .bld [.p (.int .i64 0), .p (.int .i64 0), .p (.int .i64 0), .p (.int .i64 0), .p (.int .i64 0), .p (.int .i64 0), .p (.int .i64 0)] [(0, 1, (.c (.p (.int .i64 2))))]⟩, 
    ⟨some 4, none, .bld [.p (.int .i64 0), .p (.int .i64 0), .p (.int .i64 0), .p (.int .i64 0), .p (.int .i64 0), .p (.int .i64 0), .p (.int .i64 0)] [(0, 1, (.c (.p (.int .i64 1)))), (1, 1, (.c (.p (.int .i64 10))))]⟩, 
    ⟨some 5, none, .bld [.p (.int .i64 0), .p (.int .i64 0), .p (.int .i64 0), .p (.int .i64 0), .p (.int .i64 0), .p (.int .i64 0), .p (.int .i64 0)] [(0, 1, (.c (.p (.int .i64 3))))]⟩, 
    ⟨some 6, none, .bld [.p (.int .i64 0), .p (.int .i64 0), .p (.int .i64 0), .p (.int .i64 0), .p (.int .i64 0), .p (.int .i64 0), .p (.int .i64 0)] [(0, 1, (.c (.p (.int .i64 2))))]⟩, 
    ⟨some 7, none, .bsl 7 4 [.p (.int .i64 0), .p (.int .i64 0), .p (.int .i64 0), .p (.int .i64 0), .p (.int .i64 0), .p (.int .i64 0), .p (.int .i64 0)] [(0, (.t 3)), (1, (.t 4)), (2, (.t 5)), (3, (.t 6))]⟩, 
    ⟨some 8, none, .bld [.p (.int .i64 0), .p (.int .i64 0), .p (.int .i64 0), .p (.int .i64 0), .p (.int .i64 0), .p (.int .i64 0), .p (.int .i64 0), .p (.int .i64 0), .p (.int .i64 0), .p (.int .i64 0), .p (.int .i64 0), .p (.int .i64 0), .p (.int .i64 0), .p (.int .i64 0), .p (.int .i64 0), .p (.int .i64 0), .p (.int .i64 0), .p (.int .i64 0), .p (.bool false), .nils, .nils, .nils] [(0, 19, (.t 2)), (19, 1, (.t 7))]⟩, 
    ⟨some 9, none, .call 8 [(.t 8)] false⟩, 
    ⟨some 1, none, .mov (.t 9)⟩] [1] [])
  (.seq (.reg false [⟨some 10, none, .mov (.t 1)⟩, 
    ⟨some 11, none, .len (.t 10)⟩, 
    ⟨some 12, none, .bin .eql (.t 11) (.c (.p (.int .i64 3)))⟩, 
    ⟨some 13, none, .mov (.t 12)⟩, 
    ⟨some 14, (some (13, true)), .mov (.t 1)⟩, 
    ⟨some 15, (some (13, true)), .ixs (.t 14) (.c (.p (.int .i64 0))) 2⟩, 
    ⟨some 16, (some (13, true)), .ld (.t 15) 2 true⟩, 
    ⟨some 17, (some (13, true)), .bld [.p (.int .i64 0), .p (.int .i64 0)] [(0, 1, (.c (.p (.int .i64 4))))]⟩, 
    ⟨some 18, (some (13, true)), .eqa false [true, true] (.t 16) (.t 17)⟩, 
    ⟨some 19, none, .pick (.t 13) (.t 18) (.c (.p (.bool false)))⟩, 
    ⟨some 20, none, .mov (.t 19)⟩, 
    ⟨some 21, (some (20, true)), .mov (.t 1)⟩, 
    ⟨some 22, (some (20, true)), .ixs (.t 21) (.c (.p (.int .i64 1))) 2⟩, 
    ⟨some 23, (some (20, true)), .ld (.t 22) 2 true⟩, 
    ⟨some 24, (some (20, true)), .bld [.p (.int .i64 0), .p (.int .i64 0)] [(0, 1, (.c (.p (.int .i64 1)))), (1, 1, (.c (.p (.int .i64 1))))]⟩, 
    ⟨some 25, (some (20, true)), .eqa false [true, true] (.t 23) (.t 24)⟩, 
    ⟨some 26, none, .pick (.t 20) (.t 25) (.c (.p (.bool false)))⟩, 
    ⟨some 27, none, .mov (.t 26)⟩, 
    ⟨some 28, (some (27, true)), .mov (.t 1)⟩, 
    ⟨some 29, (some (27, true)), .ixs (.t 28) (.c (.p (.int .i64 2))) 2⟩, 
    ⟨some 30, (some (27, true)), .ld (.t 29) 2 true⟩, 
    ⟨some 31, (some (27, true)), .bld [.p (.int .i64 0), .p (.int .i64 0)] [(0, 1, (.c (.p (.int .i64 5)))), (1, 1, (.c (.p (.int .i64 2))))]⟩, 
    ⟨some 32, (some (27, true)), .eqa false [true, true] (.t 30) (.t 31)⟩, 
    ⟨some 33, none, .pick (.t 27) (.t 32) (.c (.p (.bool false)))⟩, 
    ⟨some 34, none, .mov (.t 33)⟩, 
    ⟨some 35, (some (34, true)), .call 11 [(.c (.p (.int .i64 3)))] false⟩, 
    ⟨some 36, (some (34, true)), .eqs false (.t 35) (.c (.p (.str ⟨#[115, 116, 117, 99, 107]⟩)))⟩, 
    ⟨some 37, none, .pick (.t 34) (.t 36) (.c (.p (.bool false)))⟩, 
    ⟨some 0, none, .mov (.t 37)⟩] [0] [])
  .ret))),
  [.tmp 0], false⟩
def lp8_0 : IC :=
  (.loop [3, 19, 20, 21] [] (.seq (.reg false [⟨some 22, none, .bin .lss (.t 21) (.t 20)⟩] [3, 19, 20, 21, 22] [])
      (.seq (.cond (.t 22)
      .skip
      (.exit 0))
      (.seq (.block 1 (.seq (.reg false [⟨some 23, none, .ixs (.t 19) (.t 21) 1⟩, 
          ⟨some 24, none, .ld (.t 23) 1 false⟩, 
          ⟨some 5, none, .mov (.t 24)⟩] [3, 5, 19, 20, 21] [])
        (.reg false [⟨some 25, none, .mov (.t 5)⟩, 
          ⟨some 26, none, .callv (.t 25) [] false⟩] [3, 19, 20, 21] [])))
      (.reg false [⟨some 27, none, .bin .add (.t 21) (.c (.p (.int .i64 1)))⟩, 
        ⟨some 21, none, .mov (.t 27)⟩] [3, 19, 20, 21] [])))))
def ir8 : IFn :=   -- tympan/lint.Of
⟨(.seq (.reg false [⟨some 1, none, .bx (.t 0) 22 true⟩, 
    ⟨some 2, none, .mov (.c (.nils))⟩] [1] [1])
  (.seq (.seq (.reg false [⟨some 6, none, .ld (.t 1) 22 true⟩, 
    ⟨some 7, none, .call 14 [(.t 6)] false⟩, 
    ⟨some 8, none, .un .not (.t 7)⟩] [1, 8] [1])
  (.cond (.t 8)
  (.seq (.reg false [⟨some 2, none, .mov (.c (.nils))⟩] [2] [])
    .ret)
  .skip))
  (.seq (.reg false [⟨some 9, none, .ld (.t 1) 22 true⟩, 
    ⟨some 10, none, .call 15 [(.t 9)] false⟩, 
    ⟨some 11, none, .bld [.p (.int .i64 0), .p (.int .i64 0), .p (.int .i64 0), .p (.int .i64 0), .p (.int .i64 0), .p (.int .i64 0), .p (.int .i64 0), .p (.int .i64 0), .p (.int .i64 0), .p (.int .i64 0), .p (.int .i64 0), .p (.int .i64 0), .p (.int .i64 0), .p (.int .i64 0), .p (.int .i64 0), .p (.int .i64 0), .p (.int .i64 0), .p (.int .i64 0), .p (.bool false), .nils, .nils, .nils, .nils] [(0, 22, (.t 10))]⟩, 
    ⟨some 12, none, .bx (.t 11) 23 false⟩, 
    ⟨some 3, none, .mov (.t 12)⟩] [3] [])
  (.seq (.seq (.reg false [⟨some 13, none, .mov (.t 3)⟩, 
    ⟨some 14, none, .mkf (.func 16) [(.t 13)] []⟩, 
    ⟨some 15, none, .mov (.t 3)⟩, 
    ⟨some 16, none, .mkf (.func 17) [(.t 15)] []⟩, 
    ⟨some 17, none, .mov (.t 3)⟩, 
    ⟨some 18, none, .mkf (.func 18) [(.t 17)] []⟩, 
    ⟨some 19, none, .bsl 1 3 [.p .nilf] [(0, (.t 14)), (1, (.t 16)), (2, (.t 18))]⟩, 
    ⟨some 20, none, .len (.t 19)⟩, 
    ⟨some 21, none, .mov (.c (.p (.int .i64 0)))⟩] [3, 19, 20, 21] [])
  (.block 0 lp8_0))
  (.seq (.reg false [⟨some 28, none, .mov (.t 3)⟩, 
    ⟨some 29, none, .nck (.t 28)⟩, 
    ⟨some 30, none, .off (.t 29) 22⟩, 
    ⟨some 31, none, .ld (.t 30) 1 false⟩, 
    ⟨some 2, none, .mov (.t 31)⟩] [2] [])
  .ret))))),
  [.tmp 2], false⟩
def lp9_0 : IC :=
  (.loop [3, 4, 5] [3] (.seq (.seq (.reg false [⟨some 15, none, .mov (.t 5)⟩, 
        ⟨some 16, none, .off (.t 3) 19⟩, 
        ⟨some 17, none, .ld (.t 16) 1 false⟩, 
        ⟨some 18, none, .len (.t 17)⟩, 
        ⟨some 19, none, .bin .lss (.t 15) (.t 18)⟩] [3, 4, 5, 19] [3])
      (.cond (.t 19)
      .skip
      (.exit 0)))
      (.seq (.block 1 (.seq (.seq (.reg true [⟨some 22, none, .off (.t 3) 19⟩, 
          ⟨some 23, none, .ldl 3 (.t 22) 1 false⟩, 
          ⟨some 24, none, .mov (.t 5)⟩, 
          ⟨some 25, none, .ixs (.t 23) (.t 24) 7⟩, 
          ⟨some 26, none, .off (.t 25) 0⟩, 
          ⟨some 27, none, .ld (.t 26) 1 false⟩, 
          ⟨some 28, none, .bin .eql (.t 27) (.c (.p (.int .i64 1)))⟩, 
          ⟨some 29, none, .mov (.t 28)⟩, 
          ⟨some 30, (some (29, true)), .off (.t 3) 19⟩, 
          ⟨some 31, (some (29, true)), .ldl 3 (.t 30) 1 false⟩, 
          ⟨some 32, (some (29, true)), .mov (.t 5)⟩, 
          ⟨some 33, (some (29, true)), .ixs (.t 31) (.t 32) 7⟩, 
          ⟨some 34, (some (29, true)), .off (.t 33) 1⟩, 
          ⟨some 35, (some (29, true)), .ld (.t 34) 1 false⟩, 
          ⟨some 36, (some (29, true)), .off (.t 3) 0⟩, 
          ⟨some 37, (some (29, true)), .off (.t 36) 3⟩, 
          ⟨some 38, (some (29, true)), .ldl 3 (.t 37) 1 false⟩, 
          ⟨some 39, (some (29, true)), .bin .gtr (.t 35) (.t 38)⟩, 
          ⟨some 40, none, .pick (.t 29) (.t 39) (.c (.p (.bool false)))⟩] [3, 4, 5, 40] [3])
        (.cond (.t 40)
        (.reg false [⟨some 41, none, .mov (.t 4)⟩, 
            ⟨some 42, none, .mov (.t 5)⟩, 
            ⟨some 43, none, .bld [.p (.int .i64 0), .p (.int .i64 0)] [(0, 1, (.c (.p (.int .i64 1)))), (1, 1, (.t 42))]⟩, 
            ⟨some 44, none, .bsl 2 1 [.p (.int .i64 0), .p (.int .i64 0)] [(0, (.t 43))]⟩, 
            ⟨some 45, none, .app (.t 41) (.t 44) 2⟩, 
            ⟨some 4, none, .mov (.t 45)⟩] [3, 4, 5] [3])
        .skip))
        (.seq (.seq (.reg false [⟨some 46, none, .off (.t 3) 19⟩, 
          ⟨some 47, none, .ld (.t 46) 1 false⟩, 
          ⟨some 48, none, .mov (.t 5)⟩, 
          ⟨some 49, none, .call 20 [(.t 47), (.t 48)] false⟩] [3, 4, 5, 49] [3])
        (.cond (.t 49)
        (.reg false [⟨some 50, none, .mov (.t 4)⟩, 
            ⟨some 51, none, .mov (.t 5)⟩, 
            ⟨some 52, none, .bld [.p (.int .i64 0), .p (.int .i64 0)] [(0, 1, (.c (.p (.int .i64 4)))), (1, 1, (.t 51))]⟩, 
            ⟨some 53, none, .bsl 2 1 [.p (.int .i64 0), .p (.int .i64 0)] [(0, (.t 52))]⟩, 
            ⟨some 54, none, .app (.t 50) (.t 53) 2⟩, 
            ⟨some 4, none, .mov (.t 54)⟩] [3, 4, 5] [3])
        .skip))
        (.seq (.reg false [⟨some 55, none, .off (.t 3) 19⟩, 
          ⟨some 56, none, .ld (.t 55) 1 false⟩, 
          ⟨some 57, none, .mov (.t 5)⟩, 
          ⟨some 58, none, .call 21 [(.t 56), (.t 57)] false⟩] [3, 4, 5, 58] [3])
        (.cond (.t 58)
        (.reg false [⟨some 59, none, .mov (.t 4)⟩, 
            ⟨some 60, none, .mov (.t 5)⟩, 
            ⟨some 61, none, .bld [.p (.int .i64 0), .p (.int .i64 0)] [(0, 1, (.c (.p (.int .i64 5)))), (1, 1, (.t 60))]⟩, 
            ⟨some 62, none, .bsl 2 1 [.p (.int .i64 0), .p (.int .i64 0)] [(0, (.t 61))]⟩, 
            ⟨some 63, none, .app (.t 59) (.t 62) 2⟩, 
            ⟨some 4, none, .mov (.t 63)⟩] [3, 4, 5] [3])
        .skip)))))
      (.reg false [⟨some 20, none, .mov (.t 5)⟩, 
        ⟨some 21, none, .bin .add (.t 20) (.c (.p (.int .i64 1)))⟩, 
        ⟨some 5, none, .mov (.t 21)⟩] [3, 4, 5] [3]))))
def lp9_1 : IC :=
  (.loop [3, 4, 6] [3] (.seq (.seq (.reg false [⟨some 64, none, .mov (.t 6)⟩, 
        ⟨some 65, none, .off (.t 3) 20⟩, 
        ⟨some 66, none, .ld (.t 65) 1 false⟩, 
        ⟨some 67, none, .len (.t 66)⟩, 
        ⟨some 68, none, .bin .lss (.t 64) (.t 67)⟩] [3, 4, 6, 68] [3])
      (.cond (.t 68)
      .skip
      (.exit 2)))
      (.seq (.block 3 (.seq (.reg true [⟨some 71, none, .off (.t 3) 0⟩, 
          ⟨some 72, none, .ldl 3 (.t 71) 19 true⟩, 
          ⟨some 73, none, .off (.t 3) 20⟩, 
          ⟨some 74, none, .ldl 3 (.t 73) 1 false⟩, 
          ⟨some 75, none, .mov (.t 6)⟩, 
          ⟨some 76, none, .ixs (.t 74) (.t 75) 2⟩, 
          ⟨some 77, none, .ld (.t 76) 2 true⟩, 
          ⟨some 78, none, .call 22 [(.t 72), (.t 77)] false⟩] [3, 4, 6, 78] [3])
        (.cond (.t 78)
        (.reg false [⟨some 79, none, .mov (.t 4)⟩, 
            ⟨some 80, none, .mov (.t 6)⟩, 
            ⟨some 81, none, .bld [.p (.int .i64 0), .p (.int .i64 0)] [(0, 1, (.c (.p (.int .i64 2)))), (1, 1, (.t 80))]⟩, 
            ⟨some 82, none, .bsl 2 1 [.p (.int .i64 0), .p (.int .i64 0)] [(0, (.t 81))]⟩, 
            ⟨some 83, none, .app (.t 79) (.t 82) 2⟩, 
            ⟨some 4, none, .mov (.t 83)⟩] [3, 4, 6] [3])
        .skip)))
      (.reg false [⟨some 69, none, .mov (.t 6)⟩, 
        ⟨some 70, none, .bin .add (.t 69) (.c (.p (.int .i64 1)))⟩, 
        ⟨some 6, none, .mov (.t 70)⟩] [3, 4, 6] [3]))))
def lp9_2 : IC :=
  (.loop [3, 4, 7] [3] (.seq (.seq (.reg false [⟨some 84, none, .mov (.t 7)⟩, 
        ⟨some 85, none, .off (.t 3) 21⟩, 
        ⟨some 86, none, .ld (.t 85) 1 false⟩, 
        ⟨some 87, none, .len (.t 86)⟩, 
        ⟨some 88, none, .bin .lss (.t 84) (.t 87)⟩] [3, 4, 7, 88] [3])
      (.cond (.t 88)
      .skip
      (.exit 4)))
      (.seq (.block 5 (.seq (.reg false [⟨some 91, none, .mov (.t 7)⟩, 
          ⟨some 92, none, .bsl 1 1 [.p (.int .i64 0)] [(0, (.t 91))]⟩, 
          ⟨some 8, none, .mov (.t 92)⟩] [3, 4, 7, 8] [3])
        (.seq (.reg false [⟨some 93, none, .off (.t 3) 0⟩, 
          ⟨some 94, none, .ld (.t 93) 19 true⟩, 
          ⟨some 95, none, .off (.t 3) 21⟩, 
          ⟨some 96, none, .ld (.t 95) 1 false⟩, 
          ⟨some 97, none, .mov (.t 8)⟩, 
          ⟨some 98, none, .bld [.nils, .nils] [(0, 1, (.t 97))]⟩, 
          ⟨some 99, none, .call 23 [(.t 94), (.t 96), (.t 98)] false⟩, 
          ⟨some 100, none, .un .not (.t 99)⟩, 
          ⟨some 101, none, .mov (.t 100)⟩, 
          ⟨some 102, (some (101, true)), .off (.t 3) 0⟩, 
          ⟨some 103, (some (101, true)), .ld (.t 102) 19 true⟩, 
          ⟨some 104, (some (101, true)), .off (.t 3) 21⟩, 
          ⟨some 105, (some (101, true)), .ld (.t 104) 1 false⟩, 
          ⟨some 106, (some (101, true)), .mov (.t 8)⟩, 
          ⟨some 107, (some (101, true)), .bld [.nils, .nils] [(1, 1, (.t 106))]⟩, 
          ⟨some 108, (some (101, true)), .call 23 [(.t 103), (.t 105), (.t 107)] false⟩, 
          ⟨some 109, (some (101, true)), .un .not (.t 108)⟩, 
          ⟨some 110, none, .pick (.t 101) (.t 109) (.c (.p (.bool false)))⟩] [3, 4, 7, 110] [3])
        (.cond (.t 110)
        (.reg false [⟨some 111, none, .mov (.t 4)⟩, 
            ⟨some 112, none, .mov (.t 7)⟩, 
            ⟨some 113, none, .bld [.p (.int .i64 0), .p (.int .i64 0)] [(0, 1, (.c (.p (.int .i64 3)))), (1, 1, (.t 112))]⟩, 
            ⟨some 114, none, .bsl 2 1 [.p (.int .i64 0), .p (.int .i64 0)] [(0, (.t 113))]⟩, 
            ⟨some 115, none, .app (.t 111) (.t 114) 2⟩, 
            ⟨some 4, none, .mov (.t 115)⟩] [3, 4, 7] [3])
        .skip))))
      (.reg false [⟨some 89, none, .mov (.t 7)⟩, 
        ⟨some 90, none, .bin .add (.t 89) (.c (.p (.int .i64 1)))⟩, 
        ⟨some 7, none, .mov (.t 90)⟩] [3, 4, 7] [3]))))
def ir9 : IFn :=   -- tympan/tympanref50.Of
⟨(.seq (.reg false [⟨some 1, none, .bx (.t 0) 22 true⟩, 
    ⟨some 2, none, .mov (.c (.nils))⟩] [1] [1])
  (.seq (.seq (.reg false [⟨some 9, none, .ld (.t 1) 22 true⟩, 
    ⟨some 10, none, .call 13 [(.t 9)] false⟩, 
    ⟨some 11, none, .fldv (.t 10) 0 1 false⟩, 
    ⟨some 12, none, .bin .neq (.t 11) (.c (.p (.int .i64 0)))⟩] [1, 12] [1])
  (.cond (.t 12)
  (.seq (.reg false [⟨some 2, none, .mov (.c (.nils))⟩] [2] [])
    .ret)
  .skip))
  (.seq (.reg false [⟨some 13, none, .ld (.t 1) 22 true⟩, 
    ⟨some 14, none, .call 19 [(.t 13)] false⟩, 
    ⟨some 3, none, .al [.p (.int .i64 0), .p (.int .i64 0), .p (.int .i64 0), .p (.int .i64 0), .p (.int .i64 0), .p (.int .i64 0), .p (.int .i64 0), .p (.int .i64 0), .p (.int .i64 0), .p (.int .i64 0), .p (.int .i64 0), .p (.int .i64 0), .p (.int .i64 0), .p (.int .i64 0), .p (.int .i64 0), .p (.int .i64 0), .p (.int .i64 0), .p (.int .i64 0), .p (.bool false), .nils, .nils, .nils] true⟩, 
    ⟨none, none, .st (.t 3) (.t 14) 22⟩] [3] [3])
  (.seq (.reg false [⟨some 4, none, .nrow 2⟩] [3, 4] [3])
  (.seq (.seq (.reg false [⟨some 5, none, .mov (.c (.p (.int .i64 0)))⟩] [3, 4, 5] [3])
  (.block 0 lp9_0))
  (.seq (.seq (.reg false [⟨some 6, none, .mov (.c (.p (.int .i64 0)))⟩] [3, 4, 6] [3])
  (.block 2 lp9_1))
  (.seq (.seq (.reg false [⟨some 7, none, .mov (.c (.p (.int .i64 0)))⟩] [3, 4, 7] [3])
  (.block 4 lp9_2))
  (.seq (.reg false [⟨some 116, none, .mov (.t 4)⟩, 
    ⟨some 2, none, .mov (.t 116)⟩] [2] [])
  .ret)))))))),
  [.tmp 2], false⟩
def lp10_0 : IC :=
  (.loop [1, 5, 8, 9, 10] [] (.seq (.reg false [⟨some 11, none, .bin .lss (.t 10) (.t 9)⟩] [1, 5, 8, 9, 10, 11] [])
      (.seq (.cond (.t 11)
      .skip
      (.exit 0))
      (.seq (.block 1 (.seq (.reg false [⟨some 12, none, .ixs (.t 8) (.t 10) 2⟩, 
          ⟨some 13, none, .ld (.t 12) 2 true⟩, 
          ⟨some 7, none, .al [.p (.int .i64 0), .p (.int .i64 0)] true⟩, 
          ⟨none, none, .st (.t 7) (.t 13) 2⟩] [1, 5, 7, 8, 9, 10] [7])
        (.seq (.reg false [⟨some 14, none, .off (.t 7) 0⟩, 
          ⟨some 15, none, .ld (.t 14) 1 false⟩, 
          ⟨some 16, none, .mov (.t 1)⟩, 
          ⟨some 17, none, .bin .eql (.t 15) (.t 16)⟩] [1, 5, 7, 8, 9, 10, 17] [7])
        (.cond (.t 17)
        (.reg false [⟨some 18, none, .mov (.t 5)⟩, 
            ⟨some 19, none, .ld (.t 7) 2 true⟩, 
            ⟨some 20, none, .bsl 2 1 [.p (.int .i64 0), .p (.int .i64 0)] [(0, (.t 19))]⟩, 
            ⟨some 21, none, .app (.t 18) (.t 20) 2⟩, 
            ⟨some 5, none, .mov (.t 21)⟩] [1, 5, 8, 9, 10] [])
        .skip))))
      (.reg false [⟨some 22, none, .bin .add (.t 10) (.c (.p (.int .i64 1)))⟩, 
        ⟨some 10, none, .mov (.t 22)⟩] [1, 5, 8, 9, 10] [])))))
def ir10 : IFn :=   -- tympan/lint.Only
⟨(.seq (.reg false [⟨some 4, none, .mov (.c (.nils))⟩] [0, 1] [])
  (.seq (.reg false [⟨some 5, none, .nrow 2⟩] [0, 1, 5] [])
  (.seq (.seq (.reg false [⟨some 8, none, .mov (.t 0)⟩, 
    ⟨some 9, none, .len (.t 8)⟩, 
    ⟨some 10, none, .mov (.c (.p (.int .i64 0)))⟩] [1, 5, 8, 9, 10] [])
  (.block 0 lp10_0))
  (.seq (.reg false [⟨some 23, none, .mov (.t 5)⟩, 
    ⟨some 4, none, .mov (.t 23)⟩] [4] [])
  .ret)))),
  [.tmp 4], false⟩
def ir12 : IFn :=   -- tympan/tympanref50.Name
⟨(.seq (.reg false [⟨some 2, none, .mov (.c (.p (.str ⟨#[]⟩)))⟩] [0] [])
  (.seq (.seq (.reg false [⟨some 3, none, .mov (.t 0)⟩, 
    ⟨some 4, none, .bin .lss (.t 3) (.c (.p (.int .i64 0)))⟩, 
    ⟨some 5, none, .mov (.t 4)⟩, 
    ⟨some 6, (some (5, false)), .mov (.t 0)⟩, 
    ⟨some 7, (some (5, false)), .bin .gtr (.t 6) (.c (.p (.int .i64 5)))⟩, 
    ⟨some 8, none, .pick (.t 5) (.c (.p (.bool true))) (.t 7)⟩] [0, 8] [])
  (.cond (.t 8)
  (.seq (.reg false [⟨some 2, none, .mov (.c (.p (.str ⟨#[]⟩)))⟩] [2] [])
    .ret)
  .skip))
  (.seq (.reg false [⟨some 9, none, .bsl 1 6 [.p (.str ⟨#[]⟩)] [(0, (.c (.p (.str ⟨#[110, 111, 110, 101]⟩)))), (1, (.c (.p (.str ⟨#[116, 97, 108, 108]⟩)))), (2, (.c (.p (.str ⟨#[108, 111, 110, 103]⟩)))), (3, (.c (.p (.str ⟨#[115, 116, 117, 99, 107]⟩)))), (4, (.c (.p (.str ⟨#[108, 111, 115, 116]⟩)))), (5, (.c (.p (.str ⟨#[105, 100, 108, 101]⟩))))]⟩, 
    ⟨some 10, none, .mov (.t 0)⟩, 
    ⟨some 11, none, .ixs (.t 9) (.t 10) 1⟩, 
    ⟨some 12, none, .ld (.t 11) 1 false⟩, 
    ⟨some 2, none, .mov (.t 12)⟩] [2] [])
  .ret))),
  [.tmp 2], false⟩
def lp13_0 : IC :=
  (.loop [1, 2, 4] [1, 2] (.seq (.seq (.reg false [⟨some 33, none, .mov (.t 4)⟩, 
        ⟨some 34, none, .off (.t 1) 19⟩, 
        ⟨some 35, none, .ld (.t 34) 1 false⟩, 
        ⟨some 36, none, .len (.t 35)⟩, 
        ⟨some 37, none, .bin .lss (.t 33) (.t 36)⟩] [1, 2, 4, 37] [1, 2])
      (.cond (.t 37)
      .skip
      (.exit 0)))
      (.seq (.block 1 (.seq (.reg false [⟨some 40, none, .off (.t 1) 19⟩, 
          ⟨some 41, none, .ld (.t 40) 1 false⟩, 
          ⟨some 42, none, .mov (.t 4)⟩, 
          ⟨some 43, none, .ixs (.t 41) (.t 42) 7⟩, 
          ⟨some 44, none, .ld (.t 43) 7 true⟩, 
          ⟨some 45, none, .call 25 [(.t 44)] false⟩, 
          ⟨some 46, none, .un .not (.t 45)⟩] [1, 2, 4, 46] [1, 2])
        (.cond (.t 46)
        (.seq (.reg false [⟨some 47, none, .mov (.t 4)⟩, 
            ⟨some 48, none, .bld [.p (.int .i64 0), .p (.int .i64 0)] [(0, 1, (.c (.p (.int .i64 8)))), (1, 1, (.t 47))]⟩, 
            ⟨none, none, .st (.t 2) (.t 48) 2⟩] [2] [2])
          .ret)
        .skip)))
      (.reg false [⟨some 38, none, .mov (.t 4)⟩, 
        ⟨some 39, none, .bin .add (.t 38) (.c (.p (.int .i64 1)))⟩, 
        ⟨some 4, none, .mov (.t 39)⟩] [1, 2, 4] [1, 2]))))
def lp13_1 : IC :=
  (.loop [1, 2, 5] [1, 2] (.seq (.seq (.reg false [⟨some 49, none, .mov (.t 5)⟩, 
        ⟨some 50, none, .off (.t 1) 20⟩, 
        ⟨some 51, none, .ld (.t 50) 1 false⟩, 
        ⟨some 52, none, .len (.t 51)⟩, 
        ⟨some 53, none, .bin .lss (.t 49) (.t 52)⟩] [1, 2, 5, 53] [1, 2])
      (.cond (.t 53)
      .skip
      (.exit 2)))
      (.seq (.block 3 (.seq (.reg false [⟨some 56, none, .off (.t 1) 20⟩, 
          ⟨some 57, none, .ld (.t 56) 1 false⟩, 
          ⟨some 58, none, .mov (.t 5)⟩, 
          ⟨some 59, none, .ixs (.t 57) (.t 58) 2⟩, 
          ⟨some 60, none, .ld (.t 59) 2 true⟩, 
          ⟨some 61, none, .call 26 [(.t 60)] false⟩, 
          ⟨some 62, none, .un .not (.t 61)⟩] [1, 2, 5, 62] [1, 2])
        (.cond (.t 62)
        (.seq (.reg false [⟨some 63, none, .mov (.t 5)⟩, 
            ⟨some 64, none, .bld [.p (.int .i64 0), .p (.int .i64 0)] [(0, 1, (.c (.p (.int .i64 9)))), (1, 1, (.t 63))]⟩, 
            ⟨none, none, .st (.t 2) (.t 64) 2⟩] [2] [2])
          .ret)
        .skip)))
      (.reg false [⟨some 54, none, .mov (.t 5)⟩, 
        ⟨some 55, none, .bin .add (.t 54) (.c (.p (.int .i64 1)))⟩, 
        ⟨some 5, none, .mov (.t 55)⟩] [1, 2, 5] [1, 2]))))
def lp13_2 : IC :=
  (.loop [1, 2, 6] [1, 2] (.seq (.seq (.reg false [⟨some 65, none, .mov (.t 6)⟩, 
        ⟨some 66, none, .off (.t 1) 21⟩, 
        ⟨some 67, none, .ld (.t 66) 1 false⟩, 
        ⟨some 68, none, .len (.t 67)⟩, 
        ⟨some 69, none, .bin .lss (.t 65) (.t 68)⟩] [1, 2, 6, 69] [1, 2])
      (.cond (.t 69)
      .skip
      (.exit 4)))
      (.seq (.block 5 (.seq (.reg false [⟨some 72, none, .off (.t 1) 21⟩, 
          ⟨some 73, none, .ld (.t 72) 1 false⟩, 
          ⟨some 74, none, .mov (.t 6)⟩, 
          ⟨some 75, none, .ixs (.t 73) (.t 74) 3⟩, 
          ⟨some 76, none, .ld (.t 75) 3 true⟩, 
          ⟨some 77, none, .call 27 [(.t 76)] false⟩, 
          ⟨some 78, none, .un .not (.t 77)⟩] [1, 2, 6, 78] [1, 2])
        (.cond (.t 78)
        (.seq (.reg false [⟨some 79, none, .mov (.t 6)⟩, 
            ⟨some 80, none, .bld [.p (.int .i64 0), .p (.int .i64 0)] [(0, 1, (.c (.p (.int .i64 10)))), (1, 1, (.t 79))]⟩, 
            ⟨none, none, .st (.t 2) (.t 80) 2⟩] [2] [2])
          .ret)
        .skip)))
      (.reg false [⟨some 70, none, .mov (.t 6)⟩, 
        ⟨some 71, none, .bin .add (.t 70) (.c (.p (.int .i64 1)))⟩, 
        ⟨some 6, none, .mov (.t 71)⟩] [1, 2, 6] [1, 2]))))
def lp13_3 : IC :=
  (.loop [2, 9, 10] [2, 9] (.seq (.seq (.reg false [⟨some 112, none, .mov (.t 10)⟩, 
        ⟨some 113, none, .off (.t 9) 21⟩, 
        ⟨some 114, none, .ld (.t 113) 1 false⟩, 
        ⟨some 115, none, .len (.t 114)⟩, 
        ⟨some 116, none, .bin .lss (.t 112) (.t 115)⟩] [2, 9, 10, 116] [2, 9])
      (.cond (.t 116)
      .skip
      (.exit 6)))
      (.seq (.block 7 (.seq (.reg true [⟨some 119, none, .off (.t 9) 21⟩, 
          ⟨some 120, none, .ldl 9 (.t 119) 1 false⟩, 
          ⟨some 121, none, .mov (.t 10)⟩, 
          ⟨some 122, none, .ixs (.t 120) (.t 121) 3⟩, 
          ⟨some 123, none, .off (.t 122) 1⟩, 
          ⟨some 124, none, .ld (.t 123) 1 false⟩, 
          ⟨some 125, none, .off (.t 9) 0⟩, 
          ⟨some 126, none, .off (.t 125) 4⟩, 
          ⟨some 127, none, .ldl 9 (.t 126) 1 false⟩, 
          ⟨some 128, none, .bin .gtr (.t 124) (.t 127)⟩] [2, 9, 10, 128] [2, 9])
        (.cond (.t 128)
        (.seq (.reg false [⟨some 129, none, .mov (.t 10)⟩, 
            ⟨some 130, none, .bld [.p (.int .i64 0), .p (.int .i64 0)] [(0, 1, (.c (.p (.int .i64 12)))), (1, 1, (.t 129))]⟩, 
            ⟨none, none, .st (.t 2) (.t 130) 2⟩] [2] [2])
          .ret)
        .skip)))
      (.reg false [⟨some 117, none, .mov (.t 10)⟩, 
        ⟨some 118, none, .bin .add (.t 117) (.c (.p (.int .i64 1)))⟩, 
        ⟨some 10, none, .mov (.t 118)⟩] [2, 9, 10] [2, 9]))))
def ir13 : IFn :=   -- tympan/tympanref15.Check
⟨(.seq (.reg false [⟨some 1, none, .bx (.t 0) 22 true⟩, 
    ⟨some 2, none, .al [.p (.int .i64 0), .p (.int .i64 0)] true⟩] [1, 2] [1, 2])
  (.seq (.seq (.reg false [⟨some 11, none, .off (.t 1) 19⟩, 
    ⟨some 12, none, .ld (.t 11) 1 false⟩, 
    ⟨some 13, none, .len (.t 12)⟩, 
    ⟨some 14, none, .bin .gtr (.t 13) (.c (.p (.int .i64 4096)))⟩] [1, 2, 14] [1, 2])
  (.cond (.t 14)
  (.seq (.reg false [⟨some 15, none, .bld [.p (.int .i64 0), .p (.int .i64 0)] [(0, 1, (.c (.p (.int .i64 3))))]⟩, 
      ⟨none, none, .st (.t 2) (.t 15) 2⟩] [2] [2])
    .ret)
  .skip))
  (.seq (.seq (.reg false [⟨some 16, none, .off (.t 1) 21⟩, 
    ⟨some 17, none, .ld (.t 16) 1 false⟩, 
    ⟨some 18, none, .len (.t 17)⟩, 
    ⟨some 19, none, .bin .gtr (.t 18) (.c (.p (.int .i64 256)))⟩] [1, 2, 19] [1, 2])
  (.cond (.t 19)
  (.seq (.reg false [⟨some 20, none, .bld [.p (.int .i64 0), .p (.int .i64 0)] [(0, 1, (.c (.p (.int .i64 4))))]⟩, 
      ⟨none, none, .st (.t 2) (.t 20) 2⟩] [2] [2])
    .ret)
  .skip))
  (.seq (.seq (.reg false [⟨some 21, none, .off (.t 1) 20⟩, 
    ⟨some 22, none, .ld (.t 21) 1 false⟩, 
    ⟨some 23, none, .len (.t 22)⟩, 
    ⟨some 24, none, .bin .gtr (.t 23) (.c (.p (.int .i64 512)))⟩] [1, 2, 24] [1, 2])
  (.cond (.t 24)
  (.seq (.reg false [⟨some 25, none, .bld [.p (.int .i64 0), .p (.int .i64 0)] [(0, 1, (.c (.p (.int .i64 5))))]⟩, 
      ⟨none, none, .st (.t 2) (.t 25) 2⟩] [2] [2])
    .ret)
  .skip))
  (.seq (.seq (.reg false [⟨some 26, none, .off (.t 1) 0⟩, 
    ⟨some 27, none, .ld (.t 26) 19 true⟩, 
    ⟨some 28, none, .call 24 [(.t 27)] false⟩, 
    ⟨some 3, none, .mov (.t 28)⟩] [1, 2, 3] [1, 2])
  (.seq (.reg false [⟨some 29, none, .mov (.t 3)⟩, 
    ⟨some 30, none, .bin .neq (.t 29) (.c (.p (.int .i64 0)))⟩] [1, 2, 3, 30] [1, 2])
  (.cond (.t 30)
  (.seq (.reg false [⟨some 31, none, .mov (.t 3)⟩, 
      ⟨some 32, none, .bld [.p (.int .i64 0), .p (.int .i64 0)] [(0, 1, (.t 31))]⟩, 
      ⟨none, none, .st (.t 2) (.t 32) 2⟩] [2] [2])
    .ret)
  .skip)))
  (.seq (.seq (.reg false [⟨some 4, none, .mov (.c (.p (.int .i64 0)))⟩] [1, 2, 4] [1, 2])
  (.block 0 lp13_0))
  (.seq (.seq (.reg false [⟨some 5, none, .mov (.c (.p (.int .i64 0)))⟩] [1, 2, 5] [1, 2])
  (.block 2 lp13_1))
  (.seq (.seq (.reg false [⟨some 6, none, .mov (.c (.p (.int .i64 0)))⟩] [1, 2, 6] [1, 2])
  (.block 4 lp13_2))
  (.seq (.reg true [⟨some 81, none, .off (.t 1) 19⟩, 
    ⟨some 82, none, .ldl 1 (.t 81) 1 false⟩, 
    ⟨some 83, none, .off (.t 1) 20⟩, 
    ⟨some 84, none, .ldl 1 (.t 83) 1 false⟩, 
    ⟨some 85, none, .len (.t 84)⟩, 
    ⟨some 86, none, .call 28 [(.t 82), (.c (.p (.int .i64 5))), (.t 85)] false⟩, 
    ⟨some 87, none, .off (.t 1) 19⟩, 
    ⟨some 88, none, .ldl 1 (.t 87) 1 false⟩, 
    ⟨some 89, none, .off (.t 1) 21⟩, 
    ⟨some 90, none, .ldl 1 (.t 89) 1 false⟩, 
    ⟨some 91, none, .len (.t 90)⟩, 
    ⟨some 92, none, .call 28 [(.t 88), (.c (.p (.int .i64 6))), (.t 91)] false⟩, 
    ⟨some 7, none, .mov (.t 86)⟩, 
    ⟨some 8, none, .mov (.t 92)⟩] [1, 2, 7, 8] [1, 2])
  (.seq (.seq (.reg false [⟨some 93, none, .mov (.t 7)⟩, 
    ⟨some 94, none, .bin .geq (.t 93) (.c (.p (.int .i64 0)))⟩, 
    ⟨some 95, none, .mov (.t 94)⟩, 
    ⟨some 96, (some (95, true)), .mov (.t 8)⟩, 
    ⟨some 97, (some (95, true)), .bin .lss (.t 96) (.c (.p (.int .i64 0)))⟩, 
    ⟨some 98, (some (95, true)), .mov (.t 97)⟩, 
    ⟨some 99, (some (98, false)), .mov (.t 7)⟩, 
    ⟨some 100, (some (98, false)), .mov (.t 8)⟩, 
    ⟨some 101, (some (98, false)), .bin .leq (.t 99) (.t 100)⟩, 
    ⟨some 102, (some (95, true)), .pick (.t 98) (.c (.p (.bool true))) (.t 101)⟩, 
    ⟨some 103, none, .pick (.t 95) (.t 102) (.c (.p (.bool false)))⟩] [1, 2, 7, 8, 103] [1, 2])
  (.cond (.t 103)
  (.seq (.reg false [⟨some 104, none, .mov (.t 7)⟩, 
      ⟨some 105, none, .bld [.p (.int .i64 0), .p (.int .i64 0)] [(0, 1, (.c (.p (.int .i64 11)))), (1, 1, (.t 104))]⟩, 
      ⟨none, none, .st (.t 2) (.t 105) 2⟩] [2] [2])
    .ret)
  .skip))
  (.seq (.seq (.reg false [⟨some 106, none, .mov (.t 8)⟩, 
    ⟨some 107, none, .bin .geq (.t 106) (.c (.p (.int .i64 0)))⟩] [1, 2, 8, 107] [1, 2])
  (.cond (.t 107)
  (.seq (.reg false [⟨some 108, none, .mov (.t 8)⟩, 
      ⟨some 109, none, .bld [.p (.int .i64 0), .p (.int .i64 0)] [(0, 1, (.c (.p (.int .i64 11)))), (1, 1, (.t 108))]⟩, 
      ⟨none, none, .st (.t 2) (.t 109) 2⟩] [2] [2])
    .ret)
  .skip))
  (.seq (.reg false [⟨some 110, none, .ld (.t 1) 22 true⟩, 
    ⟨some 111, none, .call 19 [(.t 110)] false⟩, 
    ⟨some 9, none, .al [.p (.int .i64 0), .p (.int .i64 0), .p (.int .i64 0), .p (.int .i64 0), .p (.int .i64 0), .p (.int .i64 0), .p (.int .i64 0), .p (.int .i64 0), .p (.int .i64 0), .p (.int .i64 0), .p (.int .i64 0), .p (.int .i64 0), .p (.int .i64 0), .p (.int .i64 0), .p (.int .i64 0), .p (.int .i64 0), .p (.int .i64 0), .p (.int .i64 0), .p (.bool false), .nils, .nils, .nils] true⟩, 
    ⟨none, none, .st (.t 9) (.t 111) 22⟩] [2, 9] [2, 9])
  (.seq (.seq (.reg false [⟨some 10, none, .mov (.c (.p (.int .i64 0)))⟩] [2, 9, 10] [2, 9])
  (.block 6 lp13_3))
  (.seq (.reg false [⟨some 131, none, .bld [.p (.int .i64 0), .p (.int .i64 0)] []⟩, 
    ⟨none, none, .st (.t 2) (.t 131) 2⟩] [2] [2])
  .ret)))))))))))))),
  [.cell 2 2 true], false⟩
def ir14 : IFn :=   -- tympan/valid.Right
⟨(.seq (.reg false [⟨some 1, none, .bx (.t 0) 22 true⟩, 
    ⟨some 2, none, .mov (.c (.p (.bool false)))⟩] [1] [1])
  (.seq (.reg false [⟨some 6, none, .ld (.t 1) 22 true⟩, 
    ⟨some 7, none, .call 29 [(.t 6)] false⟩, 
    ⟨some 5, none, .mov (.t 7)⟩, 
    ⟨some 8, none, .ext (.t 5) 0⟩, 
    ⟨some 9, none, .ext (.t 5) 1⟩, 
    ⟨some 3, none, .mov (.t 8)⟩, 
    ⟨some 4, none, .mov (.t 9)⟩] [3] [])
  (.seq (.reg false [⟨some 10, none, .mov (.t 3)⟩, 
    ⟨some 11, none, .bin .eql (.t 10) (.c (.p (.int .i64 0)))⟩, 
    ⟨some 2, none, .mov (.t 11)⟩] [2] [])
  .ret))),
  [.tmp 2], false⟩
def lp15_0 : IC :=
  (.loop [2, 3, 4, 44, 45] [2, 3] (.seq (.reg false [⟨some 46, none, .bin .lss (.t 45) (.t 44)⟩] [2, 3, 4, 44, 45, 46] [2, 3])
      (.seq (.cond (.t 46)
      .skip
      (.exit 0))
      (.seq (.block 1 (.seq (.reg false [⟨some 47, none, .mov (.t 45)⟩, 
          ⟨some 5, none, .mov (.t 47)⟩] [2, 3, 4, 5, 44, 45] [2, 3])
        (.reg true [⟨some 48, none, .ldl 3 (.t 3) 1 true⟩, 
          ⟨some 49, none, .off (.t 4) 21⟩, 
          ⟨some 50, none, .ld (.t 49) 1 false⟩, 
          ⟨some 51, none, .mov (.t 5)⟩, 
          ⟨some 52, none, .ixs (.t 50) (.t 51) 3⟩, 
          ⟨some 53, none, .off (.t 52) 1⟩, 
          ⟨some 54, none, .bsl 1 1 [.p .nilp] [(0, (.t 53))]⟩, 
          ⟨some 55, none, .call 33 [(.t 48), (.c (.p (.fn 35))), (.t 54)] false⟩] [2, 3, 4, 44, 45] [2, 3])))
      (.reg false [⟨some 56, none, .bin .add (.t 45) (.c (.p (.int .i64 1)))⟩, 
        ⟨some 45, none, .mov (.t 56)⟩] [2, 3, 4, 44, 45] [2, 3])))))
def ir15 : IFn :=   -- tympan/grid.Snap
⟨(.seq (.reg false [⟨some 1, none, .bx (.t 0) 22 true⟩, 
    ⟨some 2, none, .al [.p (.int .i64 0), .p (.int .i64 0), .p (.int .i64 0), .p (.int .i64 0), .p (.int .i64 0), .p (.int .i64 0), .p (.int .i64 0), .p (.int .i64 0), .p (.int .i64 0), .p (.int .i64 0), .p (.int .i64 0), .p (.int .i64 0), .p (.int .i64 0), .p (.int .i64 0), .p (.int .i64 0), .p (.int .i64 0), .p (.int .i64 0), .p (.int .i64 0), .p (.bool false), .nils, .nils, .nils] true⟩] [1, 2] [1, 2])
  (.seq (.reg false [⟨some 6, none, .off (.t 1) 0⟩, 
    ⟨some 7, none, .off (.t 6) 5⟩, 
    ⟨some 8, none, .ld (.t 7) 1 false⟩, 
    ⟨some 9, none, .bld [.p (.int .i64 0)] [(0, 1, (.t 8))]⟩, 
    ⟨some 3, none, .al [.p (.int .i64 0)] true⟩, 
    ⟨none, none, .st (.t 3) (.t 9) 1⟩] [1, 2, 3] [1, 2, 3])
  (.seq (.seq (.reg false [⟨some 10, none, .off (.t 3) 0⟩, 
    ⟨some 11, none, .ld (.t 10) 1 false⟩, 
    ⟨some 12, none, .bin .lss (.t 11) (.c (.p (.int .i64 1)))⟩] [1, 2, 3, 12] [1, 2, 3])
  (.cond (.t 12)
  (.seq (.reg false [⟨some 13, none, .ld (.t 1) 22 true⟩, 
      ⟨none, none, .st (.t 2) (.t 13) 22⟩] [2] [2])
    .ret)
  .skip))
  (.seq (.prep [4] (.reg true [⟨some 14, none, .off (.t 1) 0⟩, 
    ⟨some 15, none, .ldl 1 (.t 14) 19 true⟩, 
    ⟨some 16, none, .ldl 3 (.t 3) 1 true⟩, 
    ⟨some 17, none, .off (.t 1) 19⟩, 
    ⟨some 18, none, .ldl 1 (.t 17) 1 false⟩, 
    ⟨some 19, none, .call 30 [(.t 16), (.t 18)] false⟩, 
    ⟨some 20, none, .ldl 3 (.t 3) 1 true⟩, 
    ⟨some 21, none, .off (.t 1) 20⟩, 
    ⟨some 22, none, .ldl 1 (.t 21) 1 false⟩, 
    ⟨some 23, none, .call 31 [(.t 20), (.t 22)] false⟩, 
    ⟨some 24, none, .off (.t 1) 21⟩, 
    ⟨some 25, none, .ldl 1 (.t 24) 1 false⟩, 
    ⟨some 26, none, .call 32 [(.t 25)] false⟩, 
    ⟨some 27, none, .bld [.p (.int .i64 0), .p (.int .i64 0), .p (.int .i64 0), .p (.int .i64 0), .p (.int .i64 0), .p (.int .i64 0), .p (.int .i64 0), .p (.int .i64 0), .p (.int .i64 0), .p (.int .i64 0), .p (.int .i64 0), .p (.int .i64 0), .p (.int .i64 0), .p (.int .i64 0), .p (.int .i64 0), .p (.int .i64 0), .p (.int .i64 0), .p (.int .i64 0), .p (.bool false), .nils, .nils, .nils] [(0, 19, (.t 15)), (19, 1, (.t 19)), (20, 1, (.t 23)), (21, 1, (.t 26))]⟩, 
    ⟨some 4, none, .alp [.p (.int .i64 0), .p (.int .i64 0), .p (.int .i64 0), .p (.int .i64 0), .p (.int .i64 0), .p (.int .i64 0), .p (.int .i64 0), .p (.int .i64 0), .p (.int .i64 0), .p (.int .i64 0), .p (.int .i64 0), .p (.int .i64 0), .p (.int .i64 0), .p (.int .i64 0), .p (.int .i64 0), .p (.int .i64 0), .p (.int .i64 0), .p (.int .i64 0), .p (.bool false), .nils, .nils, .nils]⟩, 
    ⟨none, none, .stl 4 (.t 4) (.t 27) 22⟩] [2, 3, 4] [2, 3, 4]))
  (.esc [4] (.seq (.reg false [⟨some 28, none, .ld (.t 3) 1 true⟩, 
    ⟨some 29, none, .off (.t 4) 0⟩, 
    ⟨some 30, none, .off (.t 29) 3⟩, 
    ⟨some 31, none, .off (.t 4) 0⟩, 
    ⟨some 32, none, .off (.t 31) 4⟩, 
    ⟨some 33, none, .bsl 1 2 [.p .nilp] [(0, (.t 30)), (1, (.t 32))]⟩, 
    ⟨some 34, none, .call 33 [(.t 28), (.c (.p (.fn 34))), (.t 33)] false⟩] [2, 3, 4] [2, 3])
  (.seq (.reg false [⟨some 35, none, .ld (.t 3) 1 true⟩, 
    ⟨some 36, none, .off (.t 4) 0⟩, 
    ⟨some 37, none, .off (.t 36) 6⟩, 
    ⟨some 38, none, .off (.t 4) 0⟩, 
    ⟨some 39, none, .off (.t 38) 7⟩, 
    ⟨some 40, none, .bsl 1 2 [.p .nilp] [(0, (.t 37)), (1, (.t 39))]⟩, 
    ⟨some 41, none, .call 33 [(.t 35), (.c (.p (.fn 35))), (.t 40)] false⟩] [2, 3, 4] [2, 3])
  (.seq (.seq (.reg false [⟨some 42, none, .off (.t 4) 21⟩, 
    ⟨some 43, none, .ld (.t 42) 1 false⟩, 
    ⟨some 44, none, .len (.t 43)⟩, 
    ⟨some 45, none, .mov (.c (.p (.int .i64 0)))⟩] [2, 3, 4, 44, 45] [2, 3])
  (.block 0 lp15_0))
  (.seq (.reg false [⟨some 57, none, .ld (.t 4) 22 true⟩, 
    ⟨none, none, .st (.t 2) (.t 57) 22⟩] [2] [2])
  .ret))))))))),
  [.cell 2 22 true], false⟩
def lp16_0 : IC :=
  (.loop [0, 2, 12, 13, 14] [] (.seq (.reg false [⟨some 15, none, .bin .lss (.t 14) (.t 13)⟩] [0, 2, 12, 13, 14, 15] [])
      (.seq (.cond (.t 15)
      .skip
      (.exit 0))
      (.seq (.block 1 (.seq (.reg false [⟨some 16, none, .mov (.t 14)⟩, 
          ⟨some 17, none, .ixs (.t 12) (.t 14) 7⟩, 
          ⟨some 18, none, .ld (.t 17) 7 true⟩, 
          ⟨some 4, none, .al [.p (.int .i64 0), .p (.int .i64 0), .p (.int .i64 0), .p (.int .i64 0), .p (.int .i64 0), .p (.int .i64 0), .p (.int .i64 0)] true⟩, 
          ⟨some 3, none, .mov (.t 16)⟩, 
          ⟨none, none, .st (.t 4) (.t 18) 7⟩] [0, 2, 3, 4, 12, 13, 14] [4])
        (.seq (.reg false [⟨some 19, none, .ld (.t 4) 7 true⟩, 
          ⟨some 20, none, .call 36 [(.t 19)] false⟩, 
          ⟨some 5, none, .mov (.t 20)⟩] [0, 2, 3, 4, 5, 12, 13, 14] [4])
        (.seq (.reg false [⟨some 21, none, .mov (.t 2)⟩, 
          ⟨some 22, none, .mov (.t 21)⟩, 
          ⟨some 23, (some (22, true)), .mov (.t 5)⟩, 
          ⟨some 24, none, .pick (.t 22) (.t 23) (.c (.p (.bool false)))⟩, 
          ⟨some 2, none, .mov (.t 24)⟩] [0, 2, 3, 4, 12, 13, 14] [4])
        (.seq (.reg true [⟨some 25, none, .mov (.t 0)⟩, 
          ⟨some 26, none, .mov (.t 3)⟩, 
          ⟨some 27, none, .off (.t 4) 0⟩, 
          ⟨some 28, none, .ldl 4 (.t 27) 1 false⟩, 
          ⟨some 29, none, .bin .eql (.t 28) (.c (.p (.int .i64 1)))⟩, 
          ⟨some 30, none, .mov (.t 29)⟩, 
          ⟨some 31, (some (30, true)), .off (.t 4) 1⟩, 
          ⟨some 32, (some (30, true)), .ldl 4 (.t 31) 1 false⟩, 
          ⟨some 33, (some (30, true)), .mov (.t 0)⟩, 
          ⟨some 34, (some (30, true)), .nck (.t 33)⟩, 
          ⟨some 35, (some (30, true)), .off (.t 34) 0⟩, 
          ⟨some 36, (some (30, true)), .off (.t 35) 0⟩, 
          ⟨some 37, (some (30, true)), .off (.t 36) 3⟩, 
          ⟨some 38, (some (30, true)), .ld (.t 37) 1 false⟩, 
          ⟨some 39, (some (30, true)), .bin .gtr (.t 32) (.t 38)⟩, 
          ⟨some 40, none, .pick (.t 30) (.t 39) (.c (.p (.bool false)))⟩, 
          ⟨some 41, none, .call 37 [(.t 25), (.c (.p (.int .i64 1))), (.t 26), (.t 40)] false⟩] [0, 2, 3, 4, 12, 13, 14] [4])
        (.seq (.reg false [⟨some 42, none, .mov (.t 0)⟩, 
          ⟨some 43, none, .mov (.t 3)⟩, 
          ⟨some 44, none, .mov (.t 2)⟩, 
          ⟨some 45, none, .call 37 [(.t 42), (.c (.p (.int .i64 4))), (.t 43), (.t 44)] false⟩] [0, 2, 3, 4, 12, 13, 14] [4])
        (.seq (.reg false [⟨some 46, none, .mov (.t 0)⟩, 
          ⟨some 47, none, .mov (.t 3)⟩, 
          ⟨some 48, none, .bin .sub (.t 47) (.c (.p (.int .i64 1)))⟩, 
          ⟨some 49, none, .call 38 [(.t 46), (.t 48), (.c (.p (.fn 39)))] false⟩, 
          ⟨some 6, none, .mov (.t 49)⟩] [0, 2, 3, 4, 6, 12, 13, 14] [4])
        (.seq (.reg false [⟨some 50, none, .mov (.t 0)⟩, 
          ⟨some 51, none, .mov (.t 3)⟩, 
          ⟨some 52, none, .bin .add (.t 51) (.c (.p (.int .i64 1)))⟩, 
          ⟨some 53, none, .call 38 [(.t 50), (.t 52), (.c (.p (.fn 40)))] false⟩, 
          ⟨some 7, none, .mov (.t 53)⟩] [0, 2, 3, 4, 6, 7, 12, 13, 14] [4])
        (.seq (.reg true [⟨some 54, none, .mov (.t 0)⟩, 
          ⟨some 55, none, .mov (.t 3)⟩, 
          ⟨some 56, none, .ldl 4 (.t 4) 7 true⟩, 
          ⟨some 57, none, .call 41 [(.c (.p (.int .i64 0)))] false⟩, 
          ⟨some 58, none, .eqa false [true, true, true, true, true, true, true] (.t 56) (.t 57)⟩, 
          ⟨some 59, none, .mov (.t 58)⟩, 
          ⟨some 60, (some (59, true)), .mov (.t 6)⟩, 
          ⟨some 61, none, .pick (.t 59) (.t 60) (.c (.p (.bool false)))⟩, 
          ⟨some 62, none, .mov (.t 61)⟩, 
          ⟨some 63, (some (62, true)), .mov (.t 7)⟩, 
          ⟨some 64, none, .pick (.t 62) (.t 63) (.c (.p (.bool false)))⟩, 
          ⟨some 65, none, .call 37 [(.t 54), (.c (.p (.int .i64 5))), (.t 55), (.t 64)] false⟩] [0, 2, 3, 4, 12, 13, 14] [4])
        (.reg false [⟨some 66, none, .mov (.t 2)⟩, 
          ⟨some 67, none, .mov (.t 66)⟩, 
          ⟨some 68, (some (67, false)), .mov (.t 3)⟩, 
          ⟨some 69, (some (67, false)), .bin .gtr (.t 68) (.c (.p (.int .i64 0)))⟩, 
          ⟨some 70, (some (67, false)), .mov (.t 69)⟩, 
          ⟨some 71, (some (70, true)), .ld (.t 4) 7 true⟩, 
          ⟨some 72, (some (70, true)), .call 42 [(.t 71)] false⟩, 
          ⟨some 73, (some (67, false)), .pick (.t 70) (.t 72) (.c (.p (.bool false)))⟩, 
          ⟨some 74, none, .pick (.t 67) (.c (.p (.bool true))) (.t 73)⟩, 
          ⟨some 2, none, .mov (.t 74)⟩] [0, 2, 12, 13, 14] []))))))))))
      (.reg false [⟨some 75, none, .bin .add (.t 14) (.c (.p (.int .i64 1)))⟩, 
        ⟨some 14, none, .mov (.t 75)⟩] [0, 2, 12, 13, 14] [])))))
def ir16 : IFn :=   -- (*tympan/lint.look).items
⟨(.seq (.reg false [⟨some 2, none, .mov (.c (.p (.bool true)))⟩] [0, 2] [])
  (.seq (.reg false [⟨some 8, none, .mov (.t 0)⟩, 
    ⟨some 9, none, .nck (.t 8)⟩, 
    ⟨some 10, none, .off (.t 9) 0⟩, 
    ⟨some 11, none, .off (.t 10) 19⟩, 
    ⟨some 12, none, .ld (.t 11) 1 false⟩, 
    ⟨some 13, none, .len (.t 12)⟩, 
    ⟨some 14, none, .mov (.c (.p (.int .i64 0)))⟩] [0, 2, 12, 13, 14] [])
  (.block 0 lp16_0))),
  [], false⟩
def lp17_0 : IC :=
  (.loop [0, 2, 3, 5, 32, 33, 34, 40, 41, 42] [] (.seq (.reg false [⟨some 43, none, .bin .lss (.t 42) (.t 41)⟩] [0, 2, 3, 5, 32, 33, 34, 40, 41, 42, 43] [])
            (.seq (.cond (.t 43)
            .skip
            (.exit 2))
            (.seq (.block 3 (.seq (.reg false [⟨some 44, none, .ixs (.t 40) (.t 42) 1⟩, 
                ⟨some 45, none, .ld (.t 44) 1 false⟩, 
                ⟨some 7, none, .mov (.t 45)⟩] [0, 2, 3, 5, 7, 32, 33, 34, 40, 41, 42] [])
              (.reg false [⟨some 46, none, .mov (.t 5)⟩, 
                ⟨some 47, none, .mov (.t 46)⟩, 
                ⟨some 48, (some (47, false)), .mov (.t 7)⟩, 
                ⟨some 49, (some (47, false)), .mov (.t 2)⟩, 
                ⟨some 50, (some (47, false)), .bin .gtr (.t 48) (.t 49)⟩, 
                ⟨some 51, none, .pick (.t 47) (.c (.p (.bool true))) (.t 50)⟩, 
                ⟨some 5, none, .mov (.t 51)⟩] [0, 2, 3, 5, 32, 33, 34, 40, 41, 42] [])))
            (.reg false [⟨some 52, none, .bin .add (.t 42) (.c (.p (.int .i64 1)))⟩, 
              ⟨some 42, none, .mov (.t 52)⟩] [0, 2, 3, 5, 32, 33, 34, 40, 41, 42] [])))))
def lp17_1 : IC :=
  (.loop [0, 2, 32, 33, 34] [] (.seq (.reg false [⟨some 35, none, .bin .lss (.t 34) (.t 33)⟩] [0, 2, 32, 33, 34, 35] [])
      (.seq (.cond (.t 35)
      .skip
      (.exit 0))
      (.seq (.block 1 (.seq (.reg false [⟨some 36, none, .mov (.t 34)⟩, 
          ⟨some 37, none, .ixs (.t 32) (.t 34) 2⟩, 
          ⟨some 38, none, .ld (.t 37) 2 true⟩, 
          ⟨some 4, none, .al [.nils, .nils] true⟩, 
          ⟨some 3, none, .mov (.t 36)⟩, 
          ⟨none, none, .st (.t 4) (.t 38) 2⟩] [0, 2, 3, 4, 32, 33, 34] [4])
        (.seq (.reg false [⟨some 5, none, .mov (.c (.p (.bool false)))⟩] [0, 2, 3, 4, 5, 32, 33, 34] [4])
        (.seq (.seq (.reg false [⟨some 39, none, .off (.t 4) 0⟩, 
          ⟨some 40, none, .ld (.t 39) 1 false⟩, 
          ⟨some 41, none, .len (.t 40)⟩, 
          ⟨some 42, none, .mov (.c (.p (.int .i64 0)))⟩] [0, 2, 3, 5, 32, 33, 34, 40, 41, 42] [])
        (.block 2 lp17_0))
        (.reg false [⟨some 53, none, .mov (.t 0)⟩, 
          ⟨some 54, none, .mov (.t 3)⟩, 
          ⟨some 55, none, .mov (.t 5)⟩, 
          ⟨some 56, none, .call 37 [(.t 53), (.c (.p (.int .i64 2))), (.t 54), (.t 55)] false⟩] [0, 2, 32, 33, 34] [])))))
      (.reg false [⟨some 57, none, .bin .add (.t 34) (.c (.p (.int .i64 1)))⟩, 
        ⟨some 34, none, .mov (.t 57)⟩] [0, 2, 32, 33, 34] [])))))
def ir17 : IFn :=   -- (*tympan/lint.look).notes
⟨(.seq (.reg true [⟨some 8, none, .mov (.t 0)⟩, 
    ⟨some 9, none, .nck (.t 8)⟩, 
    ⟨some 10, none, .off (.t 9) 0⟩, 
    ⟨some 11, none, .off (.t 10) 0⟩, 
    ⟨some 12, none, .off (.t 11) 8⟩, 
    ⟨some 13, none, .ld (.t 12) 1 false⟩, 
    ⟨some 14, none, .mov (.t 0)⟩, 
    ⟨some 15, none, .nck (.t 14)⟩, 
    ⟨some 16, none, .off (.t 15) 0⟩, 
    ⟨some 17, none, .off (.t 16) 0⟩, 
    ⟨some 18, none, .off (.t 17) 3⟩, 
    ⟨some 19, none, .ld (.t 18) 1 false⟩, 
    ⟨some 20, none, .mnmx false (.t 13) (.t 19)⟩, 
    ⟨some 21, none, .mov (.t 0)⟩, 
    ⟨some 22, none, .nck (.t 21)⟩, 
    ⟨some 23, none, .off (.t 22) 0⟩, 
    ⟨some 24, none, .off (.t 23) 0⟩, 
    ⟨some 25, none, .off (.t 24) 6⟩, 
    ⟨some 26, none, .ld (.t 25) 1 false⟩, 
    ⟨some 27, none, .bin .sub (.t 20) (.t 26)⟩, 
    ⟨some 2, none, .mov (.t 27)⟩] [0, 2] [])
  (.seq (.reg false [⟨some 28, none, .mov (.t 0)⟩, 
    ⟨some 29, none, .nck (.t 28)⟩, 
    ⟨some 30, none, .off (.t 29) 0⟩, 
    ⟨some 31, none, .off (.t 30) 20⟩, 
    ⟨some 32, none, .ld (.t 31) 1 false⟩, 
    ⟨some 33, none, .len (.t 32)⟩, 
    ⟨some 34, none, .mov (.c (.p (.int .i64 0)))⟩] [0, 2, 32, 33, 34] [])
  (.block 0 lp17_1))),
  [], false⟩
def lp18_0 : IC :=
  (.loop [1, 2, 11, 12] [] (.seq (.reg false [⟨some 13, none, .bin .lss (.t 12) (.t 11)⟩] [1, 2, 11, 12, 13] [])
      (.seq (.cond (.t 13)
      .skip
      (.exit 0))
      (.seq (.block 1 (.seq (.reg false [⟨some 14, none, .mov (.t 12)⟩, 
          ⟨some 3, none, .mov (.t 14)⟩] [1, 2, 3, 11, 12] [])
        (.seq (.reg false [⟨some 15, none, .mov (.t 3)⟩, 
          ⟨some 16, none, .bsl 1 1 [.p (.int .i64 0)] [(0, (.t 15))]⟩, 
          ⟨some 4, none, .mov (.t 16)⟩] [1, 2, 3, 4, 11, 12] [])
        (.reg true [⟨some 17, none, .ld (.t 1) 1 false⟩, 
          ⟨some 18, none, .mov (.t 3)⟩, 
          ⟨some 19, none, .mov (.t 2)⟩, 
          ⟨some 20, none, .mov (.t 4)⟩, 
          ⟨some 21, none, .bld [.nils, .nils] [(0, 1, (.t 20))]⟩, 
          ⟨some 22, none, .callv (.t 19) [(.t 21)] true⟩, 
          ⟨some 23, none, .un .not (.t 22)⟩, 
          ⟨some 24, none, .mov (.t 23)⟩, 
          ⟨some 25, (some (24, true)), .mov (.t 2)⟩, 
          ⟨some 26, (some (24, true)), .mov (.t 4)⟩, 
          ⟨some 27, (some (24, true)), .bld [.nils, .nils] [(1, 1, (.t 26))]⟩, 
          ⟨some 28, (some (24, true)), .callv (.t 25) [(.t 27)] true⟩, 
          ⟨some 29, (some (24, true)), .un .not (.t 28)⟩, 
          ⟨some 30, none, .pick (.t 24) (.t 29) (.c (.p (.bool false)))⟩, 
          ⟨some 31, none, .call 37 [(.t 17), (.c (.p (.int .i64 3))), (.t 18), (.t 30)] false⟩] [1, 2, 11, 12] []))))
      (.reg false [⟨some 32, none, .bin .add (.t 12) (.c (.p (.int .i64 1)))⟩, 
        ⟨some 12, none, .mov (.t 32)⟩] [1, 2, 11, 12] [])))))
def ir18 : IFn :=   -- (*tympan/lint.look).floats
⟨(.seq (.reg false [⟨some 1, none, .bx (.t 0) 1 false⟩] [1] [])
  (.seq (.reg false [⟨some 5, none, .mkf (.func 43) [] [(.t 1)]⟩, 
    ⟨some 2, none, .mov (.t 5)⟩] [1, 2] [])
  (.seq (.reg false [⟨some 6, none, .ld (.t 1) 1 false⟩, 
    ⟨some 7, none, .nck (.t 6)⟩, 
    ⟨some 8, none, .off (.t 7) 0⟩, 
    ⟨some 9, none, .off (.t 8) 21⟩, 
    ⟨some 10, none, .ld (.t 9) 1 false⟩, 
    ⟨some 11, none, .len (.t 10)⟩, 
    ⟨some 12, none, .mov (.c (.p (.int .i64 0)))⟩] [1, 2, 11, 12] [])
  (.block 0 lp18_0)))),
  [], false⟩
def lp19_0 : IC :=
  (.loop [1, 2, 3, 4, 5] [1, 2, 4] (.seq (.seq (.reg false [⟨some 48, none, .mov (.t 5)⟩, 
        ⟨some 49, none, .off (.t 1) 19⟩, 
        ⟨some 50, none, .ld (.t 49) 1 false⟩, 
        ⟨some 51, none, .len (.t 50)⟩, 
        ⟨some 52, none, .bin .lss (.t 48) (.t 51)⟩] [1, 2, 3, 4, 5, 52] [1, 2, 4])
      (.cond (.t 52)
      .skip
      (.exit 0)))
      (.seq (.block 1 (.reg true [⟨some 55, none, .off (.t 4) 19⟩, 
          ⟨some 56, none, .ldl 4 (.t 55) 1 false⟩, 
          ⟨some 57, none, .off (.t 1) 19⟩, 
          ⟨some 58, none, .ldl 1 (.t 57) 1 false⟩, 
          ⟨some 59, none, .mov (.t 5)⟩, 
          ⟨some 60, none, .ixs (.t 58) (.t 59) 7⟩, 
          ⟨some 61, none, .ld (.t 60) 7 true⟩, 
          ⟨some 62, none, .mov (.t 3)⟩, 
          ⟨some 63, none, .call 47 [(.t 61), (.t 62)] false⟩, 
          ⟨some 64, none, .bsl 7 1 [.p (.int .i64 0), .p (.int .i64 0), .p (.int .i64 0), .p (.int .i64 0), .p (.int .i64 0), .p (.int .i64 0), .p (.int .i64 0)] [(0, (.t 63))]⟩, 
          ⟨some 65, none, .app (.t 56) (.t 64) 7⟩, 
          ⟨some 66, none, .off (.t 4) 19⟩, 
          ⟨none, none, .stl 4 (.t 66) (.t 65) 1⟩] [1, 2, 3, 4, 5] [1, 2, 4]))
      (.reg false [⟨some 53, none, .mov (.t 5)⟩, 
        ⟨some 54, none, .bin .add (.t 53) (.c (.p (.int .i64 1)))⟩, 
        ⟨some 5, none, .mov (.t 54)⟩] [1, 2, 3, 4, 5] [1, 2, 4]))))
def lp19_1 : IC :=
  (.loop [1, 2, 3, 4, 6, 7, 8] [1, 2, 4, 7] (.seq (.seq (.reg false [⟨some 81, none, .mov (.t 8)⟩, 
              ⟨some 82, none, .off (.t 1) 20⟩, 
              ⟨some 83, none, .ld (.t 82) 1 false⟩, 
              ⟨some 84, none, .mov (.t 6)⟩, 
              ⟨some 85, none, .ixs (.t 83) (.t 84) 2⟩, 
              ⟨some 86, none, .off (.t 85) 0⟩, 
              ⟨some 87, none, .ld (.t 86) 1 false⟩, 
              ⟨some 88, none, .len (.t 87)⟩, 
              ⟨some 89, none, .bin .lss (.t 81) (.t 88)⟩] [1, 2, 3, 4, 6, 7, 8, 89] [1, 2, 4, 7])
            (.cond (.t 89)
            .skip
            (.exit 4)))
            (.seq (.block 5 (.reg true [⟨some 92, none, .off (.t 7) 0⟩, 
                ⟨some 93, none, .ldl 7 (.t 92) 1 false⟩, 
                ⟨some 94, none, .off (.t 1) 20⟩, 
                ⟨some 95, none, .ldl 1 (.t 94) 1 false⟩, 
                ⟨some 96, none, .mov (.t 6)⟩, 
                ⟨some 97, none, .ixs (.t 95) (.t 96) 2⟩, 
                ⟨some 98, none, .off (.t 97) 0⟩, 
                ⟨some 99, none, .ld (.t 98) 1 false⟩, 
                ⟨some 100, none, .mov (.t 8)⟩, 
                ⟨some 101, none, .ixs (.t 99) (.t 100) 1⟩, 
                ⟨some 102, none, .ld (.t 101) 1 false⟩, 
                ⟨some 103, none, .mov (.t 3)⟩, 
                ⟨some 104, none, .call 46 [(.t 102), (.t 103)] false⟩, 
                ⟨some 105, none, .bsl 1 1 [.p (.int .i64 0)] [(0, (.t 104))]⟩, 
                ⟨some 106, none, .app (.t 93) (.t 105) 1⟩, 
                ⟨some 107, none, .off (.t 7) 0⟩, 
                ⟨none, none, .stl 7 (.t 107) (.t 106) 1⟩] [1, 2, 3, 4, 6, 7, 8] [1, 2, 4, 7]))
            (.reg false [⟨some 90, none, .mov (.t 8)⟩, 
              ⟨some 91, none, .bin .add (.t 90) (.c (.p (.int .i64 1)))⟩, 
              ⟨some 8, none, .mov (.t 91)⟩] [1, 2, 3, 4, 6, 7, 8] [1, 2, 4, 7]))))
def lp19_2 : IC :=
  (.loop [1, 2, 3, 4, 6] [1, 2, 4] (.seq (.seq (.reg false [⟨some 67, none, .mov (.t 6)⟩, 
        ⟨some 68, none, .off (.t 1) 20⟩, 
        ⟨some 69, none, .ld (.t 68) 1 false⟩, 
        ⟨some 70, none, .len (.t 69)⟩, 
        ⟨some 71, none, .bin .lss (.t 67) (.t 70)⟩] [1, 2, 3, 4, 6, 71] [1, 2, 4])
      (.cond (.t 71)
      .skip
      (.exit 2)))
      (.seq (.block 3 (.seq (.reg false [⟨some 74, none, .off (.t 1) 20⟩, 
          ⟨some 75, none, .ld (.t 74) 1 false⟩, 
          ⟨some 76, none, .mov (.t 6)⟩, 
          ⟨some 77, none, .ixs (.t 75) (.t 76) 2⟩, 
          ⟨some 78, none, .off (.t 77) 1⟩, 
          ⟨some 79, none, .ld (.t 78) 1 false⟩, 
          ⟨some 80, none, .bld [.nils, .nils] [(1, 1, (.t 79))]⟩, 
          ⟨some 7, none, .al [.nils, .nils] true⟩, 
          ⟨none, none, .st (.t 7) (.t 80) 2⟩] [1, 2, 3, 4, 6, 7] [1, 2, 4, 7])
        (.seq (.seq (.reg false [⟨some 8, none, .mov (.c (.p (.int .i64 0)))⟩] [1, 2, 3, 4, 6, 7, 8] [1, 2, 4, 7])
        (.block 4 lp19_1))
        (.reg false [⟨some 108, none, .off (.t 4) 20⟩, 
          ⟨some 109, none, .ld (.t 108) 1 false⟩, 
          ⟨some 110, none, .ld (.t 7) 2 true⟩, 
          ⟨some 111, none, .bsl 2 1 [.nils, .nils] [(0, (.t 110))]⟩, 
          ⟨some 112, none, .app (.t 109) (.t 111) 2⟩, 
          ⟨some 113, none, .off (.t 4) 20⟩, 
          ⟨none, none, .st (.t 113) (.t 112) 1⟩] [1, 2, 3, 4, 6] [1, 2, 4]))))
      (.reg false [⟨some 72, none, .mov (.t 6)⟩, 
        ⟨some 73, none, .bin .add (.t 72) (.c (.p (.int .i64 1)))⟩, 
        ⟨some 6, none, .mov (.t 73)⟩] [1, 2, 3, 4, 6] [1, 2, 4]))))
def lp19_3 : IC :=
  (.loop [1, 2, 3, 4, 9] [1, 2, 4] (.seq (.seq (.reg false [⟨some 114, none, .mov (.t 9)⟩, 
        ⟨some 115, none, .off (.t 1) 21⟩, 
        ⟨some 116, none, .ld (.t 115) 1 false⟩, 
        ⟨some 117, none, .len (.t 116)⟩, 
        ⟨some 118, none, .bin .lss (.t 114) (.t 117)⟩] [1, 2, 3, 4, 9, 118] [1, 2, 4])
      (.cond (.t 118)
      .skip
      (.exit 6)))
      (.seq (.block 7 (.seq (.reg false [⟨some 121, none, .off (.t 1) 21⟩, 
          ⟨some 122, none, .ld (.t 121) 1 false⟩, 
          ⟨some 123, none, .mov (.t 9)⟩, 
          ⟨some 124, none, .ixs (.t 122) (.t 123) 3⟩, 
          ⟨some 125, none, .ld (.t 124) 3 true⟩, 
          ⟨some 10, none, .al [.p (.int .i64 0), .p (.int .i64 0), .p (.int .i64 0)] true⟩, 
          ⟨none, none, .st (.t 10) (.t 125) 3⟩] [1, 2, 3, 4, 9, 10] [1, 2, 4, 10])
        (.seq (.reg false [⟨some 126, none, .off (.t 10) 1⟩, 
          ⟨some 127, none, .ld (.t 126) 1 false⟩, 
          ⟨some 128, none, .mov (.t 3)⟩, 
          ⟨some 129, none, .call 46 [(.t 127), (.t 128)] false⟩, 
          ⟨some 130, none, .off (.t 10) 1⟩, 
          ⟨none, none, .st (.t 130) (.t 129) 1⟩] [1, 2, 3, 4, 9, 10] [1, 2, 4, 10])
        (.reg false [⟨some 131, none, .off (.t 4) 21⟩, 
          ⟨some 132, none, .ld (.t 131) 1 false⟩, 
          ⟨some 133, none, .ld (.t 10) 3 true⟩, 
          ⟨some 134, none, .bsl 3 1 [.p (.int .i64 0), .p (.int .i64 0), .p (.int .i64 0)] [(0, (.t 133))]⟩, 
          ⟨some 135, none, .app (.t 132) (.t 134) 3⟩, 
          ⟨some 136, none, .off (.t 4) 21⟩, 
          ⟨none, none, .st (.t 136) (.t 135) 1⟩] [1, 2, 3, 4, 9] [1, 2, 4]))))
      (.reg false [⟨some 119, none, .mov (.t 9)⟩, 
        ⟨some 120, none, .bin .add (.t 119) (.c (.p (.int .i64 1)))⟩, 
        ⟨some 9, none, .mov (.t 120)⟩] [1, 2, 3, 4, 9] [1, 2, 4]))))
def ir19 : IFn :=   -- tympan/tympanref14.Snap
⟨(.seq (.reg false [⟨some 1, none, .bx (.t 0) 22 true⟩, 
    ⟨some 2, none, .al [.p (.int .i64 0), .p (.int .i64 0), .p (.int .i64 0), .p (.int .i64 0), .p (.int .i64 0), .p (.int .i64 0), .p (.int .i64 0), .p (.int .i64 0), .p (.int .i64 0), .p (.int .i64 0), .p (.int .i64 0), .p (.int .i64 0), .p (.int .i64 0), .p (.int .i64 0), .p (.int .i64 0), .p (.int .i64 0), .p (.int .i64 0), .p (.int .i64 0), .p (.bool false), .nils, .nils, .nils] true⟩] [1, 2] [1, 2])
  (.seq (.reg false [⟨some 11, none, .off (.t 1) 0⟩, 
    ⟨some 12, none, .off (.t 11) 5⟩, 
    ⟨some 13, none, .ld (.t 12) 1 false⟩, 
    ⟨some 3, none, .mov (.t 13)⟩] [1, 2, 3] [1, 2])
  (.seq (.seq (.reg false [⟨some 14, none, .mov (.t 3)⟩, 
    ⟨some 15, none, .bin .lss (.t 14) (.c (.p (.int .i64 1)))⟩] [1, 2, 3, 15] [1, 2])
  (.cond (.t 15)
  (.seq (.reg false [⟨some 16, none, .ld (.t 1) 22 true⟩, 
      ⟨none, none, .st (.t 2) (.t 16) 22⟩] [2] [2])
    .ret)
  .skip))
  (.seq (.reg false [⟨some 17, none, .off (.t 1) 0⟩, 
    ⟨some 18, none, .ld (.t 17) 19 true⟩, 
    ⟨some 19, none, .bld [.p (.int .i64 0), .p (.int .i64 0), .p (.int .i64 0), .p (.int .i64 0), .p (.int .i64 0), .p (.int .i64 0), .p (.int .i64 0), .p (.int .i64 0), .p (.int .i64 0), .p (.int .i64 0), .p (.int .i64 0), .p (.int .i64 0), .p (.int .i64 0), .p (.int .i64 0), .p (.int .i64 0), .p (.int .i64 0), .p (.int .i64 0), .p (.int .i64 0), .p (.bool false), .nils, .nils, .nils] [(0, 19, (.t 18))]⟩, 
    ⟨some 4, none, .al [.p (.int .i64 0), .p (.int .i64 0), .p (.int .i64 0), .p (.int .i64 0), .p (.int .i64 0), .p (.int .i64 0), .p (.int .i64 0), .p (.int .i64 0), .p (.int .i64 0), .p (.int .i64 0), .p (.int .i64 0), .p (.int .i64 0), .p (.int .i64 0), .p (.int .i64 0), .p (.int .i64 0), .p (.int .i64 0), .p (.int .i64 0), .p (.int .i64 0), .p (.bool false), .nils, .nils, .nils] true⟩, 
    ⟨none, none, .st (.t 4) (.t 19) 22⟩] [1, 2, 3, 4] [1, 2, 4])
  (.seq (.reg false [⟨some 20, none, .off (.t 1) 0⟩, 
    ⟨some 21, none, .off (.t 20) 3⟩, 
    ⟨some 22, none, .ld (.t 21) 1 false⟩, 
    ⟨some 23, none, .mov (.t 3)⟩, 
    ⟨some 24, none, .call 45 [(.t 22), (.t 23)] false⟩, 
    ⟨some 25, none, .off (.t 4) 0⟩, 
    ⟨some 26, none, .off (.t 25) 3⟩, 
    ⟨none, none, .st (.t 26) (.t 24) 1⟩] [1, 2, 3, 4] [1, 2, 4])
  (.seq (.reg false [⟨some 27, none, .off (.t 1) 0⟩, 
    ⟨some 28, none, .off (.t 27) 4⟩, 
    ⟨some 29, none, .ld (.t 28) 1 false⟩, 
    ⟨some 30, none, .mov (.t 3)⟩, 
    ⟨some 31, none, .call 45 [(.t 29), (.t 30)] false⟩, 
    ⟨some 32, none, .off (.t 4) 0⟩, 
    ⟨some 33, none, .off (.t 32) 4⟩, 
    ⟨none, none, .st (.t 33) (.t 31) 1⟩] [1, 2, 3, 4] [1, 2, 4])
  (.seq (.reg false [⟨some 34, none, .off (.t 1) 0⟩, 
    ⟨some 35, none, .off (.t 34) 6⟩, 
    ⟨some 36, none, .ld (.t 35) 1 false⟩, 
    ⟨some 37, none, .mov (.t 3)⟩, 
    ⟨some 38, none, .call 46 [(.t 36), (.t 37)] false⟩, 
    ⟨some 39, none, .off (.t 4) 0⟩, 
    ⟨some 40, none, .off (.t 39) 6⟩, 
    ⟨none, none, .st (.t 40) (.t 38) 1⟩] [1, 2, 3, 4] [1, 2, 4])
  (.seq (.reg false [⟨some 41, none, .off (.t 1) 0⟩, 
    ⟨some 42, none, .off (.t 41) 7⟩, 
    ⟨some 43, none, .ld (.t 42) 1 false⟩, 
    ⟨some 44, none, .mov (.t 3)⟩, 
    ⟨some 45, none, .call 46 [(.t 43), (.t 44)] false⟩, 
    ⟨some 46, none, .off (.t 4) 0⟩, 
    ⟨some 47, none, .off (.t 46) 7⟩, 
    ⟨none, none, .st (.t 47) (.t 45) 1⟩] [1, 2, 3, 4] [1, 2, 4])
  (.seq (.seq (.reg false [⟨some 5, none, .mov (.c (.p (.int .i64 0)))⟩] [1, 2, 3, 4, 5] [1, 2, 4])
  (.block 0 lp19_0))
  (.seq (.seq (.reg false [⟨some 6, none, .mov (.c (.p (.int .i64 0)))⟩] [1, 2, 3, 4, 6] [1, 2, 4])
  (.block 2 lp19_2))
  (.seq (.seq (.reg false [⟨some 9, none, .mov (.c (.p (.int .i64 0)))⟩] [1, 2, 3, 4, 9] [1, 2, 4])
  (.block 6 lp19_3))
  (.seq (.reg false [⟨some 137, none, .ld (.t 4) 22 true⟩, 
    ⟨none, none, .st (.t 2) (.t 137) 22⟩] [2] [2])
  .ret)))))))))))),
  [.cell 2 22 true], false⟩
def lp20_0 : IC :=
  (.loop [0, 1, 5] [] (.seq (.seq (.reg false [⟨some 7, none, .mov (.t 5)⟩, 
        ⟨some 8, none, .bin .geq (.t 7) (.c (.p (.int .i64 0)))⟩] [0, 1, 5, 8] [])
      (.cond (.t 8)
      .skip
      (.exit 0)))
      (.seq (.block 1 (.seq (.seq (.reg false [⟨some 11, none, .mov (.t 5)⟩, 
          ⟨some 12, none, .mov (.t 1)⟩, 
          ⟨some 13, none, .bin .lss (.t 11) (.t 12)⟩, 
          ⟨some 14, none, .mov (.t 13)⟩, 
          ⟨some 15, (some (14, true)), .mov (.t 0)⟩, 
          ⟨some 16, (some (14, true)), .mov (.t 5)⟩, 
          ⟨some 17, (some (14, true)), .call 48 [(.t 15), (.t 16)] false⟩, 
          ⟨some 18, none, .pick (.t 14) (.t 17) (.c (.p (.bool false)))⟩] [0, 1, 5, 18] [])
        (.cond (.t 18)
        (.seq (.reg false [⟨some 4, none, .mov (.c (.p (.bool true)))⟩] [4] [])
          .ret)
        .skip))
        (.seq (.reg false [⟨some 19, none, .mov (.t 0)⟩, 
          ⟨some 20, none, .mov (.t 5)⟩, 
          ⟨some 21, none, .ixs (.t 19) (.t 20) 7⟩, 
          ⟨some 22, none, .ld (.t 21) 7 true⟩, 
          ⟨some 23, none, .call 49 [(.t 22)] false⟩, 
          ⟨some 24, none, .un .not (.t 23)⟩] [0, 1, 5, 24] [])
        (.cond (.t 24)
        (.seq (.reg false [⟨some 4, none, .mov (.c (.p (.bool false)))⟩] [4] [])
          .ret)
        .skip))))
      (.reg false [⟨some 9, none, .mov (.t 5)⟩, 
        ⟨some 10, none, .bin .sub (.t 9) (.c (.p (.int .i64 1)))⟩, 
        ⟨some 5, none, .mov (.t 10)⟩] [0, 1, 5] []))))
def ir20 : IFn :=   -- tympan/tympanref50.lost
⟨(.seq (.reg false [⟨some 4, none, .mov (.c (.p (.bool false)))⟩] [0, 1] [])
  (.seq (.seq (.reg false [⟨some 6, none, .mov (.t 1)⟩, 
    ⟨some 5, none, .mov (.t 6)⟩] [0, 1, 5] [])
  (.block 0 lp20_0))
  (.seq (.reg false [⟨some 4, none, .mov (.c (.p (.bool true)))⟩] [4] [])
  .ret))),
  [.tmp 4], false⟩
def ir21 : IFn :=   -- tympan/tympanref50.idle
⟨(.seq (.reg false [⟨some 4, none, .mov (.c (.p (.bool false)))⟩] [0, 1] [])
  (.seq (.reg false [⟨some 5, none, .mov (.t 0)⟩, 
    ⟨some 6, none, .mov (.t 1)⟩, 
    ⟨some 7, none, .ixs (.t 5) (.t 6) 7⟩, 
    ⟨some 8, none, .off (.t 7) 0⟩, 
    ⟨some 9, none, .ld (.t 8) 1 false⟩, 
    ⟨some 10, none, .bin .eql (.t 9) (.c (.p (.int .i64 3)))⟩, 
    ⟨some 11, none, .mov (.t 10)⟩, 
    ⟨some 12, (some (11, true)), .mov (.t 0)⟩, 
    ⟨some 13, (some (11, true)), .mov (.t 1)⟩, 
    ⟨some 14, (some (11, true)), .ixs (.t 12) (.t 13) 7⟩, 
    ⟨some 15, (some (11, true)), .off (.t 14) 6⟩, 
    ⟨some 16, (some (11, true)), .ld (.t 15) 1 false⟩, 
    ⟨some 17, (some (11, true)), .bin .eql (.t 16) (.c (.p (.int .i64 0)))⟩, 
    ⟨some 18, none, .pick (.t 11) (.t 17) (.c (.p (.bool false)))⟩, 
    ⟨some 19, none, .mov (.t 18)⟩, 
    ⟨some 20, (some (19, true)), .mov (.t 1)⟩, 
    ⟨some 21, (some (19, true)), .bin .gtr (.t 20) (.c (.p (.int .i64 0)))⟩, 
    ⟨some 22, none, .pick (.t 19) (.t 21) (.c (.p (.bool false)))⟩, 
    ⟨some 23, none, .mov (.t 22)⟩, 
    ⟨some 24, (some (23, true)), .mov (.t 0)⟩, 
    ⟨some 25, (some (23, true)), .mov (.t 1)⟩, 
    ⟨some 26, (some (23, true)), .bin .sub (.t 25) (.c (.p (.int .i64 1)))⟩, 
    ⟨some 27, (some (23, true)), .ixs (.t 24) (.t 26) 7⟩, 
    ⟨some 28, (some (23, true)), .ld (.t 27) 7 true⟩, 
    ⟨some 29, (some (23, true)), .call 49 [(.t 28)] false⟩, 
    ⟨some 30, (some (23, true)), .un .not (.t 29)⟩, 
    ⟨some 31, none, .pick (.t 23) (.t 30) (.c (.p (.bool false)))⟩, 
    ⟨some 32, none, .mov (.t 31)⟩, 
    ⟨some 33, (some (32, true)), .mov (.t 1)⟩, 
    ⟨some 34, (some (32, true)), .bin .add (.t 33) (.c (.p (.int .i64 1)))⟩, 
    ⟨some 35, (some (32, true)), .mov (.t 0)⟩, 
    ⟨some 36, (some (32, true)), .len (.t 35)⟩, 
    ⟨some 37, (some (32, true)), .bin .lss (.t 34) (.t 36)⟩, 
    ⟨some 38, none, .pick (.t 32) (.t 37) (.c (.p (.bool false)))⟩, 
    ⟨some 39, none, .mov (.t 38)⟩, 
    ⟨some 40, (some (39, true)), .mov (.t 0)⟩, 
    ⟨some 41, (some (39, true)), .mov (.t 1)⟩, 
    ⟨some 42, (some (39, true)), .bin .add (.t 41) (.c (.p (.int .i64 1)))⟩, 
    ⟨some 43, (some (39, true)), .ixs (.t 40) (.t 42) 7⟩, 
    ⟨some 44, (some (39, true)), .off (.t 43) 0⟩, 
    ⟨some 45, (some (39, true)), .ld (.t 44) 1 false⟩, 
    ⟨some 46, (some (39, true)), .bin .eql (.t 45) (.c (.p (.int .i64 2)))⟩, 
    ⟨some 47, none, .pick (.t 39) (.t 46) (.c (.p (.bool false)))⟩, 
    ⟨some 4, none, .mov (.t 47)⟩] [4] [])
  .ret)),
  [.tmp 4], false⟩
def lp22_0 : IC :=
  (.loop [2, 3, 5] [2, 3] (.seq (.seq (.reg false [⟨some 6, none, .mov (.t 5)⟩, 
        ⟨some 7, none, .off (.t 3) 0⟩, 
        ⟨some 8, none, .ld (.t 7) 1 false⟩, 
        ⟨some 9, none, .len (.t 8)⟩, 
        ⟨some 10, none, .bin .lss (.t 6) (.t 9)⟩] [2, 3, 5, 10] [2, 3])
      (.cond (.t 10)
      .skip
      (.exit 0)))
      (.seq (.block 1 (.seq (.reg true [⟨some 13, none, .off (.t 3) 0⟩, 
          ⟨some 14, none, .ldl 3 (.t 13) 1 false⟩, 
          ⟨some 15, none, .mov (.t 5)⟩, 
          ⟨some 16, none, .ixs (.t 14) (.t 15) 1⟩, 
          ⟨some 17, none, .ld (.t 16) 1 false⟩, 
          ⟨some 18, none, .off (.t 2) 6⟩, 
          ⟨some 19, none, .ldl 2 (.t 18) 1 false⟩, 
          ⟨some 20, none, .bin .add (.t 17) (.t 19)⟩, 
          ⟨some 21, none, .off (.t 2) 8⟩, 
          ⟨some 22, none, .ldl 2 (.t 21) 1 false⟩, 
          ⟨some 23, none, .off (.t 2) 3⟩, 
          ⟨some 24, none, .ldl 2 (.t 23) 1 false⟩, 
          ⟨some 25, none, .mnmx false (.t 22) (.t 24)⟩, 
          ⟨some 26, none, .bin .gtr (.t 20) (.t 25)⟩] [2, 3, 5, 26] [2, 3])
        (.cond (.t 26)
        (.seq (.reg false [⟨some 4, none, .mov (.c (.p (.bool true)))⟩] [4] [])
          .ret)
        .skip)))
      (.reg false [⟨some 11, none, .mov (.t 5)⟩, 
        ⟨some 12, none, .bin .add (.t 11) (.c (.p (.int .i64 1)))⟩, 
        ⟨some 5, none, .mov (.t 12)⟩] [2, 3, 5] [2, 3]))))
def ir22 : IFn :=   -- tympan/tympanref50.long
⟨(.seq (.reg false [⟨some 2, none, .bx (.t 0) 19 true⟩, 
    ⟨some 3, none, .bx (.t 1) 2 true⟩, 
    ⟨some 4, none, .mov (.c (.p (.bool false)))⟩] [2, 3] [2, 3])
  (.seq (.seq (.reg false [⟨some 5, none, .mov (.c (.p (.int .i64 0)))⟩] [2, 3, 5] [2, 3])
  (.block 0 lp22_0))
  (.seq (.reg false [⟨some 4, none, .mov (.c (.p (.bool false)))⟩] [4] [])
  .ret))),
  [.tmp 4], false⟩
def ir23 : IFn :=   -- tympan/tympanref24.Fits
⟨(.seq (.reg false [⟨some 3, none, .bx (.t 0) 19 true⟩, 
    ⟨some 5, none, .bx (.t 2) 2 true⟩, 
    ⟨some 6, none, .mov (.c (.p (.bool false)))⟩] [1, 3, 5] [3, 5])
  (.seq (.reg false [⟨some 7, none, .ld (.t 3) 19 true⟩, 
    ⟨some 8, none, .mov (.t 1)⟩, 
    ⟨some 9, none, .off (.t 5) 0⟩, 
    ⟨some 10, none, .ld (.t 9) 1 false⟩, 
    ⟨some 11, none, .off (.t 3) 11⟩, 
    ⟨some 12, none, .ld (.t 11) 1 false⟩, 
    ⟨some 13, none, .off (.t 3) 9⟩, 
    ⟨some 14, none, .ld (.t 13) 1 false⟩, 
    ⟨some 15, none, .call 50 [(.t 7), (.t 8), (.t 10), (.c (.p (.int .i64 1))), (.t 12), (.t 14)] false⟩, 
    ⟨some 16, none, .mov (.t 15)⟩, 
    ⟨some 17, (some (16, true)), .ld (.t 3) 19 true⟩, 
    ⟨some 18, (some (16, true)), .mov (.t 1)⟩, 
    ⟨some 19, (some (16, true)), .off (.t 5) 1⟩, 
    ⟨some 20, (some (16, true)), .ld (.t 19) 1 false⟩, 
    ⟨some 21, (some (16, true)), .off (.t 3) 12⟩, 
    ⟨some 22, (some (16, true)), .ld (.t 21) 1 false⟩, 
    ⟨some 23, (some (16, true)), .off (.t 3) 10⟩, 
    ⟨some 24, (some (16, true)), .ld (.t 23) 1 false⟩, 
    ⟨some 25, (some (16, true)), .call 50 [(.t 17), (.t 18), (.t 20), (.c (.p (.int .i64 2))), (.t 22), (.t 24)] false⟩, 
    ⟨some 26, none, .pick (.t 16) (.t 25) (.c (.p (.bool false)))⟩, 
    ⟨some 6, none, .mov (.t 26)⟩] [6] [])
  .ret)),
  [.tmp 6], false⟩
def lp24_0 : IC :=
  (.loop [1, 3, 4] [1, 3] (.seq (.seq (.reg false [⟨some 24, none, .mov (.t 4)⟩, 
        ⟨some 25, none, .bin .lss (.t 24) (.c (.p (.int .i64 3)))⟩] [1, 3, 4, 25] [1, 3])
      (.cond (.t 25)
      .skip
      (.exit 0)))
      (.seq (.block 1 (.seq (.reg false [⟨some 28, none, .mov (.t 4)⟩, 
          ⟨some 29, none, .ixa (.t 3) (.t 28) 1 3⟩, 
          ⟨some 30, none, .ld (.t 29) 1 false⟩, 
          ⟨some 31, none, .bin .lss (.t 30) (.c (.p (.int .i64 1)))⟩, 
          ⟨some 32, none, .mov (.t 31)⟩, 
          ⟨some 33, (some (32, false)), .mov (.t 4)⟩, 
          ⟨some 34, (some (32, false)), .ixa (.t 3) (.t 33) 1 3⟩, 
          ⟨some 35, (some (32, false)), .ld (.t 34) 1 false⟩, 
          ⟨some 36, (some (32, false)), .bin .gtr (.t 35) (.c (.p (.int .i64 1073741823)))⟩, 
          ⟨some 37, none, .pick (.t 32) (.c (.p (.bool true))) (.t 36)⟩] [1, 3, 4, 37] [1, 3])
        (.cond (.t 37)
        (.seq (.reg false [⟨some 2, none, .mov (.c (.p (.int .i64 7)))⟩] [2] [])
          .ret)
        .skip)))
      (.reg false [⟨some 26, none, .mov (.t 4)⟩, 
        ⟨some 27, none, .bin .add (.t 26) (.c (.p (.int .i64 1)))⟩, 
        ⟨some 4, none, .mov (.t 27)⟩] [1, 3, 4] [1, 3]))))
def lp24_1 : IC :=
  (.loop [1, 5, 6] [1, 5] (.seq (.seq (.reg false [⟨some 53, none, .mov (.t 6)⟩, 
        ⟨some 54, none, .bin .lss (.t 53) (.c (.p (.int .i64 7)))⟩] [1, 5, 6, 54] [1, 5])
      (.cond (.t 54)
      .skip
      (.exit 2)))
      (.seq (.block 3 (.seq (.reg false [⟨some 57, none, .mov (.t 6)⟩, 
          ⟨some 58, none, .ixa (.t 5) (.t 57) 1 7⟩, 
          ⟨some 59, none, .ld (.t 58) 1 false⟩, 
          ⟨some 60, none, .bin .lss (.t 59) (.c (.p (.int .i64 0)))⟩, 
          ⟨some 61, none, .mov (.t 60)⟩, 
          ⟨some 62, (some (61, false)), .mov (.t 6)⟩, 
          ⟨some 63, (some (61, false)), .ixa (.t 5) (.t 62) 1 7⟩, 
          ⟨some 64, (some (61, false)), .ld (.t 63) 1 false⟩, 
          ⟨some 65, (some (61, false)), .bin .gtr (.t 64) (.c (.p (.int .i64 1073741823)))⟩, 
          ⟨some 66, none, .pick (.t 61) (.c (.p (.bool true))) (.t 65)⟩] [1, 5, 6, 66] [1, 5])
        (.cond (.t 66)
        (.seq (.reg false [⟨some 2, none, .mov (.c (.p (.int .i64 7)))⟩] [2] [])
          .ret)
        .skip)))
      (.reg false [⟨some 55, none, .mov (.t 6)⟩, 
        ⟨some 56, none, .bin .add (.t 55) (.c (.p (.int .i64 1)))⟩, 
        ⟨some 6, none, .mov (.t 56)⟩] [1, 5, 6] [1, 5]))))
def lp24_2 : IC :=
  (.loop [1, 7, 8] [1, 7] (.seq (.seq (.reg false [⟨some 82, none, .mov (.t 8)⟩, 
        ⟨some 83, none, .bin .lss (.t 82) (.c (.p (.int .i64 7)))⟩] [1, 7, 8, 83] [1, 7])
      (.cond (.t 83)
      .skip
      (.exit 4)))
      (.seq (.block 5 (.seq (.reg false [⟨some 86, none, .mov (.t 8)⟩, 
          ⟨some 87, none, .ixa (.t 7) (.t 86) 1 7⟩, 
          ⟨some 88, none, .ld (.t 87) 1 false⟩, 
          ⟨some 89, none, .bin .lss (.t 88) (.c (.p (.int .i64 0)))⟩, 
          ⟨some 90, none, .mov (.t 89)⟩, 
          ⟨some 91, (some (90, false)), .mov (.t 8)⟩, 
          ⟨some 92, (some (90, false)), .ixa (.t 7) (.t 91) 1 7⟩, 
          ⟨some 93, (some (90, false)), .ld (.t 92) 1 false⟩, 
          ⟨some 94, (some (90, false)), .bin .gtr (.t 93) (.c (.p (.int .i64 1048576)))⟩, 
          ⟨some 95, none, .pick (.t 90) (.c (.p (.bool true))) (.t 94)⟩, 
          ⟨some 96, none, .mov (.t 95)⟩, 
          ⟨some 97, (some (96, false)), .mov (.t 8)⟩, 
          ⟨some 98, (some (96, false)), .bin .lss (.t 97) (.c (.p (.int .i64 2)))⟩, 
          ⟨some 99, (some (96, false)), .mov (.t 98)⟩, 
          ⟨some 100, (some (99, true)), .mov (.t 8)⟩, 
          ⟨some 101, (some (99, true)), .ixa (.t 7) (.t 100) 1 7⟩, 
          ⟨some 102, (some (99, true)), .ld (.t 101) 1 false⟩, 
          ⟨some 103, (some (99, true)), .bin .gtr (.t 102) (.c (.p (.int .i64 4)))⟩, 
          ⟨some 104, (some (96, false)), .pick (.t 99) (.t 103) (.c (.p (.bool false)))⟩, 
          ⟨some 105, none, .pick (.t 96) (.c (.p (.bool true))) (.t 104)⟩] [1, 7, 8, 105] [1, 7])
        (.cond (.t 105)
        (.seq (.reg false [⟨some 2, none, .mov (.c (.p (.int .i64 7)))⟩] [2] [])
          .ret)
        .skip)))
      (.reg false [⟨some 84, none, .mov (.t 8)⟩, 
        ⟨some 85, none, .bin .add (.t 84) (.c (.p (.int .i64 1)))⟩, 
        ⟨some 8, none, .mov (.t 85)⟩] [1, 7, 8] [1, 7]))))
def ir24 : IFn :=   -- tympan/tympanref13.Check
⟨(.seq (.reg false [⟨some 1, none, .bx (.t 0) 19 true⟩, 
    ⟨some 2, none, .mov (.c (.p (.int .i64 0)))⟩] [1] [1])
  (.seq (.seq (.reg false [⟨some 9, none, .off (.t 1) 0⟩, 
    ⟨some 10, none, .ld (.t 9) 1 false⟩, 
    ⟨some 11, none, .bin .lss (.t 10) (.c (.p (.int .i64 1)))⟩, 
    ⟨some 12, none, .mov (.t 11)⟩, 
    ⟨some 13, (some (12, false)), .off (.t 1) 0⟩, 
    ⟨some 14, (some (12, false)), .ld (.t 13) 1 false⟩, 
    ⟨some 15, (some (12, false)), .bin .gtr (.t 14) (.c (.p (.int .i64 8)))⟩, 
    ⟨some 16, none, .pick (.t 12) (.c (.p (.bool true))) (.t 15)⟩] [1, 16] [1])
  (.cond (.t 16)
  (.seq (.reg false [⟨some 2, none, .mov (.c (.p (.int .i64 6)))⟩] [2] [])
    .ret)
  .skip))
  (.seq (.reg false [⟨some 17, none, .off (.t 1) 1⟩, 
    ⟨some 18, none, .ld (.t 17) 1 false⟩, 
    ⟨some 19, none, .off (.t 1) 3⟩, 
    ⟨some 20, none, .ld (.t 19) 1 false⟩, 
    ⟨some 21, none, .off (.t 1) 4⟩, 
    ⟨some 22, none, .ld (.t 21) 1 false⟩, 
    ⟨some 23, none, .bld [.p (.int .i64 0), .p (.int .i64 0), .p (.int .i64 0)] [(0, 1, (.t 18)), (1, 1, (.t 20)), (2, 1, (.t 22))]⟩, 
    ⟨some 3, none, .al [.p (.int .i64 0), .p (.int .i64 0), .p (.int .i64 0)] true⟩, 
    ⟨none, none, .st (.t 3) (.t 23) 3⟩] [1, 3] [1, 3])
  (.seq (.seq (.reg false [⟨some 4, none, .mov (.c (.p (.int .i64 0)))⟩] [1, 3, 4] [1, 3])
  (.block 0 lp24_0))
  (.seq (.reg false [⟨some 38, none, .off (.t 1) 2⟩, 
    ⟨some 39, none, .ld (.t 38) 1 false⟩, 
    ⟨some 40, none, .off (.t 1) 6⟩, 
    ⟨some 41, none, .ld (.t 40) 1 false⟩, 
    ⟨some 42, none, .off (.t 1) 7⟩, 
    ⟨some 43, none, .ld (.t 42) 1 false⟩, 
    ⟨some 44, none, .off (.t 1) 8⟩, 
    ⟨some 45, none, .ld (.t 44) 1 false⟩, 
    ⟨some 46, none, .off (.t 1) 9⟩, 
    ⟨some 47, none, .ld (.t 46) 1 false⟩, 
    ⟨some 48, none, .off (.t 1) 10⟩, 
    ⟨some 49, none, .ld (.t 48) 1 false⟩, 
    ⟨some 50, none, .off (.t 1) 5⟩, 
    ⟨some 51, none, .ld (.t 50) 1 false⟩, 
    ⟨some 52, none, .bld [.p (.int .i64 0), .p (.int .i64 0), .p (.int .i64 0), .p (.int .i64 0), .p (.int .i64 0), .p (.int .i64 0), .p (.int .i64 0)] [(0, 1, (.t 39)), (1, 1, (.t 41)), (2, 1, (.t 43)), (3, 1, (.t 45)), (4, 1, (.t 47)), (5, 1, (.t 49)), (6, 1, (.t 51))]⟩, 
    ⟨some 5, none, .al [.p (.int .i64 0), .p (.int .i64 0), .p (.int .i64 0), .p (.int .i64 0), .p (.int .i64 0), .p (.int .i64 0), .p (.int .i64 0)] true⟩, 
    ⟨none, none, .st (.t 5) (.t 52) 7⟩] [1, 5] [1, 5])
  (.seq (.seq (.reg false [⟨some 6, none, .mov (.c (.p (.int .i64 0)))⟩] [1, 5, 6] [1, 5])
  (.block 2 lp24_1))
  (.seq (.reg false [⟨some 67, none, .off (.t 1) 11⟩, 
    ⟨some 68, none, .ld (.t 67) 1 false⟩, 
    ⟨some 69, none, .off (.t 1) 12⟩, 
    ⟨some 70, none, .ld (.t 69) 1 false⟩, 
    ⟨some 71, none, .off (.t 1) 13⟩, 
    ⟨some 72, none, .ld (.t 71) 1 false⟩, 
    ⟨some 73, none, .off (.t 1) 14⟩, 
    ⟨some 74, none, .ld (.t 73) 1 false⟩, 
    ⟨some 75, none, .off (.t 1) 15⟩, 
    ⟨some 76, none, .ld (.t 75) 1 false⟩, 
    ⟨some 77, none, .off (.t 1) 16⟩, 
    ⟨some 78, none, .ld (.t 77) 1 false⟩, 
    ⟨some 79, none, .off (.t 1) 17⟩, 
    ⟨some 80, none, .ld (.t 79) 1 false⟩, 
    ⟨some 81, none, .bld [.p (.int .i64 0), .p (.int .i64 0), .p (.int .i64 0), .p (.int .i64 0), .p (.int .i64 0), .p (.int .i64 0), .p (.int .i64 0)] [(0, 1, (.t 68)), (1, 1, (.t 70)), (2, 1, (.t 72)), (3, 1, (.t 74)), (4, 1, (.t 76)), (5, 1, (.t 78)), (6, 1, (.t 80))]⟩, 
    ⟨some 7, none, .al [.p (.int .i64 0), .p (.int .i64 0), .p (.int .i64 0), .p (.int .i64 0), .p (.int .i64 0), .p (.int .i64 0), .p (.int .i64 0)] true⟩, 
    ⟨none, none, .st (.t 7) (.t 81) 7⟩] [1, 7] [1, 7])
  (.seq (.seq (.reg false [⟨some 8, none, .mov (.c (.p (.int .i64 0)))⟩] [1, 7, 8] [1, 7])
  (.block 4 lp24_2))
  (.seq (.seq (.reg false [⟨some 106, none, .off (.t 1) 4⟩, 
    ⟨some 107, none, .ld (.t 106) 1 false⟩, 
    ⟨some 108, none, .off (.t 1) 3⟩, 
    ⟨some 109, none, .ld (.t 108) 1 false⟩, 
    ⟨some 110, none, .bin .gtr (.t 107) (.t 109)⟩, 
    ⟨some 111, none, .mov (.t 110)⟩, 
    ⟨some 112, (some (111, false)), .off (.t 1) 5⟩, 
    ⟨some 113, (some (111, false)), .ld (.t 112) 1 false⟩, 
    ⟨some 114, (some (111, false)), .off (.t 1) 4⟩, 
    ⟨some 115, (some (111, false)), .ld (.t 114) 1 false⟩, 
    ⟨some 116, (some (111, false)), .bin .gtr (.t 113) (.t 115)⟩, 
    ⟨some 117, none, .pick (.t 111) (.c (.p (.bool true))) (.t 116)⟩, 
    ⟨some 118, none, .mov (.t 117)⟩, 
    ⟨some 119, (some (118, false)), .off (.t 1) 5⟩, 
    ⟨some 120, (some (118, false)), .ld (.t 119) 1 false⟩, 
    ⟨some 121, (some (118, false)), .bin .gtr (.t 120) (.c (.p (.int .i64 536870912)))⟩, 
    ⟨some 122, none, .pick (.t 118) (.c (.p (.bool true))) (.t 121)⟩, 
    ⟨some 123, none, .mov (.t 122)⟩, 
    ⟨some 124, (some (123, false)), .off (.t 1) 6⟩, 
    ⟨some 125, (some (123, false)), .ld (.t 124) 1 false⟩, 
    ⟨some 126, (some (123, false)), .bin .gtr (.t 125) (.c (.p (.int .i64 536870912)))⟩, 
    ⟨some 127, none, .pick (.t 123) (.c (.p (.bool true))) (.t 126)⟩, 
    ⟨some 128, none, .mov (.t 127)⟩, 
    ⟨some 129, (some (128, false)), .off (.t 1) 7⟩, 
    ⟨some 130, (some (128, false)), .ld (.t 129) 1 false⟩, 
    ⟨some 131, (some (128, false)), .bin .gtr (.t 130) (.c (.p (.int .i64 536870912)))⟩, 
    ⟨some 132, none, .pick (.t 128) (.c (.p (.bool true))) (.t 131)⟩] [132] [])
  (.cond (.t 132)
  (.seq (.reg false [⟨some 2, none, .mov (.c (.p (.int .i64 7)))⟩] [2] [])
    .ret)
  .skip))
  (.seq (.reg false [⟨some 2, none, .mov (.c (.p (.int .i64 0)))⟩] [2] [])
  .ret)))))))))),
  [.tmp 2], false⟩
def ir25 : IFn :=   -- tympan/tympanref10.Right
⟨(.seq (.reg false [⟨some 1, none, .bx (.t 0) 7 true⟩, 
    ⟨some 2, none, .mov (.c (.p (.bool false)))⟩] [1] [1])
  (.seq (.reg false [⟨some 4, none, .off (.t 1) 0⟩, 
    ⟨some 5, none, .ld (.t 4) 1 false⟩, 
    ⟨some 6, none, .bld [.p (.int .i64 0), .p (.int .i64 0), .p (.int .i64 0), .p (.int .i64 0), .p (.int .i64 0), .p (.int .i64 0), .p (.int .i64 0)] [(0, 1, (.t 5))]⟩, 
    ⟨some 3, none, .al [.p (.int .i64 0), .p (.int .i64 0), .p (.int .i64 0), .p (.int .i64 0), .p (.int .i64 0), .p (.int .i64 0), .p (.int .i64 0)] true⟩, 
    ⟨none, none, .st (.t 3) (.t 6) 7⟩] [1, 3] [1, 3])
  (.seq (.seq (.reg false [⟨some 7, none, .off (.t 1) 0⟩, 
    ⟨some 8, none, .ld (.t 7) 1 false⟩] [1, 3, 8] [1, 3])
  (.block 0 (.seq (.reg false [⟨some 10, none, .bin .eql (.t 8) (.c (.p (.int .i64 1)))⟩, 
      ⟨some 9, none, .mov (.t 10)⟩] [1, 3, 8, 9] [1, 3])
    (.cond (.t 9)
    (.seq (.reg false [⟨some 11, none, .off (.t 1) 1⟩, 
        ⟨some 12, none, .ld (.t 11) 1 false⟩, 
        ⟨some 13, none, .off (.t 3) 1⟩, 
        ⟨none, none, .st (.t 13) (.t 12) 1⟩] [1, 3] [1, 3])
      (.reg false [⟨some 14, none, .off (.t 1) 2⟩, 
        ⟨some 15, none, .ld (.t 14) 1 false⟩, 
        ⟨some 16, none, .off (.t 3) 2⟩, 
        ⟨none, none, .st (.t 16) (.t 15) 1⟩] [1, 3] [1, 3]))
    (.seq (.reg false [⟨some 18, none, .bin .eql (.t 8) (.c (.p (.int .i64 2)))⟩, 
        ⟨some 17, none, .mov (.t 18)⟩] [1, 3, 8, 17] [1, 3])
      (.cond (.t 17)
      (.seq (.reg false [⟨some 19, none, .off (.t 1) 1⟩, 
          ⟨some 20, none, .ld (.t 19) 1 false⟩, 
          ⟨some 21, none, .off (.t 3) 1⟩, 
          ⟨none, none, .st (.t 21) (.t 20) 1⟩] [1, 3] [1, 3])
        (.seq (.reg false [⟨some 22, none, .off (.t 1) 3⟩, 
          ⟨some 23, none, .ld (.t 22) 1 false⟩, 
          ⟨some 24, none, .off (.t 3) 3⟩, 
          ⟨none, none, .st (.t 24) (.t 23) 1⟩] [1, 3] [1, 3])
        (.seq (.reg false [⟨some 25, none, .off (.t 1) 4⟩, 
          ⟨some 26, none, .ld (.t 25) 1 false⟩, 
          ⟨some 27, none, .off (.t 3) 4⟩, 
          ⟨none, none, .st (.t 27) (.t 26) 1⟩] [1, 3] [1, 3])
        (.reg false [⟨some 28, none, .off (.t 1) 5⟩, 
          ⟨some 29, none, .ld (.t 28) 1 false⟩, 
          ⟨some 30, none, .off (.t 3) 5⟩, 
          ⟨none, none, .st (.t 30) (.t 29) 1⟩] [1, 3] [1, 3]))))
      (.seq (.reg false [⟨some 32, none, .bin .eql (.t 8) (.c (.p (.int .i64 3)))⟩, 
          ⟨some 31, none, .mov (.t 32)⟩] [1, 3, 8, 31] [1, 3])
        (.cond (.t 31)
        (.seq (.reg false [⟨some 33, none, .off (.t 1) 6⟩, 
            ⟨some 34, none, .ld (.t 33) 1 false⟩, 
            ⟨some 35, none, .off (.t 3) 6⟩, 
            ⟨none, none, .st (.t 35) (.t 34) 1⟩] [1, 3] [1, 3])
          (.seq (.reg false [⟨some 36, none, .off (.t 1) 6⟩, 
            ⟨some 37, none, .ld (.t 36) 1 false⟩, 
            ⟨some 38, none, .bin .neq (.t 37) (.c (.p (.int .i64 (-10000))))⟩, 
            ⟨some 39, none, .mov (.t 38)⟩, 
            ⟨some 40, (some (39, true)), .off (.t 1) 6⟩, 
            ⟨some 41, (some (39, true)), .ld (.t 40) 1 false⟩, 
            ⟨some 42, (some (39, true)), .bin .lss (.t 41) (.c (.p (.int .i64 0)))⟩, 
            ⟨some 43, (some (39, true)), .mov (.t 42)⟩, 
            ⟨some 44, (some (43, false)), .off (.t 1) 6⟩, 
            ⟨some 45, (some (43, false)), .ld (.t 44) 1 false⟩, 
            ⟨some 46, (some (43, false)), .bin .gtr (.t 45) (.c (.p (.int .i64 10000)))⟩, 
            ⟨some 47, (some (39, true)), .pick (.t 43) (.c (.p (.bool true))) (.t 46)⟩, 
            ⟨some 48, none, .pick (.t 39) (.t 47) (.c (.p (.bool false)))⟩] [1, 3, 48] [1, 3])
          (.cond (.t 48)
          (.seq (.reg false [⟨some 2, none, .mov (.c (.p (.bool false)))⟩] [2] [])
            .ret)
          .skip)))
        (.seq (.reg false [⟨some 50, none, .bin .eql (.t 8) (.c (.p (.int .i64 4)))⟩, 
            ⟨some 49, none, .mov (.t 50)⟩] [1, 3, 8, 49] [1, 3])
          (.cond (.t 49)
          (.seq (.reg false [⟨some 51, none, .off (.t 1) 6⟩, 
              ⟨some 52, none, .ld (.t 51) 1 false⟩, 
              ⟨some 53, none, .off (.t 3) 6⟩, 
              ⟨none, none, .st (.t 53) (.t 52) 1⟩] [1, 3] [1, 3])
            (.seq (.reg false [⟨some 54, none, .off (.t 1) 6⟩, 
              ⟨some 55, none, .ld (.t 54) 1 false⟩, 
              ⟨some 56, none, .bin .lss (.t 55) (.c (.p (.int .i64 0)))⟩, 
              ⟨some 57, none, .mov (.t 56)⟩, 
              ⟨some 58, (some (57, false)), .off (.t 1) 6⟩, 
              ⟨some 59, (some (57, false)), .ld (.t 58) 1 false⟩, 
              ⟨some 60, (some (57, false)), .bin .gtr (.t 59) (.c (.p (.int .i64 1048576)))⟩, 
              ⟨some 61, none, .pick (.t 57) (.c (.p (.bool true))) (.t 60)⟩] [1, 3, 61] [1, 3])
            (.cond (.t 61)
            (.seq (.reg false [⟨some 2, none, .mov (.c (.p (.bool false)))⟩] [2] [])
              .ret)
            .skip)))
          (.seq (.reg false [⟨some 63, none, .bin .eql (.t 8) (.c (.p (.int .i64 5)))⟩, 
              ⟨some 62, none, .mov (.t 63)⟩] [1, 3, 8, 62] [1, 3])
            (.cond (.t 62)
            (.seq (.reg false [⟨some 64, none, .off (.t 1) 6⟩, 
                ⟨some 65, none, .ld (.t 64) 1 false⟩, 
                ⟨some 66, none, .off (.t 3) 6⟩, 
                ⟨none, none, .st (.t 66) (.t 65) 1⟩] [1, 3] [1, 3])
              (.seq (.reg false [⟨some 67, none, .off (.t 1) 6⟩, 
                ⟨some 68, none, .ld (.t 67) 1 false⟩, 
                ⟨some 69, none, .bin .lss (.t 68) (.c (.p (.int .i64 0)))⟩, 
                ⟨some 70, none, .mov (.t 69)⟩, 
                ⟨some 71, (some (70, false)), .off (.t 1) 6⟩, 
                ⟨some 72, (some (70, false)), .ld (.t 71) 1 false⟩, 
                ⟨some 73, (some (70, false)), .bin .gtr (.t 72) (.c (.p (.int .i64 511)))⟩, 
                ⟨some 74, none, .pick (.t 70) (.c (.p (.bool true))) (.t 73)⟩] [1, 3, 74] [1, 3])
              (.cond (.t 74)
              (.seq (.reg false [⟨some 2, none, .mov (.c (.p (.bool false)))⟩] [2] [])
                .ret)
              .skip)))
            (.seq (.reg false [⟨some 76, none, .bin .eql (.t 8) (.c (.p (.int .i64 6)))⟩, 
                ⟨some 75, none, .mov (.t 76)⟩] [1, 3, 8, 75] [1, 3])
              (.cond (.t 75)
              (.seq (.reg false [⟨some 77, none, .off (.t 1) 6⟩, 
                  ⟨some 78, none, .ld (.t 77) 1 false⟩, 
                  ⟨some 79, none, .off (.t 3) 6⟩, 
                  ⟨none, none, .st (.t 79) (.t 78) 1⟩] [1, 3] [1, 3])
                (.seq (.reg false [⟨some 80, none, .off (.t 1) 6⟩, 
                  ⟨some 81, none, .ld (.t 80) 1 false⟩, 
                  ⟨some 82, none, .bin .lss (.t 81) (.c (.p (.int .i64 0)))⟩, 
                  ⟨some 83, none, .mov (.t 82)⟩, 
                  ⟨some 84, (some (83, false)), .off (.t 1) 6⟩, 
                  ⟨some 85, (some (83, false)), .ld (.t 84) 1 false⟩, 
                  ⟨some 86, (some (83, false)), .bin .gtr (.t 85) (.c (.p (.int .i64 255)))⟩, 
                  ⟨some 87, none, .pick (.t 83) (.c (.p (.bool true))) (.t 86)⟩] [1, 3, 87] [1, 3])
                (.cond (.t 87)
                (.seq (.reg false [⟨some 2, none, .mov (.c (.p (.bool false)))⟩] [2] [])
                  .ret)
                .skip)))
              (.seq (.reg false [⟨some 89, none, .bin .eql (.t 8) (.c (.p (.int .i64 7)))⟩, 
                  ⟨some 88, none, .mov (.t 89)⟩] [1, 3, 88] [1, 3])
                (.cond (.t 88)
                .skip
                (.seq (.reg false [⟨some 2, none, .mov (.c (.p (.bool false)))⟩] [2] [])
                  .ret)))))))))))))))))
  (.seq (.reg false [⟨some 90, none, .ld (.t 1) 7 true⟩, 
    ⟨some 91, none, .ld (.t 3) 7 true⟩, 
    ⟨some 92, none, .eqa false [true, true, true, true, true, true, true] (.t 90) (.t 91)⟩, 
    ⟨some 93, none, .mov (.t 92)⟩, 
    ⟨some 94, (some (93, true)), .off (.t 1) 1⟩, 
    ⟨some 95, (some (93, true)), .ld (.t 94) 1 false⟩, 
    ⟨some 96, (some (93, true)), .call 51 [(.t 95)] false⟩, 
    ⟨some 97, none, .pick (.t 93) (.t 96) (.c (.p (.bool false)))⟩, 
    ⟨some 98, none, .mov (.t 97)⟩, 
    ⟨some 99, (some (98, true)), .off (.t 1) 3⟩, 
    ⟨some 100, (some (98, true)), .ld (.t 99) 1 false⟩, 
    ⟨some 101, (some (98, true)), .call 51 [(.t 100)] false⟩, 
    ⟨some 102, none, .pick (.t 98) (.t 101) (.c (.p (.bool false)))⟩, 
    ⟨some 103, none, .mov (.t 102)⟩, 
    ⟨some 104, (some (103, true)), .off (.t 1) 5⟩, 
    ⟨some 105, (some (103, true)), .ld (.t 104) 1 false⟩, 
    ⟨some 106, (some (103, true)), .call 51 [(.t 105)] false⟩, 
    ⟨some 107, none, .pick (.t 103) (.t 106) (.c (.p (.bool false)))⟩, 
    ⟨some 108, none, .mov (.t 107)⟩, 
    ⟨some 109, (some (108, true)), .off (.t 1) 2⟩, 
    ⟨some 110, (some (108, true)), .ld (.t 109) 1 false⟩, 
    ⟨some 111, (some (108, true)), .bin .geq (.t 110) (.c (.p (.int .i64 0)))⟩, 
    ⟨some 112, none, .pick (.t 108) (.t 111) (.c (.p (.bool false)))⟩, 
    ⟨some 113, none, .mov (.t 112)⟩, 
    ⟨some 114, (some (113, true)), .off (.t 1) 2⟩, 
    ⟨some 115, (some (113, true)), .ld (.t 114) 1 false⟩, 
    ⟨some 116, (some (113, true)), .bin .leq (.t 115) (.c (.p (.int .i64 3)))⟩, 
    ⟨some 117, none, .pick (.t 113) (.t 116) (.c (.p (.bool false)))⟩, 
    ⟨some 118, none, .mov (.t 117)⟩, 
    ⟨some 119, (some (118, true)), .off (.t 1) 4⟩, 
    ⟨some 120, (some (118, true)), .ld (.t 119) 1 false⟩, 
    ⟨some 121, (some (118, true)), .bin .geq (.t 120) (.c (.p (.int .i64 0)))⟩, 
    ⟨some 122, none, .pick (.t 118) (.t 121) (.c (.p (.bool false)))⟩, 
    ⟨some 123, none, .mov (.t 122)⟩, 
    ⟨some 124, (some (123, true)), .off (.t 1) 4⟩, 
    ⟨some 125, (some (123, true)), .ld (.t 124) 1 false⟩, 
    ⟨some 126, (some (123, true)), .bin .leq (.t 125) (.c (.p (.int .i64 3)))⟩, 
    ⟨some 127, none, .pick (.t 123) (.t 126) (.c (.p (.bool false)))⟩, 
    ⟨some 128, none, .mov (.t 127)⟩, 
    ⟨some 129, (some (128, true)), .off (.t 1) 0⟩, 
    ⟨some 130, (some (128, true)), .ld (.t 129) 1 false⟩, 
    ⟨some 131, (some (128, true)), .bin .neq (.t 130) (.c (.p (.int .i64 2)))⟩, 
    ⟨some 132, (some (128, true)), .mov (.t 131)⟩, 
    ⟨some 133, (some (132, false)), .off (.t 1) 5⟩, 
    ⟨some 134, (some (132, false)), .ld (.t 133) 1 false⟩, 
    ⟨some 135, (some (132, false)), .off (.t 1) 1⟩, 
    ⟨some 136, (some (132, false)), .ld (.t 135) 1 false⟩, 
    ⟨some 137, (some (132, false)), .bin .leq (.t 134) (.t 136)⟩, 
    ⟨some 138, (some (128, true)), .pick (.t 132) (.c (.p (.bool true))) (.t 137)⟩, 
    ⟨some 139, none, .pick (.t 128) (.t 138) (.c (.p (.bool false)))⟩, 
    ⟨some 2, none, .mov (.t 139)⟩] [2] [])
  .ret)))),
  [.tmp 2], false⟩
def lp26_0 : IC :=
  (.loop [1, 3] [1] (.seq (.seq (.reg false [⟨some 25, none, .mov (.t 3)⟩, 
        ⟨some 26, none, .off (.t 1) 0⟩, 
        ⟨some 27, none, .ld (.t 26) 1 false⟩, 
        ⟨some 28, none, .len (.t 27)⟩, 
        ⟨some 29, none, .bin .lss (.t 25) (.t 28)⟩] [1, 3, 29] [1])
      (.cond (.t 29)
      .skip
      (.exit 0)))
      (.seq (.block 1 (.seq (.reg false [⟨some 32, none, .off (.t 1) 0⟩, 
          ⟨some 33, none, .ld (.t 32) 1 false⟩, 
          ⟨some 34, none, .mov (.t 3)⟩, 
          ⟨some 35, none, .ixs (.t 33) (.t 34) 1⟩, 
          ⟨some 36, none, .ld (.t 35) 1 false⟩, 
          ⟨some 37, none, .bin .lss (.t 36) (.c (.p (.int .i64 1)))⟩, 
          ⟨some 38, none, .mov (.t 37)⟩, 
          ⟨some 39, (some (38, false)), .off (.t 1) 0⟩, 
          ⟨some 40, (some (38, false)), .ld (.t 39) 1 false⟩, 
          ⟨some 41, (some (38, false)), .mov (.t 3)⟩, 
          ⟨some 42, (some (38, false)), .ixs (.t 40) (.t 41) 1⟩, 
          ⟨some 43, (some (38, false)), .ld (.t 42) 1 false⟩, 
          ⟨some 44, (some (38, false)), .bin .gtr (.t 43) (.c (.p (.int .i64 1073741823)))⟩, 
          ⟨some 45, none, .pick (.t 38) (.c (.p (.bool true))) (.t 44)⟩] [1, 3, 45] [1])
        (.cond (.t 45)
        (.seq (.reg false [⟨some 2, none, .mov (.c (.p (.bool false)))⟩] [2] [])
          .ret)
        .skip)))
      (.reg false [⟨some 30, none, .mov (.t 3)⟩, 
        ⟨some 31, none, .bin .add (.t 30) (.c (.p (.int .i64 1)))⟩, 
        ⟨some 3, none, .mov (.t 31)⟩] [1, 3] [1]))))
def lp26_1 : IC :=
  (.loop [1, 4] [1] (.seq (.seq (.reg false [⟨some 46, none, .mov (.t 4)⟩, 
        ⟨some 47, none, .off (.t 1) 1⟩, 
        ⟨some 48, none, .ld (.t 47) 1 false⟩, 
        ⟨some 49, none, .len (.t 48)⟩, 
        ⟨some 50, none, .bin .lss (.t 46) (.t 49)⟩] [1, 4, 50] [1])
      (.cond (.t 50)
      .skip
      (.exit 2)))
      (.seq (.block 3 (.seq (.reg false [⟨some 53, none, .off (.t 1) 1⟩, 
          ⟨some 54, none, .ld (.t 53) 1 false⟩, 
          ⟨some 55, none, .mov (.t 4)⟩, 
          ⟨some 56, none, .ixs (.t 54) (.t 55) 1⟩, 
          ⟨some 57, none, .ld (.t 56) 1 false⟩, 
          ⟨some 58, none, .bin .lss (.t 57) (.c (.p (.int .i64 0)))⟩, 
          ⟨some 59, none, .mov (.t 58)⟩, 
          ⟨some 60, (some (59, false)), .off (.t 1) 1⟩, 
          ⟨some 61, (some (59, false)), .ld (.t 60) 1 false⟩, 
          ⟨some 62, (some (59, false)), .mov (.t 4)⟩, 
          ⟨some 63, (some (59, false)), .ixs (.t 61) (.t 62) 1⟩, 
          ⟨some 64, (some (59, false)), .ld (.t 63) 1 false⟩, 
          ⟨some 65, (some (59, false)), .bin .gtr (.t 64) (.c (.p (.int .i64 10000)))⟩, 
          ⟨some 66, none, .pick (.t 59) (.c (.p (.bool true))) (.t 65)⟩] [1, 4, 66] [1])
        (.cond (.t 66)
        (.seq (.reg false [⟨some 2, none, .mov (.c (.p (.bool false)))⟩] [2] [])
          .ret)
        .skip)))
      (.reg false [⟨some 51, none, .mov (.t 4)⟩, 
        ⟨some 52, none, .bin .add (.t 51) (.c (.p (.int .i64 1)))⟩, 
        ⟨some 4, none, .mov (.t 52)⟩] [1, 4] [1]))))
def ir26 : IFn :=   -- tympan/tympanref11.Check
⟨(.seq (.reg false [⟨some 1, none, .bx (.t 0) 2 true⟩, 
    ⟨some 2, none, .mov (.c (.p (.bool false)))⟩] [1] [1])
  (.seq (.seq (.reg false [⟨some 5, none, .off (.t 1) 0⟩, 
    ⟨some 6, none, .ld (.t 5) 1 false⟩, 
    ⟨some 7, none, .len (.t 6)⟩, 
    ⟨some 8, none, .bin .lss (.t 7) (.c (.p (.int .i64 1)))⟩, 
    ⟨some 9, none, .mov (.t 8)⟩, 
    ⟨some 10, (some (9, false)), .off (.t 1) 0⟩, 
    ⟨some 11, (some (9, false)), .ld (.t 10) 1 false⟩, 
    ⟨some 12, (some (9, false)), .len (.t 11)⟩, 
    ⟨some 13, (some (9, false)), .bin .gtr (.t 12) (.c (.p (.int .i64 64)))⟩, 
    ⟨some 14, none, .pick (.t 9) (.c (.p (.bool true))) (.t 13)⟩, 
    ⟨some 15, none, .mov (.t 14)⟩, 
    ⟨some 16, (some (15, false)), .off (.t 1) 1⟩, 
    ⟨some 17, (some (15, false)), .ld (.t 16) 1 false⟩, 
    ⟨some 18, (some (15, false)), .len (.t 17)⟩, 
    ⟨some 19, (some (15, false)), .off (.t 1) 0⟩, 
    ⟨some 20, (some (15, false)), .ld (.t 19) 1 false⟩, 
    ⟨some 21, (some (15, false)), .len (.t 20)⟩, 
    ⟨some 22, (some (15, false)), .bin .sub (.t 21) (.c (.p (.int .i64 1)))⟩, 
    ⟨some 23, (some (15, false)), .bin .neq (.t 18) (.t 22)⟩, 
    ⟨some 24, none, .pick (.t 15) (.c (.p (.bool true))) (.t 23)⟩] [1, 24] [1])
  (.cond (.t 24)
  (.seq (.reg false [⟨some 2, none, .mov (.c (.p (.bool false)))⟩] [2] [])
    .ret)
  .skip))
  (.seq (.seq (.reg false [⟨some 3, none, .mov (.c (.p (.int .i64 0)))⟩] [1, 3] [1])
  (.block 0 lp26_0))
  (.seq (.seq (.reg false [⟨some 4, none, .mov (.c (.p (.int .i64 0)))⟩] [1, 4] [1])
  (.block 2 lp26_1))
  (.seq (.reg false [⟨some 2, none, .mov (.c (.p (.bool true)))⟩] [2] [])
  .ret))))),
  [.tmp 2], false⟩
def ir27 : IFn :=   -- tympan/tympanref12.Right
⟨(.seq (.reg false [⟨some 1, none, .bx (.t 0) 3 true⟩, 
    ⟨some 2, none, .mov (.c (.p (.bool false)))⟩] [1] [1])
  (.seq (.reg false [⟨some 3, none, .off (.t 1) 0⟩, 
    ⟨some 4, none, .ld (.t 3) 1 false⟩, 
    ⟨some 5, none, .bin .geq (.t 4) (.c (.p (.int .i64 0)))⟩, 
    ⟨some 6, none, .mov (.t 5)⟩, 
    ⟨some 7, (some (6, true)), .off (.t 1) 0⟩, 
    ⟨some 8, (some (6, true)), .ld (.t 7) 1 false⟩, 
    ⟨some 9, (some (6, true)), .bin .leq (.t 8) (.c (.p (.int .i64 2)))⟩, 
    ⟨some 10, none, .pick (.t 6) (.t 9) (.c (.p (.bool false)))⟩, 
    ⟨some 11, none, .mov (.t 10)⟩, 
    ⟨some 12, (some (11, true)), .off (.t 1) 1⟩, 
    ⟨some 13, (some (11, true)), .ld (.t 12) 1 false⟩, 
    ⟨some 14, (some (11, true)), .bin .geq (.t 13) (.c (.p (.int .i64 1)))⟩, 
    ⟨some 15, none, .pick (.t 11) (.t 14) (.c (.p (.bool false)))⟩, 
    ⟨some 16, none, .mov (.t 15)⟩, 
    ⟨some 17, (some (16, true)), .off (.t 1) 1⟩, 
    ⟨some 18, (some (16, true)), .ld (.t 17) 1 false⟩, 
    ⟨some 19, (some (16, true)), .bin .leq (.t 18) (.c (.p (.int .i64 1073741823)))⟩, 
    ⟨some 20, none, .pick (.t 16) (.t 19) (.c (.p (.bool false)))⟩, 
    ⟨some 21, none, .mov (.t 20)⟩, 
    ⟨some 22, (some (21, true)), .off (.t 1) 2⟩, 
    ⟨some 23, (some (21, true)), .ld (.t 22) 1 false⟩, 
    ⟨some 24, (some (21, true)), .bin .geq (.t 23) (.c (.p (.int .i64 0)))⟩, 
    ⟨some 25, none, .pick (.t 21) (.t 24) (.c (.p (.bool false)))⟩, 
    ⟨some 26, none, .mov (.t 25)⟩, 
    ⟨some 27, (some (26, true)), .off (.t 1) 2⟩, 
    ⟨some 28, (some (26, true)), .ld (.t 27) 1 false⟩, 
    ⟨some 29, (some (26, true)), .bin .leq (.t 28) (.c (.p (.int .i64 3)))⟩, 
    ⟨some 30, none, .pick (.t 26) (.t 29) (.c (.p (.bool false)))⟩, 
    ⟨some 2, none, .mov (.t 30)⟩] [2] [])
  .ret)),
  [.tmp 2], false⟩
def lp28_0 : IC :=
  (.loop [0, 1, 2, 7, 8] [] (.seq (.seq (.reg false [⟨some 9, none, .mov (.t 8)⟩, 
        ⟨some 10, none, .mov (.t 0)⟩, 
        ⟨some 11, none, .len (.t 10)⟩, 
        ⟨some 12, none, .bin .lss (.t 9) (.t 11)⟩] [0, 1, 2, 7, 8, 12] [])
      (.cond (.t 12)
      .skip
      (.exit 0)))
      (.seq (.block 1 (.seq (.reg false [⟨some 15, none, .mov (.t 0)⟩, 
          ⟨some 16, none, .mov (.t 8)⟩, 
          ⟨some 17, none, .ixs (.t 15) (.t 16) 7⟩, 
          ⟨some 18, none, .off (.t 17) 0⟩, 
          ⟨some 19, none, .ld (.t 18) 1 false⟩, 
          ⟨some 20, none, .mov (.t 1)⟩, 
          ⟨some 21, none, .bin .eql (.t 19) (.t 20)⟩] [0, 1, 2, 7, 8, 21] [])
        (.cond (.t 21)
        (.seq (.seq (.reg false [⟨some 22, none, .mov (.t 0)⟩, 
            ⟨some 23, none, .mov (.t 8)⟩, 
            ⟨some 24, none, .ixs (.t 22) (.t 23) 7⟩, 
            ⟨some 25, none, .off (.t 24) 6⟩, 
            ⟨some 26, none, .ld (.t 25) 1 false⟩, 
            ⟨some 27, none, .mov (.t 7)⟩, 
            ⟨some 28, none, .bin .neq (.t 26) (.t 27)⟩, 
            ⟨some 29, none, .mov (.t 28)⟩, 
            ⟨some 30, (some (29, false)), .mov (.t 7)⟩, 
            ⟨some 31, (some (29, false)), .mov (.t 2)⟩, 
            ⟨some 32, (some (29, false)), .bin .geq (.t 30) (.t 31)⟩, 
            ⟨some 33, none, .pick (.t 29) (.c (.p (.bool true))) (.t 32)⟩] [0, 1, 2, 7, 8, 33] [])
          (.cond (.t 33)
          (.seq (.reg false [⟨some 34, none, .mov (.t 8)⟩, 
              ⟨some 6, none, .mov (.t 34)⟩] [6] [])
            .ret)
          .skip))
          (.reg false [⟨some 35, none, .mov (.t 7)⟩, 
            ⟨some 36, none, .bin .add (.t 35) (.c (.p (.int .i64 1)))⟩, 
            ⟨some 7, none, .mov (.t 36)⟩] [0, 1, 2, 7, 8] []))
        .skip)))
      (.reg false [⟨some 13, none, .mov (.t 8)⟩, 
        ⟨some 14, none, .bin .add (.t 13) (.c (.p (.int .i64 1)))⟩, 
        ⟨some 8, none, .mov (.t 14)⟩] [0, 1, 2, 7, 8] []))))
def ir28 : IFn :=   -- tympan/tympanref15.anchors
⟨(.seq (.reg false [⟨some 6, none, .mov (.c (.p (.int .i64 0)))⟩] [0, 1, 2] [])
  (.seq (.reg false [⟨some 7, none, .mov (.c (.p (.int .i64 0)))⟩] [0, 1, 2, 7] [])
  (.seq (.seq (.reg false [⟨some 8, none, .mov (.c (.p (.int .i64 0)))⟩] [0, 1, 2, 7, 8] [])
  (.block 0 lp28_0))
  (.seq (.seq (.reg false [⟨some 37, none, .mov (.t 7)⟩, 
    ⟨some 38, none, .mov (.t 2)⟩, 
    ⟨some 39, none, .bin .lss (.t 37) (.t 38)⟩] [0, 39] [])
  (.cond (.t 39)
  (.seq (.reg false [⟨some 40, none, .mov (.t 0)⟩, 
      ⟨some 41, none, .len (.t 40)⟩, 
      ⟨some 6, none, .mov (.t 41)⟩] [6] [])
    .ret)
  .skip))
  (.seq (.reg false [⟨some 6, none, .mov (.c (.p (.int .i64 (-1))))⟩] [6] [])
  .ret))))),
  [.tmp 6], false⟩
def lp29_0 : IC :=
  (.loop [1, 7, 8, 9] [1] (.seq (.reg false [⟨some 10, none, .bin .lss (.t 9) (.t 8)⟩] [1, 7, 8, 9, 10] [1])
      (.seq (.cond (.t 10)
      .skip
      (.exit 0))
      (.seq (.block 1 (.seq (.reg false [⟨some 11, none, .ixs (.t 7) (.t 9) 2⟩, 
          ⟨some 12, none, .ld (.t 11) 2 true⟩, 
          ⟨some 5, none, .al [.p (.int .i64 0), .p .nilf] true⟩, 
          ⟨none, none, .st (.t 5) (.t 12) 2⟩] [1, 5, 7, 8, 9] [1, 5])
        (.seq (.reg false [⟨some 13, none, .off (.t 5) 1⟩, 
          ⟨some 14, none, .ld (.t 13) 1 false⟩, 
          ⟨some 15, none, .ld (.t 1) 22 true⟩, 
          ⟨some 16, none, .callv (.t 14) [(.t 15)] false⟩, 
          ⟨some 6, none, .mov (.t 16)⟩] [1, 5, 6, 7, 8, 9] [1, 5])
        (.seq (.reg false [⟨some 17, none, .mov (.t 6)⟩, 
          ⟨some 18, none, .bin .geq (.t 17) (.c (.p (.int .i64 0)))⟩] [1, 5, 6, 7, 8, 9, 18] [1, 5])
        (.cond (.t 18)
        (.seq (.reg false [⟨some 19, none, .off (.t 5) 0⟩, 
            ⟨some 20, none, .ld (.t 19) 1 false⟩, 
            ⟨some 21, none, .mov (.t 6)⟩, 
            ⟨some 2, none, .mov (.t 20)⟩, 
            ⟨some 3, none, .mov (.t 21)⟩] [2, 3] [])
          .ret)
        .skip)))))
      (.reg false [⟨some 22, none, .bin .add (.t 9) (.c (.p (.int .i64 1)))⟩, 
        ⟨some 9, none, .mov (.t 22)⟩] [1, 7, 8, 9] [1])))))
def ir29 : IFn :=   -- tympan/valid.Check
⟨(.seq (.reg false [⟨some 1, none, .bx (.t 0) 22 true⟩, 
    ⟨some 2, none, .mov (.c (.p (.int .i64 0)))⟩, 
    ⟨some 3, none, .mov (.c (.p (.int .i64 0)))⟩] [1] [1])
  (.seq (.seq (.reg false [⟨some 7, none, .call 52 [] false⟩, 
    ⟨some 8, none, .len (.t 7)⟩, 
    ⟨some 9, none, .mov (.c (.p (.int .i64 0)))⟩] [1, 7, 8, 9] [1])
  (.block 0 lp29_0))
  (.seq (.reg false [⟨some 2, none, .mov (.c (.p (.int .i64 0)))⟩, 
    ⟨some 3, none, .mov (.c (.p (.int .i64 0)))⟩] [2, 3] [])
  .ret))),
  [.tmp 2, .tmp 3], false⟩
def lp30_0 : IC :=
  (.loop [2, 5, 11, 12] [2] (.seq (.reg false [⟨some 13, none, .bin .lss (.t 12) (.t 11)⟩] [2, 5, 11, 12, 13] [2])
      (.seq (.cond (.t 13)
      .skip
      (.exit 0))
      (.seq (.block 1 (.seq (.reg false [⟨some 14, none, .mov (.t 12)⟩, 
          ⟨some 6, none, .mov (.t 14)⟩] [2, 5, 6, 11, 12] [2])
        (.seq (.reg false [⟨some 15, none, .mov (.t 5)⟩, 
          ⟨some 16, none, .mov (.t 6)⟩, 
          ⟨some 17, none, .ixs (.t 15) (.t 16) 7⟩, 
          ⟨some 7, none, .mov (.t 17)⟩] [2, 5, 7, 11, 12] [2])
        (.seq (.reg false [⟨some 18, none, .mov (.t 7)⟩, 
          ⟨some 19, none, .nck (.t 18)⟩, 
          ⟨some 20, none, .off (.t 19) 0⟩, 
          ⟨some 21, none, .ld (.t 20) 1 false⟩] [2, 5, 7, 11, 12, 21] [2])
        (.block 2 (.seq (.reg false [⟨some 23, none, .bin .eql (.t 21) (.c (.p (.int .i64 1)))⟩, 
            ⟨some 22, none, .mov (.t 23)⟩] [2, 5, 7, 11, 12, 21, 22] [2])
          (.cond (.t 22)
          (.reg true [⟨some 24, none, .ldl 2 (.t 2) 1 true⟩, 
              ⟨some 25, none, .mov (.t 7)⟩, 
              ⟨some 26, none, .nck (.t 25)⟩, 
              ⟨some 27, none, .off (.t 26) 1⟩, 
              ⟨some 28, none, .bsl 1 1 [.p .nilp] [(0, (.t 27))]⟩, 
              ⟨some 29, none, .call 33 [(.t 24), (.c (.p (.fn 35))), (.t 28)] false⟩] [2, 5, 11, 12] [2])
          (.seq (.reg false [⟨some 31, none, .bin .eql (.t 21) (.c (.p (.int .i64 2)))⟩, 
              ⟨some 30, none, .mov (.t 31)⟩] [2, 5, 7, 11, 12, 30] [2])
            (.cond (.t 30)
            (.seq (.reg true [⟨some 32, none, .ldl 2 (.t 2) 1 true⟩, 
                ⟨some 33, none, .mov (.t 7)⟩, 
                ⟨some 34, none, .nck (.t 33)⟩, 
                ⟨some 35, none, .off (.t 34) 1⟩, 
                ⟨some 36, none, .bsl 1 1 [.p .nilp] [(0, (.t 35))]⟩, 
                ⟨some 37, none, .call 33 [(.t 32), (.c (.p (.fn 54))), (.t 36)] false⟩] [2, 5, 7, 11, 12] [2])
              (.reg false [⟨some 38, none, .mov (.t 7)⟩, 
                ⟨some 39, none, .mov (.t 7)⟩, 
                ⟨some 40, none, .mov (.t 7)⟩, 
                ⟨some 41, none, .nck (.t 38)⟩, 
                ⟨some 42, none, .off (.t 41) 3⟩, 
                ⟨none, none, .st (.t 42) (.c (.p (.int .i64 0))) 1⟩, 
                ⟨some 43, none, .nck (.t 39)⟩, 
                ⟨some 44, none, .off (.t 43) 4⟩, 
                ⟨none, none, .st (.t 44) (.c (.p (.int .i64 0))) 1⟩, 
                ⟨some 45, none, .nck (.t 40)⟩, 
                ⟨some 46, none, .off (.t 45) 5⟩, 
                ⟨none, none, .st (.t 46) (.c (.p (.int .i64 0))) 1⟩] [2, 5, 11, 12] [2]))
            .skip)))))))))
      (.reg false [⟨some 47, none, .bin .add (.t 12) (.c (.p (.int .i64 1)))⟩, 
        ⟨some 12, none, .mov (.t 47)⟩] [2, 5, 11, 12] [2])))))
def ir30 : IFn :=   -- (tympan/grid.snapper).items
⟨(.seq (.reg false [⟨some 2, none, .bx (.t 0) 1 true⟩, 
    ⟨some 4, none, .mov (.c (.nils))⟩] [1, 2] [2])
  (.seq (.reg false [⟨some 8, none, .mov (.t 1)⟩, 
    ⟨some 9, none, .call 53 [(.t 8)] false⟩, 
    ⟨some 5, none, .mov (.t 9)⟩] [2, 5] [2])
  (.seq (.seq (.reg false [⟨some 10, none, .mov (.t 5)⟩, 
    ⟨some 11, none, .len (.t 10)⟩, 
    ⟨some 12, none, .mov (.c (.p (.int .i64 0)))⟩] [2, 5, 11, 12] [2])
  (.block 0 lp30_0))
  (.seq (.reg false [⟨some 48, none, .mov (.t 5)⟩, 
    ⟨some 4, none, .mov (.t 48)⟩] [4] [])
  .ret)))),
  [.tmp 4], false⟩
def lp31_0 : IC :=
  (.loop [2, 5, 6, 12, 13, 14, 34, 35] [2] (.seq (.reg false [⟨some 36, none, .bin .lss (.t 35) (.t 34)⟩] [2, 5, 6, 12, 13, 14, 34, 35, 36] [2])
            (.seq (.cond (.t 36)
            .skip
            (.exit 2))
            (.seq (.block 3 (.seq (.reg false [⟨some 37, none, .mov (.t 35)⟩, 
                ⟨some 8, none, .mov (.t 37)⟩] [2, 5, 6, 8, 12, 13, 14, 34, 35] [2])
              (.reg true [⟨some 38, none, .ldl 2 (.t 2) 1 true⟩, 
                ⟨some 39, none, .mov (.t 5)⟩, 
                ⟨some 40, none, .mov (.t 6)⟩, 
                ⟨some 41, none, .ixs (.t 39) (.t 40) 2⟩, 
                ⟨some 42, none, .off (.t 41) 0⟩, 
                ⟨some 43, none, .ld (.t 42) 1 false⟩, 
                ⟨some 44, none, .mov (.t 8)⟩, 
                ⟨some 45, none, .ixs (.t 43) (.t 44) 1⟩, 
                ⟨some 46, none, .bsl 1 1 [.p .nilp] [(0, (.t 45))]⟩, 
                ⟨some 47, none, .call 33 [(.t 38), (.c (.p (.fn 35))), (.t 46)] false⟩] [2, 5, 6, 12, 13, 14, 34, 35] [2])))
            (.reg false [⟨some 48, none, .bin .add (.t 35) (.c (.p (.int .i64 1)))⟩, 
              ⟨some 35, none, .mov (.t 48)⟩] [2, 5, 6, 12, 13, 14, 34, 35] [2])))))
def lp31_1 : IC :=
  (.loop [2, 5, 12, 13, 14] [2] (.seq (.reg false [⟨some 15, none, .bin .lss (.t 14) (.t 13)⟩] [2, 5, 12, 13, 14, 15] [2])
      (.seq (.cond (.t 15)
      .skip
      (.exit 0))
      (.seq (.block 1 (.seq (.reg false [⟨some 16, none, .mov (.t 14)⟩, 
          ⟨some 17, none, .ixs (.t 12) (.t 14) 2⟩, 
          ⟨some 18, none, .ld (.t 17) 2 true⟩, 
          ⟨some 7, none, .al [.nils, .nils] true⟩, 
          ⟨some 6, none, .mov (.t 16)⟩, 
          ⟨none, none, .st (.t 7) (.t 18) 2⟩] [2, 5, 6, 7, 12, 13, 14] [2, 7])
        (.seq (.reg true [⟨some 19, none, .mov (.t 5)⟩, 
          ⟨some 20, none, .mov (.t 6)⟩, 
          ⟨some 21, none, .off (.t 7) 0⟩, 
          ⟨some 22, none, .ldl 7 (.t 21) 1 false⟩, 
          ⟨some 23, none, .call 55 [(.t 22)] false⟩, 
          ⟨some 24, none, .off (.t 7) 1⟩, 
          ⟨some 25, none, .ldl 7 (.t 24) 1 false⟩, 
          ⟨some 26, none, .call 56 [(.t 25)] false⟩, 
          ⟨some 27, none, .bld [.nils, .nils] [(0, 1, (.t 23)), (1, 1, (.t 26))]⟩, 
          ⟨some 28, none, .ixs (.t 19) (.t 20) 2⟩, 
          ⟨none, none, .st (.t 28) (.t 27) 2⟩] [2, 5, 6, 12, 13, 14] [2])
        (.seq (.reg false [⟨some 29, none, .mov (.t 5)⟩, 
          ⟨some 30, none, .mov (.t 6)⟩, 
          ⟨some 31, none, .ixs (.t 29) (.t 30) 2⟩, 
          ⟨some 32, none, .off (.t 31) 0⟩, 
          ⟨some 33, none, .ld (.t 32) 1 false⟩, 
          ⟨some 34, none, .len (.t 33)⟩, 
          ⟨some 35, none, .mov (.c (.p (.int .i64 0)))⟩] [2, 5, 6, 12, 13, 14, 34, 35] [2])
        (.block 2 lp31_0)))))
      (.reg false [⟨some 49, none, .bin .add (.t 14) (.c (.p (.int .i64 1)))⟩, 
        ⟨some 14, none, .mov (.t 49)⟩] [2, 5, 12, 13, 14] [2])))))
def ir31 : IFn :=   -- (tympan/grid.snapper).notes
⟨(.seq (.reg false [⟨some 2, none, .bx (.t 0) 1 true⟩, 
    ⟨some 4, none, .mov (.c (.nils))⟩] [1, 2] [2])
  (.seq (.reg false [⟨some 9, none, .mov (.t 1)⟩, 
    ⟨some 10, none, .len (.t 9)⟩, 
    ⟨some 11, none, .mks 2 [.nils, .nils] (.t 10)⟩, 
    ⟨some 5, none, .mov (.t 11)⟩] [1, 2, 5] [2])
  (.seq (.seq (.reg false [⟨some 12, none, .mov (.t 1)⟩, 
    ⟨some 13, none, .len (.t 12)⟩, 
    ⟨some 14, none, .mov (.c (.p (.int .i64 0)))⟩] [2, 5, 12, 13, 14] [2])
  (.block 0 lp31_1))
  (.seq (.reg false [⟨some 50, none, .mov (.t 5)⟩, 
    ⟨some 4, none, .mov (.t 50)⟩] [4] [])
  .ret)))),
  [.tmp 4], false⟩
def ir32 : IFn :=   -- slices.Clone[[]tympan/api.Float,tympan/api.Float]
⟨(.seq (.reg false [⟨some 2, none, .mov (.c (.nils))⟩] [0] [])
  (.seq (.seq (.reg false [⟨some 3, none, .mov (.t 0)⟩, 
    ⟨some 4, none, .eqn .sl false (.t 3)⟩] [0, 4] [])
  (.cond (.t 4)
  (.seq (.reg false [⟨some 2, none, .mov (.c (.nils))⟩] [2] [])
    .ret)
  .skip))
  (.seq (.reg false [⟨some 5, none, .bsl 3 0 [.p (.int .i64 0), .p (.int .i64 0), .p (.int .i64 0)] []⟩, 
    ⟨some 6, none, .mov (.t 0)⟩, 
    ⟨some 7, none, .app (.t 5) (.t 6) 3⟩, 
    ⟨some 2, none, .mov (.t 7)⟩] [2] [])
  .ret))),
  [.tmp 2], true⟩
def lp33_0 : IC :=
  (.loop [1, 3, 8, 9, 10] [3] (.seq (.reg false [⟨some 11, none, .bin .lss (.t 10) (.t 9)⟩] [1, 3, 8, 9, 10, 11] [3])
      (.seq (.cond (.t 11)
      .skip
      (.exit 0))
      (.seq (.block 1 (.seq (.reg false [⟨some 12, none, .ixs (.t 8) (.t 10) 1⟩, 
          ⟨some 13, none, .ld (.t 12) 1 false⟩, 
          ⟨some 7, none, .mov (.t 13)⟩] [1, 3, 7, 8, 9, 10] [3])
        (.reg true [⟨some 14, none, .mov (.t 7)⟩, 
          ⟨some 15, none, .mov (.t 1)⟩, 
          ⟨some 16, none, .mov (.t 7)⟩, 
          ⟨some 17, none, .nck (.t 16)⟩, 
          ⟨some 18, none, .ld (.t 17) 1 false⟩, 
          ⟨some 19, none, .off (.t 3) 0⟩, 
          ⟨some 20, none, .ldl 3 (.t 19) 1 false⟩, 
          ⟨some 21, none, .callv (.t 15) [(.t 18), (.t 20)] false⟩, 
          ⟨some 22, none, .nck (.t 14)⟩, 
          ⟨none, none, .st (.t 22) (.t 21) 1⟩] [1, 3, 8, 9, 10] [3])))
      (.reg false [⟨some 23, none, .bin .add (.t 10) (.c (.p (.int .i64 1)))⟩, 
        ⟨some 10, none, .mov (.t 23)⟩] [1, 3, 8, 9, 10] [3])))))
def ir33 : IFn :=   -- (tympan/grid.snapper).turn
⟨(.seq (.reg false [⟨some 3, none, .bx (.t 0) 1 true⟩] [1, 2, 3] [3])
  (.seq (.reg false [⟨some 8, none, .mov (.t 2)⟩, 
    ⟨some 9, none, .len (.t 8)⟩, 
    ⟨some 10, none, .mov (.c (.p (.int .i64 0)))⟩] [1, 3, 8, 9, 10] [3])
  (.block 0 lp33_0))),
  [], false⟩
def ir34 : IFn :=   -- tympan/grid.Down
⟨(.seq (.reg false [⟨some 4, none, .mov (.c (.p (.int .i64 0)))⟩] [0, 1] [])
  (.seq (.reg false [⟨some 5, none, .mov (.t 0)⟩, 
    ⟨some 6, none, .mov (.t 1)⟩, 
    ⟨some 7, none, .call 57 [(.t 5), (.t 6), (.c (.p (.fn 58)))] false⟩, 
    ⟨some 4, none, .mov (.t 7)⟩] [4] [])
  .ret)),
  [.tmp 4], false⟩
def ir35 : IFn :=   -- tympan/grid.Up
⟨(.seq (.reg false [⟨some 4, none, .mov (.c (.p (.int .i64 0)))⟩] [0, 1] [])
  (.seq (.reg false [⟨some 5, none, .mov (.t 0)⟩, 
    ⟨some 6, none, .mov (.t 1)⟩, 
    ⟨some 7, none, .call 57 [(.t 5), (.t 6), (.c (.p (.fn 59)))] false⟩, 
    ⟨some 4, none, .mov (.t 7)⟩] [4] [])
  .ret)),
  [.tmp 4], false⟩
def ir36 : IFn :=   -- tympan/item.Loose
⟨(.seq (.reg false [⟨some 1, none, .bx (.t 0) 7 true⟩, 
    ⟨some 2, none, .mov (.c (.p (.bool false)))⟩] [1] [1])
  (.seq (.reg false [⟨some 3, none, .off (.t 1) 0⟩, 
    ⟨some 4, none, .ld (.t 3) 1 false⟩, 
    ⟨some 5, none, .bin .eql (.t 4) (.c (.p (.int .i64 2)))⟩, 
    ⟨some 6, none, .mov (.t 5)⟩, 
    ⟨some 7, (some (6, false)), .off (.t 1) 0⟩, 
    ⟨some 8, (some (6, false)), .ld (.t 7) 1 false⟩, 
    ⟨some 9, (some (6, false)), .bin .eql (.t 8) (.c (.p (.int .i64 3)))⟩, 
    ⟨some 10, none, .pick (.t 6) (.c (.p (.bool true))) (.t 9)⟩, 
    ⟨some 2, none, .mov (.t 10)⟩] [2] [])
  .ret)),
  [.tmp 2], false⟩
def ir37 : IFn :=   -- (*tympan/lint.look).tell
⟨(.seq (.reg false [⟨some 8, none, .mov (.t 3)⟩] [0, 1, 2, 8] [])
  (.cond (.t 8)
  (.reg false [⟨some 9, none, .mov (.t 0)⟩, 
      ⟨some 10, none, .mov (.t 0)⟩, 
      ⟨some 11, none, .nck (.t 10)⟩, 
      ⟨some 12, none, .off (.t 11) 22⟩, 
      ⟨some 13, none, .ld (.t 12) 1 false⟩, 
      ⟨some 14, none, .mov (.t 1)⟩, 
      ⟨some 15, none, .mov (.t 2)⟩, 
      ⟨some 16, none, .bld [.p (.int .i64 0), .p (.int .i64 0)] [(0, 1, (.t 14)), (1, 1, (.t 15))]⟩, 
      ⟨some 17, none, .bsl 2 1 [.p (.int .i64 0), .p (.int .i64 0)] [(0, (.t 16))]⟩, 
      ⟨some 18, none, .app (.t 13) (.t 17) 2⟩, 
      ⟨some 19, none, .nck (.t 9)⟩, 
      ⟨some 20, none, .off (.t 19) 22⟩, 
      ⟨none, none, .st (.t 20) (.t 18) 1⟩] [] [])
  .skip)),
  [], false⟩
def ir38 : IFn :=   -- (*tympan/lint.look).is
⟨(.seq (.reg false [⟨some 6, none, .mov (.c (.p (.bool false)))⟩] [0, 1, 2] [])
  (.seq (.reg false [⟨some 7, none, .mov (.t 1)⟩, 
    ⟨some 8, none, .bin .geq (.t 7) (.c (.p (.int .i64 0)))⟩, 
    ⟨some 9, none, .mov (.t 8)⟩, 
    ⟨some 10, (some (9, true)), .mov (.t 1)⟩, 
    ⟨some 11, (some (9, true)), .mov (.t 0)⟩, 
    ⟨some 12, (some (9, true)), .nck (.t 11)⟩, 
    ⟨some 13, (some (9, true)), .off (.t 12) 0⟩, 
    ⟨some 14, (some (9, true)), .off (.t 13) 19⟩, 
    ⟨some 15, (some (9, true)), .ld (.t 14) 1 false⟩, 
    ⟨some 16, (some (9, true)), .len (.t 15)⟩, 
    ⟨some 17, (some (9, true)), .bin .lss (.t 10) (.t 16)⟩, 
    ⟨some 18, none, .pick (.t 9) (.t 17) (.c (.p (.bool false)))⟩, 
    ⟨some 19, none, .mov (.t 18)⟩, 
    ⟨some 20, (some (19, true)), .mov (.t 2)⟩, 
    ⟨some 21, (some (19, true)), .mov (.t 0)⟩, 
    ⟨some 22, (some (19, true)), .nck (.t 21)⟩, 
    ⟨some 23, (some (19, true)), .off (.t 22) 0⟩, 
    ⟨some 24, (some (19, true)), .off (.t 23) 19⟩, 
    ⟨some 25, (some (19, true)), .ld (.t 24) 1 false⟩, 
    ⟨some 26, (some (19, true)), .mov (.t 1)⟩, 
    ⟨some 27, (some (19, true)), .ixs (.t 25) (.t 26) 7⟩, 
    ⟨some 28, (some (19, true)), .ld (.t 27) 7 true⟩, 
    ⟨some 29, (some (19, true)), .callv (.t 20) [(.t 28)] false⟩, 
    ⟨some 30, none, .pick (.t 19) (.t 29) (.c (.p (.bool false)))⟩, 
    ⟨some 6, none, .mov (.t 30)⟩] [6] [])
  .ret)),
  [.tmp 6], false⟩
def ir39 : IFn :=   -- (*tympan/lint.look).items$1
⟨(.seq (.reg false [⟨some 1, none, .bx (.t 0) 7 true⟩, 
    ⟨some 2, none, .mov (.c (.p (.bool false)))⟩] [1] [1])
  (.seq (.reg false [⟨some 3, none, .ld (.t 1) 7 true⟩, 
    ⟨some 4, none, .call 36 [(.t 3)] false⟩, 
    ⟨some 5, none, .un .not (.t 4)⟩, 
    ⟨some 2, none, .mov (.t 5)⟩] [2] [])
  .ret)),
  [.tmp 2], false⟩
def ir40 : IFn :=   -- (*tympan/lint.look).items$2
⟨(.seq (.reg false [⟨some 1, none, .bx (.t 0) 7 true⟩, 
    ⟨some 2, none, .mov (.c (.p (.bool false)))⟩] [1] [1])
  (.seq (.reg false [⟨some 3, none, .off (.t 1) 0⟩, 
    ⟨some 4, none, .ld (.t 3) 1 false⟩, 
    ⟨some 5, none, .bin .eql (.t 4) (.c (.p (.int .i64 2)))⟩, 
    ⟨some 2, none, .mov (.t 5)⟩] [2] [])
  .ret)),
  [.tmp 2], false⟩
def ir41 : IFn :=   -- tympan/item.Pen
⟨(.seq (.reg false [⟨some 2, none, .al [.p (.int .i64 0), .p (.int .i64 0), .p (.int .i64 0), .p (.int .i64 0), .p (.int .i64 0), .p (.int .i64 0), .p (.int .i64 0)] true⟩] [0, 2] [2])
  (.seq (.reg false [⟨some 3, none, .mov (.t 0)⟩, 
    ⟨some 4, none, .bld [.p (.int .i64 0), .p (.int .i64 0), .p (.int .i64 0), .p (.int .i64 0), .p (.int .i64 0), .p (.int .i64 0), .p (.int .i64 0)] [(0, 1, (.c (.p (.int .i64 3)))), (6, 1, (.t 3))]⟩, 
    ⟨none, none, .st (.t 2) (.t 4) 7⟩] [2] [2])
  .ret)),
  [.cell 2 7 true], false⟩
def ir42 : IFn :=   -- tympan/item.Forces
⟨(.seq (.reg false [⟨some 1, none, .bx (.t 0) 7 true⟩, 
    ⟨some 2, none, .mov (.c (.p (.bool false)))⟩] [1] [1])
  (.seq (.reg false [⟨some 3, none, .off (.t 1) 0⟩, 
    ⟨some 4, none, .ld (.t 3) 1 false⟩, 
    ⟨some 5, none, .bin .eql (.t 4) (.c (.p (.int .i64 3)))⟩, 
    ⟨some 6, none, .mov (.t 5)⟩, 
    ⟨some 7, (some (6, true)), .off (.t 1) 6⟩, 
    ⟨some 8, (some (6, true)), .ld (.t 7) 1 false⟩, 
    ⟨some 9, (some (6, true)), .bin .leq (.t 8) (.c (.p (.int .i64 (-10000))))⟩, 
    ⟨some 10, none, .pick (.t 6) (.t 9) (.c (.p (.bool false)))⟩, 
    ⟨some 2, none, .mov (.t 10)⟩] [2] [])
  .ret)),
  [.tmp 2], false⟩
def ir43 : IFn :=   -- (*tympan/lint.look).floats$1
⟨(.seq (.reg false [⟨some 2, none, .bx (.t 0) 2 true⟩, 
    ⟨some 3, none, .mov (.c (.p (.bool false)))⟩] [1, 2] [2])
  (.seq (.reg true [⟨some 4, none, .ld (.t 1) 1 false⟩, 
    ⟨some 5, none, .nck (.t 4)⟩, 
    ⟨some 6, none, .off (.t 5) 0⟩, 
    ⟨some 7, none, .off (.t 6) 0⟩, 
    ⟨some 8, none, .ld (.t 7) 19 true⟩, 
    ⟨some 9, none, .ld (.t 1) 1 false⟩, 
    ⟨some 10, none, .nck (.t 9)⟩, 
    ⟨some 11, none, .off (.t 10) 0⟩, 
    ⟨some 12, none, .off (.t 11) 21⟩, 
    ⟨some 13, none, .ld (.t 12) 1 false⟩, 
    ⟨some 14, none, .ldl 2 (.t 2) 2 true⟩, 
    ⟨some 15, none, .call 44 [(.t 8), (.t 13), (.t 14)] false⟩, 
    ⟨some 3, none, .mov (.t 15)⟩] [3] [])
  .ret)),
  [.tmp 3], false⟩
def ir44 : IFn :=   -- tympan/area.Fits
⟨(.seq (.reg false [⟨some 3, none, .bx (.t 0) 19 true⟩, 
    ⟨some 5, none, .bx (.t 2) 2 true⟩, 
    ⟨some 6, none, .mov (.c (.p (.bool false)))⟩] [1, 3, 5] [3, 5])
  (.seq (.reg true [⟨some 7, none, .ldl 3 (.t 3) 19 true⟩, 
    ⟨some 8, none, .call 60 [(.t 7)] false⟩, 
    ⟨some 9, none, .ldl 3 (.t 3) 19 true⟩, 
    ⟨some 10, none, .mov (.t 1)⟩, 
    ⟨some 11, none, .off (.t 5) 0⟩, 
    ⟨some 12, none, .ldl 5 (.t 11) 1 false⟩, 
    ⟨some 13, none, .call 61 [(.t 8), (.t 9), (.t 10), (.t 12)] false⟩, 
    ⟨some 14, none, .mov (.t 13)⟩, 
    ⟨some 15, (some (14, true)), .ldl 3 (.t 3) 19 true⟩, 
    ⟨some 16, (some (14, true)), .call 62 [(.t 15)] false⟩, 
    ⟨some 17, (some (14, true)), .ldl 3 (.t 3) 19 true⟩, 
    ⟨some 18, (some (14, true)), .mov (.t 1)⟩, 
    ⟨some 19, (some (14, true)), .off (.t 5) 1⟩, 
    ⟨some 20, (some (14, true)), .ldl 5 (.t 19) 1 false⟩, 
    ⟨some 21, (some (14, true)), .call 61 [(.t 16), (.t 17), (.t 18), (.t 20)] false⟩, 
    ⟨some 22, none, .pick (.t 14) (.t 21) (.c (.p (.bool false)))⟩, 
    ⟨some 6, none, .mov (.t 22)⟩] [6] [])
  .ret)),
  [.tmp 6], false⟩
def ir45 : IFn :=   -- tympan/tympanref14.Down
⟨(.seq (.reg false [⟨some 4, none, .mov (.c (.p (.int .i64 0)))⟩] [0, 1] [])
  (.seq (.reg false [⟨some 5, none, .mov (.t 0)⟩, 
    ⟨some 6, none, .mov (.t 1)⟩, 
    ⟨some 7, none, .call 64 [(.t 5), (.t 6)] false⟩, 
    ⟨some 8, none, .mov (.t 0)⟩, 
    ⟨some 9, none, .call 63 [(.t 7), (.t 8)] false⟩, 
    ⟨some 4, none, .mov (.t 9)⟩] [4] [])
  .ret)),
  [.tmp 4], false⟩
def ir46 : IFn :=   -- tympan/tympanref14.Up
⟨(.seq (.reg false [⟨some 4, none, .mov (.c (.p (.int .i64 0)))⟩] [0, 1] [])
  (.seq (.reg false [⟨some 5, none, .mov (.t 0)⟩, 
    ⟨some 6, none, .mov (.t 1)⟩, 
    ⟨some 7, none, .call 65 [(.t 5), (.t 6)] false⟩, 
    ⟨some 8, none, .mov (.t 0)⟩, 
    ⟨some 9, none, .call 63 [(.t 7), (.t 8)] false⟩, 
    ⟨some 4, none, .mov (.t 9)⟩] [4] [])
  .ret)),
  [.tmp 4], false⟩
def ir47 : IFn :=   -- tympan/tympanref14.item
⟨(.seq (.reg false [⟨some 2, none, .bx (.t 0) 7 true⟩, 
    ⟨some 4, none, .al [.p (.int .i64 0), .p (.int .i64 0), .p (.int .i64 0), .p (.int .i64 0), .p (.int .i64 0), .p (.int .i64 0), .p (.int .i64 0)] true⟩] [1, 2, 4] [2, 4])
  (.seq (.seq (.reg false [⟨some 5, none, .off (.t 2) 0⟩, 
    ⟨some 6, none, .ld (.t 5) 1 false⟩, 
    ⟨some 7, none, .bin .eql (.t 6) (.c (.p (.int .i64 1)))⟩] [1, 2, 4, 7] [2, 4])
  (.cond (.t 7)
  (.reg false [⟨some 8, none, .off (.t 2) 1⟩, 
      ⟨some 9, none, .ld (.t 8) 1 false⟩, 
      ⟨some 10, none, .mov (.t 1)⟩, 
      ⟨some 11, none, .call 46 [(.t 9), (.t 10)] false⟩, 
      ⟨some 12, none, .off (.t 2) 1⟩, 
      ⟨none, none, .st (.t 12) (.t 11) 1⟩] [1, 2, 4] [2, 4])
  .skip))
  (.seq (.seq (.reg false [⟨some 13, none, .off (.t 2) 0⟩, 
    ⟨some 14, none, .ld (.t 13) 1 false⟩, 
    ⟨some 15, none, .bin .eql (.t 14) (.c (.p (.int .i64 2)))⟩] [1, 2, 4, 15] [2, 4])
  (.cond (.t 15)
  (.seq (.reg false [⟨some 16, none, .off (.t 2) 1⟩, 
      ⟨some 17, none, .ld (.t 16) 1 false⟩, 
      ⟨some 18, none, .mov (.t 1)⟩, 
      ⟨some 19, none, .call 66 [(.t 17), (.t 18)] false⟩, 
      ⟨some 20, none, .off (.t 2) 1⟩, 
      ⟨none, none, .st (.t 20) (.t 19) 1⟩] [2, 4] [2, 4])
    (.seq (.reg false [⟨some 21, none, .off (.t 2) 3⟩, 
      ⟨none, none, .st (.t 21) (.c (.p (.int .i64 0))) 1⟩] [2, 4] [2, 4])
    (.seq (.reg false [⟨some 22, none, .off (.t 2) 4⟩, 
      ⟨none, none, .st (.t 22) (.c (.p (.int .i64 0))) 1⟩] [2, 4] [2, 4])
    (.reg false [⟨some 23, none, .off (.t 2) 5⟩, 
      ⟨none, none, .st (.t 23) (.c (.p (.int .i64 0))) 1⟩] [2, 4] [2, 4]))))
  .skip))
  (.seq (.reg false [⟨some 24, none, .ld (.t 2) 7 true⟩, 
    ⟨none, none, .st (.t 4) (.t 24) 7⟩] [4] [4])
  .ret)))),
  [.cell 4 7 true], false⟩
def ir48 : IFn :=   -- tympan/tympanref18.Must
⟨(.seq (.reg false [⟨some 4, none, .mov (.c (.p (.bool false)))⟩] [0, 1] [])
  (.seq (.reg false [⟨some 5, none, .mov (.t 1)⟩, 
    ⟨some 6, none, .bin .geq (.t 5) (.c (.p (.int .i64 1)))⟩, 
    ⟨some 7, none, .mov (.t 6)⟩, 
    ⟨some 8, (some (7, true)), .mov (.t 1)⟩, 
    ⟨some 9, (some (7, true)), .mov (.t 0)⟩, 
    ⟨some 10, (some (7, true)), .len (.t 9)⟩, 
    ⟨some 11, (some (7, true)), .bin .lss (.t 8) (.t 10)⟩, 
    ⟨some 12, none, .pick (.t 7) (.t 11) (.c (.p (.bool false)))⟩, 
    ⟨some 13, none, .mov (.t 12)⟩, 
    ⟨some 14, (some (13, true)), .mov (.t 0)⟩, 
    ⟨some 15, (some (13, true)), .mov (.t 1)⟩, 
    ⟨some 16, (some (13, true)), .ixs (.t 14) (.t 15) 7⟩, 
    ⟨some 17, (some (13, true)), .off (.t 16) 0⟩, 
    ⟨some 18, (some (13, true)), .ld (.t 17) 1 false⟩, 
    ⟨some 19, (some (13, true)), .bin .eql (.t 18) (.c (.p (.int .i64 3)))⟩, 
    ⟨some 20, none, .pick (.t 13) (.t 19) (.c (.p (.bool false)))⟩, 
    ⟨some 21, none, .mov (.t 20)⟩, 
    ⟨some 22, (some (21, true)), .mov (.t 0)⟩, 
    ⟨some 23, (some (21, true)), .mov (.t 1)⟩, 
    ⟨some 24, (some (21, true)), .ixs (.t 22) (.t 23) 7⟩, 
    ⟨some 25, (some (21, true)), .off (.t 24) 6⟩, 
    ⟨some 26, (some (21, true)), .ld (.t 25) 1 false⟩, 
    ⟨some 27, (some (21, true)), .bin .leq (.t 26) (.c (.p (.int .i64 (-10000))))⟩, 
    ⟨some 28, none, .pick (.t 21) (.t 27) (.c (.p (.bool false)))⟩, 
    ⟨some 4, none, .mov (.t 28)⟩] [4] [])
  .ret)),
  [.tmp 4], false⟩
def ir49 : IFn :=   -- tympan/tympanref10.Loose
⟨(.seq (.reg false [⟨some 1, none, .bx (.t 0) 7 true⟩, 
    ⟨some 2, none, .mov (.c (.p (.bool false)))⟩] [1] [1])
  (.seq (.reg false [⟨some 3, none, .off (.t 1) 0⟩, 
    ⟨some 4, none, .ld (.t 3) 1 false⟩, 
    ⟨some 5, none, .bin .eql (.t 4) (.c (.p (.int .i64 2)))⟩, 
    ⟨some 6, none, .mov (.t 5)⟩, 
    ⟨some 7, (some (6, false)), .off (.t 1) 0⟩, 
    ⟨some 8, (some (6, false)), .ld (.t 7) 1 false⟩, 
    ⟨some 9, (some (6, false)), .bin .eql (.t 8) (.c (.p (.int .i64 3)))⟩, 
    ⟨some 10, none, .pick (.t 6) (.c (.p (.bool true))) (.t 9)⟩, 
    ⟨some 2, none, .mov (.t 10)⟩] [2] [])
  .ret)),
  [.tmp 2], false⟩
def lp50_0 : IC :=
  (.loop [1, 2, 3, 4, 5, 6, 13] [6] (.seq (.seq (.reg false [⟨some 14, none, .mov (.t 13)⟩, 
        ⟨some 15, none, .mov (.t 2)⟩, 
        ⟨some 16, none, .len (.t 15)⟩, 
        ⟨some 17, none, .bin .lss (.t 14) (.t 16)⟩] [1, 2, 3, 4, 5, 6, 13, 17] [6])
      (.cond (.t 17)
      .skip
      (.exit 0)))
      (.seq (.block 1 (.seq (.reg false [⟨some 20, none, .mov (.t 2)⟩, 
          ⟨some 21, none, .mov (.t 13)⟩, 
          ⟨some 22, none, .ixs (.t 20) (.t 21) 1⟩, 
          ⟨some 23, none, .ld (.t 22) 1 false⟩, 
          ⟨some 24, none, .bin .lss (.t 23) (.c (.p (.int .i64 0)))⟩, 
          ⟨some 25, none, .mov (.t 24)⟩, 
          ⟨some 26, (some (25, false)), .mov (.t 2)⟩, 
          ⟨some 27, (some (25, false)), .mov (.t 13)⟩, 
          ⟨some 28, (some (25, false)), .ixs (.t 26) (.t 27) 1⟩, 
          ⟨some 29, (some (25, false)), .ld (.t 28) 1 false⟩, 
          ⟨some 30, (some (25, false)), .mov (.t 1)⟩, 
          ⟨some 31, (some (25, false)), .len (.t 30)⟩, 
          ⟨some 32, (some (25, false)), .bin .geq (.t 29) (.t 31)⟩, 
          ⟨some 33, none, .pick (.t 25) (.c (.p (.bool true))) (.t 32)⟩, 
          ⟨some 34, none, .mov (.t 33)⟩, 
          ⟨some 35, (some (34, false)), .mov (.t 1)⟩, 
          ⟨some 36, (some (34, false)), .mov (.t 2)⟩, 
          ⟨some 37, (some (34, false)), .mov (.t 13)⟩, 
          ⟨some 38, (some (34, false)), .ixs (.t 36) (.t 37) 1⟩, 
          ⟨some 39, (some (34, false)), .ld (.t 38) 1 false⟩, 
          ⟨some 40, (some (34, false)), .ixs (.t 35) (.t 39) 3⟩, 
          ⟨some 41, (some (34, false)), .off (.t 40) 2⟩, 
          ⟨some 42, (some (34, false)), .ld (.t 41) 1 false⟩, 
          ⟨some 43, (some (34, false)), .mov (.t 3)⟩, 
          ⟨some 44, (some (34, false)), .bin .and (.t 42) (.t 43)⟩, 
          ⟨some 45, (some (34, false)), .bin .eql (.t 44) (.c (.p (.int .i64 0)))⟩, 
          ⟨some 46, none, .pick (.t 34) (.c (.p (.bool true))) (.t 45)⟩] [1, 2, 3, 4, 5, 6, 13, 46] [6])
        (.cond (.t 46)
        (.seq (.reg false [⟨some 12, none, .mov (.c (.p (.bool false)))⟩] [12] [])
          .ret)
        .skip)))
      (.reg false [⟨some 18, none, .mov (.t 13)⟩, 
        ⟨some 19, none, .bin .add (.t 18) (.c (.p (.int .i64 1)))⟩, 
        ⟨some 13, none, .mov (.t 19)⟩] [1, 2, 3, 4, 5, 6, 13] [6]))))
def ir50 : IFn :=   -- tympan/tympanref24.fits
⟨(.seq (.reg false [⟨some 6, none, .bx (.t 0) 19 true⟩, 
    ⟨some 12, none, .mov (.c (.p (.bool false)))⟩] [1, 2, 3, 4, 5, 6] [6])
  (.seq (.seq (.reg false [⟨some 13, none, .mov (.c (.p (.int .i64 0)))⟩] [1, 2, 3, 4, 5, 6, 13] [6])
  (.block 0 lp50_0))
  (.seq (.reg false [⟨some 47, none, .mov (.t 2)⟩, 
    ⟨some 48, none, .len (.t 47)⟩, 
    ⟨some 49, none, .mov (.t 4)⟩, 
    ⟨some 50, none, .bin .leq (.t 48) (.t 49)⟩, 
    ⟨some 51, none, .mov (.t 50)⟩, 
    ⟨some 52, (some (51, true)), .mov (.t 1)⟩, 
    ⟨some 53, (some (51, true)), .mov (.t 2)⟩, 
    ⟨some 54, (some (51, true)), .off (.t 6) 7⟩, 
    ⟨some 55, (some (51, true)), .ld (.t 54) 1 false⟩, 
    ⟨some 56, (some (51, true)), .call 67 [(.t 52), (.t 53), (.t 55)] false⟩, 
    ⟨some 57, (some (51, true)), .mov (.t 5)⟩, 
    ⟨some 58, (some (51, true)), .bin .leq (.t 56) (.t 57)⟩, 
    ⟨some 59, none, .pick (.t 51) (.t 58) (.c (.p (.bool false)))⟩, 
    ⟨some 12, none, .mov (.t 59)⟩] [12] [])
  .ret))),
  [.tmp 12], false⟩
def ir51 : IFn :=   -- tympan/tympanref10.Long
⟨(.seq (.reg false [⟨some 2, none, .mov (.c (.p (.bool false)))⟩] [0] [])
  (.seq (.reg false [⟨some 3, none, .mov (.t 0)⟩, 
    ⟨some 4, none, .bin .geq (.t 3) (.c (.p (.int .i64 0)))⟩, 
    ⟨some 5, none, .mov (.t 4)⟩, 
    ⟨some 6, (some (5, true)), .mov (.t 0)⟩, 
    ⟨some 7, (some (5, true)), .bin .leq (.t 6) (.c (.p (.int .i64 1073741823)))⟩, 
    ⟨some 8, none, .pick (.t 5) (.t 7) (.c (.p (.bool false)))⟩, 
    ⟨some 2, none, .mov (.t 8)⟩] [2] [])
  .ret)),
  [.tmp 2], false⟩
def ir52 : IFn :=   -- tympan/valid.clauses
⟨(.seq (.reg false [⟨some 0, none, .mov (.c (.nils))⟩] [] [])
  (.seq (.reg false [⟨some 1, none, .call 68 [(.c (.p (.fn 69)))] false⟩, 
    ⟨some 2, none, .bld [.p (.int .i64 0), .p .nilf] [(0, 1, (.c (.p (.int .i64 3)))), (1, 1, (.t 1))]⟩, 
    ⟨some 3, none, .call 68 [(.c (.p (.fn 70)))] false⟩, 
    ⟨some 4, none, .bld [.p (.int .i64 0), .p .nilf] [(0, 1, (.c (.p (.int .i64 4)))), (1, 1, (.t 3))]⟩, 
    ⟨some 5, none, .call 68 [(.c (.p (.fn 71)))] false⟩, 
    ⟨some 6, none, .bld [.p (.int .i64 0), .p .nilf] [(0, 1, (.c (.p (.int .i64 5)))), (1, 1, (.t 5))]⟩, 
    ⟨some 7, none, .call 68 [(.c (.p (.fn 72)))] false⟩, 
    ⟨some 8, none, .bld [.p (.int .i64 0), .p .nilf] [(0, 1, (.c (.p (.int .i64 6)))), (1, 1, (.t 7))]⟩, 
    ⟨some 9, none, .call 68 [(.c (.p (.fn 74)))] false⟩, 
    ⟨some 10, none, .bld [.p (.int .i64 0), .p .nilf] [(0, 1, (.c (.p (.int .i64 7)))), (1, 1, (.t 9))]⟩, 
    ⟨some 11, none, .bld [.p (.int .i64 0), .p .nilf] [(0, 1, (.c (.p (.int .i64 8)))), (1, 1, (.c (.p (.fn 75))))]⟩, 
    ⟨some 12, none, .bld [.p (.int .i64 0), .p .nilf] [(0, 1, (.c (.p (.int .i64 9)))), (1, 1, (.c (.p (.fn 78))))]⟩, 
    ⟨some 13, none, .bld [.p (.int .i64 0), .p .nilf] [(0, 1, (.c (.p (.int .i64 10)))), (1, 1, (.c (.p (.fn 81))))]⟩, 
    ⟨some 14, none, .bld [.p (.int .i64 0), .p .nilf] [(0, 1, (.c (.p (.int .i64 11)))), (1, 1, (.c (.p (.fn 84))))]⟩, 
    ⟨some 15, none, .bld [.p (.int .i64 0), .p .nilf] [(0, 1, (.c (.p (.int .i64 12)))), (1, 1, (.c (.p (.fn 85))))]⟩, 
    ⟨some 16, none, .bsl 2 10 [.p (.int .i64 0), .p .nilf] [(0, (.t 2)), (1, (.t 4)), (2, (.t 6)), (3, (.t 8)), (4, (.t 10)), (5, (.t 11)), (6, (.t 12)), (7, (.t 13)), (8, (.t 14)), (9, (.t 15))]⟩, 
    ⟨some 0, none, .mov (.t 16)⟩] [0] [])
  .ret)),
  [.tmp 0], false⟩
def ir53 : IFn :=   -- slices.Clone[[]tympan/api.Item,tympan/api.Item]
⟨(.seq (.reg false [⟨some 2, none, .mov (.c (.nils))⟩] [0] [])
  (.seq (.seq (.reg false [⟨some 3, none, .mov (.t 0)⟩, 
    ⟨some 4, none, .eqn .sl false (.t 3)⟩] [0, 4] [])
  (.cond (.t 4)
  (.seq (.reg false [⟨some 2, none, .mov (.c (.nils))⟩] [2] [])
    .ret)
  .skip))
  (.seq (.reg false [⟨some 5, none, .bsl 7 0 [.p (.int .i64 0), .p (.int .i64 0), .p (.int .i64 0), .p (.int .i64 0), .p (.int .i64 0), .p (.int .i64 0), .p (.int .i64 0)] []⟩, 
    ⟨some 6, none, .mov (.t 0)⟩, 
    ⟨some 7, none, .app (.t 5) (.t 6) 7⟩, 
    ⟨some 2, none, .mov (.t 7)⟩] [2] [])
  .ret))),
  [.tmp 2], true⟩
def ir54 : IFn :=   -- tympan/grid.Near
⟨(.seq (.reg false [⟨some 4, none, .mov (.c (.p (.int .i64 0)))⟩] [0, 1] [])
  (.seq (.seq (.reg false [⟨some 6, none, .mov (.t 1)⟩, 
    ⟨some 7, none, .bin .lss (.t 6) (.c (.p (.int .i64 1)))⟩] [0, 1, 7] [])
  (.cond (.t 7)
  (.seq (.reg false [⟨some 8, none, .mov (.t 0)⟩, 
      ⟨some 4, none, .mov (.t 8)⟩] [4] [])
    .ret)
  .skip))
  (.seq (.reg false [⟨some 9, none, .mov (.t 0)⟩, 
    ⟨some 10, none, .mov (.t 1)⟩, 
    ⟨some 11, none, .bin .rem (.t 9) (.t 10)⟩, 
    ⟨some 5, none, .mov (.t 11)⟩] [0, 1, 5] [])
  (.seq (.seq (.reg false [⟨some 12, none, .mov (.t 5)⟩, 
    ⟨some 13, none, .bin .lss (.t 12) (.c (.p (.int .i64 0)))⟩] [0, 1, 5, 13] [])
  (.cond (.t 13)
  (.reg false [⟨some 14, none, .mov (.t 5)⟩, 
      ⟨some 15, none, .mov (.t 1)⟩, 
      ⟨some 16, none, .bin .add (.t 14) (.t 15)⟩, 
      ⟨some 5, none, .mov (.t 16)⟩] [0, 1, 5] [])
  .skip))
  (.seq (.seq (.reg false [⟨some 17, none, .mov (.t 5)⟩, 
    ⟨some 18, none, .mov (.t 1)⟩, 
    ⟨some 19, none, .mov (.t 5)⟩, 
    ⟨some 20, none, .bin .sub (.t 18) (.t 19)⟩, 
    ⟨some 21, none, .bin .lss (.t 17) (.t 20)⟩] [0, 1, 21] [])
  (.cond (.t 21)
  (.seq (.reg false [⟨some 22, none, .mov (.t 0)⟩, 
      ⟨some 23, none, .mov (.t 1)⟩, 
      ⟨some 24, none, .call 34 [(.t 22), (.t 23)] false⟩, 
      ⟨some 4, none, .mov (.t 24)⟩] [4] [])
    .ret)
  .skip))
  (.seq (.reg false [⟨some 25, none, .mov (.t 0)⟩, 
    ⟨some 26, none, .mov (.t 1)⟩, 
    ⟨some 27, none, .call 35 [(.t 25), (.t 26)] false⟩, 
    ⟨some 4, none, .mov (.t 27)⟩] [4] [])
  .ret)))))),
  [.tmp 4], false⟩
def ir55 : IFn :=   -- slices.Clone[[]tympan/api.Sp,tympan/api.Sp]
⟨(.seq (.reg false [⟨some 2, none, .mov (.c (.nils))⟩] [0] [])
  (.seq (.seq (.reg false [⟨some 3, none, .mov (.t 0)⟩, 
    ⟨some 4, none, .eqn .sl false (.t 3)⟩] [0, 4] [])
  (.cond (.t 4)
  (.seq (.reg false [⟨some 2, none, .mov (.c (.nils))⟩] [2] [])
    .ret)
  .skip))
  (.seq (.reg false [⟨some 5, none, .bsl 1 0 [.p (.int .i64 0)] []⟩, 
    ⟨some 6, none, .mov (.t 0)⟩, 
    ⟨some 7, none, .app (.t 5) (.t 6) 1⟩, 
    ⟨some 2, none, .mov (.t 7)⟩] [2] [])
  .ret))),
  [.tmp 2], true⟩
def ir56 : IFn :=   -- slices.Clone[[]int,int]
⟨(.seq (.reg false [⟨some 2, none, .mov (.c (.nils))⟩] [0] [])
  (.seq (.seq (.reg false [⟨some 3, none, .mov (.t 0)⟩, 
    ⟨some 4, none, .eqn .sl false (.t 3)⟩] [0, 4] [])
  (.cond (.t 4)
  (.seq (.reg false [⟨some 2, none, .mov (.c (.nils))⟩] [2] [])
    .ret)
  .skip))
  (.seq (.reg false [⟨some 5, none, .bsl 1 0 [.p (.int .i64 0)] []⟩, 
    ⟨some 6, none, .mov (.t 0)⟩, 
    ⟨some 7, none, .app (.t 5) (.t 6) 1⟩, 
    ⟨some 2, none, .mov (.t 7)⟩] [2] [])
  .ret))),
  [.tmp 2], true⟩
def ir57 : IFn :=   -- tympan/grid.or
⟨(.seq (.reg false [⟨some 6, none, .mov (.c (.p (.int .i64 0)))⟩] [0, 1, 2] [])
  (.seq (.seq (.reg false [⟨some 10, none, .mov (.t 2)⟩, 
    ⟨some 11, none, .mov (.t 0)⟩, 
    ⟨some 12, none, .mov (.t 1)⟩, 
    ⟨some 13, none, .callv (.t 10) [(.t 11), (.t 12)] false⟩, 
    ⟨some 9, none, .mov (.t 13)⟩, 
    ⟨some 14, none, .ext (.t 9) 0⟩, 
    ⟨some 15, none, .ext (.t 9) 1⟩, 
    ⟨some 7, none, .mov (.t 14)⟩, 
    ⟨some 8, none, .mov (.t 15)⟩] [0, 7, 8] [])
  (.seq (.reg false [⟨some 16, none, .mov (.t 8)⟩] [0, 7, 16] [])
  (.cond (.t 16)
  (.seq (.reg false [⟨some 17, none, .mov (.t 7)⟩, 
      ⟨some 6, none, .mov (.t 17)⟩] [6] [])
    .ret)
  .skip)))
  (.seq (.reg false [⟨some 18, none, .mov (.t 0)⟩, 
    ⟨some 6, none, .mov (.t 18)⟩] [6] [])
  .ret))),
  [.tmp 6], false⟩
def ir58 : IFn :=   -- tympan/sp.Down
⟨(.seq (.reg false [⟨some 4, none, .mov (.c (.p (.int .i64 0)))⟩, 
    ⟨some 5, none, .mov (.c (.p (.bool false)))⟩] [0, 1] [])
  (.seq (.seq (.reg false [⟨some 6, none, .mov (.t 1)⟩, 
    ⟨some 7, none, .bin .lss (.t 6) (.c (.p (.int .i64 1)))⟩] [0, 1, 7] [])
  (.cond (.t 7)
  (.seq (.reg false [⟨some 4, none, .mov (.c (.p (.int .i64 0)))⟩, 
      ⟨some 5, none, .mov (.c (.p (.bool false)))⟩] [4, 5] [])
    .ret)
  .skip))
  (.seq (.reg false [⟨some 8, none, .mov (.t 0)⟩, 
    ⟨some 9, none, .mov (.t 0)⟩, 
    ⟨some 10, none, .mov (.t 1)⟩, 
    ⟨some 11, none, .call 87 [(.t 9), (.t 10)] false⟩, 
    ⟨some 12, none, .call 86 [(.t 8), (.t 11)] false⟩, 
    ⟨some 13, none, .ext (.t 12) 0⟩, 
    ⟨some 14, none, .ext (.t 12) 1⟩, 
    ⟨some 4, none, .mov (.t 13)⟩, 
    ⟨some 5, none, .mov (.t 14)⟩] [4, 5] [])
  .ret))),
  [.tmp 4, .tmp 5], false⟩
def ir59 : IFn :=   -- tympan/sp.Up
⟨(.seq (.reg false [⟨some 4, none, .mov (.c (.p (.int .i64 0)))⟩, 
    ⟨some 5, none, .mov (.c (.p (.bool false)))⟩] [0, 1] [])
  (.seq (.seq (.reg false [⟨some 7, none, .mov (.t 1)⟩, 
    ⟨some 8, none, .bin .lss (.t 7) (.c (.p (.int .i64 1)))⟩] [0, 1, 8] [])
  (.cond (.t 8)
  (.seq (.reg false [⟨some 4, none, .mov (.c (.p (.int .i64 0)))⟩, 
      ⟨some 5, none, .mov (.c (.p (.bool false)))⟩] [4, 5] [])
    .ret)
  .skip))
  (.seq (.seq (.reg false [⟨some 9, none, .mov (.t 0)⟩, 
    ⟨some 10, none, .mov (.t 1)⟩, 
    ⟨some 11, none, .call 87 [(.t 9), (.t 10)] false⟩, 
    ⟨some 6, none, .mov (.t 11)⟩] [0, 1, 6] [])
  (.seq (.reg false [⟨some 12, none, .mov (.t 6)⟩, 
    ⟨some 13, none, .bin .gtr (.t 12) (.c (.p (.int .i64 0)))⟩] [0, 1, 6, 13] [])
  (.cond (.t 13)
  (.seq (.reg false [⟨some 14, none, .mov (.t 0)⟩, 
      ⟨some 15, none, .mov (.t 1)⟩, 
      ⟨some 16, none, .mov (.t 6)⟩, 
      ⟨some 17, none, .bin .sub (.t 15) (.t 16)⟩, 
      ⟨some 18, none, .call 88 [(.t 14), (.t 17)] false⟩, 
      ⟨some 19, none, .ext (.t 18) 0⟩, 
      ⟨some 20, none, .ext (.t 18) 1⟩, 
      ⟨some 4, none, .mov (.t 19)⟩, 
      ⟨some 5, none, .mov (.t 20)⟩] [4, 5] [])
    .ret)
  .skip)))
  (.seq (.reg false [⟨some 21, none, .mov (.t 0)⟩, 
    ⟨some 4, none, .mov (.t 21)⟩, 
    ⟨some 5, none, .mov (.c (.p (.bool true)))⟩] [4, 5] [])
  .ret)))),
  [.tmp 4, .tmp 5], false⟩
def ir60 : IFn :=   -- tympan/area.top
⟨(.seq (.reg false [⟨some 1, none, .bx (.t 0) 19 true⟩, 
    ⟨some 2, none, .al [.p (.int .i64 0), .p (.int .i64 0), .p .nilf] true⟩] [1, 2] [1, 2])
  (.seq (.reg false [⟨some 3, none, .off (.t 1) 11⟩, 
    ⟨some 4, none, .ld (.t 3) 1 false⟩, 
    ⟨some 5, none, .off (.t 1) 9⟩, 
    ⟨some 6, none, .ld (.t 5) 1 false⟩, 
    ⟨some 7, none, .bld [.p (.int .i64 0), .p (.int .i64 0), .p .nilf] [(0, 1, (.t 4)), (1, 1, (.t 6)), (2, 1, (.c (.p (.fn 89))))]⟩, 
    ⟨none, none, .st (.t 2) (.t 7) 3⟩] [2] [2])
  .ret)),
  [.cell 2 3 true], false⟩
end Go.EnvOf
