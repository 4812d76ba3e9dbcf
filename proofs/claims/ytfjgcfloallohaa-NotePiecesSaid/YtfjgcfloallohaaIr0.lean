/- The engine's instructions for the functions, part 0. -/
import Derived.Test.YtfjgcfloallohaaEng3
namespace Go.EnvOf
open Go Go.Eng
set_option maxRecDepth 100000
def ir3 : IFn :=   -- tympan/tympanlaw11.NoteTells
⟨(.seq (.reg false [⟨some 2, none, .bx (.t 0) 2 true⟩, 
    ⟨some 4, none, .mov (.c (.p (.bool false)))⟩] [1, 2] [2])
  (.seq (.seq (.reg false [⟨some 6, none, .off (.t 2) 0⟩, 
    ⟨some 7, none, .ld (.t 6) 1 false⟩, 
    ⟨some 8, none, .len (.t 7)⟩, 
    ⟨some 9, none, .bin .gtr (.t 8) (.c (.p (.int .i64 100)))⟩, 
    ⟨some 10, none, .mov (.t 9)⟩, 
    ⟨some 11, (some (10, false)), .off (.t 2) 1⟩, 
    ⟨some 12, (some (10, false)), .ld (.t 11) 1 false⟩, 
    ⟨some 13, (some (10, false)), .len (.t 12)⟩, 
    ⟨some 14, (some (10, false)), .bin .gtr (.t 13) (.c (.p (.int .i64 100)))⟩, 
    ⟨some 15, none, .pick (.t 10) (.c (.p (.bool true))) (.t 14)⟩] [1, 2, 15] [2])
  (.cond (.t 15)
  (.seq (.reg false [⟨some 16, none, .call 17 [] false⟩, 
      ⟨some 4, none, .mov (.t 16)⟩] [4] [])
    .ret)
  .skip))
  (.seq (.reg false [⟨some 17, none, .ld (.t 2) 2 true⟩, 
    ⟨some 18, none, .call 18 [(.t 17)] false⟩, 
    ⟨some 5, none, .mov (.t 18)⟩] [1, 2, 5] [2])
  (.seq (.seq (.reg false [⟨some 19, none, .mov (.t 5)⟩, 
    ⟨some 20, none, .bin .eql (.t 19) (.c (.p (.int .i64 0)))⟩, 
    ⟨some 21, none, .ld (.t 2) 2 true⟩, 
    ⟨some 22, none, .call 19 [(.t 21)] false⟩, 
    ⟨some 23, none, .eqb true (.t 20) (.t 22)⟩, 
    ⟨some 24, none, .mov (.t 23)⟩, 
    ⟨some 25, (some (24, false)), .mov (.t 5)⟩, 
    ⟨some 26, (some (24, false)), .bin .neq (.t 25) (.c (.p (.int .i64 0)))⟩, 
    ⟨some 27, (some (24, false)), .mov (.t 26)⟩, 
    ⟨some 28, (some (27, true)), .mov (.t 5)⟩, 
    ⟨some 29, (some (27, true)), .bin .neq (.t 28) (.c (.p (.int .i64 9)))⟩, 
    ⟨some 30, (some (24, false)), .pick (.t 27) (.t 29) (.c (.p (.bool false)))⟩, 
    ⟨some 31, none, .pick (.t 24) (.c (.p (.bool true))) (.t 30)⟩] [1, 2, 31] [2])
  (.cond (.t 31)
  (.seq (.reg false [⟨some 4, none, .mov (.c (.p (.bool false)))⟩] [4] [])
    .ret)
  .skip))
  (.seq (.reg true [⟨some 32, none, .ldl 2 (.t 2) 2 true⟩, 
    ⟨some 33, none, .mov (.t 1)⟩, 
    ⟨some 34, none, .call 20 [(.t 32), (.t 33)] false⟩, 
    ⟨some 35, none, .ldl 2 (.t 2) 2 true⟩, 
    ⟨some 36, none, .mov (.t 1)⟩, 
    ⟨some 37, none, .call 21 [(.t 35), (.t 36)] false⟩, 
    ⟨some 38, none, .eqb false (.t 34) (.t 37)⟩, 
    ⟨some 39, none, .mov (.t 38)⟩, 
    ⟨some 40, (some (39, true)), .ldl 2 (.t 2) 2 true⟩, 
    ⟨some 41, (some (39, true)), .mov (.t 1)⟩, 
    ⟨some 42, (some (39, true)), .call 22 [(.t 40), (.t 41)] false⟩, 
    ⟨some 43, (some (39, true)), .ldl 2 (.t 2) 2 true⟩, 
    ⟨some 44, (some (39, true)), .mov (.t 1)⟩, 
    ⟨some 45, (some (39, true)), .call 23 [(.t 43), (.t 44)] false⟩, 
    ⟨some 46, (some (39, true)), .bin .eql (.t 42) (.t 45)⟩, 
    ⟨some 47, none, .pick (.t 39) (.t 46) (.c (.p (.bool false)))⟩, 
    ⟨some 48, none, .mov (.t 47)⟩, 
    ⟨some 49, (some (48, true)), .ldl 2 (.t 2) 2 true⟩, 
    ⟨some 50, (some (48, true)), .mov (.t 1)⟩, 
    ⟨some 51, (some (48, true)), .call 25 [(.t 49), (.t 50)] false⟩, 
    ⟨some 52, (some (48, true)), .ldl 2 (.t 2) 2 true⟩, 
    ⟨some 53, (some (48, true)), .mov (.t 1)⟩, 
    ⟨some 54, (some (48, true)), .call 26 [(.t 52), (.t 53)] false⟩, 
    ⟨some 55, (some (48, true)), .call 24 [(.t 51), (.t 54)] false⟩, 
    ⟨some 56, none, .pick (.t 48) (.t 55) (.c (.p (.bool false)))⟩, 
    ⟨some 57, none, .mov (.t 56)⟩, 
    ⟨some 58, (some (57, true)), .ldl 2 (.t 2) 2 true⟩, 
    ⟨some 59, (some (57, true)), .mov (.t 1)⟩, 
    ⟨some 60, (some (57, true)), .call 27 [(.t 58), (.t 59)] false⟩, 
    ⟨some 61, (some (57, true)), .ldl 2 (.t 2) 2 true⟩, 
    ⟨some 62, (some (57, true)), .mov (.t 1)⟩, 
    ⟨some 63, (some (57, true)), .call 28 [(.t 61), (.t 62)] false⟩, 
    ⟨some 64, (some (57, true)), .bin .eql (.t 60) (.t 63)⟩, 
    ⟨some 65, none, .pick (.t 57) (.t 64) (.c (.p (.bool false)))⟩, 
    ⟨some 66, none, .mov (.t 65)⟩, 
    ⟨some 67, (some (66, true)), .call 17 [] false⟩, 
    ⟨some 68, none, .pick (.t 66) (.t 67) (.c (.p (.bool false)))⟩, 
    ⟨some 4, none, .mov (.t 68)⟩] [4] [])
  .ret))))),
  [.tmp 4], false⟩
def ir4 : IFn :=   -- tympan/tympanlaw11.NoteHigh
⟨(.seq (.reg false [⟨some 3, none, .bx (.t 0) 2 true⟩, 
    ⟨some 6, none, .mov (.c (.p (.bool false)))⟩] [1, 2, 3] [3])
  (.seq (.seq (.reg false [⟨some 7, none, .off (.t 3) 0⟩, 
    ⟨some 8, none, .ld (.t 7) 1 false⟩, 
    ⟨some 9, none, .len (.t 8)⟩, 
    ⟨some 10, none, .bin .gtr (.t 9) (.c (.p (.int .i64 100)))⟩] [1, 2, 3, 10] [3])
  (.cond (.t 10)
  (.seq (.reg false [⟨some 11, none, .call 17 [] false⟩, 
      ⟨some 6, none, .mov (.t 11)⟩] [6] [])
    .ret)
  .skip))
  (.seq (.reg true [⟨some 12, none, .ldl 3 (.t 3) 2 true⟩, 
    ⟨some 13, none, .mov (.t 1)⟩, 
    ⟨some 14, none, .mov (.t 2)⟩, 
    ⟨some 15, none, .call 29 [(.t 12), (.t 13), (.t 14)] false⟩, 
    ⟨some 16, none, .ldl 3 (.t 3) 2 true⟩, 
    ⟨some 17, none, .mov (.t 1)⟩, 
    ⟨some 18, none, .mov (.t 2)⟩, 
    ⟨some 19, none, .call 30 [(.t 16), (.t 17), (.t 18)] false⟩, 
    ⟨some 20, none, .bin .eql (.t 15) (.t 19)⟩, 
    ⟨some 21, none, .mov (.t 20)⟩, 
    ⟨some 22, (some (21, true)), .call 17 [] false⟩, 
    ⟨some 23, none, .pick (.t 21) (.t 22) (.c (.p (.bool false)))⟩, 
    ⟨some 6, none, .mov (.t 23)⟩] [6] [])
  .ret))),
  [.tmp 6], false⟩
def lp5_0 : IC :=
  (.loop [2, 3, 5, 6, 7, 8] [2, 3] (.seq (.seq (.reg false [⟨some 27, none, .mov (.t 8)⟩, 
        ⟨some 28, none, .mov (.t 5)⟩, 
        ⟨some 29, none, .len (.t 28)⟩, 
        ⟨some 30, none, .bin .lss (.t 27) (.t 29)⟩] [2, 3, 5, 6, 7, 8, 30] [2, 3])
      (.cond (.t 30)
      .skip
      (.exit 0)))
      (.seq (.block 1 (.seq (.seq (.reg false [⟨some 33, none, .mov (.t 5)⟩, 
          ⟨some 34, none, .mov (.t 8)⟩, 
          ⟨some 35, none, .ixs (.t 33) (.t 34) 1⟩, 
          ⟨some 36, none, .ld (.t 35) 1 false⟩, 
          ⟨some 37, none, .mov (.t 7)⟩, 
          ⟨some 38, none, .bin .leq (.t 36) (.t 37)⟩] [2, 3, 5, 6, 7, 8, 38] [2, 3])
        (.cond (.t 38)
        (.seq (.reg false [⟨some 4, none, .mov (.c (.p (.bool false)))⟩] [4] [])
          .ret)
        .skip))
        (.seq (.reg true [⟨some 39, none, .mov (.t 6)⟩, 
          ⟨some 40, none, .ldl 2 (.t 2) 2 true⟩, 
          ⟨some 41, none, .mov (.t 7)⟩, 
          ⟨some 42, none, .mov (.t 5)⟩, 
          ⟨some 43, none, .mov (.t 8)⟩, 
          ⟨some 44, none, .ixs (.t 42) (.t 43) 1⟩, 
          ⟨some 45, none, .ld (.t 44) 1 false⟩, 
          ⟨some 46, none, .call 29 [(.t 40), (.t 41), (.t 45)] false⟩, 
          ⟨some 47, none, .bin .add (.t 39) (.t 46)⟩, 
          ⟨some 6, none, .mov (.t 47)⟩] [2, 3, 5, 6, 8] [2, 3])
        (.reg false [⟨some 48, none, .mov (.t 5)⟩, 
          ⟨some 49, none, .mov (.t 8)⟩, 
          ⟨some 50, none, .ixs (.t 48) (.t 49) 1⟩, 
          ⟨some 51, none, .ld (.t 50) 1 false⟩, 
          ⟨some 7, none, .mov (.t 51)⟩] [2, 3, 5, 6, 7, 8] [2, 3]))))
      (.reg false [⟨some 31, none, .mov (.t 8)⟩, 
        ⟨some 32, none, .bin .add (.t 31) (.c (.p (.int .i64 1)))⟩, 
        ⟨some 8, none, .mov (.t 32)⟩] [2, 3, 5, 6, 7, 8] [2, 3]))))
def ir5 : IFn :=   -- tympan/tympanlaw11.NotePieces
⟨(.seq (.reg false [⟨some 2, none, .bx (.t 0) 2 true⟩, 
    ⟨some 3, none, .bx (.t 1) 2 true⟩, 
    ⟨some 4, none, .mov (.c (.p (.bool false)))⟩] [2, 3] [2, 3])
  (.seq (.seq (.reg false [⟨some 9, none, .ld (.t 2) 2 true⟩, 
    ⟨some 10, none, .call 18 [(.t 9)] false⟩, 
    ⟨some 11, none, .bin .neq (.t 10) (.c (.p (.int .i64 0)))⟩, 
    ⟨some 12, none, .mov (.t 11)⟩, 
    ⟨some 13, (some (12, false)), .off (.t 3) 0⟩, 
    ⟨some 14, (some (12, false)), .ld (.t 13) 1 false⟩, 
    ⟨some 15, (some (12, false)), .len (.t 14)⟩, 
    ⟨some 16, (some (12, false)), .bin .gtr (.t 15) (.c (.p (.int .i64 100)))⟩, 
    ⟨some 17, none, .pick (.t 12) (.c (.p (.bool true))) (.t 16)⟩, 
    ⟨some 18, none, .mov (.t 17)⟩, 
    ⟨some 19, (some (18, false)), .off (.t 3) 1⟩, 
    ⟨some 20, (some (18, false)), .ld (.t 19) 1 false⟩, 
    ⟨some 21, (some (18, false)), .len (.t 20)⟩, 
    ⟨some 22, (some (18, false)), .bin .gtr (.t 21) (.c (.p (.int .i64 100)))⟩, 
    ⟨some 23, none, .pick (.t 18) (.c (.p (.bool true))) (.t 22)⟩] [2, 3, 23] [2, 3])
  (.cond (.t 23)
  (.seq (.reg false [⟨some 24, none, .call 17 [] false⟩, 
      ⟨some 4, none, .mov (.t 24)⟩] [4] [])
    .ret)
  .skip))
  (.seq (.reg false [⟨some 25, none, .ld (.t 2) 2 true⟩, 
    ⟨some 26, none, .call 25 [(.t 25), (.c (.p (.int .i64 0)))] false⟩, 
    ⟨some 5, none, .mov (.t 26)⟩] [2, 3, 5] [2, 3])
  (.seq (.reg false [⟨some 6, none, .mov (.c (.p (.int .i64 0)))⟩] [2, 3, 5, 6] [2, 3])
  (.seq (.reg false [⟨some 7, none, .mov (.c (.p (.int .i64 0)))⟩] [2, 3, 5, 6, 7] [2, 3])
  (.seq (.seq (.reg false [⟨some 8, none, .mov (.c (.p (.int .i64 0)))⟩] [2, 3, 5, 6, 7, 8] [2, 3])
  (.block 0 lp5_0))
  (.seq (.reg true [⟨some 52, none, .mov (.t 7)⟩, 
    ⟨some 53, none, .off (.t 2) 0⟩, 
    ⟨some 54, none, .ldl 2 (.t 53) 1 false⟩, 
    ⟨some 55, none, .len (.t 54)⟩, 
    ⟨some 56, none, .bin .eql (.t 52) (.t 55)⟩, 
    ⟨some 57, none, .mov (.t 56)⟩, 
    ⟨some 58, (some (57, true)), .mov (.t 6)⟩, 
    ⟨some 59, (some (57, true)), .ldl 2 (.t 2) 2 true⟩, 
    ⟨some 60, (some (57, true)), .mov (.t 7)⟩, 
    ⟨some 61, (some (57, true)), .call 29 [(.t 59), (.c (.p (.int .i64 0))), (.t 60)] false⟩, 
    ⟨some 62, (some (57, true)), .bin .eql (.t 58) (.t 61)⟩, 
    ⟨some 63, none, .pick (.t 57) (.t 62) (.c (.p (.bool false)))⟩, 
    ⟨some 64, none, .mov (.t 63)⟩, 
    ⟨some 65, (some (64, true)), .ldl 2 (.t 2) 2 true⟩, 
    ⟨some 66, (some (64, true)), .mov (.t 7)⟩, 
    ⟨some 67, (some (64, true)), .call 20 [(.t 65), (.t 66)] false⟩, 
    ⟨some 68, none, .pick (.t 64) (.t 67) (.c (.p (.bool false)))⟩, 
    ⟨some 69, none, .mov (.t 68)⟩, 
    ⟨some 70, (some (69, true)), .ldl 2 (.t 2) 2 true⟩, 
    ⟨some 71, (some (69, true)), .ldl 3 (.t 3) 2 true⟩, 
    ⟨some 72, (some (69, true)), .ldl 2 (.t 2) 2 true⟩, 
    ⟨some 73, (some (69, true)), .bsl 2 3 [.nils, .nils] [(0, (.t 70)), (1, (.t 71)), (2, (.t 72))]⟩, 
    ⟨some 74, (some (69, true)), .call 31 [(.t 73)] false⟩, 
    ⟨some 75, (some (69, true)), .mov (.t 7)⟩, 
    ⟨some 76, (some (69, true)), .bin .mul (.c (.p (.int .i64 2))) (.t 75)⟩, 
    ⟨some 77, (some (69, true)), .off (.t 3) 0⟩, 
    ⟨some 78, (some (69, true)), .ldl 3 (.t 77) 1 false⟩, 
    ⟨some 79, (some (69, true)), .len (.t 78)⟩, 
    ⟨some 80, (some (69, true)), .bin .add (.t 76) (.t 79)⟩, 
    ⟨some 81, (some (69, true)), .bin .eql (.t 74) (.t 80)⟩, 
    ⟨some 82, none, .pick (.t 69) (.t 81) (.c (.p (.bool false)))⟩, 
    ⟨some 83, none, .mov (.t 82)⟩, 
    ⟨some 84, (some (83, true)), .ldl 2 (.t 2) 2 true⟩, 
    ⟨some 85, (some (83, true)), .ldl 3 (.t 3) 2 true⟩, 
    ⟨some 86, (some (83, true)), .call 32 [(.t 84), (.t 85)] false⟩, 
    ⟨some 87, (some (83, true)), .ldl 2 (.t 2) 2 true⟩, 
    ⟨some 88, (some (83, true)), .ldl 3 (.t 3) 2 true⟩, 
    ⟨some 89, (some (83, true)), .call 33 [(.t 87), (.t 88)] false⟩, 
    ⟨some 90, (some (83, true)), .eqb false (.t 86) (.t 89)⟩, 
    ⟨some 91, none, .pick (.t 83) (.t 90) (.c (.p (.bool false)))⟩, 
    ⟨some 92, none, .mov (.t 91)⟩, 
    ⟨some 93, (some (92, true)), .ldl 2 (.t 2) 2 true⟩, 
    ⟨some 94, (some (92, true)), .ldl 2 (.t 2) 2 true⟩, 
    ⟨some 95, (some (92, true)), .call 32 [(.t 93), (.t 94)] false⟩, 
    ⟨some 96, none, .pick (.t 92) (.t 95) (.c (.p (.bool false)))⟩, 
    ⟨some 97, none, .mov (.t 96)⟩, 
    ⟨some 98, (some (97, true)), .call 17 [] false⟩, 
    ⟨some 99, none, .pick (.t 97) (.t 98) (.c (.p (.bool false)))⟩, 
    ⟨some 4, none, .mov (.t 99)⟩] [4] [])
  .ret))))))),
  [.tmp 4], false⟩
def ir17 : IFn :=   -- tympan/tympanlaw11.awake
⟨(.seq (.reg false [⟨some 0, none, .mov (.c (.p (.bool false)))⟩] [] [])
  (.seq (.reg false [⟨some 2, none, .bsl 1 3 [.p (.int .i64 0)] [(0, (.c (.p (.int .i64 3)))), (1, (.c (.p (.int .i64 4)))), (2, (.c (.p (.int .i64 5))))]⟩, 
    ⟨some 3, none, .bsl 1 2 [.p (.int .i64 0)] [(0, (.c (.p (.int .i64 7)))), (1, (.c (.p (.int .i64 10000))))]⟩, 
    ⟨some 4, none, .bld [.nils, .nils] [(0, 1, (.t 2)), (1, 1, (.t 3))]⟩, 
    ⟨some 1, none, .al [.nils, .nils] true⟩, 
    ⟨none, none, .st (.t 1) (.t 4) 2⟩] [1] [1])
  (.seq (.reg false [⟨some 5, none, .ld (.t 1) 2 true⟩, 
    ⟨some 6, none, .call 18 [(.t 5)] false⟩, 
    ⟨some 7, none, .bin .eql (.t 6) (.c (.p (.int .i64 0)))⟩, 
    ⟨some 8, none, .mov (.t 7)⟩, 
    ⟨some 9, (some (8, true)), .ld (.t 1) 2 true⟩, 
    ⟨some 10, (some (8, true)), .call 20 [(.t 9), (.c (.p (.int .i64 1)))] false⟩, 
    ⟨some 11, none, .pick (.t 8) (.t 10) (.c (.p (.bool false)))⟩, 
    ⟨some 12, none, .mov (.t 11)⟩, 
    ⟨some 13, (some (12, true)), .ld (.t 1) 2 true⟩, 
    ⟨some 14, (some (12, true)), .call 20 [(.t 13), (.c (.p (.int .i64 2)))] false⟩, 
    ⟨some 15, (some (12, true)), .un .not (.t 14)⟩, 
    ⟨some 16, none, .pick (.t 12) (.t 15) (.c (.p (.bool false)))⟩, 
    ⟨some 17, none, .mov (.t 16)⟩, 
    ⟨some 18, (some (17, true)), .ld (.t 1) 2 true⟩, 
    ⟨some 19, (some (17, true)), .call 29 [(.t 18), (.c (.p (.int .i64 1))), (.c (.p (.int .i64 3)))] false⟩, 
    ⟨some 20, (some (17, true)), .bin .eql (.t 19) (.c (.p (.int .i64 9)))⟩, 
    ⟨some 21, none, .pick (.t 17) (.t 20) (.c (.p (.bool false)))⟩, 
    ⟨some 22, none, .mov (.t 21)⟩, 
    ⟨some 23, (some (22, true)), .ld (.t 1) 2 true⟩, 
    ⟨some 24, (some (22, true)), .call 22 [(.t 23), (.c (.p (.int .i64 1)))] false⟩, 
    ⟨some 25, (some (22, true)), .bin .eql (.t 24) (.c (.p (.int .i64 7)))⟩, 
    ⟨some 26, none, .pick (.t 22) (.t 25) (.c (.p (.bool false)))⟩, 
    ⟨some 27, none, .mov (.t 26)⟩, 
    ⟨some 28, (some (27, true)), .ld (.t 1) 2 true⟩, 
    ⟨some 29, (some (27, true)), .call 27 [(.t 28), (.c (.p (.int .i64 1)))] false⟩, 
    ⟨some 30, (some (27, true)), .bin .eql (.t 29) (.c (.p (.int .i64 3)))⟩, 
    ⟨some 31, none, .pick (.t 27) (.t 30) (.c (.p (.bool false)))⟩, 
    ⟨some 0, none, .mov (.t 31)⟩] [0] [])
  .ret))),
  [.tmp 0], false⟩
def lp18_0 : IC :=
  (.loop [1, 3, 29, 30, 31] [1] (.seq (.reg false [⟨some 32, none, .bin .lss (.t 31) (.t 30)⟩] [1, 3, 29, 30, 31, 32] [1])
      (.seq (.cond (.t 32)
      .skip
      (.exit 0))
      (.seq (.block 1 (.seq (.reg false [⟨some 33, none, .ixs (.t 29) (.t 31) 1⟩, 
          ⟨some 34, none, .ld (.t 33) 1 false⟩, 
          ⟨some 5, none, .mov (.t 34)⟩] [1, 3, 5, 29, 30, 31] [1])
        (.reg false [⟨some 35, none, .mov (.t 3)⟩, 
          ⟨some 36, none, .mov (.t 35)⟩, 
          ⟨some 37, (some (36, false)), .mov (.t 5)⟩, 
          ⟨some 38, (some (36, false)), .bin .lss (.t 37) (.c (.p (.int .i64 1)))⟩, 
          ⟨some 39, none, .pick (.t 36) (.c (.p (.bool true))) (.t 38)⟩, 
          ⟨some 40, none, .mov (.t 39)⟩, 
          ⟨some 41, (some (40, false)), .mov (.t 5)⟩, 
          ⟨some 42, (some (40, false)), .bin .gtr (.t 41) (.c (.p (.int .i64 1073741823)))⟩, 
          ⟨some 43, none, .pick (.t 40) (.c (.p (.bool true))) (.t 42)⟩, 
          ⟨some 3, none, .mov (.t 43)⟩] [1, 3, 29, 30, 31] [1])))
      (.reg false [⟨some 44, none, .bin .add (.t 31) (.c (.p (.int .i64 1)))⟩, 
        ⟨some 31, none, .mov (.t 44)⟩] [1, 3, 29, 30, 31] [1])))))
def lp18_1 : IC :=
  (.loop [3, 46, 47, 48] [] (.seq (.reg false [⟨some 49, none, .bin .lss (.t 48) (.t 47)⟩] [3, 46, 47, 48, 49] [])
      (.seq (.cond (.t 49)
      .skip
      (.exit 2))
      (.seq (.block 3 (.seq (.reg false [⟨some 50, none, .ixs (.t 46) (.t 48) 1⟩, 
          ⟨some 51, none, .ld (.t 50) 1 false⟩, 
          ⟨some 7, none, .mov (.t 51)⟩] [3, 7, 46, 47, 48] [])
        (.reg false [⟨some 52, none, .mov (.t 3)⟩, 
          ⟨some 53, none, .mov (.t 52)⟩, 
          ⟨some 54, (some (53, false)), .mov (.t 7)⟩, 
          ⟨some 55, (some (53, false)), .bin .lss (.t 54) (.c (.p (.int .i64 0)))⟩, 
          ⟨some 56, none, .pick (.t 53) (.c (.p (.bool true))) (.t 55)⟩, 
          ⟨some 57, none, .mov (.t 56)⟩, 
          ⟨some 58, (some (57, false)), .mov (.t 7)⟩, 
          ⟨some 59, (some (57, false)), .bin .gtr (.t 58) (.c (.p (.int .i64 10000)))⟩, 
          ⟨some 60, none, .pick (.t 57) (.c (.p (.bool true))) (.t 59)⟩, 
          ⟨some 3, none, .mov (.t 60)⟩] [3, 46, 47, 48] [])))
      (.reg false [⟨some 61, none, .bin .add (.t 48) (.c (.p (.int .i64 1)))⟩, 
        ⟨some 48, none, .mov (.t 61)⟩] [3, 46, 47, 48] [])))))
def ir18 : IFn :=   -- tympan/note.Check
⟨(.seq (.reg false [⟨some 1, none, .bx (.t 0) 2 true⟩, 
    ⟨some 2, none, .mov (.c (.p (.int .i64 0)))⟩] [1] [1])
  (.seq (.reg false [⟨some 8, none, .off (.t 1) 0⟩, 
    ⟨some 9, none, .ld (.t 8) 1 false⟩, 
    ⟨some 10, none, .len (.t 9)⟩, 
    ⟨some 11, none, .bin .lss (.t 10) (.c (.p (.int .i64 1)))⟩, 
    ⟨some 12, none, .mov (.t 11)⟩, 
    ⟨some 13, (some (12, false)), .off (.t 1) 0⟩, 
    ⟨some 14, (some (12, false)), .ld (.t 13) 1 false⟩, 
    ⟨some 15, (some (12, false)), .len (.t 14)⟩, 
    ⟨some 16, (some (12, false)), .bin .gtr (.t 15) (.c (.p (.int .i64 64)))⟩, 
    ⟨some 17, none, .pick (.t 12) (.c (.p (.bool true))) (.t 16)⟩, 
    ⟨some 18, none, .mov (.t 17)⟩, 
    ⟨some 19, (some (18, false)), .off (.t 1) 1⟩, 
    ⟨some 20, (some (18, false)), .ld (.t 19) 1 false⟩, 
    ⟨some 21, (some (18, false)), .len (.t 20)⟩, 
    ⟨some 22, (some (18, false)), .off (.t 1) 0⟩, 
    ⟨some 23, (some (18, false)), .ld (.t 22) 1 false⟩, 
    ⟨some 24, (some (18, false)), .len (.t 23)⟩, 
    ⟨some 25, (some (18, false)), .bin .sub (.t 24) (.c (.p (.int .i64 1)))⟩, 
    ⟨some 26, (some (18, false)), .bin .neq (.t 21) (.t 25)⟩, 
    ⟨some 27, none, .pick (.t 18) (.c (.p (.bool true))) (.t 26)⟩, 
    ⟨some 3, none, .mov (.t 27)⟩] [1, 3] [1])
  (.seq (.seq (.reg false [⟨some 28, none, .off (.t 1) 0⟩, 
    ⟨some 29, none, .ld (.t 28) 1 false⟩, 
    ⟨some 30, none, .len (.t 29)⟩, 
    ⟨some 31, none, .mov (.c (.p (.int .i64 0)))⟩] [1, 3, 29, 30, 31] [1])
  (.block 0 lp18_0))
  (.seq (.seq (.reg false [⟨some 45, none, .off (.t 1) 1⟩, 
    ⟨some 46, none, .ld (.t 45) 1 false⟩, 
    ⟨some 47, none, .len (.t 46)⟩, 
    ⟨some 48, none, .mov (.c (.p (.int .i64 0)))⟩] [3, 46, 47, 48] [])
  (.block 2 lp18_1))
  (.seq (.seq (.reg false [⟨some 62, none, .mov (.t 3)⟩] [62] [])
  (.cond (.t 62)
  (.seq (.reg false [⟨some 2, none, .mov (.c (.p (.int .i64 9)))⟩] [2] [])
    .ret)
  .skip))
  (.seq (.reg false [⟨some 2, none, .mov (.c (.p (.int .i64 0)))⟩] [2] [])
  .ret)))))),
  [.tmp 2], false⟩
def lp19_0 : IC :=
  (.loop [1, 3] [1] (.seq (.seq (.reg false [⟨some 25, none, .mov (.t 3)⟩, 
        ⟨some 26, none, .off (.t 1) 0⟩, 
        ⟨some 27, none, .ld (.t 26) 1 false⟩, 
        ⟨some 28, none, .len (.t 27)⟩, 
        ⟨some 29, none, .bin .lss (.t 25) (.t 28)⟩] [1, 3, 29] [1])
      (.cond (.t 29)
      .skip
      (.exit 0)))
      (.seq (.block 1 (.seq (.reg false [⟨some 32, none, .off (.t 1) 0⟩, 
          ⟨some 33, none, .ld (.t 32) 1 false⟩, 
          ⟨some 34, none, .mov (.t 3)⟩, 
          ⟨some 35, none, .ixs (.t 33) (.t 34) 1⟩, 
          ⟨some 36, none, .ld (.t 35) 1 false⟩, 
          ⟨some 37, none, .bin .lss (.t 36) (.c (.p (.int .i64 1)))⟩, 
          ⟨some 38, none, .mov (.t 37)⟩, 
          ⟨some 39, (some (38, false)), .off (.t 1) 0⟩, 
          ⟨some 40, (some (38, false)), .ld (.t 39) 1 false⟩, 
          ⟨some 41, (some (38, false)), .mov (.t 3)⟩, 
          ⟨some 42, (some (38, false)), .ixs (.t 40) (.t 41) 1⟩, 
          ⟨some 43, (some (38, false)), .ld (.t 42) 1 false⟩, 
          ⟨some 44, (some (38, false)), .bin .gtr (.t 43) (.c (.p (.int .i64 1073741823)))⟩, 
          ⟨some 45, none, .pick (.t 38) (.c (.p (.bool true))) (.t 44)⟩] [1, 3, 45] [1])
        (.cond (.t 45)
        (.seq (.reg false [⟨some 2, none, .mov (.c (.p (.bool false)))⟩] [2] [])
          .ret)
        .skip)))
      (.reg false [⟨some 30, none, .mov (.t 3)⟩, 
        ⟨some 31, none, .bin .add (.t 30) (.c (.p (.int .i64 1)))⟩, 
        ⟨some 3, none, .mov (.t 31)⟩] [1, 3] [1]))))
def lp19_1 : IC :=
  (.loop [1, 4] [1] (.seq (.seq (.reg false [⟨some 46, none, .mov (.t 4)⟩, 
        ⟨some 47, none, .off (.t 1) 1⟩, 
        ⟨some 48, none, .ld (.t 47) 1 false⟩, 
        ⟨some 49, none, .len (.t 48)⟩, 
        ⟨some 50, none, .bin .lss (.t 46) (.t 49)⟩] [1, 4, 50] [1])
      (.cond (.t 50)
      .skip
      (.exit 2)))
      (.seq (.block 3 (.seq (.reg false [⟨some 53, none, .off (.t 1) 1⟩, 
          ⟨some 54, none, .ld (.t 53) 1 false⟩, 
          ⟨some 55, none, .mov (.t 4)⟩, 
          ⟨some 56, none, .ixs (.t 54) (.t 55) 1⟩, 
          ⟨some 57, none, .ld (.t 56) 1 false⟩, 
          ⟨some 58, none, .bin .lss (.t 57) (.c (.p (.int .i64 0)))⟩, 
          ⟨some 59, none, .mov (.t 58)⟩, 
          ⟨some 60, (some (59, false)), .off (.t 1) 1⟩, 
          ⟨some 61, (some (59, false)), .ld (.t 60) 1 false⟩, 
          ⟨some 62, (some (59, false)), .mov (.t 4)⟩, 
          ⟨some 63, (some (59, false)), .ixs (.t 61) (.t 62) 1⟩, 
          ⟨some 64, (some (59, false)), .ld (.t 63) 1 false⟩, 
          ⟨some 65, (some (59, false)), .bin .gtr (.t 64) (.c (.p (.int .i64 10000)))⟩, 
          ⟨some 66, none, .pick (.t 59) (.c (.p (.bool true))) (.t 65)⟩] [1, 4, 66] [1])
        (.cond (.t 66)
        (.seq (.reg false [⟨some 2, none, .mov (.c (.p (.bool false)))⟩] [2] [])
          .ret)
        .skip)))
      (.reg false [⟨some 51, none, .mov (.t 4)⟩, 
        ⟨some 52, none, .bin .add (.t 51) (.c (.p (.int .i64 1)))⟩, 
        ⟨some 4, none, .mov (.t 52)⟩] [1, 4] [1]))))
def ir19 : IFn :=   -- tympan/tympanref11.Check
⟨(.seq (.reg false [⟨some 1, none, .bx (.t 0) 2 true⟩, 
    ⟨some 2, none, .mov (.c (.p (.bool false)))⟩] [1] [1])
  (.seq (.seq (.reg false [⟨some 5, none, .off (.t 1) 0⟩, 
    ⟨some 6, none, .ld (.t 5) 1 false⟩, 
    ⟨some 7, none, .len (.t 6)⟩, 
    ⟨some 8, none, .bin .lss (.t 7) (.c (.p (.int .i64 1)))⟩, 
    ⟨some 9, none, .mov (.t 8)⟩, 
    ⟨some 10, (some (9, false)), .off (.t 1) 0⟩, 
    ⟨some 11, (some (9, false)), .ld (.t 10) 1 false⟩, 
    ⟨some 12, (some (9, false)), .len (.t 11)⟩, 
    ⟨some 13, (some (9, false)), .bin .gtr (.t 12) (.c (.p (.int .i64 64)))⟩, 
    ⟨some 14, none, .pick (.t 9) (.c (.p (.bool true))) (.t 13)⟩, 
    ⟨some 15, none, .mov (.t 14)⟩, 
    ⟨some 16, (some (15, false)), .off (.t 1) 1⟩, 
    ⟨some 17, (some (15, false)), .ld (.t 16) 1 false⟩, 
    ⟨some 18, (some (15, false)), .len (.t 17)⟩, 
    ⟨some 19, (some (15, false)), .off (.t 1) 0⟩, 
    ⟨some 20, (some (15, false)), .ld (.t 19) 1 false⟩, 
    ⟨some 21, (some (15, false)), .len (.t 20)⟩, 
    ⟨some 22, (some (15, false)), .bin .sub (.t 21) (.c (.p (.int .i64 1)))⟩, 
    ⟨some 23, (some (15, false)), .bin .neq (.t 18) (.t 22)⟩, 
    ⟨some 24, none, .pick (.t 15) (.c (.p (.bool true))) (.t 23)⟩] [1, 24] [1])
  (.cond (.t 24)
  (.seq (.reg false [⟨some 2, none, .mov (.c (.p (.bool false)))⟩] [2] [])
    .ret)
  .skip))
  (.seq (.seq (.reg false [⟨some 3, none, .mov (.c (.p (.int .i64 0)))⟩] [1, 3] [1])
  (.block 0 lp19_0))
  (.seq (.seq (.reg false [⟨some 4, none, .mov (.c (.p (.int .i64 0)))⟩] [1, 4] [1])
  (.block 2 lp19_1))
  (.seq (.reg false [⟨some 2, none, .mov (.c (.p (.bool true)))⟩] [2] [])
  .ret))))),
  [.tmp 2], false⟩
def ir20 : IFn :=   -- tympan/note.May
⟨(.seq (.reg false [⟨some 2, none, .bx (.t 0) 2 true⟩, 
    ⟨some 4, none, .mov (.c (.p (.bool false)))⟩] [1, 2] [2])
  (.seq (.reg false [⟨some 5, none, .ld (.t 2) 2 true⟩, 
    ⟨some 6, none, .mov (.t 1)⟩, 
    ⟨some 7, none, .call 84 [(.t 5), (.t 6)] false⟩, 
    ⟨some 4, none, .mov (.t 7)⟩] [4] [])
  .ret)),
  [.tmp 4], false⟩
def ir21 : IFn :=   -- tympan/tympanref11.May
⟨(.seq (.reg false [⟨some 2, none, .bx (.t 0) 2 true⟩, 
    ⟨some 4, none, .mov (.c (.p (.bool false)))⟩] [1, 2] [2])
  (.seq (.reg false [⟨some 5, none, .mov (.t 1)⟩, 
    ⟨some 6, none, .off (.t 2) 0⟩, 
    ⟨some 7, none, .ld (.t 6) 1 false⟩, 
    ⟨some 8, none, .len (.t 7)⟩, 
    ⟨some 9, none, .bin .eql (.t 5) (.t 8)⟩, 
    ⟨some 10, none, .mov (.t 9)⟩, 
    ⟨some 11, (some (10, false)), .ld (.t 2) 2 true⟩, 
    ⟨some 12, (some (10, false)), .mov (.t 1)⟩, 
    ⟨some 13, (some (10, false)), .call 85 [(.t 11), (.t 12)] false⟩, 
    ⟨some 14, none, .pick (.t 10) (.c (.p (.bool true))) (.t 13)⟩, 
    ⟨some 4, none, .mov (.t 14)⟩] [4] [])
  .ret)),
  [.tmp 4], false⟩
def ir22 : IFn :=   -- tympan/note.Pen
⟨(.seq (.reg false [⟨some 2, none, .bx (.t 0) 2 true⟩, 
    ⟨some 4, none, .mov (.c (.p (.int .i64 0)))⟩] [1, 2] [2])
  (.seq (.seq (.reg false [⟨some 5, none, .ld (.t 2) 2 true⟩, 
    ⟨some 6, none, .mov (.t 1)⟩, 
    ⟨some 7, none, .call 86 [(.t 5), (.t 6)] false⟩] [1, 2, 7] [2])
  (.cond (.t 7)
  (.seq (.reg false [⟨some 8, none, .off (.t 2) 1⟩, 
      ⟨some 9, none, .ld (.t 8) 1 false⟩, 
      ⟨some 10, none, .mov (.t 1)⟩, 
      ⟨some 11, none, .bin .sub (.t 10) (.c (.p (.int .i64 1)))⟩, 
      ⟨some 12, none, .ixs (.t 9) (.t 11) 1⟩, 
      ⟨some 13, none, .ld (.t 12) 1 false⟩, 
      ⟨some 4, none, .mov (.t 13)⟩] [4] [])
    .ret)
  .skip))
  (.seq (.reg false [⟨some 4, none, .mov (.c (.p (.int .i64 0)))⟩] [4] [])
  .ret))),
  [.tmp 4], false⟩
def ir23 : IFn :=   -- tympan/tympanref11.Pen
⟨(.seq (.reg false [⟨some 2, none, .bx (.t 0) 2 true⟩, 
    ⟨some 4, none, .mov (.c (.p (.int .i64 0)))⟩] [1, 2] [2])
  (.seq (.seq (.reg false [⟨some 5, none, .ld (.t 2) 2 true⟩, 
    ⟨some 6, none, .mov (.t 1)⟩, 
    ⟨some 7, none, .call 85 [(.t 5), (.t 6)] false⟩] [1, 2, 7] [2])
  (.cond (.t 7)
  (.seq (.reg false [⟨some 8, none, .off (.t 2) 1⟩, 
      ⟨some 9, none, .ld (.t 8) 1 false⟩, 
      ⟨some 10, none, .mov (.t 1)⟩, 
      ⟨some 11, none, .bin .sub (.t 10) (.c (.p (.int .i64 1)))⟩, 
      ⟨some 12, none, .ixs (.t 9) (.t 11) 1⟩, 
      ⟨some 13, none, .ld (.t 12) 1 false⟩, 
      ⟨some 4, none, .mov (.t 13)⟩] [4] [])
    .ret)
  .skip))
  (.seq (.reg false [⟨some 4, none, .mov (.c (.p (.int .i64 0)))⟩] [4] [])
  .ret))),
  [.tmp 4], false⟩
def lp24_0 : IC :=
  (.loop [0, 1, 5] [] (.seq (.seq (.reg false [⟨some 11, none, .mov (.t 5)⟩, 
        ⟨some 12, none, .mov (.t 0)⟩, 
        ⟨some 13, none, .len (.t 12)⟩, 
        ⟨some 14, none, .bin .lss (.t 11) (.t 13)⟩] [0, 1, 5, 14] [])
      (.cond (.t 14)
      .skip
      (.exit 0)))
      (.seq (.block 1 (.seq (.reg true [⟨some 17, none, .mov (.t 0)⟩, 
          ⟨some 18, none, .mov (.t 5)⟩, 
          ⟨some 19, none, .ixs (.t 17) (.t 18) 1⟩, 
          ⟨some 20, none, .ld (.t 19) 1 false⟩, 
          ⟨some 21, none, .mov (.t 1)⟩, 
          ⟨some 22, none, .mov (.t 5)⟩, 
          ⟨some 23, none, .ixs (.t 21) (.t 22) 1⟩, 
          ⟨some 24, none, .ld (.t 23) 1 false⟩, 
          ⟨some 25, none, .bin .neq (.t 20) (.t 24)⟩] [0, 1, 5, 25] [])
        (.cond (.t 25)
        (.seq (.reg false [⟨some 4, none, .mov (.c (.p (.bool false)))⟩] [4] [])
          .ret)
        .skip)))
      (.reg false [⟨some 15, none, .mov (.t 5)⟩, 
        ⟨some 16, none, .bin .add (.t 15) (.c (.p (.int .i64 1)))⟩, 
        ⟨some 5, none, .mov (.t 16)⟩] [0, 1, 5] []))))
def ir24 : IFn :=   -- tympan/tympanref11.Ints
⟨(.seq (.reg false [⟨some 4, none, .mov (.c (.p (.bool false)))⟩] [0, 1] [])
  (.seq (.seq (.reg false [⟨some 6, none, .mov (.t 0)⟩, 
    ⟨some 7, none, .len (.t 6)⟩, 
    ⟨some 8, none, .mov (.t 1)⟩, 
    ⟨some 9, none, .len (.t 8)⟩, 
    ⟨some 10, none, .bin .neq (.t 7) (.t 9)⟩] [0, 1, 10] [])
  (.cond (.t 10)
  (.seq (.reg false [⟨some 4, none, .mov (.c (.p (.bool false)))⟩] [4] [])
    .ret)
  .skip))
  (.seq (.seq (.reg false [⟨some 5, none, .mov (.c (.p (.int .i64 0)))⟩] [0, 1, 5] [])
  (.block 0 lp24_0))
  (.seq (.reg false [⟨some 4, none, .mov (.c (.p (.bool true)))⟩] [4] [])
  .ret)))),
  [.tmp 4], false⟩
def ir25 : IFn :=   -- tympan/note.Stops
⟨(.seq (.reg false [⟨some 2, none, .bx (.t 0) 2 true⟩, 
    ⟨some 4, none, .mov (.c (.nils))⟩] [1, 2] [2])
  (.seq (.reg false [⟨some 5, none, .mov (.t 1)⟩, 
    ⟨some 6, none, .mnmx true (.t 5) (.c (.p (.int .i64 (-1))))⟩, 
    ⟨some 7, none, .off (.t 2) 0⟩, 
    ⟨some 8, none, .ld (.t 7) 1 false⟩, 
    ⟨some 9, none, .len (.t 8)⟩, 
    ⟨some 10, none, .mnmx false (.t 6) (.t 9)⟩, 
    ⟨some 1, none, .mov (.t 10)⟩] [1, 2] [2])
  (.seq (.reg false [⟨some 11, none, .mov (.t 1)⟩, 
    ⟨some 12, none, .bin .add (.t 11) (.c (.p (.int .i64 1)))⟩, 
    ⟨some 13, none, .off (.t 2) 0⟩, 
    ⟨some 14, none, .ld (.t 13) 1 false⟩, 
    ⟨some 15, none, .len (.t 14)⟩, 
    ⟨some 16, none, .ld (.t 2) 2 true⟩, 
    ⟨some 17, none, .mkf (.func 84) [(.t 16)] []⟩, 
    ⟨some 18, none, .call 87 [(.t 12), (.t 15), (.t 17)] false⟩, 
    ⟨some 4, none, .mov (.t 18)⟩] [4] [])
  .ret))),
  [.tmp 4], false⟩
def lp26_0 : IC :=
  (.loop [1, 2, 5, 6] [2] (.seq (.seq (.reg false [⟨some 7, none, .mov (.t 6)⟩, 
        ⟨some 8, none, .off (.t 2) 0⟩, 
        ⟨some 9, none, .ld (.t 8) 1 false⟩, 
        ⟨some 10, none, .len (.t 9)⟩, 
        ⟨some 11, none, .bin .leq (.t 7) (.t 10)⟩] [1, 2, 5, 6, 11] [2])
      (.cond (.t 11)
      .skip
      (.exit 0)))
      (.seq (.block 1 (.seq (.reg false [⟨some 14, none, .mov (.t 6)⟩, 
          ⟨some 15, none, .mov (.t 1)⟩, 
          ⟨some 16, none, .bin .gtr (.t 14) (.t 15)⟩, 
          ⟨some 17, none, .mov (.t 16)⟩, 
          ⟨some 18, (some (17, true)), .ld (.t 2) 2 true⟩, 
          ⟨some 19, (some (17, true)), .mov (.t 6)⟩, 
          ⟨some 20, (some (17, true)), .call 21 [(.t 18), (.t 19)] false⟩, 
          ⟨some 21, none, .pick (.t 17) (.t 20) (.c (.p (.bool false)))⟩] [1, 2, 5, 6, 21] [2])
        (.cond (.t 21)
        (.reg false [⟨some 22, none, .mov (.t 5)⟩, 
            ⟨some 23, none, .mov (.t 6)⟩, 
            ⟨some 24, none, .bsl 1 1 [.p (.int .i64 0)] [(0, (.t 23))]⟩, 
            ⟨some 25, none, .app (.t 22) (.t 24) 1⟩, 
            ⟨some 5, none, .mov (.t 25)⟩] [1, 2, 5, 6] [2])
        .skip)))
      (.reg false [⟨some 12, none, .mov (.t 6)⟩, 
        ⟨some 13, none, .bin .add (.t 12) (.c (.p (.int .i64 1)))⟩, 
        ⟨some 6, none, .mov (.t 13)⟩] [1, 2, 5, 6] [2]))))
def ir26 : IFn :=   -- tympan/tympanref11.Stops
⟨(.seq (.reg false [⟨some 2, none, .bx (.t 0) 2 true⟩, 
    ⟨some 4, none, .mov (.c (.nils))⟩] [1, 2] [2])
  (.seq (.reg false [⟨some 5, none, .nrow 1⟩] [1, 2, 5] [2])
  (.seq (.seq (.reg false [⟨some 6, none, .mov (.c (.p (.int .i64 0)))⟩] [1, 2, 5, 6] [2])
  (.block 0 lp26_0))
  (.seq (.reg false [⟨some 26, none, .mov (.t 5)⟩, 
    ⟨some 4, none, .mov (.t 26)⟩] [4] [])
  .ret)))),
  [.tmp 4], false⟩
def ir27 : IFn :=   -- tympan/note.First
⟨(.seq (.reg false [⟨some 2, none, .bx (.t 0) 2 true⟩, 
    ⟨some 4, none, .mov (.c (.p (.int .i64 0)))⟩] [1, 2] [2])
  (.seq (.reg false [⟨some 6, none, .ld (.t 2) 2 true⟩, 
    ⟨some 7, none, .mov (.t 1)⟩, 
    ⟨some 8, none, .call 25 [(.t 6), (.t 7)] false⟩, 
    ⟨some 5, none, .mov (.t 8)⟩] [5] [])
  (.seq (.seq (.reg false [⟨some 9, none, .mov (.t 5)⟩, 
    ⟨some 10, none, .len (.t 9)⟩, 
    ⟨some 11, none, .bin .eql (.t 10) (.c (.p (.int .i64 0)))⟩] [5, 11] [])
  (.cond (.t 11)
  (.seq (.reg false [⟨some 4, none, .mov (.c (.p (.int .i64 (-1))))⟩] [4] [])
    .ret)
  .skip))
  (.seq (.reg false [⟨some 12, none, .mov (.t 5)⟩, 
    ⟨some 13, none, .ixs (.t 12) (.c (.p (.int .i64 0))) 1⟩, 
    ⟨some 14, none, .ld (.t 13) 1 false⟩, 
    ⟨some 4, none, .mov (.t 14)⟩] [4] [])
  .ret)))),
  [.tmp 4], false⟩
def ir28 : IFn :=   -- tympan/tympanref11.First
⟨(.seq (.reg false [⟨some 2, none, .bx (.t 0) 2 true⟩, 
    ⟨some 4, none, .mov (.c (.p (.int .i64 0)))⟩] [1, 2] [2])
  (.seq (.reg false [⟨some 6, none, .ld (.t 2) 2 true⟩, 
    ⟨some 7, none, .mov (.t 1)⟩, 
    ⟨some 8, none, .call 26 [(.t 6), (.t 7)] false⟩, 
    ⟨some 5, none, .mov (.t 8)⟩] [5] [])
  (.seq (.seq (.reg false [⟨some 9, none, .mov (.t 5)⟩, 
    ⟨some 10, none, .len (.t 9)⟩, 
    ⟨some 11, none, .bin .eql (.t 10) (.c (.p (.int .i64 0)))⟩] [5, 11] [])
  (.cond (.t 11)
  (.seq (.reg false [⟨some 4, none, .mov (.c (.p (.int .i64 (-1))))⟩] [4] [])
    .ret)
  .skip))
  (.seq (.reg false [⟨some 12, none, .mov (.t 5)⟩, 
    ⟨some 13, none, .ixs (.t 12) (.c (.p (.int .i64 0))) 1⟩, 
    ⟨some 14, none, .ld (.t 13) 1 false⟩, 
    ⟨some 4, none, .mov (.t 14)⟩] [4] [])
  .ret)))),
  [.tmp 4], false⟩
def lp29_0 : IC :=
  (.loop [2, 3, 7, 8] [3] (.seq (.seq (.reg false [⟨some 17, none, .mov (.t 8)⟩, 
        ⟨some 18, none, .mov (.t 2)⟩, 
        ⟨some 19, none, .bin .lss (.t 17) (.t 18)⟩] [2, 3, 7, 8, 19] [3])
      (.cond (.t 19)
      .skip
      (.exit 0)))
      (.seq (.block 1 (.reg false [⟨some 22, none, .mov (.t 7)⟩, 
          ⟨some 23, none, .off (.t 3) 0⟩, 
          ⟨some 24, none, .ld (.t 23) 1 false⟩, 
          ⟨some 25, none, .mov (.t 8)⟩, 
          ⟨some 26, none, .ixs (.t 24) (.t 25) 1⟩, 
          ⟨some 27, none, .ld (.t 26) 1 false⟩, 
          ⟨some 28, none, .mnmx true (.t 27) (.c (.p (.int .i64 0)))⟩, 
          ⟨some 29, none, .mnmx false (.t 28) (.c (.p (.int .i64 1125899906842624)))⟩, 
          ⟨some 30, none, .bin .add (.t 22) (.t 29)⟩, 
          ⟨some 31, none, .mnmx false (.t 30) (.c (.p (.int .i64 1125899906842624)))⟩, 
          ⟨some 7, none, .mov (.t 31)⟩] [2, 3, 7, 8] [3]))
      (.reg false [⟨some 20, none, .mov (.t 8)⟩, 
        ⟨some 21, none, .bin .add (.t 20) (.c (.p (.int .i64 1)))⟩, 
        ⟨some 8, none, .mov (.t 21)⟩] [2, 3, 7, 8] [3]))))
def ir29 : IFn :=   -- tympan/note.High
⟨(.seq (.reg false [⟨some 3, none, .bx (.t 0) 2 true⟩, 
    ⟨some 6, none, .mov (.c (.p (.int .i64 0)))⟩] [1, 2, 3] [3])
  (.seq (.reg true [⟨some 9, none, .mov (.t 1)⟩, 
    ⟨some 10, none, .mnmx true (.t 9) (.c (.p (.int .i64 0)))⟩, 
    ⟨some 11, none, .mov (.t 2)⟩, 
    ⟨some 12, none, .off (.t 3) 0⟩, 
    ⟨some 13, none, .ldl 3 (.t 12) 1 false⟩, 
    ⟨some 14, none, .len (.t 13)⟩, 
    ⟨some 15, none, .mnmx false (.t 11) (.t 14)⟩, 
    ⟨some 1, none, .mov (.t 10)⟩, 
    ⟨some 2, none, .mov (.t 15)⟩] [1, 2, 3] [3])
  (.seq (.reg false [⟨some 7, none, .mov (.c (.p (.int .i64 0)))⟩] [1, 2, 3, 7] [3])
  (.seq (.seq (.reg false [⟨some 16, none, .mov (.t 1)⟩, 
    ⟨some 8, none, .mov (.t 16)⟩] [2, 3, 7, 8] [3])
  (.block 0 lp29_0))
  (.seq (.reg false [⟨some 32, none, .mov (.t 7)⟩, 
    ⟨some 6, none, .mov (.t 32)⟩] [6] [])
  .ret))))),
  [.tmp 6], false⟩
def lp30_0 : IC :=
  (.loop [1, 2, 3, 7, 8] [3] (.seq (.seq (.reg false [⟨some 9, none, .mov (.t 8)⟩, 
        ⟨some 10, none, .off (.t 3) 0⟩, 
        ⟨some 11, none, .ld (.t 10) 1 false⟩, 
        ⟨some 12, none, .len (.t 11)⟩, 
        ⟨some 13, none, .bin .lss (.t 9) (.t 12)⟩] [1, 2, 3, 7, 8, 13] [3])
      (.cond (.t 13)
      .skip
      (.exit 0)))
      (.seq (.block 1 (.seq (.reg false [⟨some 16, none, .mov (.t 8)⟩, 
          ⟨some 17, none, .mov (.t 1)⟩, 
          ⟨some 18, none, .bin .geq (.t 16) (.t 17)⟩, 
          ⟨some 19, none, .mov (.t 18)⟩, 
          ⟨some 20, (some (19, true)), .mov (.t 8)⟩, 
          ⟨some 21, (some (19, true)), .mov (.t 2)⟩, 
          ⟨some 22, (some (19, true)), .bin .lss (.t 20) (.t 21)⟩, 
          ⟨some 23, none, .pick (.t 19) (.t 22) (.c (.p (.bool false)))⟩] [1, 2, 3, 7, 8, 23] [3])
        (.cond (.t 23)
        (.reg false [⟨some 24, none, .mov (.t 7)⟩, 
            ⟨some 25, none, .off (.t 3) 0⟩, 
            ⟨some 26, none, .ld (.t 25) 1 false⟩, 
            ⟨some 27, none, .mov (.t 8)⟩, 
            ⟨some 28, none, .ixs (.t 26) (.t 27) 1⟩, 
            ⟨some 29, none, .ld (.t 28) 1 false⟩, 
            ⟨some 30, none, .mnmx false (.t 29) (.c (.p (.int .i64 1125899906842624)))⟩, 
            ⟨some 31, none, .mnmx true (.c (.p (.int .i64 0))) (.t 30)⟩, 
            ⟨some 32, none, .bin .add (.t 24) (.t 31)⟩, 
            ⟨some 33, none, .mnmx false (.t 32) (.c (.p (.int .i64 1125899906842624)))⟩, 
            ⟨some 7, none, .mov (.t 33)⟩] [1, 2, 3, 7, 8] [3])
        .skip)))
      (.reg false [⟨some 14, none, .mov (.t 8)⟩, 
        ⟨some 15, none, .bin .add (.t 14) (.c (.p (.int .i64 1)))⟩, 
        ⟨some 8, none, .mov (.t 15)⟩] [1, 2, 3, 7, 8] [3]))))
def ir30 : IFn :=   -- tympan/tympanref11.High
⟨(.seq (.reg false [⟨some 3, none, .bx (.t 0) 2 true⟩, 
    ⟨some 6, none, .mov (.c (.p (.int .i64 0)))⟩] [1, 2, 3] [3])
  (.seq (.reg false [⟨some 7, none, .mov (.c (.p (.int .i64 0)))⟩] [1, 2, 3, 7] [3])
  (.seq (.seq (.reg false [⟨some 8, none, .mov (.c (.p (.int .i64 0)))⟩] [1, 2, 3, 7, 8] [3])
  (.block 0 lp30_0))
  (.seq (.reg false [⟨some 34, none, .mov (.t 7)⟩, 
    ⟨some 6, none, .mov (.t 34)⟩] [6] [])
  .ret)))),
  [.tmp 6], false⟩
def lp31_0 : IC :=
  (.loop [3, 6, 7, 8] [] (.seq (.reg false [⟨some 9, none, .bin .lss (.t 8) (.t 7)⟩] [3, 6, 7, 8, 9] [])
      (.seq (.cond (.t 9)
      .skip
      (.exit 0))
      (.seq (.block 1 (.seq (.reg false [⟨some 10, none, .ixs (.t 6) (.t 8) 2⟩, 
          ⟨some 11, none, .ld (.t 10) 2 true⟩, 
          ⟨some 5, none, .al [.nils, .nils] true⟩, 
          ⟨none, none, .st (.t 5) (.t 11) 2⟩] [3, 5, 6, 7, 8] [5])
        (.reg false [⟨some 12, none, .mov (.t 3)⟩, 
          ⟨some 13, none, .off (.t 5) 0⟩, 
          ⟨some 14, none, .ld (.t 13) 1 false⟩, 
          ⟨some 15, none, .len (.t 14)⟩, 
          ⟨some 16, none, .bin .add (.t 12) (.t 15)⟩, 
          ⟨some 3, none, .mov (.t 16)⟩] [3, 6, 7, 8] [])))
      (.reg false [⟨some 17, none, .bin .add (.t 8) (.c (.p (.int .i64 1)))⟩, 
        ⟨some 8, none, .mov (.t 17)⟩] [3, 6, 7, 8] [])))))
def ir31 : IFn :=   -- tympan/note.Lines
⟨(.seq (.reg false [⟨some 2, none, .mov (.c (.p (.int .i64 0)))⟩] [0] [])
  (.seq (.reg false [⟨some 3, none, .mov (.c (.p (.int .i64 0)))⟩] [0, 3] [])
  (.seq (.seq (.reg false [⟨some 6, none, .mov (.t 0)⟩, 
    ⟨some 7, none, .len (.t 6)⟩, 
    ⟨some 8, none, .mov (.c (.p (.int .i64 0)))⟩] [3, 6, 7, 8] [])
  (.block 0 lp31_0))
  (.seq (.reg false [⟨some 18, none, .mov (.t 3)⟩, 
    ⟨some 2, none, .mov (.t 18)⟩] [2] [])
  .ret)))),
  [.tmp 2], false⟩
def ir32 : IFn :=   -- tympan/note.Same
⟨(.seq (.reg false [⟨some 2, none, .bx (.t 0) 2 true⟩, 
    ⟨some 3, none, .bx (.t 1) 2 true⟩, 
    ⟨some 4, none, .mov (.c (.p (.bool false)))⟩] [2, 3] [2, 3])
  (.seq (.reg false [⟨some 5, none, .off (.t 2) 0⟩, 
    ⟨some 6, none, .ld (.t 5) 1 false⟩, 
    ⟨some 7, none, .off (.t 3) 0⟩, 
    ⟨some 8, none, .ld (.t 7) 1 false⟩, 
    ⟨some 9, none, .call 88 [(.t 6), (.t 8)] false⟩, 
    ⟨some 10, none, .mov (.t 9)⟩, 
    ⟨some 11, (some (10, true)), .off (.t 2) 1⟩, 
    ⟨some 12, (some (10, true)), .ld (.t 11) 1 false⟩, 
    ⟨some 13, (some (10, true)), .off (.t 3) 1⟩, 
    ⟨some 14, (some (10, true)), .ld (.t 13) 1 false⟩, 
    ⟨some 15, (some (10, true)), .call 89 [(.t 12), (.t 14)] false⟩, 
    ⟨some 16, none, .pick (.t 10) (.t 15) (.c (.p (.bool false)))⟩, 
    ⟨some 4, none, .mov (.t 16)⟩] [4] [])
  .ret)),
  [.tmp 4], false⟩
def lp33_0 : IC :=
  (.loop [2, 3, 5] [2, 3] (.seq (.seq (.reg false [⟨some 23, none, .mov (.t 5)⟩, 
        ⟨some 24, none, .off (.t 2) 0⟩, 
        ⟨some 25, none, .ld (.t 24) 1 false⟩, 
        ⟨some 26, none, .len (.t 25)⟩, 
        ⟨some 27, none, .bin .lss (.t 23) (.t 26)⟩] [2, 3, 5, 27] [2, 3])
      (.cond (.t 27)
      .skip
      (.exit 0)))
      (.seq (.block 1 (.seq (.reg true [⟨some 30, none, .off (.t 2) 0⟩, 
          ⟨some 31, none, .ldl 2 (.t 30) 1 false⟩, 
          ⟨some 32, none, .mov (.t 5)⟩, 
          ⟨some 33, none, .ixs (.t 31) (.t 32) 1⟩, 
          ⟨some 34, none, .ld (.t 33) 1 false⟩, 
          ⟨some 35, none, .off (.t 3) 0⟩, 
          ⟨some 36, none, .ldl 3 (.t 35) 1 false⟩, 
          ⟨some 37, none, .mov (.t 5)⟩, 
          ⟨some 38, none, .ixs (.t 36) (.t 37) 1⟩, 
          ⟨some 39, none, .ld (.t 38) 1 false⟩, 
          ⟨some 40, none, .bin .neq (.t 34) (.t 39)⟩] [2, 3, 5, 40] [2, 3])
        (.cond (.t 40)
        (.seq (.reg false [⟨some 4, none, .mov (.c (.p (.bool false)))⟩] [4] [])
          .ret)
        .skip)))
      (.reg false [⟨some 28, none, .mov (.t 5)⟩, 
        ⟨some 29, none, .bin .add (.t 28) (.c (.p (.int .i64 1)))⟩, 
        ⟨some 5, none, .mov (.t 29)⟩] [2, 3, 5] [2, 3]))))
def lp33_1 : IC :=
  (.loop [2, 3, 6] [2, 3] (.seq (.seq (.reg false [⟨some 41, none, .mov (.t 6)⟩, 
        ⟨some 42, none, .off (.t 2) 1⟩, 
        ⟨some 43, none, .ld (.t 42) 1 false⟩, 
        ⟨some 44, none, .len (.t 43)⟩, 
        ⟨some 45, none, .bin .lss (.t 41) (.t 44)⟩] [2, 3, 6, 45] [2, 3])
      (.cond (.t 45)
      .skip
      (.exit 2)))
      (.seq (.block 3 (.seq (.reg true [⟨some 48, none, .off (.t 2) 1⟩, 
          ⟨some 49, none, .ldl 2 (.t 48) 1 false⟩, 
          ⟨some 50, none, .mov (.t 6)⟩, 
          ⟨some 51, none, .ixs (.t 49) (.t 50) 1⟩, 
          ⟨some 52, none, .ld (.t 51) 1 false⟩, 
          ⟨some 53, none, .off (.t 3) 1⟩, 
          ⟨some 54, none, .ldl 3 (.t 53) 1 false⟩, 
          ⟨some 55, none, .mov (.t 6)⟩, 
          ⟨some 56, none, .ixs (.t 54) (.t 55) 1⟩, 
          ⟨some 57, none, .ld (.t 56) 1 false⟩, 
          ⟨some 58, none, .bin .neq (.t 52) (.t 57)⟩] [2, 3, 6, 58] [2, 3])
        (.cond (.t 58)
        (.seq (.reg false [⟨some 4, none, .mov (.c (.p (.bool false)))⟩] [4] [])
          .ret)
        .skip)))
      (.reg false [⟨some 46, none, .mov (.t 6)⟩, 
        ⟨some 47, none, .bin .add (.t 46) (.c (.p (.int .i64 1)))⟩, 
        ⟨some 6, none, .mov (.t 47)⟩] [2, 3, 6] [2, 3]))))
def ir33 : IFn :=   -- tympan/tympanref11.Same
⟨(.seq (.reg false [⟨some 2, none, .bx (.t 0) 2 true⟩, 
    ⟨some 3, none, .bx (.t 1) 2 true⟩, 
    ⟨some 4, none, .mov (.c (.p (.bool false)))⟩] [2, 3] [2, 3])
  (.seq (.seq (.reg false [⟨some 7, none, .off (.t 2) 0⟩, 
    ⟨some 8, none, .ld (.t 7) 1 false⟩, 
    ⟨some 9, none, .len (.t 8)⟩, 
    ⟨some 10, none, .off (.t 3) 0⟩, 
    ⟨some 11, none, .ld (.t 10) 1 false⟩, 
    ⟨some 12, none, .len (.t 11)⟩, 
    ⟨some 13, none, .bin .neq (.t 9) (.t 12)⟩, 
    ⟨some 14, none, .mov (.t 13)⟩, 
    ⟨some 15, (some (14, false)), .off (.t 2) 1⟩, 
    ⟨some 16, (some (14, false)), .ld (.t 15) 1 false⟩, 
    ⟨some 17, (some (14, false)), .len (.t 16)⟩, 
    ⟨some 18, (some (14, false)), .off (.t 3) 1⟩, 
    ⟨some 19, (some (14, false)), .ld (.t 18) 1 false⟩, 
    ⟨some 20, (some (14, false)), .len (.t 19)⟩, 
    ⟨some 21, (some (14, false)), .bin .neq (.t 17) (.t 20)⟩, 
    ⟨some 22, none, .pick (.t 14) (.c (.p (.bool true))) (.t 21)⟩] [2, 3, 22] [2, 3])
  (.cond (.t 22)
  (.seq (.reg false [⟨some 4, none, .mov (.c (.p (.bool false)))⟩] [4] [])
    .ret)
  .skip))
  (.seq (.seq (.reg false [⟨some 5, none, .mov (.c (.p (.int .i64 0)))⟩] [2, 3, 5] [2, 3])
  (.block 0 lp33_0))
  (.seq (.seq (.reg false [⟨some 6, none, .mov (.c (.p (.int .i64 0)))⟩] [2, 3, 6] [2, 3])
  (.block 2 lp33_1))
  (.seq (.reg false [⟨some 4, none, .mov (.c (.p (.bool true)))⟩] [4] [])
  .ret))))),
  [.tmp 4], false⟩
def ir84 : IFn :=   -- (tympan/note.places).stop
⟨(.seq (.reg false [⟨some 2, none, .bx (.t 0) 2 true⟩, 
    ⟨some 4, none, .mov (.c (.p (.bool false)))⟩] [1, 2] [2])
  (.seq (.reg false [⟨some 5, none, .mov (.t 1)⟩, 
    ⟨some 6, none, .off (.t 2) 0⟩, 
    ⟨some 7, none, .ld (.t 6) 1 false⟩, 
    ⟨some 8, none, .len (.t 7)⟩, 
    ⟨some 9, none, .bin .eql (.t 5) (.t 8)⟩, 
    ⟨some 10, none, .mov (.t 9)⟩, 
    ⟨some 11, (some (10, false)), .ld (.t 2) 2 true⟩, 
    ⟨some 12, (some (10, false)), .mov (.t 1)⟩, 
    ⟨some 13, (some (10, false)), .call 86 [(.t 11), (.t 12)] false⟩, 
    ⟨some 14, none, .pick (.t 10) (.c (.p (.bool true))) (.t 13)⟩, 
    ⟨some 4, none, .mov (.t 14)⟩] [4] [])
  .ret)),
  [.tmp 4], false⟩
def ir85 : IFn :=   -- tympan/tympanref11.split
⟨(.seq (.reg false [⟨some 2, none, .bx (.t 0) 2 true⟩, 
    ⟨some 4, none, .mov (.c (.p (.bool false)))⟩] [1, 2] [2])
  (.seq (.reg false [⟨some 5, none, .mov (.t 1)⟩, 
    ⟨some 6, none, .bin .geq (.t 5) (.c (.p (.int .i64 1)))⟩, 
    ⟨some 7, none, .mov (.t 6)⟩, 
    ⟨some 8, (some (7, true)), .mov (.t 1)⟩, 
    ⟨some 9, (some (7, true)), .off (.t 2) 0⟩, 
    ⟨some 10, (some (7, true)), .ld (.t 9) 1 false⟩, 
    ⟨some 11, (some (7, true)), .len (.t 10)⟩, 
    ⟨some 12, (some (7, true)), .bin .lss (.t 8) (.t 11)⟩, 
    ⟨some 13, none, .pick (.t 7) (.t 12) (.c (.p (.bool false)))⟩, 
    ⟨some 14, none, .mov (.t 13)⟩, 
    ⟨some 15, (some (14, true)), .mov (.t 1)⟩, 
    ⟨some 16, (some (14, true)), .bin .sub (.t 15) (.c (.p (.int .i64 1)))⟩, 
    ⟨some 17, (some (14, true)), .off (.t 2) 1⟩, 
    ⟨some 18, (some (14, true)), .ld (.t 17) 1 false⟩, 
    ⟨some 19, (some (14, true)), .len (.t 18)⟩, 
    ⟨some 20, (some (14, true)), .bin .lss (.t 16) (.t 19)⟩, 
    ⟨some 21, none, .pick (.t 14) (.t 20) (.c (.p (.bool false)))⟩, 
    ⟨some 22, none, .mov (.t 21)⟩, 
    ⟨some 23, (some (22, true)), .off (.t 2) 1⟩, 
    ⟨some 24, (some (22, true)), .ld (.t 23) 1 false⟩, 
    ⟨some 25, (some (22, true)), .mov (.t 1)⟩, 
    ⟨some 26, (some (22, true)), .bin .sub (.t 25) (.c (.p (.int .i64 1)))⟩, 
    ⟨some 27, (some (22, true)), .ixs (.t 24) (.t 26) 1⟩, 
    ⟨some 28, (some (22, true)), .ld (.t 27) 1 false⟩, 
    ⟨some 29, (some (22, true)), .bin .lss (.t 28) (.c (.p (.int .i64 10000)))⟩, 
    ⟨some 30, none, .pick (.t 22) (.t 29) (.c (.p (.bool false)))⟩, 
    ⟨some 4, none, .mov (.t 30)⟩] [4] [])
  .ret)),
  [.tmp 4], false⟩
def ir86 : IFn :=   -- (tympan/note.places).split
⟨(.seq (.reg false [⟨some 2, none, .bx (.t 0) 2 true⟩, 
    ⟨some 4, none, .mov (.c (.p (.bool false)))⟩] [1, 2] [2])
  (.seq (.reg false [⟨some 5, none, .mov (.t 1)⟩, 
    ⟨some 6, none, .bin .gtr (.t 5) (.c (.p (.int .i64 0)))⟩, 
    ⟨some 7, none, .mov (.t 6)⟩, 
    ⟨some 8, (some (7, true)), .mov (.t 1)⟩, 
    ⟨some 9, (some (7, true)), .off (.t 2) 0⟩, 
    ⟨some 10, (some (7, true)), .ld (.t 9) 1 false⟩, 
    ⟨some 11, (some (7, true)), .len (.t 10)⟩, 
    ⟨some 12, (some (7, true)), .bin .lss (.t 8) (.t 11)⟩, 
    ⟨some 13, none, .pick (.t 7) (.t 12) (.c (.p (.bool false)))⟩, 
    ⟨some 14, none, .mov (.t 13)⟩, 
    ⟨some 15, (some (14, true)), .mov (.t 1)⟩, 
    ⟨some 16, (some (14, true)), .off (.t 2) 1⟩, 
    ⟨some 17, (some (14, true)), .ld (.t 16) 1 false⟩, 
    ⟨some 18, (some (14, true)), .len (.t 17)⟩, 
    ⟨some 19, (some (14, true)), .bin .leq (.t 15) (.t 18)⟩, 
    ⟨some 20, none, .pick (.t 14) (.t 19) (.c (.p (.bool false)))⟩, 
    ⟨some 21, none, .mov (.t 20)⟩, 
    ⟨some 22, (some (21, true)), .off (.t 2) 1⟩, 
    ⟨some 23, (some (21, true)), .ld (.t 22) 1 false⟩, 
    ⟨some 24, (some (21, true)), .mov (.t 1)⟩, 
    ⟨some 25, (some (21, true)), .bin .sub (.t 24) (.c (.p (.int .i64 1)))⟩, 
    ⟨some 26, (some (21, true)), .ixs (.t 23) (.t 25) 1⟩, 
    ⟨some 27, (some (21, true)), .ld (.t 26) 1 false⟩, 
    ⟨some 28, (some (21, true)), .bin .lss (.t 27) (.c (.p (.int .i64 10000)))⟩, 
    ⟨some 29, none, .pick (.t 21) (.t 28) (.c (.p (.bool false)))⟩, 
    ⟨some 4, none, .mov (.t 29)⟩] [4] [])
  .ret)),
  [.tmp 4], false⟩
def lp87_0 : IC :=
  (.loop [1, 2, 7, 8] [] (.seq (.seq (.reg false [⟨some 10, none, .mov (.t 8)⟩, 
        ⟨some 11, none, .mov (.t 1)⟩, 
        ⟨some 12, none, .bin .leq (.t 10) (.t 11)⟩] [1, 2, 7, 8, 12] [])
      (.cond (.t 12)
      .skip
      (.exit 0)))
      (.seq (.block 1 (.seq (.reg false [⟨some 15, none, .mov (.t 2)⟩, 
          ⟨some 16, none, .mov (.t 8)⟩, 
          ⟨some 17, none, .callv (.t 15) [(.t 16)] false⟩] [1, 2, 7, 8, 17] [])
        (.cond (.t 17)
        (.reg false [⟨some 18, none, .mov (.t 7)⟩, 
            ⟨some 19, none, .mov (.t 8)⟩, 
            ⟨some 20, none, .bsl 1 1 [.p (.int .i64 0)] [(0, (.t 19))]⟩, 
            ⟨some 21, none, .app (.t 18) (.t 20) 1⟩, 
            ⟨some 7, none, .mov (.t 21)⟩] [1, 2, 7, 8] [])
        .skip)))
      (.reg false [⟨some 13, none, .mov (.t 8)⟩, 
        ⟨some 14, none, .bin .add (.t 13) (.c (.p (.int .i64 1)))⟩, 
        ⟨some 8, none, .mov (.t 14)⟩] [1, 2, 7, 8] []))))
def ir87 : IFn :=   -- tympan/note.all
⟨(.seq (.reg false [⟨some 6, none, .mov (.c (.nils))⟩] [0, 1, 2] [])
  (.seq (.reg false [⟨some 7, none, .nrow 1⟩] [0, 1, 2, 7] [])
  (.seq (.seq (.reg false [⟨some 9, none, .mov (.t 0)⟩, 
    ⟨some 8, none, .mov (.t 9)⟩] [1, 2, 7, 8] [])
  (.block 0 lp87_0))
  (.seq (.reg false [⟨some 22, none, .mov (.t 7)⟩, 
    ⟨some 6, none, .mov (.t 22)⟩] [6] [])
  .ret)))),
  [.tmp 6], false⟩
def lp88_0 : IC :=
  (.loop [0, 1, 12, 13] [] (.seq (.reg false [⟨some 14, none, .bin .lss (.t 13) (.t 12)⟩] [0, 1, 12, 13, 14] [])
      (.seq (.cond (.t 14)
      .skip
      (.exit 0))
      (.seq (.block 1 (.seq (.reg false [⟨some 15, none, .mov (.t 13)⟩, 
          ⟨some 5, none, .mov (.t 15)⟩] [0, 1, 5, 12, 13] [])
        (.seq (.reg true [⟨some 16, none, .mov (.t 0)⟩, 
          ⟨some 17, none, .mov (.t 5)⟩, 
          ⟨some 18, none, .ixs (.t 16) (.t 17) 1⟩, 
          ⟨some 19, none, .ld (.t 18) 1 false⟩, 
          ⟨some 20, none, .mov (.t 1)⟩, 
          ⟨some 21, none, .mov (.t 5)⟩, 
          ⟨some 22, none, .ixs (.t 20) (.t 21) 1⟩, 
          ⟨some 23, none, .ld (.t 22) 1 false⟩, 
          ⟨some 24, none, .bin .neq (.t 19) (.t 23)⟩] [0, 1, 12, 13, 24] [])
        (.cond (.t 24)
        (.seq (.reg false [⟨some 4, none, .mov (.c (.p (.bool false)))⟩] [4] [])
          .ret)
        .skip))))
      (.reg false [⟨some 25, none, .bin .add (.t 13) (.c (.p (.int .i64 1)))⟩, 
        ⟨some 13, none, .mov (.t 25)⟩] [0, 1, 12, 13] [])))))
def ir88 : IFn :=   -- slices.Equal[[]tympan/api.Sp,tympan/api.Sp]
⟨(.seq (.reg false [⟨some 4, none, .mov (.c (.p (.bool false)))⟩] [0, 1] [])
  (.seq (.seq (.reg false [⟨some 6, none, .mov (.t 0)⟩, 
    ⟨some 7, none, .len (.t 6)⟩, 
    ⟨some 8, none, .mov (.t 1)⟩, 
    ⟨some 9, none, .len (.t 8)⟩, 
    ⟨some 10, none, .bin .neq (.t 7) (.t 9)⟩] [0, 1, 10] [])
  (.cond (.t 10)
  (.seq (.reg false [⟨some 4, none, .mov (.c (.p (.bool false)))⟩] [4] [])
    .ret)
  .skip))
  (.seq (.seq (.reg false [⟨some 11, none, .mov (.t 0)⟩, 
    ⟨some 12, none, .len (.t 11)⟩, 
    ⟨some 13, none, .mov (.c (.p (.int .i64 0)))⟩] [0, 1, 12, 13] [])
  (.block 0 lp88_0))
  (.seq (.reg false [⟨some 4, none, .mov (.c (.p (.bool true)))⟩] [4] [])
  .ret)))),
  [.tmp 4], false⟩
def lp89_0 : IC :=
  (.loop [0, 1, 12, 13] [] (.seq (.reg false [⟨some 14, none, .bin .lss (.t 13) (.t 12)⟩] [0, 1, 12, 13, 14] [])
      (.seq (.cond (.t 14)
      .skip
      (.exit 0))
      (.seq (.block 1 (.seq (.reg false [⟨some 15, none, .mov (.t 13)⟩, 
          ⟨some 5, none, .mov (.t 15)⟩] [0, 1, 5, 12, 13] [])
        (.seq (.reg true [⟨some 16, none, .mov (.t 0)⟩, 
          ⟨some 17, none, .mov (.t 5)⟩, 
          ⟨some 18, none, .ixs (.t 16) (.t 17) 1⟩, 
          ⟨some 19, none, .ld (.t 18) 1 false⟩, 
          ⟨some 20, none, .mov (.t 1)⟩, 
          ⟨some 21, none, .mov (.t 5)⟩, 
          ⟨some 22, none, .ixs (.t 20) (.t 21) 1⟩, 
          ⟨some 23, none, .ld (.t 22) 1 false⟩, 
          ⟨some 24, none, .bin .neq (.t 19) (.t 23)⟩] [0, 1, 12, 13, 24] [])
        (.cond (.t 24)
        (.seq (.reg false [⟨some 4, none, .mov (.c (.p (.bool false)))⟩] [4] [])
          .ret)
        .skip))))
      (.reg false [⟨some 25, none, .bin .add (.t 13) (.c (.p (.int .i64 1)))⟩, 
        ⟨some 13, none, .mov (.t 25)⟩] [0, 1, 12, 13] [])))))
def ir89 : IFn :=   -- slices.Equal[[]int,int]
⟨(.seq (.reg false [⟨some 4, none, .mov (.c (.p (.bool false)))⟩] [0, 1] [])
  (.seq (.seq (.reg false [⟨some 6, none, .mov (.t 0)⟩, 
    ⟨some 7, none, .len (.t 6)⟩, 
    ⟨some 8, none, .mov (.t 1)⟩, 
    ⟨some 9, none, .len (.t 8)⟩, 
    ⟨some 10, none, .bin .neq (.t 7) (.t 9)⟩] [0, 1, 10] [])
  (.cond (.t 10)
  (.seq (.reg false [⟨some 4, none, .mov (.c (.p (.bool false)))⟩] [4] [])
    .ret)
  .skip))
  (.seq (.seq (.reg false [⟨some 11, none, .mov (.t 0)⟩, 
    ⟨some 12, none, .len (.t 11)⟩, 
    ⟨some 13, none, .mov (.c (.p (.int .i64 0)))⟩] [0, 1, 12, 13] [])
  (.block 0 lp89_0))
  (.seq (.reg false [⟨some 4, none, .mov (.c (.p (.bool true)))⟩] [4] [])
  .ret)))),
  [.tmp 4], false⟩
end Go.EnvOf
