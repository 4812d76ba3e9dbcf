/- The engine's instructions for the functions, part 0. -/
import Derived.Test.YtfjgcfloallohaaEngAll2
namespace Go.EnvOf
open Go Go.Eng
set_option maxRecDepth 100000
def lp14_0 : IC :=
  (.loop [8, 10, 12, 14, 15, 16] [] (.seq (.seq (.reg false [⟨some 94, none, .mov (.t 16)⟩, 
              ⟨some 95, none, .mov (.t 8)⟩, 
              ⟨some 96, none, .len (.t 95)⟩, 
              ⟨some 97, none, .bin .lss (.t 94) (.t 96)⟩] [8, 10, 12, 14, 15, 16, 97] [])
            (.cond (.t 97)
            .skip
            (.exit 2)))
            (.seq (.block 3 (.seq (.reg true [⟨some 100, none, .mov (.t 8)⟩, 
                ⟨some 101, none, .mov (.t 16)⟩, 
                ⟨some 102, none, .ixs (.t 100) (.t 101) 1⟩, 
                ⟨some 103, none, .ld (.t 102) 1 false⟩, 
                ⟨some 104, none, .mov (.t 12)⟩, 
                ⟨some 105, none, .mov (.t 14)⟩, 
                ⟨some 106, none, .ixs (.t 104) (.t 105) 1⟩, 
                ⟨some 107, none, .ld (.t 106) 1 false⟩, 
                ⟨some 108, none, .bin .eql (.t 103) (.t 107)⟩] [8, 10, 12, 14, 15, 16, 108] [])
              (.cond (.t 108)
              (.reg false [⟨some 109, none, .mov (.t 15)⟩, 
                  ⟨some 110, none, .bin .add (.t 109) (.c (.p (.int .i64 1)))⟩, 
                  ⟨some 15, none, .mov (.t 110)⟩] [8, 10, 12, 14, 15, 16] [])
              .skip)))
            (.reg false [⟨some 98, none, .mov (.t 16)⟩, 
              ⟨some 99, none, .bin .add (.t 98) (.c (.p (.int .i64 1)))⟩, 
              ⟨some 16, none, .mov (.t 99)⟩] [8, 10, 12, 14, 15, 16] []))))
def lp14_1 : IC :=
  (.loop [8, 10, 12, 14, 15, 17] [] (.seq (.seq (.reg false [⟨some 111, none, .mov (.t 17)⟩, 
              ⟨some 112, none, .mov (.t 10)⟩, 
              ⟨some 113, none, .len (.t 112)⟩, 
              ⟨some 114, none, .bin .lss (.t 111) (.t 113)⟩] [8, 10, 12, 14, 15, 17, 114] [])
            (.cond (.t 114)
            .skip
            (.exit 4)))
            (.seq (.block 5 (.seq (.reg true [⟨some 117, none, .mov (.t 10)⟩, 
                ⟨some 118, none, .mov (.t 17)⟩, 
                ⟨some 119, none, .ixs (.t 117) (.t 118) 1⟩, 
                ⟨some 120, none, .ld (.t 119) 1 false⟩, 
                ⟨some 121, none, .mov (.t 12)⟩, 
                ⟨some 122, none, .mov (.t 14)⟩, 
                ⟨some 123, none, .ixs (.t 121) (.t 122) 1⟩, 
                ⟨some 124, none, .ld (.t 123) 1 false⟩, 
                ⟨some 125, none, .bin .eql (.t 120) (.t 124)⟩] [8, 10, 12, 14, 15, 17, 125] [])
              (.cond (.t 125)
              (.reg false [⟨some 126, none, .mov (.t 15)⟩, 
                  ⟨some 127, none, .bin .add (.t 126) (.c (.p (.int .i64 1)))⟩, 
                  ⟨some 15, none, .mov (.t 127)⟩] [8, 10, 12, 14, 15, 17] [])
              .skip)))
            (.reg false [⟨some 115, none, .mov (.t 17)⟩, 
              ⟨some 116, none, .bin .add (.t 115) (.c (.p (.int .i64 1)))⟩, 
              ⟨some 17, none, .mov (.t 116)⟩] [8, 10, 12, 14, 15, 17] []))))
def lp14_2 : IC :=
  (.loop [8, 10, 12, 14] [] (.seq (.seq (.reg false [⟨some 88, none, .mov (.t 14)⟩, 
        ⟨some 89, none, .mov (.t 12)⟩, 
        ⟨some 90, none, .len (.t 89)⟩, 
        ⟨some 91, none, .bin .lss (.t 88) (.t 90)⟩] [8, 10, 12, 14, 91] [])
      (.cond (.t 91)
      .skip
      (.exit 0)))
      (.seq (.block 1 (.seq (.reg false [⟨some 15, none, .mov (.c (.p (.int .i64 0)))⟩] [8, 10, 12, 14, 15] [])
        (.seq (.seq (.reg false [⟨some 16, none, .mov (.c (.p (.int .i64 0)))⟩] [8, 10, 12, 14, 15, 16] [])
        (.block 2 lp14_0))
        (.seq (.seq (.reg false [⟨some 17, none, .mov (.c (.p (.int .i64 0)))⟩] [8, 10, 12, 14, 15, 17] [])
        (.block 4 lp14_1))
        (.seq (.reg true [⟨some 128, none, .mov (.t 15)⟩, 
          ⟨some 129, none, .bin .neq (.t 128) (.c (.p (.int .i64 1)))⟩, 
          ⟨some 130, none, .mov (.t 129)⟩, 
          ⟨some 131, (some (130, false)), .mov (.t 14)⟩, 
          ⟨some 132, (some (130, false)), .bin .gtr (.t 131) (.c (.p (.int .i64 0)))⟩, 
          ⟨some 133, (some (130, false)), .mov (.t 132)⟩, 
          ⟨some 134, (some (133, true)), .mov (.t 12)⟩, 
          ⟨some 135, (some (133, true)), .mov (.t 14)⟩, 
          ⟨some 136, (some (133, true)), .ixs (.t 134) (.t 135) 1⟩, 
          ⟨some 137, (some (133, true)), .ld (.t 136) 1 false⟩, 
          ⟨some 138, (some (133, true)), .mov (.t 12)⟩, 
          ⟨some 139, (some (133, true)), .mov (.t 14)⟩, 
          ⟨some 140, (some (133, true)), .bin .sub (.t 139) (.c (.p (.int .i64 1)))⟩, 
          ⟨some 141, (some (133, true)), .ixs (.t 138) (.t 140) 1⟩, 
          ⟨some 142, (some (133, true)), .ld (.t 141) 1 false⟩, 
          ⟨some 143, (some (133, true)), .bin .leq (.t 137) (.t 142)⟩, 
          ⟨some 144, (some (130, false)), .pick (.t 133) (.t 143) (.c (.p (.bool false)))⟩, 
          ⟨some 145, none, .pick (.t 130) (.c (.p (.bool true))) (.t 144)⟩] [8, 10, 12, 14, 145] [])
        (.cond (.t 145)
        (.seq (.reg false [⟨some 4, none, .mov (.c (.p (.bool false)))⟩] [4] [])
          .ret)
        .skip))))))
      (.reg false [⟨some 92, none, .mov (.t 14)⟩, 
        ⟨some 93, none, .bin .add (.t 92) (.c (.p (.int .i64 1)))⟩, 
        ⟨some 14, none, .mov (.t 93)⟩] [8, 10, 12, 14] []))))
def ir14 : IFn :=   -- tympan/tympanlaw23.QueueTwice
⟨(.seq (.reg false [⟨some 3, none, .bx (.t 1) 9 true⟩, 
    ⟨some 4, none, .mov (.c (.p (.bool false)))⟩] [0, 3] [3])
  (.seq (.seq (.reg false [⟨some 18, none, .mov (.t 0)⟩, 
    ⟨some 19, none, .len (.t 18)⟩, 
    ⟨some 20, none, .bin .gtr (.t 19) (.c (.p (.int .i64 60)))⟩] [0, 3, 20] [3])
  (.cond (.t 20)
  (.seq (.reg false [⟨some 21, none, .call 67 [] false⟩, 
      ⟨some 4, none, .mov (.t 21)⟩] [4] [])
    .ret)
  .skip))
  (.seq (.prep [5, 6, 7] (.reg true [⟨some 22, none, .ixa (.t 3) (.c (.p (.int .i64 0))) 3 3⟩, 
    ⟨some 23, none, .ldl 3 (.t 22) 3 true⟩, 
    ⟨some 24, none, .ixa (.t 3) (.c (.p (.int .i64 1))) 3 3⟩, 
    ⟨some 25, none, .ldl 3 (.t 24) 3 true⟩, 
    ⟨some 26, none, .ixa (.t 3) (.c (.p (.int .i64 2))) 3 3⟩, 
    ⟨some 27, none, .ldl 3 (.t 26) 3 true⟩, 
    ⟨some 5, none, .alp [.p (.int .i64 0), .p (.int .i64 0), .p (.int .i64 0)]⟩, 
    ⟨some 6, none, .alp [.p (.int .i64 0), .p (.int .i64 0), .p (.int .i64 0)]⟩, 
    ⟨some 7, none, .alp [.p (.int .i64 0), .p (.int .i64 0), .p (.int .i64 0)]⟩, 
    ⟨none, none, .stl 5 (.t 5) (.t 23) 3⟩, 
    ⟨none, none, .stl 6 (.t 6) (.t 25) 3⟩, 
    ⟨none, none, .stl 7 (.t 7) (.t 27) 3⟩] [0, 5, 6, 7] [5, 6, 7]))
  (.seq (.reg false [⟨some 29, none, .mov (.t 0)⟩, 
    ⟨some 30, none, .ld (.t 5) 3 true⟩, 
    ⟨some 31, none, .ld (.t 6) 3 true⟩, 
    ⟨some 32, none, .call 68 [(.t 29), (.t 30), (.t 31)] false⟩, 
    ⟨some 28, none, .mov (.t 32)⟩, 
    ⟨some 33, none, .ext (.t 28) 0⟩, 
    ⟨some 34, none, .ext (.t 28) 1⟩, 
    ⟨some 8, none, .mov (.t 33)⟩, 
    ⟨some 9, none, .mov (.t 34)⟩] [0, 5, 6, 7, 8, 9] [5, 6, 7])
  (.seq (.reg true [⟨some 36, none, .mov (.t 0)⟩, 
    ⟨some 37, none, .ldl 5 (.t 5) 3 true⟩, 
    ⟨some 38, none, .ldl 6 (.t 6) 3 true⟩, 
    ⟨some 39, none, .call 69 [(.t 37), (.t 38)] false⟩, 
    ⟨some 40, none, .ldl 7 (.t 7) 3 true⟩, 
    ⟨some 41, none, .call 68 [(.t 36), (.t 39), (.t 40)] false⟩, 
    ⟨some 35, none, .mov (.t 41)⟩, 
    ⟨some 42, none, .ext (.t 35) 0⟩, 
    ⟨some 43, none, .ext (.t 35) 1⟩, 
    ⟨some 10, none, .mov (.t 42)⟩, 
    ⟨some 11, none, .mov (.t 43)⟩] [0, 5, 6, 7, 8, 9, 10, 11] [5, 6, 7])
  (.seq (.reg true [⟨some 45, none, .mov (.t 0)⟩, 
    ⟨some 46, none, .ldl 5 (.t 5) 3 true⟩, 
    ⟨some 47, none, .ldl 6 (.t 6) 3 true⟩, 
    ⟨some 48, none, .ldl 7 (.t 7) 3 true⟩, 
    ⟨some 49, none, .call 69 [(.t 47), (.t 48)] false⟩, 
    ⟨some 50, none, .call 68 [(.t 45), (.t 46), (.t 49)] false⟩, 
    ⟨some 44, none, .mov (.t 50)⟩, 
    ⟨some 51, none, .ext (.t 44) 0⟩, 
    ⟨some 52, none, .ext (.t 44) 1⟩, 
    ⟨some 12, none, .mov (.t 51)⟩, 
    ⟨some 13, none, .mov (.t 52)⟩] [0, 5, 6, 7, 8, 9, 10, 11, 12, 13] [5, 6, 7])
  (.seq (.seq (.reg false [⟨some 53, none, .mov (.t 9)⟩, 
    ⟨some 54, none, .un .not (.t 53)⟩, 
    ⟨some 55, none, .mov (.t 54)⟩, 
    ⟨some 56, (some (55, false)), .mov (.t 11)⟩, 
    ⟨some 57, (some (55, false)), .un .not (.t 56)⟩, 
    ⟨some 58, none, .pick (.t 55) (.c (.p (.bool true))) (.t 57)⟩] [0, 5, 6, 7, 8, 10, 12, 13, 58] [5, 6, 7])
  (.cond (.t 58)
  (.seq (.reg false [⟨some 59, none, .call 67 [] false⟩, 
      ⟨some 4, none, .mov (.t 59)⟩] [4] [])
    .ret)
  .skip))
  (.seq (.seq (.reg true [⟨some 60, none, .mov (.t 13)⟩, 
    ⟨some 61, none, .un .not (.t 60)⟩, 
    ⟨some 62, none, .mov (.t 61)⟩, 
    ⟨some 63, (some (62, false)), .mov (.t 12)⟩, 
    ⟨some 64, (some (62, false)), .len (.t 63)⟩, 
    ⟨some 65, (some (62, false)), .mov (.t 8)⟩, 
    ⟨some 66, (some (62, false)), .len (.t 65)⟩, 
    ⟨some 67, (some (62, false)), .mov (.t 10)⟩, 
    ⟨some 68, (some (62, false)), .len (.t 67)⟩, 
    ⟨some 69, (some (62, false)), .bin .add (.t 66) (.t 68)⟩, 
    ⟨some 70, (some (62, false)), .bin .neq (.t 64) (.t 69)⟩, 
    ⟨some 71, none, .pick (.t 62) (.c (.p (.bool true))) (.t 70)⟩, 
    ⟨some 72, none, .mov (.t 71)⟩, 
    ⟨some 73, (some (72, false)), .mov (.t 0)⟩, 
    ⟨some 74, (some (72, false)), .ldl 5 (.t 5) 3 true⟩, 
    ⟨some 75, (some (72, false)), .mov (.t 8)⟩, 
    ⟨some 76, (some (72, false)), .call 70 [(.t 73), (.t 74), (.t 75)] false⟩, 
    ⟨some 77, (some (72, false)), .un .not (.t 76)⟩, 
    ⟨some 78, none, .pick (.t 72) (.c (.p (.bool true))) (.t 77)⟩, 
    ⟨some 79, none, .mov (.t 78)⟩, 
    ⟨some 80, (some (79, false)), .mov (.t 0)⟩, 
    ⟨some 81, (some (79, false)), .mov (.t 12)⟩, 
    ⟨some 82, (some (79, false)), .call 71 [(.t 80), (.t 81)] false⟩, 
    ⟨some 83, (some (79, false)), .ldl 6 (.t 6) 3 true⟩, 
    ⟨some 84, (some (79, false)), .ldl 7 (.t 7) 3 true⟩, 
    ⟨some 85, (some (79, false)), .call 69 [(.t 83), (.t 84)] false⟩, 
    ⟨some 86, (some (79, false)), .eqa true [true, true, true] (.t 82) (.t 85)⟩, 
    ⟨some 87, none, .pick (.t 79) (.c (.p (.bool true))) (.t 86)⟩] [8, 10, 12, 87] [])
  (.cond (.t 87)
  (.seq (.reg false [⟨some 4, none, .mov (.c (.p (.bool false)))⟩] [4] [])
    .ret)
  .skip))
  (.seq (.seq (.reg false [⟨some 14, none, .mov (.c (.p (.int .i64 0)))⟩] [8, 10, 12, 14] [])
  (.block 0 lp14_2))
  (.seq (.reg false [⟨some 146, none, .call 67 [] false⟩, 
    ⟨some 4, none, .mov (.t 146)⟩] [4] [])
  .ret)))))))))),
  [.tmp 4], false⟩
def lp15_0 : IC :=
  (.loop [9, 10, 11] [] (.seq (.seq (.reg false [⟨some 66, none, .mov (.t 11)⟩, 
        ⟨some 67, none, .mov (.t 10)⟩, 
        ⟨some 68, none, .len (.t 67)⟩, 
        ⟨some 69, none, .bin .lss (.t 66) (.t 68)⟩] [9, 10, 11, 69] [])
      (.cond (.t 69)
      .skip
      (.exit 0)))
      (.seq (.block 1 (.seq (.reg true [⟨some 72, none, .mov (.t 9)⟩, 
          ⟨some 73, none, .len (.t 72)⟩, 
          ⟨some 74, none, .mov (.t 10)⟩, 
          ⟨some 75, none, .len (.t 74)⟩, 
          ⟨some 76, none, .bin .neq (.t 73) (.t 75)⟩, 
          ⟨some 77, none, .mov (.t 76)⟩, 
          ⟨some 78, (some (77, false)), .mov (.t 9)⟩, 
          ⟨some 79, (some (77, false)), .mov (.t 11)⟩, 
          ⟨some 80, (some (77, false)), .ixs (.t 78) (.t 79) 3⟩, 
          ⟨some 81, (some (77, false)), .ld (.t 80) 3 true⟩, 
          ⟨some 82, (some (77, false)), .mov (.t 10)⟩, 
          ⟨some 83, (some (77, false)), .mov (.t 11)⟩, 
          ⟨some 84, (some (77, false)), .ixs (.t 82) (.t 83) 3⟩, 
          ⟨some 85, (some (77, false)), .ld (.t 84) 3 true⟩, 
          ⟨some 86, (some (77, false)), .eqa true [true, true, true] (.t 81) (.t 85)⟩, 
          ⟨some 87, none, .pick (.t 77) (.c (.p (.bool true))) (.t 86)⟩] [9, 10, 11, 87] [])
        (.cond (.t 87)
        (.seq (.reg false [⟨some 6, none, .mov (.c (.p (.bool false)))⟩] [6] [])
          .ret)
        .skip)))
      (.reg false [⟨some 70, none, .mov (.t 11)⟩, 
        ⟨some 71, none, .bin .add (.t 70) (.c (.p (.int .i64 1)))⟩, 
        ⟨some 11, none, .mov (.t 71)⟩] [9, 10, 11] []))))
def ir15 : IFn :=   -- tympan/tympanlaw23.QueueCounts
⟨(.seq (.reg false [⟨some 3, none, .bx (.t 0) 3 true⟩, 
    ⟨some 4, none, .bx (.t 1) 3 true⟩, 
    ⟨some 6, none, .mov (.c (.p (.bool false)))⟩] [2, 3, 4] [3, 4])
  (.seq (.prep [7, 8] (.reg true [⟨some 12, none, .ldl 3 (.t 3) 3 true⟩, 
    ⟨some 13, none, .ldl 4 (.t 4) 3 true⟩, 
    ⟨some 7, none, .alp [.p (.int .i64 0), .p (.int .i64 0), .p (.int .i64 0)]⟩, 
    ⟨some 8, none, .alp [.p (.int .i64 0), .p (.int .i64 0), .p (.int .i64 0)]⟩, 
    ⟨none, none, .stl 7 (.t 7) (.t 12) 3⟩, 
    ⟨none, none, .stl 8 (.t 8) (.t 13) 3⟩] [2, 3, 4, 7, 8] [3, 4, 7, 8]))
  (.seq (.seq (.reg true [⟨some 14, none, .ldl 3 (.t 3) 3 true⟩, 
    ⟨some 15, none, .ldl 4 (.t 4) 3 true⟩, 
    ⟨some 16, none, .call 72 [(.t 14), (.t 15)] false⟩, 
    ⟨some 17, none, .ldl 7 (.t 7) 3 true⟩, 
    ⟨some 18, none, .ldl 8 (.t 8) 3 true⟩, 
    ⟨some 19, none, .call 69 [(.t 17), (.t 18)] false⟩, 
    ⟨some 20, none, .eqa true [true, true, true] (.t 16) (.t 19)⟩, 
    ⟨some 21, none, .mov (.t 20)⟩, 
    ⟨some 22, (some (21, false)), .ldl 7 (.t 7) 3 true⟩, 
    ⟨some 23, (some (21, false)), .call 73 [(.t 22)] false⟩, 
    ⟨some 24, (some (21, false)), .ldl 3 (.t 3) 3 true⟩, 
    ⟨some 25, (some (21, false)), .call 74 [(.t 24)] false⟩, 
    ⟨some 26, (some (21, false)), .bin .neq (.t 23) (.t 25)⟩, 
    ⟨some 27, none, .pick (.t 21) (.c (.p (.bool true))) (.t 26)⟩, 
    ⟨some 28, none, .mov (.t 27)⟩, 
    ⟨some 29, (some (28, false)), .ldl 7 (.t 7) 3 true⟩, 
    ⟨some 30, (some (28, false)), .ldl 8 (.t 8) 3 true⟩, 
    ⟨some 31, (some (28, false)), .call 75 [(.t 29), (.t 30)] false⟩, 
    ⟨some 32, (some (28, false)), .ldl 3 (.t 3) 3 true⟩, 
    ⟨some 33, (some (28, false)), .ldl 4 (.t 4) 3 true⟩, 
    ⟨some 34, (some (28, false)), .call 76 [(.t 32), (.t 33)] false⟩, 
    ⟨some 35, (some (28, false)), .eqb true (.t 31) (.t 34)⟩, 
    ⟨some 36, none, .pick (.t 28) (.c (.p (.bool true))) (.t 35)⟩, 
    ⟨some 37, none, .mov (.t 36)⟩, 
    ⟨some 38, (some (37, false)), .ldl 7 (.t 7) 3 true⟩, 
    ⟨some 39, (some (37, false)), .ldl 8 (.t 8) 3 true⟩, 
    ⟨some 40, (some (37, false)), .call 77 [(.t 38), (.t 39)] false⟩, 
    ⟨some 41, (some (37, false)), .ldl 3 (.t 3) 3 true⟩, 
    ⟨some 42, (some (37, false)), .ldl 4 (.t 4) 3 true⟩, 
    ⟨some 43, (some (37, false)), .call 78 [(.t 41), (.t 42)] false⟩, 
    ⟨some 44, (some (37, false)), .eqa true [true, true, true] (.t 40) (.t 43)⟩, 
    ⟨some 45, none, .pick (.t 37) (.c (.p (.bool true))) (.t 44)⟩] [2, 3, 7, 45] [3, 7])
  (.cond (.t 45)
  (.seq (.reg false [⟨some 6, none, .mov (.c (.p (.bool false)))⟩] [6] [])
    .ret)
  .skip))
  (.seq (.seq (.reg false [⟨some 46, none, .ixa (.t 3) (.c (.p (.int .i64 0))) 1 3⟩, 
    ⟨some 47, none, .ld (.t 46) 1 false⟩, 
    ⟨some 48, none, .bin .gtr (.t 47) (.c (.p (.int .i64 6)))⟩, 
    ⟨some 49, none, .mov (.t 48)⟩, 
    ⟨some 50, (some (49, false)), .ixa (.t 3) (.c (.p (.int .i64 1))) 1 3⟩, 
    ⟨some 51, (some (49, false)), .ld (.t 50) 1 false⟩, 
    ⟨some 52, (some (49, false)), .bin .gtr (.t 51) (.c (.p (.int .i64 6)))⟩, 
    ⟨some 53, none, .pick (.t 49) (.c (.p (.bool true))) (.t 52)⟩, 
    ⟨some 54, none, .mov (.t 53)⟩, 
    ⟨some 55, (some (54, false)), .ixa (.t 3) (.c (.p (.int .i64 2))) 1 3⟩, 
    ⟨some 56, (some (54, false)), .ld (.t 55) 1 false⟩, 
    ⟨some 57, (some (54, false)), .bin .gtr (.t 56) (.c (.p (.int .i64 6)))⟩, 
    ⟨some 58, none, .pick (.t 54) (.c (.p (.bool true))) (.t 57)⟩] [2, 3, 7, 58] [3, 7])
  (.cond (.t 58)
  (.seq (.reg false [⟨some 59, none, .call 67 [] false⟩, 
      ⟨some 6, none, .mov (.t 59)⟩] [6] [])
    .ret)
  .skip))
  (.seq (.reg true [⟨some 60, none, .ldl 7 (.t 7) 3 true⟩, 
    ⟨some 61, none, .mov (.t 2)⟩, 
    ⟨some 62, none, .call 79 [(.t 60), (.t 61)] false⟩, 
    ⟨some 63, none, .ldl 3 (.t 3) 3 true⟩, 
    ⟨some 64, none, .mov (.t 2)⟩, 
    ⟨some 65, none, .call 80 [(.t 63), (.t 64)] false⟩, 
    ⟨some 9, none, .mov (.t 62)⟩, 
    ⟨some 10, none, .mov (.t 65)⟩] [9, 10] [])
  (.seq (.seq (.reg false [⟨some 11, none, .mov (.c (.p (.int .i64 0)))⟩] [9, 10, 11] [])
  (.block 0 lp15_0))
  (.seq (.reg false [⟨some 88, none, .mov (.t 9)⟩, 
    ⟨some 89, none, .len (.t 88)⟩, 
    ⟨some 90, none, .mov (.t 10)⟩, 
    ⟨some 91, none, .len (.t 90)⟩, 
    ⟨some 92, none, .bin .eql (.t 89) (.t 91)⟩, 
    ⟨some 93, none, .mov (.t 92)⟩, 
    ⟨some 94, (some (93, true)), .call 67 [] false⟩, 
    ⟨some 95, none, .pick (.t 93) (.t 94) (.c (.p (.bool false)))⟩, 
    ⟨some 6, none, .mov (.t 95)⟩] [6] [])
  .ret))))))),
  [.tmp 6], false⟩
def lp16_0 : IC :=
  (.loop [1, 3, 5, 7, 8, 9, 10, 11] [3, 5, 7] (.seq (.seq (.reg false [⟨some 70, none, .mov (.t 11)⟩, 
        ⟨some 71, none, .mov (.t 10)⟩, 
        ⟨some 72, none, .len (.t 71)⟩, 
        ⟨some 73, none, .bin .lss (.t 70) (.t 72)⟩] [1, 3, 5, 7, 8, 9, 10, 11, 73] [3, 5, 7])
      (.cond (.t 73)
      .skip
      (.exit 0)))
      (.seq (.block 1 (.seq (.reg false [⟨some 76, none, .mov (.t 10)⟩, 
          ⟨some 77, none, .mov (.t 11)⟩, 
          ⟨some 78, none, .ixs (.t 76) (.t 77) 2⟩, 
          ⟨some 79, none, .ld (.t 78) 2 true⟩, 
          ⟨some 12, none, .al [.nils, .nils] true⟩, 
          ⟨none, none, .st (.t 12) (.t 79) 2⟩] [1, 3, 5, 7, 8, 9, 10, 11, 12] [3, 5, 7, 12])
        (.seq (.reg true [⟨some 80, none, .mov (.t 1)⟩, 
          ⟨some 81, none, .ldl 7 (.t 7) 3 true⟩, 
          ⟨some 82, none, .off (.t 12) 0⟩, 
          ⟨some 83, none, .ldl 12 (.t 82) 1 false⟩, 
          ⟨some 84, none, .call 70 [(.t 80), (.t 81), (.t 83)] false⟩, 
          ⟨some 85, none, .un .not (.t 84)⟩, 
          ⟨some 86, none, .mov (.t 85)⟩, 
          ⟨some 87, (some (86, false)), .mov (.t 1)⟩, 
          ⟨some 88, (some (86, false)), .ldl 7 (.t 7) 3 true⟩, 
          ⟨some 89, (some (86, false)), .mov (.t 1)⟩, 
          ⟨some 90, (some (86, false)), .off (.t 12) 0⟩, 
          ⟨some 91, (some (86, false)), .ldl 12 (.t 90) 1 false⟩, 
          ⟨some 92, (some (86, false)), .call 71 [(.t 89), (.t 91)] false⟩, 
          ⟨some 93, (some (86, false)), .call 69 [(.t 88), (.t 92)] false⟩, 
          ⟨some 94, (some (86, false)), .off (.t 12) 1⟩, 
          ⟨some 95, (some (86, false)), .ldl 12 (.t 94) 1 false⟩, 
          ⟨some 96, (some (86, false)), .call 70 [(.t 87), (.t 93), (.t 95)] false⟩, 
          ⟨some 97, (some (86, false)), .un .not (.t 96)⟩, 
          ⟨some 98, none, .pick (.t 86) (.c (.p (.bool true))) (.t 97)⟩, 
          ⟨some 99, none, .mov (.t 98)⟩, 
          ⟨some 100, (some (99, false)), .ldl 3 (.t 3) 19 true⟩, 
          ⟨some 101, (some (99, false)), .mov (.t 1)⟩, 
          ⟨some 102, (some (99, false)), .ldl 12 (.t 12) 2 true⟩, 
          ⟨some 103, (some (99, false)), .call 83 [(.t 100), (.t 101), (.t 102)] false⟩, 
          ⟨some 104, (some (99, false)), .un .not (.t 103)⟩, 
          ⟨some 105, none, .pick (.t 99) (.c (.p (.bool true))) (.t 104)⟩] [1, 3, 5, 7, 8, 9, 10, 11, 105] [3, 5, 7])
        (.cond (.t 105)
        (.seq (.reg false [⟨some 6, none, .mov (.c (.p (.bool false)))⟩] [6] [])
          .ret)
        .skip))))
      (.reg false [⟨some 74, none, .mov (.t 11)⟩, 
        ⟨some 75, none, .bin .add (.t 74) (.c (.p (.int .i64 1)))⟩, 
        ⟨some 11, none, .mov (.t 75)⟩] [1, 3, 5, 7, 8, 9, 10, 11] [3, 5, 7]))))
def ir16 : IFn :=   -- tympan/tympanlaw24.AreaOrder
⟨(.seq (.reg false [⟨some 3, none, .bx (.t 0) 19 true⟩, 
    ⟨some 5, none, .bx (.t 2) 6 true⟩, 
    ⟨some 6, none, .mov (.c (.p (.bool false)))⟩] [1, 3, 5] [3, 5])
  (.seq (.seq (.reg false [⟨some 13, none, .mov (.t 1)⟩, 
    ⟨some 14, none, .len (.t 13)⟩, 
    ⟨some 15, none, .bin .gtr (.t 14) (.c (.p (.int .i64 8)))⟩, 
    ⟨some 16, none, .mov (.t 15)⟩, 
    ⟨some 17, (some (16, false)), .ixa (.t 5) (.c (.p (.int .i64 1))) 3 2⟩, 
    ⟨some 18, (some (16, false)), .ixa (.t 17) (.c (.p (.int .i64 0))) 1 3⟩, 
    ⟨some 19, (some (16, false)), .ld (.t 18) 1 false⟩, 
    ⟨some 20, (some (16, false)), .bin .gtr (.t 19) (.c (.p (.int .i64 4)))⟩, 
    ⟨some 21, none, .pick (.t 16) (.c (.p (.bool true))) (.t 20)⟩, 
    ⟨some 22, none, .mov (.t 21)⟩, 
    ⟨some 23, (some (22, false)), .ixa (.t 5) (.c (.p (.int .i64 1))) 3 2⟩, 
    ⟨some 24, (some (22, false)), .ixa (.t 23) (.c (.p (.int .i64 1))) 1 3⟩, 
    ⟨some 25, (some (22, false)), .ld (.t 24) 1 false⟩, 
    ⟨some 26, (some (22, false)), .bin .gtr (.t 25) (.c (.p (.int .i64 4)))⟩, 
    ⟨some 27, none, .pick (.t 22) (.c (.p (.bool true))) (.t 26)⟩, 
    ⟨some 28, none, .mov (.t 27)⟩, 
    ⟨some 29, (some (28, false)), .ixa (.t 5) (.c (.p (.int .i64 1))) 3 2⟩, 
    ⟨some 30, (some (28, false)), .ixa (.t 29) (.c (.p (.int .i64 2))) 1 3⟩, 
    ⟨some 31, (some (28, false)), .ld (.t 30) 1 false⟩, 
    ⟨some 32, (some (28, false)), .bin .gtr (.t 31) (.c (.p (.int .i64 4)))⟩, 
    ⟨some 33, none, .pick (.t 28) (.c (.p (.bool true))) (.t 32)⟩, 
    ⟨some 34, none, .mov (.t 33)⟩, 
    ⟨some 35, (some (34, false)), .off (.t 3) 11⟩, 
    ⟨some 36, (some (34, false)), .ld (.t 35) 1 false⟩, 
    ⟨some 37, (some (34, false)), .bin .lss (.t 36) (.c (.p (.int .i64 0)))⟩, 
    ⟨some 38, none, .pick (.t 34) (.c (.p (.bool true))) (.t 37)⟩, 
    ⟨some 39, none, .mov (.t 38)⟩, 
    ⟨some 40, (some (39, false)), .off (.t 3) 12⟩, 
    ⟨some 41, (some (39, false)), .ld (.t 40) 1 false⟩, 
    ⟨some 42, (some (39, false)), .bin .lss (.t 41) (.c (.p (.int .i64 0)))⟩, 
    ⟨some 43, none, .pick (.t 39) (.c (.p (.bool true))) (.t 42)⟩, 
    ⟨some 44, none, .mov (.t 43)⟩, 
    ⟨some 45, (some (44, false)), .off (.t 3) 9⟩, 
    ⟨some 46, (some (44, false)), .ld (.t 45) 1 false⟩, 
    ⟨some 47, (some (44, false)), .bin .lss (.t 46) (.c (.p (.int .i64 0)))⟩, 
    ⟨some 48, none, .pick (.t 44) (.c (.p (.bool true))) (.t 47)⟩, 
    ⟨some 49, none, .mov (.t 48)⟩, 
    ⟨some 50, (some (49, false)), .off (.t 3) 10⟩, 
    ⟨some 51, (some (49, false)), .ld (.t 50) 1 false⟩, 
    ⟨some 52, (some (49, false)), .bin .lss (.t 51) (.c (.p (.int .i64 0)))⟩, 
    ⟨some 53, none, .pick (.t 49) (.c (.p (.bool true))) (.t 52)⟩] [1, 3, 5, 53] [3, 5])
  (.cond (.t 53)
  (.seq (.reg false [⟨some 54, none, .call 81 [] false⟩, 
      ⟨some 6, none, .mov (.t 54)⟩] [6] [])
    .ret)
  .skip))
  (.seq (.reg false [⟨some 55, none, .ixa (.t 5) (.c (.p (.int .i64 0))) 3 2⟩, 
    ⟨some 56, none, .ld (.t 55) 3 true⟩, 
    ⟨some 7, none, .al [.p (.int .i64 0), .p (.int .i64 0), .p (.int .i64 0)] true⟩, 
    ⟨none, none, .st (.t 7) (.t 56) 3⟩] [1, 3, 5, 7] [3, 5, 7])
  (.seq (.reg false [⟨some 58, none, .mov (.t 1)⟩, 
    ⟨some 59, none, .ld (.t 7) 3 true⟩, 
    ⟨some 60, none, .bld [.p (.int .i64 0), .p (.int .i64 0), .p (.int .i64 0)] []⟩, 
    ⟨some 61, none, .call 68 [(.t 58), (.t 59), (.t 60)] false⟩, 
    ⟨some 57, none, .mov (.t 61)⟩, 
    ⟨some 62, none, .ext (.t 57) 0⟩, 
    ⟨some 63, none, .ext (.t 57) 1⟩, 
    ⟨some 8, none, .mov (.t 62)⟩, 
    ⟨some 9, none, .mov (.t 63)⟩] [1, 3, 5, 7, 8, 9] [3, 5, 7])
  (.seq (.reg false [⟨some 64, none, .ld (.t 3) 19 true⟩, 
    ⟨some 65, none, .mov (.t 1)⟩, 
    ⟨some 66, none, .ld (.t 7) 3 true⟩, 
    ⟨some 67, none, .ixa (.t 5) (.c (.p (.int .i64 1))) 3 2⟩, 
    ⟨some 68, none, .ld (.t 67) 3 true⟩, 
    ⟨some 69, none, .call 82 [(.t 64), (.t 65), (.t 66), (.t 68)] false⟩, 
    ⟨some 10, none, .mov (.t 69)⟩] [1, 3, 5, 7, 8, 9, 10] [3, 5, 7])
  (.seq (.seq (.reg false [⟨some 11, none, .mov (.c (.p (.int .i64 0)))⟩] [1, 3, 5, 7, 8, 9, 10, 11] [3, 5, 7])
  (.block 0 lp16_0))
  (.seq (.seq (.reg true [⟨some 106, none, .mov (.t 9)⟩, 
    ⟨some 107, none, .mov (.t 106)⟩, 
    ⟨some 108, (some (107, true)), .ixa (.t 5) (.c (.p (.int .i64 1))) 3 2⟩, 
    ⟨some 109, (some (107, true)), .ixa (.t 108) (.c (.p (.int .i64 0))) 1 3⟩, 
    ⟨some 110, (some (107, true)), .ldl 5 (.t 109) 1 false⟩, 
    ⟨some 111, (some (107, true)), .bin .geq (.t 110) (.c (.p (.int .i64 0)))⟩, 
    ⟨some 112, none, .pick (.t 107) (.t 111) (.c (.p (.bool false)))⟩, 
    ⟨some 113, none, .mov (.t 112)⟩, 
    ⟨some 114, (some (113, true)), .ixa (.t 5) (.c (.p (.int .i64 1))) 3 2⟩, 
    ⟨some 115, (some (113, true)), .ixa (.t 114) (.c (.p (.int .i64 1))) 1 3⟩, 
    ⟨some 116, (some (113, true)), .ldl 5 (.t 115) 1 false⟩, 
    ⟨some 117, (some (113, true)), .bin .geq (.t 116) (.c (.p (.int .i64 0)))⟩, 
    ⟨some 118, none, .pick (.t 113) (.t 117) (.c (.p (.bool false)))⟩, 
    ⟨some 119, none, .mov (.t 118)⟩, 
    ⟨some 120, (some (119, true)), .ixa (.t 5) (.c (.p (.int .i64 1))) 3 2⟩, 
    ⟨some 121, (some (119, true)), .ixa (.t 120) (.c (.p (.int .i64 2))) 1 3⟩, 
    ⟨some 122, (some (119, true)), .ldl 5 (.t 121) 1 false⟩, 
    ⟨some 123, (some (119, true)), .bin .geq (.t 122) (.c (.p (.int .i64 0)))⟩, 
    ⟨some 124, none, .pick (.t 119) (.t 123) (.c (.p (.bool false)))⟩, 
    ⟨some 125, none, .mov (.t 124)⟩, 
    ⟨some 126, (some (125, true)), .mov (.t 10)⟩, 
    ⟨some 127, (some (125, true)), .len (.t 126)⟩, 
    ⟨some 128, (some (125, true)), .bin .eql (.t 127) (.c (.p (.int .i64 0)))⟩, 
    ⟨some 129, (some (125, true)), .mov (.t 128)⟩, 
    ⟨some 130, (some (129, false)), .mov (.t 10)⟩, 
    ⟨some 131, (some (129, false)), .ixs (.t 130) (.c (.p (.int .i64 0))) 2⟩, 
    ⟨some 132, (some (129, false)), .off (.t 131) 0⟩, 
    ⟨some 133, (some (129, false)), .ld (.t 132) 1 false⟩, 
    ⟨some 134, (some (129, false)), .len (.t 133)⟩, 
    ⟨some 135, (some (129, false)), .mov (.t 10)⟩, 
    ⟨some 136, (some (129, false)), .ixs (.t 135) (.c (.p (.int .i64 0))) 2⟩, 
    ⟨some 137, (some (129, false)), .off (.t 136) 1⟩, 
    ⟨some 138, (some (129, false)), .ld (.t 137) 1 false⟩, 
    ⟨some 139, (some (129, false)), .len (.t 138)⟩, 
    ⟨some 140, (some (129, false)), .bin .add (.t 134) (.t 139)⟩, 
    ⟨some 141, (some (129, false)), .bin .neq (.t 140) (.c (.p (.int .i64 0)))⟩, 
    ⟨some 142, (some (125, true)), .pick (.t 129) (.c (.p (.bool true))) (.t 141)⟩, 
    ⟨some 143, none, .pick (.t 125) (.t 142) (.c (.p (.bool false)))⟩] [8, 143] [])
  (.cond (.t 143)
  (.seq (.reg false [⟨some 6, none, .mov (.c (.p (.bool false)))⟩] [6] [])
    .ret)
  .skip))
  (.seq (.reg false [⟨some 144, none, .mov (.t 8)⟩, 
    ⟨some 145, none, .len (.t 144)⟩, 
    ⟨some 146, none, .bin .eql (.t 145) (.c (.p (.int .i64 0)))⟩, 
    ⟨some 147, none, .mov (.t 146)⟩, 
    ⟨some 148, (some (147, true)), .call 81 [] false⟩, 
    ⟨some 149, none, .pick (.t 147) (.t 148) (.c (.p (.bool false)))⟩, 
    ⟨some 6, none, .mov (.t 149)⟩] [6] [])
  .ret)))))))),
  [.tmp 6], false⟩
def lp24_0 : IC :=
  (.loop [0, 1, 5] [] (.seq (.seq (.reg false [⟨some 11, none, .mov (.t 5)⟩, 
        ⟨some 12, none, .mov (.t 0)⟩, 
        ⟨some 13, none, .len (.t 12)⟩, 
        ⟨some 14, none, .bin .lss (.t 11) (.t 13)⟩] [0, 1, 5, 14] [])
      (.cond (.t 14)
      .skip
      (.exit 0)))
      (.seq (.block 1 (.seq (.reg true [⟨some 17, none, .mov (.t 0)⟩, 
          ⟨some 18, none, .mov (.t 5)⟩, 
          ⟨some 19, none, .ixs (.t 17) (.t 18) 1⟩, 
          ⟨some 20, none, .ld (.t 19) 1 false⟩, 
          ⟨some 21, none, .mov (.t 1)⟩, 
          ⟨some 22, none, .mov (.t 5)⟩, 
          ⟨some 23, none, .ixs (.t 21) (.t 22) 1⟩, 
          ⟨some 24, none, .ld (.t 23) 1 false⟩, 
          ⟨some 25, none, .bin .neq (.t 20) (.t 24)⟩] [0, 1, 5, 25] [])
        (.cond (.t 25)
        (.seq (.reg false [⟨some 4, none, .mov (.c (.p (.bool false)))⟩] [4] [])
          .ret)
        .skip)))
      (.reg false [⟨some 15, none, .mov (.t 5)⟩, 
        ⟨some 16, none, .bin .add (.t 15) (.c (.p (.int .i64 1)))⟩, 
        ⟨some 5, none, .mov (.t 16)⟩] [0, 1, 5] []))))
def ir24 : IFn :=   -- tympan/tympanref11.Ints
⟨(.seq (.reg false [⟨some 4, none, .mov (.c (.p (.bool false)))⟩] [0, 1] [])
  (.seq (.seq (.reg false [⟨some 6, none, .mov (.t 0)⟩, 
    ⟨some 7, none, .len (.t 6)⟩, 
    ⟨some 8, none, .mov (.t 1)⟩, 
    ⟨some 9, none, .len (.t 8)⟩, 
    ⟨some 10, none, .bin .neq (.t 7) (.t 9)⟩] [0, 1, 10] [])
  (.cond (.t 10)
  (.seq (.reg false [⟨some 4, none, .mov (.c (.p (.bool false)))⟩] [4] [])
    .ret)
  .skip))
  (.seq (.seq (.reg false [⟨some 5, none, .mov (.c (.p (.int .i64 0)))⟩] [0, 1, 5] [])
  (.block 0 lp24_0))
  (.seq (.reg false [⟨some 4, none, .mov (.c (.p (.bool true)))⟩] [4] [])
  .ret)))),
  [.tmp 4], false⟩
def ir67 : IFn :=   -- tympan/tympanlaw23.awake
⟨(.seq (.reg false [⟨some 0, none, .mov (.c (.p (.bool false)))⟩] [] [])
  (.seq (.reg false [⟨some 5, none, .bld [.p (.int .i64 0), .p (.int .i64 0), .p (.int .i64 0)] [(1, 1, (.c (.p (.int .i64 1))))]⟩, 
    ⟨some 6, none, .bld [.p (.int .i64 0), .p (.int .i64 0), .p (.int .i64 0)] [(0, 1, (.c (.p (.int .i64 1)))), (1, 1, (.c (.p (.int .i64 1))))]⟩, 
    ⟨some 7, none, .bld [.p (.int .i64 0), .p (.int .i64 0), .p (.int .i64 0)] [(1, 1, (.c (.p (.int .i64 1))))]⟩, 
    ⟨some 8, none, .bsl 3 3 [.p (.int .i64 0), .p (.int .i64 0), .p (.int .i64 0)] [(0, (.t 5)), (1, (.t 6)), (2, (.t 7))]⟩, 
    ⟨some 1, none, .mov (.t 8)⟩] [1] [])
  (.seq (.reg false [⟨some 10, none, .mov (.t 1)⟩, 
    ⟨some 11, none, .bld [.p (.int .i64 0), .p (.int .i64 0), .p (.int .i64 0)] []⟩, 
    ⟨some 12, none, .bld [.p (.int .i64 0), .p (.int .i64 0), .p (.int .i64 0)] [(0, 1, (.c (.p (.int .i64 2)))), (1, 1, (.c (.p (.int .i64 1)))), (2, 1, (.c (.p (.int .i64 0))))]⟩, 
    ⟨some 13, none, .call 68 [(.t 10), (.t 11), (.t 12)] false⟩, 
    ⟨some 9, none, .mov (.t 13)⟩, 
    ⟨some 14, none, .ext (.t 9) 0⟩, 
    ⟨some 15, none, .ext (.t 9) 1⟩, 
    ⟨some 2, none, .mov (.t 14)⟩, 
    ⟨some 3, none, .mov (.t 15)⟩] [1, 2, 3] [])
  (.seq (.reg false [⟨some 16, none, .bld [.p (.int .i64 0), .p (.int .i64 0), .p (.int .i64 0)] [(0, 1, (.c (.p (.int .i64 1)))), (1, 1, (.c (.p (.int .i64 0)))), (2, 1, (.c (.p (.int .i64 1))))]⟩, 
    ⟨some 17, none, .call 79 [(.t 16), (.c (.p (.int .i64 1)))] false⟩, 
    ⟨some 4, none, .mov (.t 17)⟩] [1, 2, 3, 4] [])
  (.seq (.reg false [⟨some 18, none, .mov (.t 3)⟩, 
    ⟨some 19, none, .mov (.t 18)⟩, 
    ⟨some 20, (some (19, true)), .mov (.t 2)⟩, 
    ⟨some 21, (some (19, true)), .bsl 1 3 [.p (.int .i64 0)] [(0, (.c (.p (.int .i64 0)))), (1, (.c (.p (.int .i64 1)))), (2, (.c (.p (.int .i64 2))))]⟩, 
    ⟨some 22, (some (19, true)), .call 24 [(.t 20), (.t 21)] false⟩, 
    ⟨some 23, none, .pick (.t 19) (.t 22) (.c (.p (.bool false)))⟩, 
    ⟨some 24, none, .mov (.t 23)⟩, 
    ⟨some 25, (some (24, true)), .mov (.t 1)⟩, 
    ⟨some 26, (some (24, true)), .bld [.p (.int .i64 0), .p (.int .i64 0), .p (.int .i64 0)] [(0, 1, (.c (.p (.int .i64 1)))), (1, 1, (.c (.p (.int .i64 0)))), (2, 1, (.c (.p (.int .i64 0))))]⟩, 
    ⟨some 27, (some (24, true)), .bsl 1 2 [.p (.int .i64 0)] [(0, (.c (.p (.int .i64 1)))), (1, (.c (.p (.int .i64 2))))]⟩, 
    ⟨some 28, (some (24, true)), .call 70 [(.t 25), (.t 26), (.t 27)] false⟩, 
    ⟨some 29, none, .pick (.t 24) (.t 28) (.c (.p (.bool false)))⟩, 
    ⟨some 30, none, .mov (.t 29)⟩, 
    ⟨some 31, (some (30, true)), .mov (.t 4)⟩, 
    ⟨some 32, (some (30, true)), .len (.t 31)⟩, 
    ⟨some 33, (some (30, true)), .bin .eql (.t 32) (.c (.p (.int .i64 3)))⟩, 
    ⟨some 34, none, .pick (.t 30) (.t 33) (.c (.p (.bool false)))⟩, 
    ⟨some 35, none, .mov (.t 34)⟩, 
    ⟨some 36, (some (35, true)), .mov (.t 4)⟩, 
    ⟨some 37, (some (35, true)), .ixs (.t 36) (.c (.p (.int .i64 1))) 3⟩, 
    ⟨some 38, (some (35, true)), .ld (.t 37) 3 true⟩, 
    ⟨some 39, (some (35, true)), .bld [.p (.int .i64 0), .p (.int .i64 0), .p (.int .i64 0)] [(0, 1, (.c (.p (.int .i64 0)))), (1, 1, (.c (.p (.int .i64 0)))), (2, 1, (.c (.p (.int .i64 1))))]⟩, 
    ⟨some 40, (some (35, true)), .eqa false [true, true, true] (.t 38) (.t 39)⟩, 
    ⟨some 41, none, .pick (.t 35) (.t 40) (.c (.p (.bool false)))⟩, 
    ⟨some 0, none, .mov (.t 41)⟩] [0] [])
  .ret))))),
  [.tmp 0], false⟩
def lp68_0 : IC :=
  (.loop [0, 4, 5, 8, 11] [4, 5] (.seq (.reg false [⟨some 12, none, .bin .lss (.t 11) (.c (.p (.int .i64 3)))⟩] [0, 4, 5, 8, 11, 12] [4, 5])
      (.seq (.cond (.t 12)
      .skip
      (.exit 0))
      (.seq (.block 1 (.seq (.reg false [⟨some 13, none, .mov (.t 11)⟩, 
          ⟨some 9, none, .mov (.t 13)⟩] [0, 4, 5, 8, 9, 11] [4, 5])
        (.seq (.reg false [⟨some 14, none, .mov (.t 0)⟩, 
          ⟨some 15, none, .mov (.t 9)⟩, 
          ⟨some 16, none, .call 121 [(.t 14), (.t 15)] false⟩, 
          ⟨some 10, none, .mov (.t 16)⟩] [0, 4, 5, 8, 9, 10, 11] [4, 5])
        (.seq (.seq (.reg true [⟨some 17, none, .mov (.t 9)⟩, 
          ⟨some 18, none, .ixa (.t 4) (.t 17) 1 3⟩, 
          ⟨some 19, none, .ldl 4 (.t 18) 1 false⟩, 
          ⟨some 20, none, .bin .lss (.t 19) (.c (.p (.int .i64 0)))⟩, 
          ⟨some 21, none, .mov (.t 20)⟩, 
          ⟨some 22, (some (21, false)), .mov (.t 9)⟩, 
          ⟨some 23, (some (21, false)), .ixa (.t 5) (.t 22) 1 3⟩, 
          ⟨some 24, (some (21, false)), .ldl 5 (.t 23) 1 false⟩, 
          ⟨some 25, (some (21, false)), .bin .lss (.t 24) (.c (.p (.int .i64 0)))⟩, 
          ⟨some 26, none, .pick (.t 21) (.c (.p (.bool true))) (.t 25)⟩, 
          ⟨some 27, none, .mov (.t 26)⟩, 
          ⟨some 28, (some (27, false)), .mov (.t 9)⟩, 
          ⟨some 29, (some (27, false)), .ixa (.t 4) (.t 28) 1 3⟩, 
          ⟨some 30, (some (27, false)), .ldl 4 (.t 29) 1 false⟩, 
          ⟨some 31, (some (27, false)), .mov (.t 10)⟩, 
          ⟨some 32, (some (27, false)), .len (.t 31)⟩, 
          ⟨some 33, (some (27, false)), .bin .gtr (.t 30) (.t 32)⟩, 
          ⟨some 34, none, .pick (.t 27) (.c (.p (.bool true))) (.t 33)⟩, 
          ⟨some 35, none, .mov (.t 34)⟩, 
          ⟨some 36, (some (35, false)), .mov (.t 9)⟩, 
          ⟨some 37, (some (35, false)), .ixa (.t 5) (.t 36) 1 3⟩, 
          ⟨some 38, (some (35, false)), .ldl 5 (.t 37) 1 false⟩, 
          ⟨some 39, (some (35, false)), .mov (.t 10)⟩, 
          ⟨some 40, (some (35, false)), .len (.t 39)⟩, 
          ⟨some 41, (some (35, false)), .mov (.t 9)⟩, 
          ⟨some 42, (some (35, false)), .ixa (.t 4) (.t 41) 1 3⟩, 
          ⟨some 43, (some (35, false)), .ldl 4 (.t 42) 1 false⟩, 
          ⟨some 44, (some (35, false)), .bin .sub (.t 40) (.t 43)⟩, 
          ⟨some 45, (some (35, false)), .bin .gtr (.t 38) (.t 44)⟩, 
          ⟨some 46, none, .pick (.t 35) (.c (.p (.bool true))) (.t 45)⟩] [0, 4, 5, 8, 9, 10, 11, 46] [4, 5])
        (.cond (.t 46)
        (.seq (.reg false [⟨some 6, none, .mov (.c (.nils))⟩, 
            ⟨some 7, none, .mov (.c (.p (.bool false)))⟩] [6, 7] [])
          .ret)
        .skip))
        (.reg true [⟨some 47, none, .mov (.t 8)⟩, 
          ⟨some 48, none, .mov (.t 10)⟩, 
          ⟨some 49, none, .mov (.t 9)⟩, 
          ⟨some 50, none, .ixa (.t 4) (.t 49) 1 3⟩, 
          ⟨some 51, none, .ldl 4 (.t 50) 1 false⟩, 
          ⟨some 52, none, .mov (.t 9)⟩, 
          ⟨some 53, none, .ixa (.t 4) (.t 52) 1 3⟩, 
          ⟨some 54, none, .ldl 4 (.t 53) 1 false⟩, 
          ⟨some 55, none, .mov (.t 9)⟩, 
          ⟨some 56, none, .ixa (.t 5) (.t 55) 1 3⟩, 
          ⟨some 57, none, .ldl 5 (.t 56) 1 false⟩, 
          ⟨some 58, none, .bin .add (.t 54) (.t 57)⟩, 
          ⟨some 59, none, .slc (.t 48) (some (.t 51)) (some (.t 58)) 1⟩, 
          ⟨some 60, none, .app (.t 47) (.t 59) 1⟩, 
          ⟨some 8, none, .mov (.t 60)⟩] [0, 4, 5, 8, 11] [4, 5])))))
      (.reg false [⟨some 61, none, .bin .add (.t 11) (.c (.p (.int .i64 1)))⟩, 
        ⟨some 11, none, .mov (.t 61)⟩] [0, 4, 5, 8, 11] [4, 5])))))
def ir68 : IFn :=   -- tympan/queue.Take
⟨(.seq (.reg false [⟨some 4, none, .bx (.t 1) 3 true⟩, 
    ⟨some 5, none, .bx (.t 2) 3 true⟩, 
    ⟨some 6, none, .mov (.c (.nils))⟩, 
    ⟨some 7, none, .mov (.c (.p (.bool false)))⟩] [0, 4, 5] [4, 5])
  (.seq (.reg false [⟨some 8, none, .nrow 1⟩] [0, 4, 5, 8] [4, 5])
  (.seq (.seq (.reg false [⟨some 11, none, .mov (.c (.p (.int .i64 0)))⟩] [0, 4, 5, 8, 11] [4, 5])
  (.block 0 lp68_0))
  (.seq (.reg false [⟨some 62, none, .mov (.t 8)⟩, 
    ⟨some 63, none, .call 122 [(.t 62)] false⟩] [8] [])
  (.seq (.reg false [⟨some 64, none, .mov (.t 8)⟩, 
    ⟨some 6, none, .mov (.t 64)⟩, 
    ⟨some 7, none, .mov (.c (.p (.bool true)))⟩] [6, 7] [])
  .ret))))),
  [.tmp 6, .tmp 7], false⟩
def ir69 : IFn :=   -- (tympan/queue.Counts).Add
⟨(.seq (.reg false [⟨some 2, none, .bx (.t 0) 3 true⟩, 
    ⟨some 3, none, .bx (.t 1) 3 true⟩, 
    ⟨some 4, none, .al [.p (.int .i64 0), .p (.int .i64 0), .p (.int .i64 0)] true⟩] [2, 3, 4] [2, 3, 4])
  (.seq (.reg false [⟨some 5, none, .ld (.t 2) 3 true⟩, 
    ⟨some 6, none, .ld (.t 3) 3 true⟩, 
    ⟨some 7, none, .call 123 [(.t 5), (.t 6), (.c (.p (.int .i64 (-1073741824)))), (.c (.p (.fn 124)))] false⟩, 
    ⟨none, none, .st (.t 4) (.t 7) 3⟩] [4] [4])
  .ret)),
  [.cell 4 3 true], false⟩
def ir70 : IFn :=   -- tympan/queue.Next
⟨(.seq (.reg false [⟨some 4, none, .bx (.t 1) 3 true⟩, 
    ⟨some 6, none, .mov (.c (.p (.bool false)))⟩] [0, 2, 4] [4])
  (.seq (.reg true [⟨some 10, none, .mov (.t 0)⟩, 
    ⟨some 11, none, .ldl 4 (.t 4) 3 true⟩, 
    ⟨some 12, none, .mov (.t 0)⟩, 
    ⟨some 13, none, .mov (.t 2)⟩, 
    ⟨some 14, none, .call 71 [(.t 12), (.t 13)] false⟩, 
    ⟨some 15, none, .call 68 [(.t 10), (.t 11), (.t 14)] false⟩, 
    ⟨some 9, none, .mov (.t 15)⟩, 
    ⟨some 16, none, .ext (.t 9) 0⟩, 
    ⟨some 17, none, .ext (.t 9) 1⟩, 
    ⟨some 7, none, .mov (.t 16)⟩, 
    ⟨some 8, none, .mov (.t 17)⟩] [2, 7, 8] [])
  (.seq (.reg false [⟨some 18, none, .mov (.t 8)⟩, 
    ⟨some 19, none, .mov (.t 18)⟩, 
    ⟨some 20, (some (19, true)), .mov (.t 7)⟩, 
    ⟨some 21, (some (19, true)), .mov (.t 2)⟩, 
    ⟨some 22, (some (19, true)), .call 89 [(.t 20), (.t 21)] false⟩, 
    ⟨some 23, none, .pick (.t 19) (.t 22) (.c (.p (.bool false)))⟩, 
    ⟨some 6, none, .mov (.t 23)⟩] [6] [])
  .ret))),
  [.tmp 6], false⟩
def lp71_0 : IC :=
  (.loop [0, 4, 5, 10, 11, 12] [4, 5] (.seq (.reg false [⟨some 13, none, .bin .lss (.t 12) (.t 11)⟩] [0, 4, 5, 10, 11, 12, 13] [4, 5])
      (.seq (.cond (.t 13)
      .skip
      (.exit 0))
      (.seq (.block 1 (.seq (.reg false [⟨some 14, none, .ixs (.t 10) (.t 12) 1⟩, 
          ⟨some 15, none, .ld (.t 14) 1 false⟩, 
          ⟨some 7, none, .mov (.t 15)⟩] [0, 4, 5, 7, 10, 11, 12] [4, 5])
        (.seq (.reg false [⟨some 17, none, .mov (.t 0)⟩, 
          ⟨some 18, none, .mov (.t 7)⟩, 
          ⟨some 19, none, .call 125 [(.t 17), (.t 18)] false⟩, 
          ⟨some 16, none, .mov (.t 19)⟩, 
          ⟨some 20, none, .ext (.t 16) 0⟩, 
          ⟨some 21, none, .ext (.t 16) 1⟩, 
          ⟨some 8, none, .al [.p (.int .i64 0), .p (.int .i64 0), .p (.int .i64 0)] true⟩, 
          ⟨none, none, .st (.t 8) (.t 20) 3⟩, 
          ⟨some 9, none, .mov (.t 21)⟩] [0, 4, 5, 8, 9, 10, 11, 12] [4, 5, 8])
        (.seq (.reg false [⟨some 22, none, .mov (.t 9)⟩, 
          ⟨some 23, none, .mov (.t 22)⟩, 
          ⟨some 24, (some (23, true)), .off (.t 8) 0⟩, 
          ⟨some 25, (some (23, true)), .ld (.t 24) 1 false⟩, 
          ⟨some 26, (some (23, true)), .bin .geq (.t 25) (.c (.p (.int .i64 0)))⟩, 
          ⟨some 27, none, .pick (.t 23) (.t 26) (.c (.p (.bool false)))⟩, 
          ⟨some 28, none, .mov (.t 27)⟩, 
          ⟨some 29, (some (28, true)), .off (.t 8) 0⟩, 
          ⟨some 30, (some (28, true)), .ld (.t 29) 1 false⟩, 
          ⟨some 31, (some (28, true)), .bin .lss (.t 30) (.c (.p (.int .i64 3)))⟩, 
          ⟨some 32, none, .pick (.t 28) (.t 31) (.c (.p (.bool false)))⟩] [0, 4, 5, 8, 10, 11, 12, 32] [4, 5, 8])
        (.cond (.t 32)
        (.reg false [⟨some 33, none, .off (.t 8) 0⟩, 
            ⟨some 34, none, .ld (.t 33) 1 false⟩, 
            ⟨some 35, none, .ixa (.t 5) (.t 34) 1 3⟩, 
            ⟨some 36, none, .ld (.t 35) 1 false⟩, 
            ⟨some 37, none, .bin .add (.t 36) (.c (.p (.int .i64 1)))⟩, 
            ⟨some 38, none, .ixa (.t 5) (.t 34) 1 3⟩, 
            ⟨none, none, .st (.t 38) (.t 37) 1⟩] [0, 4, 5, 10, 11, 12] [4, 5])
        .skip)))))
      (.reg false [⟨some 39, none, .bin .add (.t 12) (.c (.p (.int .i64 1)))⟩, 
        ⟨some 12, none, .mov (.t 39)⟩] [0, 4, 5, 10, 11, 12] [4, 5])))))
def ir71 : IFn :=   -- tympan/queue.Of
⟨(.seq (.reg false [⟨some 4, none, .al [.p (.int .i64 0), .p (.int .i64 0), .p (.int .i64 0)] true⟩] [0, 1, 4] [4])
  (.seq (.reg false [⟨some 5, none, .al [.p (.int .i64 0), .p (.int .i64 0), .p (.int .i64 0)] true⟩] [0, 1, 4, 5] [4, 5])
  (.seq (.seq (.reg false [⟨some 10, none, .mov (.t 1)⟩, 
    ⟨some 11, none, .len (.t 10)⟩, 
    ⟨some 12, none, .mov (.c (.p (.int .i64 0)))⟩] [0, 4, 5, 10, 11, 12] [4, 5])
  (.block 0 lp71_0))
  (.seq (.reg false [⟨some 40, none, .ld (.t 5) 3 true⟩, 
    ⟨none, none, .st (.t 4) (.t 40) 3⟩] [4] [4])
  .ret)))),
  [.cell 4 3 true], false⟩
def lp72_0 : IC :=
  (.loop [2, 3, 4, 5, 6] [2, 3, 4, 5] (.seq (.seq (.reg false [⟨some 7, none, .mov (.t 6)⟩, 
        ⟨some 8, none, .bin .lss (.t 7) (.c (.p (.int .i64 3)))⟩] [2, 3, 4, 5, 6, 8] [2, 3, 4, 5])
      (.cond (.t 8)
      .skip
      (.exit 0)))
      (.seq (.block 1 (.reg true [⟨some 11, none, .mov (.t 6)⟩, 
          ⟨some 12, none, .mov (.t 6)⟩, 
          ⟨some 13, none, .ixa (.t 2) (.t 12) 1 3⟩, 
          ⟨some 14, none, .ldl 2 (.t 13) 1 false⟩, 
          ⟨some 15, none, .call 126 [(.t 14), (.c (.p (.int .i64 (-1073741824)))), (.c (.p (.int .i64 1073741824)))] false⟩, 
          ⟨some 16, none, .mov (.t 6)⟩, 
          ⟨some 17, none, .ixa (.t 3) (.t 16) 1 3⟩, 
          ⟨some 18, none, .ldl 3 (.t 17) 1 false⟩, 
          ⟨some 19, none, .call 126 [(.t 18), (.c (.p (.int .i64 (-1073741824)))), (.c (.p (.int .i64 1073741824)))] false⟩, 
          ⟨some 20, none, .bin .add (.t 15) (.t 19)⟩, 
          ⟨some 21, none, .call 126 [(.t 20), (.c (.p (.int .i64 (-1073741824)))), (.c (.p (.int .i64 1073741824)))] false⟩, 
          ⟨some 22, none, .ixa (.t 5) (.t 11) 1 3⟩, 
          ⟨none, none, .stl 5 (.t 22) (.t 21) 1⟩] [2, 3, 4, 5, 6] [2, 3, 4, 5]))
      (.reg false [⟨some 9, none, .mov (.t 6)⟩, 
        ⟨some 10, none, .bin .add (.t 9) (.c (.p (.int .i64 1)))⟩, 
        ⟨some 6, none, .mov (.t 10)⟩] [2, 3, 4, 5, 6] [2, 3, 4, 5]))))
def ir72 : IFn :=   -- tympan/tympanref23.Add
⟨(.seq (.reg false [⟨some 2, none, .bx (.t 0) 3 true⟩, 
    ⟨some 3, none, .bx (.t 1) 3 true⟩, 
    ⟨some 4, none, .al [.p (.int .i64 0), .p (.int .i64 0), .p (.int .i64 0)] true⟩] [2, 3, 4] [2, 3, 4])
  (.seq (.reg false [⟨some 5, none, .al [.p (.int .i64 0), .p (.int .i64 0), .p (.int .i64 0)] true⟩] [2, 3, 4, 5] [2, 3, 4, 5])
  (.seq (.seq (.reg false [⟨some 6, none, .mov (.c (.p (.int .i64 0)))⟩] [2, 3, 4, 5, 6] [2, 3, 4, 5])
  (.block 0 lp72_0))
  (.seq (.reg false [⟨some 23, none, .ld (.t 5) 3 true⟩, 
    ⟨none, none, .st (.t 4) (.t 23) 3⟩] [4] [4])
  .ret)))),
  [.cell 4 3 true], false⟩
def lp73_0 : IC :=
  (.loop [3, 6, 7] [] (.seq (.reg false [⟨some 8, none, .bin .lss (.t 7) (.c (.p (.int .i64 3)))⟩] [3, 6, 7, 8] [])
      (.seq (.cond (.t 8)
      .skip
      (.exit 0))
      (.seq (.block 1 (.seq (.reg false [⟨some 9, none, .ixv (.t 6) (.t 7) 1 3 false⟩, 
          ⟨some 5, none, .mov (.t 9)⟩] [3, 5, 6, 7] [])
        (.reg false [⟨some 10, none, .mov (.t 3)⟩, 
          ⟨some 11, none, .mov (.t 5)⟩, 
          ⟨some 12, none, .call 127 [(.t 11), (.c (.p (.int .i64 (-1073741824)))), (.c (.p (.int .i64 1073741824)))] false⟩, 
          ⟨some 13, none, .bin .add (.t 10) (.t 12)⟩, 
          ⟨some 3, none, .mov (.t 13)⟩] [3, 6, 7] [])))
      (.reg false [⟨some 14, none, .bin .add (.t 7) (.c (.p (.int .i64 1)))⟩, 
        ⟨some 7, none, .mov (.t 14)⟩] [3, 6, 7] [])))))
def ir73 : IFn :=   -- (tympan/queue.Counts).Sum
⟨(.seq (.reg false [⟨some 1, none, .bx (.t 0) 3 true⟩, 
    ⟨some 2, none, .mov (.c (.p (.int .i64 0)))⟩] [1] [1])
  (.seq (.reg false [⟨some 3, none, .mov (.c (.p (.int .i64 0)))⟩] [1, 3] [1])
  (.seq (.seq (.reg false [⟨some 6, none, .ld (.t 1) 3 true⟩, 
    ⟨some 7, none, .mov (.c (.p (.int .i64 0)))⟩] [3, 6, 7] [])
  (.block 0 lp73_0))
  (.seq (.reg false [⟨some 15, none, .mov (.t 3)⟩, 
    ⟨some 2, none, .mov (.t 15)⟩] [2] [])
  .ret)))),
  [.tmp 2], false⟩
def ir74 : IFn :=   -- tympan/tympanref23.Sum
⟨(.seq (.reg false [⟨some 1, none, .bx (.t 0) 3 true⟩, 
    ⟨some 2, none, .mov (.c (.p (.int .i64 0)))⟩] [1] [1])
  (.seq (.reg true [⟨some 3, none, .ixa (.t 1) (.c (.p (.int .i64 0))) 1 3⟩, 
    ⟨some 4, none, .ldl 1 (.t 3) 1 false⟩, 
    ⟨some 5, none, .call 126 [(.t 4), (.c (.p (.int .i64 (-1073741824)))), (.c (.p (.int .i64 1073741824)))] false⟩, 
    ⟨some 6, none, .ixa (.t 1) (.c (.p (.int .i64 1))) 1 3⟩, 
    ⟨some 7, none, .ldl 1 (.t 6) 1 false⟩, 
    ⟨some 8, none, .call 126 [(.t 7), (.c (.p (.int .i64 (-1073741824)))), (.c (.p (.int .i64 1073741824)))] false⟩, 
    ⟨some 9, none, .bin .add (.t 5) (.t 8)⟩, 
    ⟨some 10, none, .ixa (.t 1) (.c (.p (.int .i64 2))) 1 3⟩, 
    ⟨some 11, none, .ldl 1 (.t 10) 1 false⟩, 
    ⟨some 12, none, .call 126 [(.t 11), (.c (.p (.int .i64 (-1073741824)))), (.c (.p (.int .i64 1073741824)))] false⟩, 
    ⟨some 13, none, .bin .add (.t 9) (.t 12)⟩, 
    ⟨some 2, none, .mov (.t 13)⟩] [2] [])
  .ret)),
  [.tmp 2], false⟩
def lp75_0 : IC :=
  (.loop [3, 7, 8] [3] (.seq (.reg false [⟨some 9, none, .bin .lss (.t 8) (.c (.p (.int .i64 3)))⟩] [3, 7, 8, 9] [3])
      (.seq (.cond (.t 9)
      .skip
      (.exit 0))
      (.seq (.block 1 (.seq (.reg false [⟨some 10, none, .mov (.t 8)⟩, 
          ⟨some 11, none, .ixv (.t 7) (.t 8) 1 3 false⟩, 
          ⟨some 5, none, .mov (.t 10)⟩, 
          ⟨some 6, none, .mov (.t 11)⟩] [3, 5, 6, 7, 8] [3])
        (.seq (.reg false [⟨some 12, none, .mov (.t 6)⟩, 
          ⟨some 13, none, .mov (.t 5)⟩, 
          ⟨some 14, none, .ixa (.t 3) (.t 13) 1 3⟩, 
          ⟨some 15, none, .ld (.t 14) 1 false⟩, 
          ⟨some 16, none, .bin .gtr (.t 12) (.t 15)⟩] [3, 7, 8, 16] [3])
        (.cond (.t 16)
        (.seq (.reg false [⟨some 4, none, .mov (.c (.p (.bool false)))⟩] [4] [])
          .ret)
        .skip))))
      (.reg false [⟨some 17, none, .bin .add (.t 8) (.c (.p (.int .i64 1)))⟩, 
        ⟨some 8, none, .mov (.t 17)⟩] [3, 7, 8] [3])))))
def ir75 : IFn :=   -- (tympan/queue.Counts).Within
⟨(.seq (.reg false [⟨some 2, none, .bx (.t 0) 3 true⟩, 
    ⟨some 3, none, .bx (.t 1) 3 true⟩, 
    ⟨some 4, none, .mov (.c (.p (.bool false)))⟩] [2, 3] [2, 3])
  (.seq (.seq (.reg false [⟨some 7, none, .ld (.t 2) 3 true⟩, 
    ⟨some 8, none, .mov (.c (.p (.int .i64 0)))⟩] [3, 7, 8] [3])
  (.block 0 lp75_0))
  (.seq (.reg false [⟨some 4, none, .mov (.c (.p (.bool true)))⟩] [4] [])
  .ret))),
  [.tmp 4], false⟩
def ir76 : IFn :=   -- tympan/tympanref23.Within
⟨(.seq (.reg false [⟨some 2, none, .bx (.t 0) 3 true⟩, 
    ⟨some 3, none, .bx (.t 1) 3 true⟩, 
    ⟨some 4, none, .mov (.c (.p (.bool false)))⟩] [2, 3] [2, 3])
  (.seq (.reg false [⟨some 5, none, .ixa (.t 2) (.c (.p (.int .i64 0))) 1 3⟩, 
    ⟨some 6, none, .ld (.t 5) 1 false⟩, 
    ⟨some 7, none, .ixa (.t 3) (.c (.p (.int .i64 0))) 1 3⟩, 
    ⟨some 8, none, .ld (.t 7) 1 false⟩, 
    ⟨some 9, none, .bin .leq (.t 6) (.t 8)⟩, 
    ⟨some 10, none, .mov (.t 9)⟩, 
    ⟨some 11, (some (10, true)), .ixa (.t 2) (.c (.p (.int .i64 1))) 1 3⟩, 
    ⟨some 12, (some (10, true)), .ld (.t 11) 1 false⟩, 
    ⟨some 13, (some (10, true)), .ixa (.t 3) (.c (.p (.int .i64 1))) 1 3⟩, 
    ⟨some 14, (some (10, true)), .ld (.t 13) 1 false⟩, 
    ⟨some 15, (some (10, true)), .bin .leq (.t 12) (.t 14)⟩, 
    ⟨some 16, none, .pick (.t 10) (.t 15) (.c (.p (.bool false)))⟩, 
    ⟨some 17, none, .mov (.t 16)⟩, 
    ⟨some 18, (some (17, true)), .ixa (.t 2) (.c (.p (.int .i64 2))) 1 3⟩, 
    ⟨some 19, (some (17, true)), .ld (.t 18) 1 false⟩, 
    ⟨some 20, (some (17, true)), .ixa (.t 3) (.c (.p (.int .i64 2))) 1 3⟩, 
    ⟨some 21, (some (17, true)), .ld (.t 20) 1 false⟩, 
    ⟨some 22, (some (17, true)), .bin .leq (.t 19) (.t 21)⟩, 
    ⟨some 23, none, .pick (.t 17) (.t 22) (.c (.p (.bool false)))⟩, 
    ⟨some 4, none, .mov (.t 23)⟩] [4] [])
  .ret)),
  [.tmp 4], false⟩
def ir77 : IFn :=   -- tympan/queue.Ready
⟨(.seq (.reg false [⟨some 2, none, .bx (.t 0) 3 true⟩, 
    ⟨some 3, none, .bx (.t 1) 3 true⟩, 
    ⟨some 4, none, .al [.p (.int .i64 0), .p (.int .i64 0), .p (.int .i64 0)] true⟩] [2, 3, 4] [2, 3, 4])
  (.seq (.reg false [⟨some 5, none, .ld (.t 2) 3 true⟩, 
    ⟨some 6, none, .ld (.t 3) 3 true⟩, 
    ⟨some 7, none, .call 123 [(.t 5), (.t 6), (.c (.p (.int .i64 0))), (.c (.p (.fn 128)))] false⟩, 
    ⟨none, none, .st (.t 4) (.t 7) 3⟩] [4] [4])
  .ret)),
  [.cell 4 3 true], false⟩
def lp78_0 : IC :=
  (.loop [2, 3, 4, 5, 6] [2, 3, 4, 5] (.seq (.seq (.reg false [⟨some 7, none, .mov (.t 6)⟩, 
        ⟨some 8, none, .bin .lss (.t 7) (.c (.p (.int .i64 3)))⟩] [2, 3, 4, 5, 6, 8] [2, 3, 4, 5])
      (.cond (.t 8)
      .skip
      (.exit 0)))
      (.seq (.block 1 (.reg true [⟨some 11, none, .mov (.t 6)⟩, 
          ⟨some 12, none, .mov (.t 6)⟩, 
          ⟨some 13, none, .ixa (.t 3) (.t 12) 1 3⟩, 
          ⟨some 14, none, .ldl 3 (.t 13) 1 false⟩, 
          ⟨some 15, none, .call 126 [(.t 14), (.c (.p (.int .i64 0))), (.c (.p (.int .i64 1073741824)))] false⟩, 
          ⟨some 16, none, .mov (.t 6)⟩, 
          ⟨some 17, none, .ixa (.t 2) (.t 16) 1 3⟩, 
          ⟨some 18, none, .ldl 2 (.t 17) 1 false⟩, 
          ⟨some 19, none, .call 126 [(.t 18), (.c (.p (.int .i64 0))), (.c (.p (.int .i64 1073741824)))] false⟩, 
          ⟨some 20, none, .bin .sub (.t 15) (.t 19)⟩, 
          ⟨some 21, none, .mnmx true (.c (.p (.int .i64 0))) (.t 20)⟩, 
          ⟨some 22, none, .ixa (.t 5) (.t 11) 1 3⟩, 
          ⟨none, none, .stl 5 (.t 22) (.t 21) 1⟩] [2, 3, 4, 5, 6] [2, 3, 4, 5]))
      (.reg false [⟨some 9, none, .mov (.t 6)⟩, 
        ⟨some 10, none, .bin .add (.t 9) (.c (.p (.int .i64 1)))⟩, 
        ⟨some 6, none, .mov (.t 10)⟩] [2, 3, 4, 5, 6] [2, 3, 4, 5]))))
def ir78 : IFn :=   -- tympan/tympanref23.Ready
⟨(.seq (.reg false [⟨some 2, none, .bx (.t 0) 3 true⟩, 
    ⟨some 3, none, .bx (.t 1) 3 true⟩, 
    ⟨some 4, none, .al [.p (.int .i64 0), .p (.int .i64 0), .p (.int .i64 0)] true⟩] [2, 3, 4] [2, 3, 4])
  (.seq (.reg false [⟨some 5, none, .al [.p (.int .i64 0), .p (.int .i64 0), .p (.int .i64 0)] true⟩] [2, 3, 4, 5] [2, 3, 4, 5])
  (.seq (.seq (.reg false [⟨some 6, none, .mov (.c (.p (.int .i64 0)))⟩] [2, 3, 4, 5, 6] [2, 3, 4, 5])
  (.block 0 lp78_0))
  (.seq (.reg false [⟨some 23, none, .ld (.t 5) 3 true⟩, 
    ⟨none, none, .st (.t 4) (.t 23) 3⟩] [4] [4])
  .ret)))),
  [.cell 4 3 true], false⟩
def lp79_0 : IC :=
  (.loop [1, 2, 11, 12] [2] (.seq (.reg false [⟨some 13, none, .bin .lss (.t 12) (.c (.p (.int .i64 3)))⟩] [1, 2, 11, 12, 13] [2])
      (.seq (.cond (.t 13)
      .skip
      (.exit 0))
      (.seq (.block 1 (.seq (.reg false [⟨some 14, none, .mov (.t 12)⟩, 
          ⟨some 15, none, .ixv (.t 11) (.t 12) 1 3 false⟩, 
          ⟨some 5, none, .mov (.t 14)⟩, 
          ⟨some 6, none, .mov (.t 15)⟩] [1, 2, 5, 6, 11, 12] [2])
        (.reg false [⟨some 16, none, .mov (.t 5)⟩, 
          ⟨some 17, none, .mov (.t 6)⟩, 
          ⟨some 18, none, .mnmx false (.t 17) (.c (.p (.int .i64 32)))⟩, 
          ⟨some 19, none, .ixa (.t 2) (.t 16) 1 3⟩, 
          ⟨none, none, .st (.t 19) (.t 18) 1⟩] [1, 2, 11, 12] [2])))
      (.reg false [⟨some 20, none, .bin .add (.t 12) (.c (.p (.int .i64 1)))⟩, 
        ⟨some 12, none, .mov (.t 20)⟩] [1, 2, 11, 12] [2])))))
def lp79_1 : IC :=
  (.loop [1, 2, 7, 8, 9, 10] [2, 8] (.seq (.seq (.reg true [⟨some 43, none, .mov (.t 10)⟩, 
              ⟨some 44, none, .bin .geq (.t 43) (.c (.p (.int .i64 0)))⟩, 
              ⟨some 45, none, .mov (.t 44)⟩, 
              ⟨some 46, (some (45, true)), .mov (.t 7)⟩, 
              ⟨some 47, (some (45, true)), .ldl 8 (.t 8) 3 true⟩, 
              ⟨some 48, (some (45, true)), .mov (.t 10)⟩, 
              ⟨some 49, (some (45, true)), .call 129 [(.t 47), (.t 48)] false⟩, 
              ⟨some 50, (some (45, true)), .ldl 2 (.t 2) 3 true⟩, 
              ⟨some 51, (some (45, true)), .callv (.t 46) [(.t 49), (.t 50)] false⟩, 
              ⟨some 52, (some (45, true)), .un .not (.t 51)⟩, 
              ⟨some 53, none, .pick (.t 45) (.t 52) (.c (.p (.bool false)))⟩] [1, 2, 7, 8, 9, 10, 53] [2, 8])
            (.cond (.t 53)
            .skip
            (.exit 4)))
            (.block 5 (.reg false [⟨some 54, none, .mov (.t 10)⟩, 
                ⟨some 55, none, .bin .sub (.t 54) (.c (.p (.int .i64 1)))⟩, 
                ⟨some 10, none, .mov (.t 55)⟩] [1, 2, 7, 8, 9, 10] [2, 8]))))
def lp79_2 : IC :=
  (.loop [1, 2, 7, 8, 9] [2, 8] (.block 3 (.seq (.seq (.reg false [⟨some 35, none, .ld (.t 8) 3 true⟩, 
          ⟨some 36, none, .call 73 [(.t 35)] false⟩, 
          ⟨some 37, none, .mov (.t 1)⟩, 
          ⟨some 38, none, .bin .leq (.t 36) (.t 37)⟩] [1, 2, 7, 8, 9, 38] [2, 8])
        (.cond (.t 38)
        (.reg false [⟨some 39, none, .mov (.t 9)⟩, 
            ⟨some 40, none, .ld (.t 8) 3 true⟩, 
            ⟨some 41, none, .bsl 3 1 [.p (.int .i64 0), .p (.int .i64 0), .p (.int .i64 0)] [(0, (.t 40))]⟩, 
            ⟨some 42, none, .app (.t 39) (.t 41) 3⟩, 
            ⟨some 9, none, .mov (.t 42)⟩] [1, 2, 7, 8, 9] [2, 8])
        .skip))
        (.seq (.reg false [⟨some 10, none, .mov (.c (.p (.int .i64 2)))⟩] [1, 2, 7, 8, 9, 10] [2, 8])
        (.seq (.block 4 lp79_1)
        (.seq (.seq (.reg false [⟨some 56, none, .mov (.t 10)⟩, 
          ⟨some 57, none, .bin .lss (.t 56) (.c (.p (.int .i64 0)))⟩] [1, 2, 7, 8, 9, 10, 57] [2, 8])
        (.cond (.t 57)
        (.seq (.reg false [⟨some 58, none, .mov (.t 9)⟩, 
            ⟨some 4, none, .mov (.t 58)⟩] [4] [])
          .ret)
        .skip))
        (.reg false [⟨some 59, none, .ld (.t 8) 3 true⟩, 
          ⟨some 60, none, .mov (.t 10)⟩, 
          ⟨some 61, none, .call 129 [(.t 59), (.t 60)] false⟩, 
          ⟨none, none, .st (.t 8) (.t 61) 3⟩] [1, 2, 7, 8, 9] [2, 8])))))))
def ir79 : IFn :=   -- tympan/queue.Up
⟨(.seq (.reg false [⟨some 2, none, .bx (.t 0) 3 true⟩, 
    ⟨some 4, none, .mov (.c (.nils))⟩] [1, 2] [2])
  (.seq (.seq (.reg false [⟨some 11, none, .ld (.t 2) 3 true⟩, 
    ⟨some 12, none, .mov (.c (.p (.int .i64 0)))⟩] [1, 2, 11, 12] [2])
  (.block 0 lp79_0))
  (.seq (.seq (.reg false [⟨some 21, none, .ld (.t 2) 3 true⟩, 
    ⟨some 22, none, .bld [.p (.int .i64 0), .p (.int .i64 0), .p (.int .i64 0)] []⟩, 
    ⟨some 23, none, .eqa false [true, true, true] (.t 21) (.t 22)⟩, 
    ⟨some 24, none, .mov (.t 23)⟩, 
    ⟨some 25, (some (24, true)), .mov (.t 1)⟩, 
    ⟨some 26, (some (24, true)), .bin .geq (.t 25) (.c (.p (.int .i64 0)))⟩, 
    ⟨some 27, none, .pick (.t 24) (.t 26) (.c (.p (.bool false)))⟩] [1, 2, 27] [2])
  (.cond (.t 27)
  (.seq (.reg false [⟨some 28, none, .bld [.p (.int .i64 0), .p (.int .i64 0), .p (.int .i64 0)] []⟩, 
      ⟨some 29, none, .bsl 3 1 [.p (.int .i64 0), .p (.int .i64 0), .p (.int .i64 0)] [(0, (.t 28))]⟩, 
      ⟨some 4, none, .mov (.t 29)⟩] [4] [])
    .ret)
  .skip))
  (.seq (.reg false [⟨some 7, none, .mov (.c (.p (.fn 75)))⟩] [1, 2, 7] [2])
  (.seq (.reg false [⟨some 8, none, .al [.p (.int .i64 0), .p (.int .i64 0), .p (.int .i64 0)] true⟩] [1, 2, 7, 8] [2, 8])
  (.seq (.seq (.reg false [⟨some 30, none, .mov (.t 7)⟩, 
    ⟨some 31, none, .ld (.t 8) 3 true⟩, 
    ⟨some 32, none, .ld (.t 2) 3 true⟩, 
    ⟨some 33, none, .callv (.t 30) [(.t 31), (.t 32)] false⟩, 
    ⟨some 34, none, .un .not (.t 33)⟩] [1, 2, 7, 8, 34] [2, 8])
  (.cond (.t 34)
  (.seq (.reg false [⟨some 4, none, .mov (.c (.nils))⟩] [4] [])
    .ret)
  .skip))
  (.seq (.reg false [⟨some 9, none, .nrow 3⟩] [1, 2, 7, 8, 9] [2, 8])
  (.block 2 lp79_2)))))))),
  [.tmp 4], false⟩
def lp80_0 : IC :=
  (.loop [1, 2, 5, 6, 7, 8] [2] (.seq (.seq (.reg false [⟨some 23, none, .mov (.t 8)⟩, 
                    ⟨some 24, none, .ixa (.t 2) (.c (.p (.int .i64 2))) 1 3⟩, 
                    ⟨some 25, none, .ld (.t 24) 1 false⟩, 
                    ⟨some 26, none, .mnmx false (.t 25) (.c (.p (.int .i64 32)))⟩, 
                    ⟨some 27, none, .bin .leq (.t 23) (.t 26)⟩] [1, 2, 5, 6, 7, 8, 27] [2])
                  (.cond (.t 27)
                  .skip
                  (.exit 4)))
                  (.seq (.block 5 (.seq (.reg false [⟨some 30, none, .mov (.t 6)⟩, 
                      ⟨some 31, none, .mov (.t 7)⟩, 
                      ⟨some 32, none, .bin .add (.t 30) (.t 31)⟩, 
                      ⟨some 33, none, .mov (.t 8)⟩, 
                      ⟨some 34, none, .bin .add (.t 32) (.t 33)⟩, 
                      ⟨some 35, none, .mov (.t 1)⟩, 
                      ⟨some 36, none, .bin .leq (.t 34) (.t 35)⟩] [1, 2, 5, 6, 7, 8, 36] [2])
                    (.cond (.t 36)
                    (.reg false [⟨some 37, none, .mov (.t 5)⟩, 
                        ⟨some 38, none, .mov (.t 6)⟩, 
                        ⟨some 39, none, .mov (.t 7)⟩, 
                        ⟨some 40, none, .mov (.t 8)⟩, 
                        ⟨some 41, none, .bld [.p (.int .i64 0), .p (.int .i64 0), .p (.int .i64 0)] [(0, 1, (.t 38)), (1, 1, (.t 39)), (2, 1, (.t 40))]⟩, 
                        ⟨some 42, none, .bsl 3 1 [.p (.int .i64 0), .p (.int .i64 0), .p (.int .i64 0)] [(0, (.t 41))]⟩, 
                        ⟨some 43, none, .app (.t 37) (.t 42) 3⟩, 
                        ⟨some 5, none, .mov (.t 43)⟩] [1, 2, 5, 6, 7, 8] [2])
                    .skip)))
                  (.reg false [⟨some 28, none, .mov (.t 8)⟩, 
                    ⟨some 29, none, .bin .add (.t 28) (.c (.p (.int .i64 1)))⟩, 
                    ⟨some 8, none, .mov (.t 29)⟩] [1, 2, 5, 6, 7, 8] [2]))))
def lp80_1 : IC :=
  (.loop [1, 2, 5, 6, 7] [2] (.seq (.seq (.reg false [⟨some 16, none, .mov (.t 7)⟩, 
              ⟨some 17, none, .ixa (.t 2) (.c (.p (.int .i64 1))) 1 3⟩, 
              ⟨some 18, none, .ld (.t 17) 1 false⟩, 
              ⟨some 19, none, .mnmx false (.t 18) (.c (.p (.int .i64 32)))⟩, 
              ⟨some 20, none, .bin .leq (.t 16) (.t 19)⟩] [1, 2, 5, 6, 7, 20] [2])
            (.cond (.t 20)
            .skip
            (.exit 2)))
            (.seq (.block 3 (.seq (.reg false [⟨some 8, none, .mov (.c (.p (.int .i64 0)))⟩] [1, 2, 5, 6, 7, 8] [2])
              (.block 4 lp80_0)))
            (.reg false [⟨some 21, none, .mov (.t 7)⟩, 
              ⟨some 22, none, .bin .add (.t 21) (.c (.p (.int .i64 1)))⟩, 
              ⟨some 7, none, .mov (.t 22)⟩] [1, 2, 5, 6, 7] [2]))))
def lp80_2 : IC :=
  (.loop [1, 2, 5, 6] [2] (.seq (.seq (.reg false [⟨some 9, none, .mov (.t 6)⟩, 
        ⟨some 10, none, .ixa (.t 2) (.c (.p (.int .i64 0))) 1 3⟩, 
        ⟨some 11, none, .ld (.t 10) 1 false⟩, 
        ⟨some 12, none, .mnmx false (.t 11) (.c (.p (.int .i64 32)))⟩, 
        ⟨some 13, none, .bin .leq (.t 9) (.t 12)⟩] [1, 2, 5, 6, 13] [2])
      (.cond (.t 13)
      .skip
      (.exit 0)))
      (.seq (.block 1 (.seq (.reg false [⟨some 7, none, .mov (.c (.p (.int .i64 0)))⟩] [1, 2, 5, 6, 7] [2])
        (.block 2 lp80_1)))
      (.reg false [⟨some 14, none, .mov (.t 6)⟩, 
        ⟨some 15, none, .bin .add (.t 14) (.c (.p (.int .i64 1)))⟩, 
        ⟨some 6, none, .mov (.t 15)⟩] [1, 2, 5, 6] [2]))))
def ir80 : IFn :=   -- tympan/tympanref23.Up
⟨(.seq (.reg false [⟨some 2, none, .bx (.t 0) 3 true⟩, 
    ⟨some 4, none, .mov (.c (.nils))⟩] [1, 2] [2])
  (.seq (.reg false [⟨some 5, none, .nrow 3⟩] [1, 2, 5] [2])
  (.seq (.seq (.reg false [⟨some 6, none, .mov (.c (.p (.int .i64 0)))⟩] [1, 2, 5, 6] [2])
  (.block 0 lp80_2))
  (.seq (.reg false [⟨some 44, none, .mov (.t 5)⟩, 
    ⟨some 4, none, .mov (.t 44)⟩] [4] [])
  .ret)))),
  [.tmp 4], false⟩
def ir81 : IFn :=   -- tympan/tympanlaw24.awake
⟨(.seq (.reg false [⟨some 0, none, .mov (.c (.p (.bool false)))⟩] [] [])
  (.seq (.reg false [⟨some 4, none, .bld [.p (.int .i64 0), .p (.int .i64 0), .p (.int .i64 0)] [(1, 1, (.c (.p (.int .i64 3)))), (2, 1, (.c (.p (.int .i64 3))))]⟩, 
    ⟨some 5, none, .bld [.p (.int .i64 0), .p (.int .i64 0), .p (.int .i64 0)] [(1, 1, (.c (.p (.int .i64 4)))), (2, 1, (.c (.p (.int .i64 3))))]⟩, 
    ⟨some 6, none, .bsl 3 2 [.p (.int .i64 0), .p (.int .i64 0), .p (.int .i64 0)] [(0, (.t 4)), (1, (.t 5))]⟩, 
    ⟨some 1, none, .mov (.t 6)⟩] [1] [])
  (.seq (.reg false [⟨some 7, none, .bld [.p (.int .i64 0), .p (.int .i64 0), .p (.int .i64 0), .p (.int .i64 0), .p (.int .i64 0), .p (.int .i64 0), .p (.int .i64 0), .p (.int .i64 0), .p (.int .i64 0), .p (.int .i64 0), .p (.int .i64 0), .p (.int .i64 0), .p (.int .i64 0), .p (.int .i64 0), .p (.int .i64 0), .p (.int .i64 0), .p (.int .i64 0), .p (.int .i64 0), .p (.bool false)] [(11, 1, (.c (.p (.int .i64 1)))), (12, 1, (.c (.p (.int .i64 1)))), (9, 1, (.c (.p (.int .i64 9)))), (10, 1, (.c (.p (.int .i64 9)))), (7, 1, (.c (.p (.int .i64 1))))]⟩, 
    ⟨some 2, none, .al [.p (.int .i64 0), .p (.int .i64 0), .p (.int .i64 0), .p (.int .i64 0), .p (.int .i64 0), .p (.int .i64 0), .p (.int .i64 0), .p (.int .i64 0), .p (.int .i64 0), .p (.int .i64 0), .p (.int .i64 0), .p (.int .i64 0), .p (.int .i64 0), .p (.int .i64 0), .p (.int .i64 0), .p (.int .i64 0), .p (.int .i64 0), .p (.int .i64 0), .p (.bool false)] true⟩, 
    ⟨none, none, .st (.t 2) (.t 7) 19⟩] [1, 2] [2])
  (.seq (.reg false [⟨some 8, none, .ld (.t 2) 19 true⟩, 
    ⟨some 9, none, .mov (.t 1)⟩, 
    ⟨some 10, none, .bld [.p (.int .i64 0), .p (.int .i64 0), .p (.int .i64 0)] []⟩, 
    ⟨some 11, none, .bld [.p (.int .i64 0), .p (.int .i64 0), .p (.int .i64 0)] [(0, 1, (.c (.p (.int .i64 2)))), (1, 1, (.c (.p (.int .i64 0)))), (2, 1, (.c (.p (.int .i64 0))))]⟩, 
    ⟨some 12, none, .call 82 [(.t 8), (.t 9), (.t 10), (.t 11)] false⟩, 
    ⟨some 3, none, .mov (.t 12)⟩] [1, 2, 3] [2])
  (.seq (.reg true [⟨some 13, none, .mov (.t 3)⟩, 
    ⟨some 14, none, .len (.t 13)⟩, 
    ⟨some 15, none, .bin .eql (.t 14) (.c (.p (.int .i64 4)))⟩, 
    ⟨some 16, none, .mov (.t 15)⟩, 
    ⟨some 17, (some (16, true)), .mov (.t 3)⟩, 
    ⟨some 18, (some (16, true)), .ixs (.t 17) (.c (.p (.int .i64 1))) 2⟩, 
    ⟨some 19, (some (16, true)), .off (.t 18) 1⟩, 
    ⟨some 20, (some (16, true)), .ld (.t 19) 1 false⟩, 
    ⟨some 21, (some (16, true)), .len (.t 20)⟩, 
    ⟨some 22, (some (16, true)), .bin .eql (.t 21) (.c (.p (.int .i64 1)))⟩, 
    ⟨some 23, none, .pick (.t 16) (.t 22) (.c (.p (.bool false)))⟩, 
    ⟨some 24, none, .mov (.t 23)⟩, 
    ⟨some 25, (some (24, true)), .ldl 2 (.t 2) 19 true⟩, 
    ⟨some 26, (some (24, true)), .mov (.t 1)⟩, 
    ⟨some 27, (some (24, true)), .mov (.t 3)⟩, 
    ⟨some 28, (some (24, true)), .ixs (.t 27) (.c (.p (.int .i64 3))) 2⟩, 
    ⟨some 29, (some (24, true)), .ld (.t 28) 2 true⟩, 
    ⟨some 30, (some (24, true)), .call 130 [(.t 25), (.t 26), (.t 29)] false⟩, 
    ⟨some 31, (some (24, true)), .bin .eql (.t 30) (.c (.p (.int .i64 9)))⟩, 
    ⟨some 32, none, .pick (.t 24) (.t 31) (.c (.p (.bool false)))⟩, 
    ⟨some 33, none, .mov (.t 32)⟩, 
    ⟨some 34, (some (33, true)), .ldl 2 (.t 2) 19 true⟩, 
    ⟨some 35, (some (33, true)), .mov (.t 1)⟩, 
    ⟨some 36, (some (33, true)), .bsl 1 2 [.p (.int .i64 0)] [(0, (.c (.p (.int .i64 0)))), (1, (.c (.p (.int .i64 1))))]⟩, 
    ⟨some 37, (some (33, true)), .call 131 [(.t 34), (.t 35), (.t 36)] false⟩, 
    ⟨some 38, (some (33, true)), .bin .eql (.t 37) (.c (.p (.int .i64 8)))⟩, 
    ⟨some 39, none, .pick (.t 33) (.t 38) (.c (.p (.bool false)))⟩, 
    ⟨some 40, none, .mov (.t 39)⟩, 
    ⟨some 41, (some (40, true)), .ldl 2 (.t 2) 19 true⟩, 
    ⟨some 42, (some (40, true)), .mov (.t 1)⟩, 
    ⟨some 43, (some (40, true)), .bld [.p (.int .i64 0), .p (.int .i64 0), .p (.int .i64 0)] []⟩, 
    ⟨some 44, (some (40, true)), .bld [.p (.int .i64 0), .p (.int .i64 0), .p (.int .i64 0)] [(0, 1, (.c (.p (.int .i64 2)))), (1, 1, (.c (.p (.int .i64 0)))), (2, 1, (.c (.p (.int .i64 0))))]⟩, 
    ⟨some 45, (some (40, true)), .call 132 [(.t 41), (.t 42), (.t 43), (.t 44), (.c (.p (.int .i64 8)))] false⟩, 
    ⟨some 46, (some (40, true)), .len (.t 45)⟩, 
    ⟨some 47, (some (40, true)), .bin .eql (.t 46) (.c (.p (.int .i64 2)))⟩, 
    ⟨some 48, none, .pick (.t 40) (.t 47) (.c (.p (.bool false)))⟩, 
    ⟨some 0, none, .mov (.t 48)⟩] [0] [])
  .ret))))),
  [.tmp 0], false⟩
def lp82_0 : IC :=
  (.loop [1, 4, 6, 7, 9, 10, 11, 13, 14, 31, 32, 33, 61, 62, 63] [4, 6, 7, 10, 11, 13] (.seq (.reg false [⟨some 64, none, .bin .lss (.t 63) (.t 62)⟩] [1, 4, 6, 7, 9, 10, 11, 13, 14, 31, 32, 33, 61, 62, 63, 64] [4, 6, 7, 10, 11, 13])
              (.seq (.cond (.t 64)
              .skip
              (.exit 2))
              (.seq (.block 3 (.seq (.reg false [⟨some 65, none, .ixs (.t 61) (.t 63) 3⟩, 
                  ⟨some 66, none, .ld (.t 65) 3 true⟩, 
                  ⟨some 17, none, .al [.p (.int .i64 0), .p (.int .i64 0), .p (.int .i64 0)] true⟩, 
                  ⟨none, none, .st (.t 17) (.t 66) 3⟩] [1, 4, 6, 7, 9, 10, 11, 13, 14, 17, 31, 32, 33, 61, 62, 63] [4, 6, 7, 10, 11, 13, 17])
                (.seq (.reg true [⟨some 68, none, .mov (.t 1)⟩, 
                  ⟨some 69, none, .ldl 6 (.t 6) 3 true⟩, 
                  ⟨some 70, none, .ldl 13 (.t 13) 3 true⟩, 
                  ⟨some 71, none, .call 69 [(.t 69), (.t 70)] false⟩, 
                  ⟨some 72, none, .ldl 17 (.t 17) 3 true⟩, 
                  ⟨some 73, none, .call 68 [(.t 68), (.t 71), (.t 72)] false⟩, 
                  ⟨some 67, none, .mov (.t 73)⟩, 
                  ⟨some 74, none, .ext (.t 67) 0⟩, 
                  ⟨some 75, none, .ext (.t 67) 1⟩, 
                  ⟨some 18, none, .mov (.t 74)⟩, 
                  ⟨some 19, none, .mov (.t 75)⟩] [1, 4, 6, 7, 9, 10, 11, 13, 14, 18, 19, 31, 32, 33, 61, 62, 63] [4, 6, 7, 10, 11, 13])
                (.seq (.reg false [⟨some 76, none, .mov (.t 19)⟩, 
                  ⟨some 77, none, .mov (.t 76)⟩, 
                  ⟨some 78, (some (77, true)), .ld (.t 11) 3 true⟩, 
                  ⟨some 79, (some (77, true)), .ld (.t 4) 19 true⟩, 
                  ⟨some 80, (some (77, true)), .mov (.t 1)⟩, 
                  ⟨some 81, (some (77, true)), .mov (.t 18)⟩, 
                  ⟨some 82, (some (77, true)), .call 136 [(.t 78), (.t 79), (.t 80), (.t 81)] false⟩, 
                  ⟨some 83, none, .pick (.t 77) (.t 82) (.c (.p (.bool false)))⟩] [1, 4, 6, 7, 9, 10, 11, 13, 14, 18, 31, 32, 33, 61, 62, 63, 83] [4, 6, 7, 10, 11, 13])
                (.cond (.t 83)
                (.reg false [⟨some 84, none, .mov (.t 9)⟩, 
                    ⟨some 85, none, .mov (.t 14)⟩, 
                    ⟨some 86, none, .mov (.t 18)⟩, 
                    ⟨some 87, none, .bld [.nils, .nils] [(0, 1, (.t 85)), (1, 1, (.t 86))]⟩, 
                    ⟨some 88, none, .bsl 2 1 [.nils, .nils] [(0, (.t 87))]⟩, 
                    ⟨some 89, none, .app (.t 84) (.t 88) 2⟩, 
                    ⟨some 9, none, .mov (.t 89)⟩] [1, 4, 6, 7, 9, 10, 11, 13, 14, 31, 32, 33, 61, 62, 63] [4, 6, 7, 10, 11, 13])
                .skip)))))
              (.reg false [⟨some 90, none, .bin .add (.t 63) (.c (.p (.int .i64 1)))⟩, 
                ⟨some 63, none, .mov (.t 90)⟩] [1, 4, 6, 7, 9, 10, 11, 13, 14, 31, 32, 33, 61, 62, 63] [4, 6, 7, 10, 11, 13])))))
def lp82_1 : IC :=
  (.loop [1, 4, 6, 7, 9, 10, 11, 31, 32, 33] [4, 6, 7, 10, 11] (.seq (.reg false [⟨some 34, none, .bin .lss (.t 33) (.t 32)⟩] [1, 4, 6, 7, 9, 10, 11, 31, 32, 33, 34] [4, 6, 7, 10, 11])
        (.seq (.cond (.t 34)
        .skip
        (.exit 0))
        (.seq (.block 1 (.seq (.reg false [⟨some 35, none, .ixs (.t 31) (.t 33) 3⟩, 
            ⟨some 36, none, .ld (.t 35) 3 true⟩, 
            ⟨some 13, none, .al [.p (.int .i64 0), .p (.int .i64 0), .p (.int .i64 0)] true⟩, 
            ⟨none, none, .st (.t 13) (.t 36) 3⟩] [1, 4, 6, 7, 9, 10, 11, 13, 31, 32, 33] [4, 6, 7, 10, 11, 13])
          (.seq (.reg false [⟨some 38, none, .mov (.t 1)⟩, 
            ⟨some 39, none, .ld (.t 6) 3 true⟩, 
            ⟨some 40, none, .ld (.t 13) 3 true⟩, 
            ⟨some 41, none, .call 68 [(.t 38), (.t 39), (.t 40)] false⟩, 
            ⟨some 37, none, .mov (.t 41)⟩, 
            ⟨some 42, none, .ext (.t 37) 0⟩, 
            ⟨some 43, none, .ext (.t 37) 1⟩, 
            ⟨some 14, none, .mov (.t 42)⟩, 
            ⟨some 15, none, .mov (.t 43)⟩] [1, 4, 6, 7, 9, 10, 11, 13, 14, 15, 31, 32, 33] [4, 6, 7, 10, 11, 13])
          (.seq (.seq (.reg false [⟨some 44, none, .mov (.t 15)⟩, 
            ⟨some 45, none, .un .not (.t 44)⟩, 
            ⟨some 46, none, .mov (.t 45)⟩, 
            ⟨some 47, (some (46, false)), .ld (.t 10) 3 true⟩, 
            ⟨some 48, (some (46, false)), .ld (.t 4) 19 true⟩, 
            ⟨some 49, (some (46, false)), .mov (.t 1)⟩, 
            ⟨some 50, (some (46, false)), .mov (.t 14)⟩, 
            ⟨some 51, (some (46, false)), .call 136 [(.t 47), (.t 48), (.t 49), (.t 50)] false⟩, 
            ⟨some 52, (some (46, false)), .un .not (.t 51)⟩, 
            ⟨some 53, none, .pick (.t 46) (.c (.p (.bool true))) (.t 52)⟩] [1, 4, 6, 7, 9, 10, 11, 13, 14, 31, 32, 33, 53] [4, 6, 7, 10, 11, 13])
          (.cond (.t 53)
          (.exit 1)
          .skip))
          (.seq (.reg true [⟨some 54, none, .ldl 13 (.t 13) 3 true⟩, 
            ⟨some 55, none, .ldl 7 (.t 7) 3 true⟩, 
            ⟨some 56, none, .call 77 [(.t 54), (.t 55)] false⟩, 
            ⟨some 57, none, .off (.t 4) 12⟩, 
            ⟨some 58, none, .ldl 4 (.t 57) 1 false⟩, 
            ⟨some 59, none, .mnmx false (.t 58) (.c (.p (.int .i64 48)))⟩, 
            ⟨some 60, none, .mnmx true (.t 59) (.c (.p (.int .i64 0)))⟩, 
            ⟨some 61, none, .call 79 [(.t 56), (.t 60)] false⟩, 
            ⟨some 62, none, .len (.t 61)⟩, 
            ⟨some 63, none, .mov (.c (.p (.int .i64 0)))⟩] [1, 4, 6, 7, 9, 10, 11, 13, 14, 31, 32, 33, 61, 62, 63] [4, 6, 7, 10, 11, 13])
          (.block 2 lp82_0))))))
        (.reg false [⟨some 91, none, .bin .add (.t 33) (.c (.p (.int .i64 1)))⟩, 
          ⟨some 33, none, .mov (.t 91)⟩] [1, 4, 6, 7, 9, 10, 11, 31, 32, 33] [4, 6, 7, 10, 11])))))
def ir82 : IFn :=   -- tympan/area.All
⟨(.seq (.reg false [⟨some 4, none, .bx (.t 0) 19 true⟩, 
    ⟨some 6, none, .bx (.t 2) 3 true⟩, 
    ⟨some 7, none, .bx (.t 3) 3 true⟩, 
    ⟨some 8, none, .mov (.c (.nils))⟩] [1, 4, 6, 7] [4, 6, 7])
  (.scope (.seq (.reg false [⟨some 9, none, .nrow 2⟩] [1, 4, 6, 7, 9] [4, 6, 7])
    (.seq (.reg false [⟨some 20, none, .ld (.t 7) 3 true⟩, 
      ⟨some 21, none, .call 133 [(.t 20)] false⟩, 
      ⟨none, none, .st (.t 7) (.t 21) 3⟩] [1, 4, 6, 7, 9] [4, 6, 7])
    (.seq (.prep [10, 11] (.reg true [⟨some 22, none, .ldl 4 (.t 4) 19 true⟩, 
      ⟨some 23, none, .call 134 [(.t 22)] false⟩, 
      ⟨some 24, none, .ldl 4 (.t 4) 19 true⟩, 
      ⟨some 25, none, .call 135 [(.t 24)] false⟩, 
      ⟨some 10, none, .alp [.p (.int .i64 0), .p (.int .i64 0), .p .nilf]⟩, 
      ⟨some 11, none, .alp [.p (.int .i64 0), .p (.int .i64 0), .p .nilf]⟩, 
      ⟨none, none, .stl 10 (.t 10) (.t 23) 3⟩, 
      ⟨none, none, .stl 11 (.t 11) (.t 25) 3⟩] [1, 4, 6, 7, 9, 10, 11] [4, 6, 7, 10, 11]))
    (.seq (.label 0)
    (.seq (.seq (.reg false [⟨some 26, none, .ld (.t 7) 3 true⟩, 
      ⟨some 27, none, .off (.t 4) 11⟩, 
      ⟨some 28, none, .ld (.t 27) 1 false⟩, 
      ⟨some 29, none, .mnmx false (.t 28) (.c (.p (.int .i64 48)))⟩, 
      ⟨some 30, none, .mnmx true (.t 29) (.c (.p (.int .i64 0)))⟩, 
      ⟨some 31, none, .call 79 [(.t 26), (.t 30)] false⟩, 
      ⟨some 32, none, .len (.t 31)⟩, 
      ⟨some 33, none, .mov (.c (.p (.int .i64 0)))⟩] [1, 4, 6, 7, 9, 10, 11, 31, 32, 33] [4, 6, 7, 10, 11])
    (.block 0 lp82_1))
    (.seq (.reg false [⟨some 92, none, .mov (.t 9)⟩, 
      ⟨some 8, none, .mov (.t 92)⟩] [8] [])
    .ret)))))))),
  [.tmp 8], false⟩
def ir83 : IFn :=   -- tympan/area.Fits
⟨(.seq (.reg false [⟨some 3, none, .bx (.t 0) 19 true⟩, 
    ⟨some 5, none, .bx (.t 2) 2 true⟩, 
    ⟨some 6, none, .mov (.c (.p (.bool false)))⟩] [1, 3, 5] [3, 5])
  (.seq (.reg true [⟨some 7, none, .ldl 3 (.t 3) 19 true⟩, 
    ⟨some 8, none, .call 134 [(.t 7)] false⟩, 
    ⟨some 9, none, .ldl 3 (.t 3) 19 true⟩, 
    ⟨some 10, none, .mov (.t 1)⟩, 
    ⟨some 11, none, .off (.t 5) 0⟩, 
    ⟨some 12, none, .ldl 5 (.t 11) 1 false⟩, 
    ⟨some 13, none, .call 136 [(.t 8), (.t 9), (.t 10), (.t 12)] false⟩, 
    ⟨some 14, none, .mov (.t 13)⟩, 
    ⟨some 15, (some (14, true)), .ldl 3 (.t 3) 19 true⟩, 
    ⟨some 16, (some (14, true)), .call 135 [(.t 15)] false⟩, 
    ⟨some 17, (some (14, true)), .ldl 3 (.t 3) 19 true⟩, 
    ⟨some 18, (some (14, true)), .mov (.t 1)⟩, 
    ⟨some 19, (some (14, true)), .off (.t 5) 1⟩, 
    ⟨some 20, (some (14, true)), .ldl 5 (.t 19) 1 false⟩, 
    ⟨some 21, (some (14, true)), .call 136 [(.t 16), (.t 17), (.t 18), (.t 20)] false⟩, 
    ⟨some 22, none, .pick (.t 14) (.t 21) (.c (.p (.bool false)))⟩, 
    ⟨some 6, none, .mov (.t 22)⟩] [6] [])
  .ret)),
  [.tmp 6], false⟩
def lp89_0 : IC :=
  (.loop [0, 1, 12, 13] [] (.seq (.reg false [⟨some 14, none, .bin .lss (.t 13) (.t 12)⟩] [0, 1, 12, 13, 14] [])
      (.seq (.cond (.t 14)
      .skip
      (.exit 0))
      (.seq (.block 1 (.seq (.reg false [⟨some 15, none, .mov (.t 13)⟩, 
          ⟨some 5, none, .mov (.t 15)⟩] [0, 1, 5, 12, 13] [])
        (.seq (.reg true [⟨some 16, none, .mov (.t 0)⟩, 
          ⟨some 17, none, .mov (.t 5)⟩, 
          ⟨some 18, none, .ixs (.t 16) (.t 17) 1⟩, 
          ⟨some 19, none, .ld (.t 18) 1 false⟩, 
          ⟨some 20, none, .mov (.t 1)⟩, 
          ⟨some 21, none, .mov (.t 5)⟩, 
          ⟨some 22, none, .ixs (.t 20) (.t 21) 1⟩, 
          ⟨some 23, none, .ld (.t 22) 1 false⟩, 
          ⟨some 24, none, .bin .neq (.t 19) (.t 23)⟩] [0, 1, 12, 13, 24] [])
        (.cond (.t 24)
        (.seq (.reg false [⟨some 4, none, .mov (.c (.p (.bool false)))⟩] [4] [])
          .ret)
        .skip))))
      (.reg false [⟨some 25, none, .bin .add (.t 13) (.c (.p (.int .i64 1)))⟩, 
        ⟨some 13, none, .mov (.t 25)⟩] [0, 1, 12, 13] [])))))
def ir89 : IFn :=   -- slices.Equal[[]int,int]
⟨(.seq (.reg false [⟨some 4, none, .mov (.c (.p (.bool false)))⟩] [0, 1] [])
  (.seq (.seq (.reg false [⟨some 6, none, .mov (.t 0)⟩, 
    ⟨some 7, none, .len (.t 6)⟩, 
    ⟨some 8, none, .mov (.t 1)⟩, 
    ⟨some 9, none, .len (.t 8)⟩, 
    ⟨some 10, none, .bin .neq (.t 7) (.t 9)⟩] [0, 1, 10] [])
  (.cond (.t 10)
  (.seq (.reg false [⟨some 4, none, .mov (.c (.p (.bool false)))⟩] [4] [])
    .ret)
  .skip))
  (.seq (.seq (.reg false [⟨some 11, none, .mov (.t 0)⟩, 
    ⟨some 12, none, .len (.t 11)⟩, 
    ⟨some 13, none, .mov (.c (.p (.int .i64 0)))⟩] [0, 1, 12, 13] [])
  (.block 0 lp89_0))
  (.seq (.reg false [⟨some 4, none, .mov (.c (.p (.bool true)))⟩] [4] [])
  .ret)))),
  [.tmp 4], false⟩
def lp121_0 : IC :=
  (.loop [1, 5, 8, 9, 10] [] (.seq (.reg false [⟨some 11, none, .bin .lss (.t 10) (.t 9)⟩] [1, 5, 8, 9, 10, 11] [])
      (.seq (.cond (.t 11)
      .skip
      (.exit 0))
      (.seq (.block 1 (.seq (.reg false [⟨some 12, none, .mov (.t 10)⟩, 
          ⟨some 13, none, .ixs (.t 8) (.t 10) 3⟩, 
          ⟨some 14, none, .ld (.t 13) 3 true⟩, 
          ⟨some 7, none, .al [.p (.int .i64 0), .p (.int .i64 0), .p (.int .i64 0)] true⟩, 
          ⟨some 6, none, .mov (.t 12)⟩, 
          ⟨none, none, .st (.t 7) (.t 14) 3⟩] [1, 5, 6, 7, 8, 9, 10] [7])
        (.seq (.reg false [⟨some 15, none, .off (.t 7) 0⟩, 
          ⟨some 16, none, .ld (.t 15) 1 false⟩, 
          ⟨some 17, none, .mov (.t 1)⟩, 
          ⟨some 18, none, .bin .eql (.t 16) (.t 17)⟩] [1, 5, 6, 8, 9, 10, 18] [])
        (.cond (.t 18)
        (.reg false [⟨some 19, none, .mov (.t 5)⟩, 
            ⟨some 20, none, .mov (.t 6)⟩, 
            ⟨some 21, none, .bsl 1 1 [.p (.int .i64 0)] [(0, (.t 20))]⟩, 
            ⟨some 22, none, .app (.t 19) (.t 21) 1⟩, 
            ⟨some 5, none, .mov (.t 22)⟩] [1, 5, 8, 9, 10] [])
        .skip))))
      (.reg false [⟨some 23, none, .bin .add (.t 10) (.c (.p (.int .i64 1)))⟩, 
        ⟨some 10, none, .mov (.t 23)⟩] [1, 5, 8, 9, 10] [])))))
def ir121 : IFn :=   -- tympan/figure.Of
⟨(.seq (.reg false [⟨some 4, none, .mov (.c (.nils))⟩] [0, 1] [])
  (.seq (.reg false [⟨some 5, none, .nrow 1⟩] [0, 1, 5] [])
  (.seq (.seq (.reg false [⟨some 8, none, .mov (.t 0)⟩, 
    ⟨some 9, none, .len (.t 8)⟩, 
    ⟨some 10, none, .mov (.c (.p (.int .i64 0)))⟩] [1, 5, 8, 9, 10] [])
  (.block 0 lp121_0))
  (.seq (.reg false [⟨some 24, none, .mov (.t 5)⟩, 
    ⟨some 4, none, .mov (.t 24)⟩] [4] [])
  .ret)))),
  [.tmp 4], false⟩
def lp123_0 : IC :=
  (.loop [2, 3, 4, 5, 8, 9, 11] [4, 5, 8, 9] (.seq (.reg false [⟨some 12, none, .bin .lss (.t 11) (.c (.p (.int .i64 3)))⟩] [2, 3, 4, 5, 8, 9, 11, 12] [4, 5, 8, 9])
      (.seq (.cond (.t 12)
      .skip
      (.exit 0))
      (.seq (.block 1 (.seq (.reg false [⟨some 13, none, .mov (.t 11)⟩, 
          ⟨some 10, none, .mov (.t 13)⟩] [2, 3, 4, 5, 8, 9, 10, 11] [4, 5, 8, 9])
        (.reg true [⟨some 14, none, .mov (.t 10)⟩, 
          ⟨some 15, none, .mov (.t 3)⟩, 
          ⟨some 16, none, .mov (.t 10)⟩, 
          ⟨some 17, none, .ixa (.t 4) (.t 16) 1 3⟩, 
          ⟨some 18, none, .ldl 4 (.t 17) 1 false⟩, 
          ⟨some 19, none, .mov (.t 2)⟩, 
          ⟨some 20, none, .call 127 [(.t 18), (.t 19), (.c (.p (.int .i64 1073741824)))] false⟩, 
          ⟨some 21, none, .mov (.t 10)⟩, 
          ⟨some 22, none, .ixa (.t 5) (.t 21) 1 3⟩, 
          ⟨some 23, none, .ldl 5 (.t 22) 1 false⟩, 
          ⟨some 24, none, .mov (.t 2)⟩, 
          ⟨some 25, none, .call 127 [(.t 23), (.t 24), (.c (.p (.int .i64 1073741824)))] false⟩, 
          ⟨some 26, none, .callv (.t 15) [(.t 20), (.t 25)] false⟩, 
          ⟨some 27, none, .mov (.t 2)⟩, 
          ⟨some 28, none, .call 127 [(.t 26), (.t 27), (.c (.p (.int .i64 1073741824)))] false⟩, 
          ⟨some 29, none, .ixa (.t 9) (.t 14) 1 3⟩, 
          ⟨none, none, .stl 9 (.t 29) (.t 28) 1⟩] [2, 3, 4, 5, 8, 9, 11] [4, 5, 8, 9])))
      (.reg false [⟨some 30, none, .bin .add (.t 11) (.c (.p (.int .i64 1)))⟩, 
        ⟨some 11, none, .mov (.t 30)⟩] [2, 3, 4, 5, 8, 9, 11] [4, 5, 8, 9])))))
def ir123 : IFn :=   -- tympan/queue.zip
⟨(.seq (.reg false [⟨some 4, none, .bx (.t 0) 3 true⟩, 
    ⟨some 5, none, .bx (.t 1) 3 true⟩, 
    ⟨some 8, none, .al [.p (.int .i64 0), .p (.int .i64 0), .p (.int .i64 0)] true⟩] [2, 3, 4, 5, 8] [4, 5, 8])
  (.seq (.reg false [⟨some 9, none, .al [.p (.int .i64 0), .p (.int .i64 0), .p (.int .i64 0)] true⟩] [2, 3, 4, 5, 8, 9] [4, 5, 8, 9])
  (.seq (.seq (.reg false [⟨some 11, none, .mov (.c (.p (.int .i64 0)))⟩] [2, 3, 4, 5, 8, 9, 11] [4, 5, 8, 9])
  (.block 0 lp123_0))
  (.seq (.reg false [⟨some 31, none, .ld (.t 9) 3 true⟩, 
    ⟨none, none, .st (.t 8) (.t 31) 3⟩] [8] [8])
  .ret)))),
  [.cell 8 3 true], false⟩
def ir124 : IFn :=   -- (tympan/queue.Counts).Add$1
⟨(.seq (.reg false [⟨some 4, none, .mov (.c (.p (.int .i64 0)))⟩] [0, 1] [])
  (.seq (.reg false [⟨some 5, none, .mov (.t 0)⟩, 
    ⟨some 6, none, .mov (.t 1)⟩, 
    ⟨some 7, none, .bin .add (.t 5) (.t 6)⟩, 
    ⟨some 4, none, .mov (.t 7)⟩] [4] [])
  .ret)),
  [.tmp 4], false⟩
def ir125 : IFn :=   -- tympan/figure.At
⟨(.seq (.reg false [⟨some 4, none, .al [.p (.int .i64 0), .p (.int .i64 0), .p (.int .i64 0)] true⟩, 
    ⟨some 5, none, .mov (.c (.p (.bool false)))⟩] [0, 1, 4] [4])
  (.seq (.seq (.reg false [⟨some 6, none, .mov (.t 1)⟩, 
    ⟨some 7, none, .bin .lss (.t 6) (.c (.p (.int .i64 0)))⟩, 
    ⟨some 8, none, .mov (.t 7)⟩, 
    ⟨some 9, (some (8, false)), .mov (.t 1)⟩, 
    ⟨some 10, (some (8, false)), .mov (.t 0)⟩, 
    ⟨some 11, (some (8, false)), .len (.t 10)⟩, 
    ⟨some 12, (some (8, false)), .bin .geq (.t 9) (.t 11)⟩, 
    ⟨some 13, none, .pick (.t 8) (.c (.p (.bool true))) (.t 12)⟩] [0, 1, 4, 13] [4])
  (.cond (.t 13)
  (.seq (.reg false [⟨some 14, none, .bld [.p (.int .i64 0), .p (.int .i64 0), .p (.int .i64 0)] []⟩, 
      ⟨none, none, .st (.t 4) (.t 14) 3⟩, 
      ⟨some 5, none, .mov (.c (.p (.bool false)))⟩] [4, 5] [4])
    .ret)
  .skip))
  (.seq (.reg false [⟨some 15, none, .mov (.t 0)⟩, 
    ⟨some 16, none, .mov (.t 1)⟩, 
    ⟨some 17, none, .ixs (.t 15) (.t 16) 3⟩, 
    ⟨some 18, none, .ld (.t 17) 3 true⟩, 
    ⟨none, none, .st (.t 4) (.t 18) 3⟩, 
    ⟨some 5, none, .mov (.c (.p (.bool true)))⟩] [4, 5] [4])
  .ret))),
  [.cell 4 3 true, .tmp 5], false⟩
def ir126 : IFn :=   -- tympan/tympanref23.held
⟨(.seq (.reg false [⟨some 6, none, .mov (.c (.p (.int .i64 0)))⟩] [0, 1, 2] [])
  (.seq (.reg false [⟨some 7, none, .mov (.t 1)⟩, 
    ⟨some 8, none, .mov (.t 0)⟩, 
    ⟨some 9, none, .mov (.t 2)⟩, 
    ⟨some 10, none, .mnmx false (.t 8) (.t 9)⟩, 
    ⟨some 11, none, .mnmx true (.t 7) (.t 10)⟩, 
    ⟨some 6, none, .mov (.t 11)⟩] [6] [])
  .ret)),
  [.tmp 6], false⟩
def ir127 : IFn :=   -- tympan/queue.held
⟨(.seq (.reg false [⟨some 6, none, .mov (.c (.p (.int .i64 0)))⟩] [0, 1, 2] [])
  (.seq (.reg false [⟨some 7, none, .mov (.t 0)⟩, 
    ⟨some 8, none, .mov (.t 1)⟩, 
    ⟨some 9, none, .mnmx true (.t 7) (.t 8)⟩, 
    ⟨some 10, none, .mov (.t 2)⟩, 
    ⟨some 11, none, .mnmx false (.t 9) (.t 10)⟩, 
    ⟨some 6, none, .mov (.t 11)⟩] [6] [])
  .ret)),
  [.tmp 6], false⟩
def ir128 : IFn :=   -- tympan/queue.Ready$1
⟨(.seq (.reg false [⟨some 4, none, .mov (.c (.p (.int .i64 0)))⟩] [0, 1] [])
  (.seq (.reg false [⟨some 5, none, .mov (.t 1)⟩, 
    ⟨some 6, none, .mov (.t 0)⟩, 
    ⟨some 7, none, .bin .sub (.t 5) (.t 6)⟩, 
    ⟨some 4, none, .mov (.t 7)⟩] [4] [])
  .ret)),
  [.tmp 4], false⟩
def ir129 : IFn :=   -- tympan/queue.grow
⟨(.seq (.reg false [⟨some 2, none, .bx (.t 0) 3 false⟩, 
    ⟨some 4, none, .al [.p (.int .i64 0), .p (.int .i64 0), .p (.int .i64 0)] true⟩] [1, 2, 4] [4])
  (.seq (.reg false [⟨some 5, none, .mov (.t 1)⟩, 
    ⟨some 6, none, .ixa (.t 2) (.t 5) 1 3⟩, 
    ⟨some 7, none, .ld (.t 6) 1 false⟩, 
    ⟨some 8, none, .bin .add (.t 7) (.c (.p (.int .i64 1)))⟩, 
    ⟨some 9, none, .ixa (.t 2) (.t 5) 1 3⟩, 
    ⟨none, none, .st (.t 9) (.t 8) 1⟩] [1, 2, 4] [4])
  (.seq (.reg false [⟨some 10, none, .mov (.t 1)⟩, 
    ⟨some 11, none, .bin .add (.t 10) (.c (.p (.int .i64 1)))⟩, 
    ⟨some 12, none, .slca (.t 2) (some (.t 11)) 1 3⟩, 
    ⟨none, none, .clr (.t 12) 1 [.p (.int .i64 0)]⟩] [2, 4] [4])
  (.seq (.reg false [⟨some 13, none, .ld (.t 2) 3 true⟩, 
    ⟨none, none, .st (.t 4) (.t 13) 3⟩] [4] [4])
  .ret)))),
  [.cell 4 3 true], false⟩
def ir130 : IFn :=   -- tympan/area.High
⟨(.seq (.reg false [⟨some 3, none, .bx (.t 0) 19 true⟩, 
    ⟨some 5, none, .bx (.t 2) 2 true⟩, 
    ⟨some 6, none, .mov (.c (.p (.int .i64 0)))⟩] [1, 3, 5] [3, 5])
  (.seq (.reg true [⟨some 7, none, .mov (.t 1)⟩, 
    ⟨some 8, none, .off (.t 5) 0⟩, 
    ⟨some 9, none, .ldl 5 (.t 8) 1 false⟩, 
    ⟨some 10, none, .off (.t 3) 7⟩, 
    ⟨some 11, none, .ldl 3 (.t 10) 1 false⟩, 
    ⟨some 12, none, .call 170 [(.t 7), (.t 9), (.t 11)] false⟩, 
    ⟨some 13, none, .mov (.t 1)⟩, 
    ⟨some 14, none, .off (.t 5) 1⟩, 
    ⟨some 15, none, .ldl 5 (.t 14) 1 false⟩, 
    ⟨some 16, none, .off (.t 3) 7⟩, 
    ⟨some 17, none, .ldl 3 (.t 16) 1 false⟩, 
    ⟨some 18, none, .call 170 [(.t 13), (.t 15), (.t 17)] false⟩, 
    ⟨some 19, none, .bin .add (.t 12) (.t 18)⟩, 
    ⟨some 6, none, .mov (.t 19)⟩] [6] [])
  .ret)),
  [.tmp 6], false⟩
def ir131 : IFn :=   -- tympan/area.Stack
⟨(.seq (.reg false [⟨some 3, none, .bx (.t 0) 19 true⟩, 
    ⟨some 6, none, .mov (.c (.p (.int .i64 0)))⟩] [1, 2, 3] [3])
  (.seq (.reg false [⟨some 8, none, .mov (.t 1)⟩, 
    ⟨some 9, none, .mov (.t 2)⟩, 
    ⟨some 10, none, .off (.t 3) 7⟩, 
    ⟨some 11, none, .ld (.t 10) 1 false⟩, 
    ⟨some 12, none, .call 170 [(.t 8), (.t 9), (.t 11)] false⟩, 
    ⟨some 7, none, .mov (.t 12)⟩] [3, 7] [3])
  (.seq (.seq (.reg false [⟨some 13, none, .mov (.t 7)⟩, 
    ⟨some 14, none, .bin .eql (.t 13) (.c (.p (.int .i64 0)))⟩] [3, 7, 14] [3])
  (.cond (.t 14)
  (.seq (.reg false [⟨some 6, none, .mov (.c (.p (.int .i64 0)))⟩] [6] [])
    .ret)
  .skip))
  (.seq (.reg false [⟨some 15, none, .mov (.t 7)⟩, 
    ⟨some 16, none, .off (.t 3) 7⟩, 
    ⟨some 17, none, .ld (.t 16) 1 false⟩, 
    ⟨some 18, none, .mnmx true (.t 17) (.c (.p (.int .i64 0)))⟩, 
    ⟨some 19, none, .mnmx false (.t 18) (.c (.p (.int .i64 1125899906842624)))⟩, 
    ⟨some 20, none, .bin .sub (.t 15) (.t 19)⟩, 
    ⟨some 6, none, .mov (.t 20)⟩] [6] [])
  .ret)))),
  [.tmp 6], false⟩
def lp132_0 : IC :=
  (.loop [1, 4, 5, 7, 11, 18, 19, 20] [5, 7] (.seq (.reg false [⟨some 21, none, .bin .lss (.t 20) (.t 19)⟩] [1, 4, 5, 7, 11, 18, 19, 20, 21] [5, 7])
      (.seq (.cond (.t 21)
      .skip
      (.exit 0))
      (.seq (.block 1 (.seq (.reg false [⟨some 22, none, .ixs (.t 18) (.t 20) 3⟩, 
          ⟨some 23, none, .ld (.t 22) 3 true⟩, 
          ⟨some 13, none, .al [.p (.int .i64 0), .p (.int .i64 0), .p (.int .i64 0)] true⟩, 
          ⟨none, none, .st (.t 13) (.t 23) 3⟩] [1, 4, 5, 7, 11, 13, 18, 19, 20] [5, 7, 13])
        (.seq (.reg false [⟨some 25, none, .mov (.t 1)⟩, 
          ⟨some 26, none, .ld (.t 7) 3 true⟩, 
          ⟨some 27, none, .ld (.t 13) 3 true⟩, 
          ⟨some 28, none, .call 68 [(.t 25), (.t 26), (.t 27)] false⟩, 
          ⟨some 24, none, .mov (.t 28)⟩, 
          ⟨some 29, none, .ext (.t 24) 0⟩, 
          ⟨some 30, none, .ext (.t 24) 1⟩, 
          ⟨some 14, none, .mov (.t 29)⟩, 
          ⟨some 15, none, .mov (.t 30)⟩] [1, 4, 5, 7, 11, 13, 14, 15, 18, 19, 20] [5, 7, 13])
        (.seq (.reg false [⟨some 31, none, .mov (.t 15)⟩, 
          ⟨some 32, none, .mov (.t 31)⟩, 
          ⟨some 33, (some (32, true)), .ld (.t 13) 3 true⟩, 
          ⟨some 34, (some (32, true)), .call 73 [(.t 33)] false⟩, 
          ⟨some 35, (some (32, true)), .bin .gtr (.t 34) (.c (.p (.int .i64 0)))⟩, 
          ⟨some 36, none, .pick (.t 32) (.t 35) (.c (.p (.bool false)))⟩, 
          ⟨some 37, none, .mov (.t 36)⟩, 
          ⟨some 38, (some (37, true)), .ld (.t 5) 19 true⟩, 
          ⟨some 39, (some (37, true)), .mov (.t 1)⟩, 
          ⟨some 40, (some (37, true)), .mov (.t 14)⟩, 
          ⟨some 41, (some (37, true)), .call 131 [(.t 38), (.t 39), (.t 40)] false⟩, 
          ⟨some 42, (some (37, true)), .mov (.t 4)⟩, 
          ⟨some 43, (some (37, true)), .bin .leq (.t 41) (.t 42)⟩, 
          ⟨some 44, none, .pick (.t 37) (.t 43) (.c (.p (.bool false)))⟩] [1, 4, 5, 7, 11, 14, 18, 19, 20, 44] [5, 7])
        (.cond (.t 44)
        (.reg false [⟨some 45, none, .mov (.t 11)⟩, 
            ⟨some 46, none, .mov (.t 14)⟩, 
            ⟨some 47, none, .bsl 1 1 [.nils] [(0, (.t 46))]⟩, 
            ⟨some 48, none, .app (.t 45) (.t 47) 1⟩, 
            ⟨some 11, none, .mov (.t 48)⟩] [1, 4, 5, 7, 11, 18, 19, 20] [5, 7])
        .skip)))))
      (.reg false [⟨some 49, none, .bin .add (.t 20) (.c (.p (.int .i64 1)))⟩, 
        ⟨some 20, none, .mov (.t 49)⟩] [1, 4, 5, 7, 11, 18, 19, 20] [5, 7])))))
def ir132 : IFn :=   -- tympan/area.Alone
⟨(.seq (.reg false [⟨some 5, none, .bx (.t 0) 19 true⟩, 
    ⟨some 7, none, .bx (.t 2) 3 true⟩, 
    ⟨some 8, none, .bx (.t 3) 3 true⟩, 
    ⟨some 10, none, .mov (.c (.nils))⟩] [1, 4, 5, 7, 8] [5, 7, 8])
  (.seq (.reg false [⟨some 11, none, .nrow 1⟩] [1, 4, 5, 7, 8, 11] [5, 7, 8])
  (.seq (.seq (.reg false [⟨some 16, none, .ld (.t 8) 3 true⟩, 
    ⟨some 17, none, .call 133 [(.t 16)] false⟩, 
    ⟨some 18, none, .call 79 [(.t 17), (.c (.p (.int .i64 8)))] false⟩, 
    ⟨some 19, none, .len (.t 18)⟩, 
    ⟨some 20, none, .mov (.c (.p (.int .i64 0)))⟩] [1, 4, 5, 7, 11, 18, 19, 20] [5, 7])
  (.block 0 lp132_0))
  (.seq (.reg false [⟨some 50, none, .mov (.t 11)⟩, 
    ⟨some 10, none, .mov (.t 50)⟩] [10] [])
  .ret)))),
  [.tmp 10], false⟩
def lp133_0 : IC :=
  (.loop [1, 2, 4] [1, 2] (.seq (.reg false [⟨some 5, none, .bin .lss (.t 4) (.c (.p (.int .i64 3)))⟩] [1, 2, 4, 5] [1, 2])
      (.seq (.cond (.t 5)
      .skip
      (.exit 0))
      (.seq (.block 1 (.seq (.reg false [⟨some 6, none, .mov (.t 4)⟩, 
          ⟨some 3, none, .mov (.t 6)⟩] [1, 2, 3, 4] [1, 2])
        (.reg false [⟨some 7, none, .mov (.t 3)⟩, 
          ⟨some 8, none, .mov (.t 3)⟩, 
          ⟨some 9, none, .ixa (.t 1) (.t 8) 1 3⟩, 
          ⟨some 10, none, .ld (.t 9) 1 false⟩, 
          ⟨some 11, none, .mnmx false (.t 10) (.c (.p (.int .i64 16)))⟩, 
          ⟨some 12, none, .ixa (.t 1) (.t 7) 1 3⟩, 
          ⟨none, none, .st (.t 12) (.t 11) 1⟩] [1, 2, 4] [1, 2])))
      (.reg false [⟨some 13, none, .bin .add (.t 4) (.c (.p (.int .i64 1)))⟩, 
        ⟨some 4, none, .mov (.t 13)⟩] [1, 2, 4] [1, 2])))))
def ir133 : IFn :=   -- tympan/area.some
⟨(.seq (.reg false [⟨some 1, none, .bx (.t 0) 3 true⟩, 
    ⟨some 2, none, .al [.p (.int .i64 0), .p (.int .i64 0), .p (.int .i64 0)] true⟩] [1, 2] [1, 2])
  (.seq (.seq (.reg false [⟨some 4, none, .mov (.c (.p (.int .i64 0)))⟩] [1, 2, 4] [1, 2])
  (.block 0 lp133_0))
  (.seq (.reg false [⟨some 14, none, .ld (.t 1) 3 true⟩, 
    ⟨none, none, .st (.t 2) (.t 14) 3⟩] [2] [2])
  .ret))),
  [.cell 2 3 true], false⟩
def ir134 : IFn :=   -- tympan/area.top
⟨(.seq (.reg false [⟨some 1, none, .bx (.t 0) 19 true⟩, 
    ⟨some 2, none, .al [.p (.int .i64 0), .p (.int .i64 0), .p .nilf] true⟩] [1, 2] [1, 2])
  (.seq (.reg false [⟨some 3, none, .off (.t 1) 11⟩, 
    ⟨some 4, none, .ld (.t 3) 1 false⟩, 
    ⟨some 5, none, .off (.t 1) 9⟩, 
    ⟨some 6, none, .ld (.t 5) 1 false⟩, 
    ⟨some 7, none, .bld [.p (.int .i64 0), .p (.int .i64 0), .p .nilf] [(0, 1, (.t 4)), (1, 1, (.t 6)), (2, 1, (.c (.p (.fn 171))))]⟩, 
    ⟨none, none, .st (.t 2) (.t 7) 3⟩] [2] [2])
  .ret)),
  [.cell 2 3 true], false⟩
def ir135 : IFn :=   -- tympan/area.bottom
⟨(.seq (.reg false [⟨some 1, none, .bx (.t 0) 19 true⟩, 
    ⟨some 2, none, .al [.p (.int .i64 0), .p (.int .i64 0), .p .nilf] true⟩] [1, 2] [1, 2])
  (.seq (.reg false [⟨some 3, none, .off (.t 1) 12⟩, 
    ⟨some 4, none, .ld (.t 3) 1 false⟩, 
    ⟨some 5, none, .off (.t 1) 10⟩, 
    ⟨some 6, none, .ld (.t 5) 1 false⟩, 
    ⟨some 7, none, .bld [.p (.int .i64 0), .p (.int .i64 0), .p .nilf] [(0, 1, (.t 4)), (1, 1, (.t 6)), (2, 1, (.c (.p (.fn 172))))]⟩, 
    ⟨none, none, .st (.t 2) (.t 7) 3⟩] [2] [2])
  .ret)),
  [.cell 2 3 true], false⟩
def lp136_0 : IC :=
  (.loop [2, 3, 4, 5, 18, 19, 20] [4, 5] (.seq (.reg false [⟨some 21, none, .bin .lss (.t 20) (.t 19)⟩] [2, 3, 4, 5, 18, 19, 20, 21] [4, 5])
      (.seq (.cond (.t 21)
      .skip
      (.exit 0))
      (.seq (.block 1 (.seq (.reg false [⟨some 22, none, .ixs (.t 18) (.t 20) 1⟩, 
          ⟨some 23, none, .ld (.t 22) 1 false⟩, 
          ⟨some 10, none, .mov (.t 23)⟩] [2, 3, 4, 5, 10, 18, 19, 20] [4, 5])
        (.seq (.reg false [⟨some 25, none, .mov (.t 2)⟩, 
          ⟨some 26, none, .mov (.t 10)⟩, 
          ⟨some 27, none, .call 125 [(.t 25), (.t 26)] false⟩, 
          ⟨some 24, none, .mov (.t 27)⟩, 
          ⟨some 28, none, .ext (.t 24) 0⟩, 
          ⟨some 29, none, .ext (.t 24) 1⟩, 
          ⟨some 11, none, .al [.p (.int .i64 0), .p (.int .i64 0), .p (.int .i64 0)] true⟩, 
          ⟨none, none, .st (.t 11) (.t 28) 3⟩, 
          ⟨some 12, none, .mov (.t 29)⟩] [2, 3, 4, 5, 11, 12, 18, 19, 20] [4, 5, 11])
        (.seq (.reg false [⟨some 30, none, .mov (.t 12)⟩, 
          ⟨some 31, none, .un .not (.t 30)⟩, 
          ⟨some 32, none, .mov (.t 31)⟩, 
          ⟨some 33, (some (32, false)), .off (.t 4) 2⟩, 
          ⟨some 34, (some (32, false)), .ld (.t 33) 1 false⟩, 
          ⟨some 35, (some (32, false)), .ld (.t 11) 3 true⟩, 
          ⟨some 36, (some (32, false)), .callv (.t 34) [(.t 35)] false⟩, 
          ⟨some 37, (some (32, false)), .un .not (.t 36)⟩, 
          ⟨some 38, none, .pick (.t 32) (.c (.p (.bool true))) (.t 37)⟩] [2, 3, 4, 5, 18, 19, 20, 38] [4, 5])
        (.cond (.t 38)
        (.seq (.reg false [⟨some 8, none, .mov (.c (.p (.bool false)))⟩] [8] [])
          .ret)
        .skip)))))
      (.reg false [⟨some 39, none, .bin .add (.t 20) (.c (.p (.int .i64 1)))⟩, 
        ⟨some 20, none, .mov (.t 39)⟩] [2, 3, 4, 5, 18, 19, 20] [4, 5])))))
def ir136 : IFn :=   -- (tympan/area.place).fits
⟨(.seq (.reg false [⟨some 4, none, .bx (.t 0) 3 true⟩, 
    ⟨some 5, none, .bx (.t 1) 19 true⟩, 
    ⟨some 8, none, .mov (.c (.p (.bool false)))⟩] [2, 3, 4, 5] [4, 5])
  (.seq (.seq (.reg false [⟨some 13, none, .mov (.t 3)⟩, 
    ⟨some 14, none, .len (.t 13)⟩, 
    ⟨some 15, none, .off (.t 4) 0⟩, 
    ⟨some 16, none, .ld (.t 15) 1 false⟩, 
    ⟨some 17, none, .bin .gtr (.t 14) (.t 16)⟩] [2, 3, 4, 5, 17] [4, 5])
  (.cond (.t 17)
  (.seq (.reg false [⟨some 8, none, .mov (.c (.p (.bool false)))⟩] [8] [])
    .ret)
  .skip))
  (.seq (.seq (.reg false [⟨some 18, none, .mov (.t 3)⟩, 
    ⟨some 19, none, .len (.t 18)⟩, 
    ⟨some 20, none, .mov (.c (.p (.int .i64 0)))⟩] [2, 3, 4, 5, 18, 19, 20] [4, 5])
  (.block 0 lp136_0))
  (.seq (.reg true [⟨some 40, none, .mov (.t 2)⟩, 
    ⟨some 41, none, .mov (.t 3)⟩, 
    ⟨some 42, none, .off (.t 5) 7⟩, 
    ⟨some 43, none, .ldl 5 (.t 42) 1 false⟩, 
    ⟨some 44, none, .call 170 [(.t 40), (.t 41), (.t 43)] false⟩, 
    ⟨some 45, none, .off (.t 4) 1⟩, 
    ⟨some 46, none, .ldl 4 (.t 45) 1 false⟩, 
    ⟨some 47, none, .bin .leq (.t 44) (.t 46)⟩, 
    ⟨some 8, none, .mov (.t 47)⟩] [8] [])
  .ret)))),
  [.tmp 8], false⟩
def lp170_0 : IC :=
  (.loop [0, 2, 7, 8, 13, 14, 15] [] (.seq (.reg false [⟨some 16, none, .bin .lss (.t 15) (.t 14)⟩] [0, 2, 7, 8, 13, 14, 15, 16] [])
      (.seq (.cond (.t 16)
      .skip
      (.exit 0))
      (.seq (.block 1 (.seq (.reg false [⟨some 17, none, .ixs (.t 13) (.t 15) 1⟩, 
          ⟨some 18, none, .ld (.t 17) 1 false⟩, 
          ⟨some 10, none, .mov (.t 18)⟩] [0, 2, 7, 8, 10, 13, 14, 15] [])
        (.seq (.reg false [⟨some 20, none, .mov (.t 0)⟩, 
          ⟨some 21, none, .mov (.t 10)⟩, 
          ⟨some 22, none, .call 125 [(.t 20), (.t 21)] false⟩, 
          ⟨some 19, none, .mov (.t 22)⟩, 
          ⟨some 23, none, .ext (.t 19) 0⟩, 
          ⟨some 24, none, .ext (.t 19) 1⟩, 
          ⟨some 11, none, .al [.p (.int .i64 0), .p (.int .i64 0), .p (.int .i64 0)] true⟩, 
          ⟨none, none, .st (.t 11) (.t 23) 3⟩, 
          ⟨some 12, none, .mov (.t 24)⟩] [0, 2, 7, 8, 11, 12, 13, 14, 15] [11])
        (.seq (.reg false [⟨some 25, none, .mov (.t 12)⟩] [0, 2, 7, 8, 11, 13, 14, 15, 25] [11])
        (.cond (.t 25)
        (.reg false [⟨some 26, none, .mov (.t 7)⟩, 
            ⟨some 27, none, .mov (.t 8)⟩, 
            ⟨some 28, none, .mov (.t 7)⟩, 
            ⟨some 29, none, .off (.t 11) 1⟩, 
            ⟨some 30, none, .ld (.t 29) 1 false⟩, 
            ⟨some 31, none, .callv (.t 28) [(.t 30)] false⟩, 
            ⟨some 32, none, .bin .add (.t 27) (.t 31)⟩, 
            ⟨some 33, none, .mov (.t 7)⟩, 
            ⟨some 34, none, .mov (.t 2)⟩, 
            ⟨some 35, none, .callv (.t 33) [(.t 34)] false⟩, 
            ⟨some 36, none, .bin .add (.t 32) (.t 35)⟩, 
            ⟨some 37, none, .callv (.t 26) [(.t 36)] false⟩, 
            ⟨some 8, none, .mov (.t 37)⟩] [0, 2, 7, 8, 13, 14, 15] [])
        .skip)))))
      (.reg false [⟨some 38, none, .bin .add (.t 15) (.c (.p (.int .i64 1)))⟩, 
        ⟨some 15, none, .mov (.t 38)⟩] [0, 2, 7, 8, 13, 14, 15] [])))))
def ir170 : IFn :=   -- tympan/figure.High
⟨(.seq (.reg false [⟨some 6, none, .mov (.c (.p (.int .i64 0)))⟩] [0, 1, 2] [])
  (.seq (.reg false [⟨some 7, none, .mov (.c (.p (.fn 216)))⟩] [0, 1, 2, 7] [])
  (.seq (.reg false [⟨some 8, none, .mov (.c (.p (.int .i64 0)))⟩] [0, 1, 2, 7, 8] [])
  (.seq (.seq (.reg false [⟨some 13, none, .mov (.t 1)⟩, 
    ⟨some 14, none, .len (.t 13)⟩, 
    ⟨some 15, none, .mov (.c (.p (.int .i64 0)))⟩] [0, 2, 7, 8, 13, 14, 15] [])
  (.block 0 lp170_0))
  (.seq (.reg false [⟨some 39, none, .mov (.t 8)⟩, 
    ⟨some 6, none, .mov (.t 39)⟩] [6] [])
  .ret))))),
  [.tmp 6], false⟩
def ir171 : IFn :=   -- tympan/figure.Top
⟨(.seq (.reg false [⟨some 1, none, .bx (.t 0) 3 true⟩, 
    ⟨some 2, none, .mov (.c (.p (.bool false)))⟩] [1] [1])
  (.seq (.reg false [⟨some 3, none, .ld (.t 1) 3 true⟩, 
    ⟨some 4, none, .call 217 [(.t 3), (.c (.p (.fn 218)))] false⟩, 
    ⟨some 2, none, .mov (.t 4)⟩] [2] [])
  .ret)),
  [.tmp 2], false⟩
def ir172 : IFn :=   -- tympan/figure.Bottom
⟨(.seq (.reg false [⟨some 1, none, .bx (.t 0) 3 true⟩, 
    ⟨some 2, none, .mov (.c (.p (.bool false)))⟩] [1] [1])
  (.seq (.reg false [⟨some 3, none, .ld (.t 1) 3 true⟩, 
    ⟨some 4, none, .call 217 [(.t 3), (.c (.p (.fn 219)))] false⟩, 
    ⟨some 2, none, .mov (.t 4)⟩] [2] [])
  .ret)),
  [.tmp 2], false⟩
def ir216 : IFn :=   -- tympan/figure.High$1
⟨(.seq (.reg false [⟨some 2, none, .mov (.c (.p (.int .i64 0)))⟩] [0] [])
  (.seq (.reg false [⟨some 3, none, .mov (.t 0)⟩, 
    ⟨some 4, none, .mnmx true (.t 3) (.c (.p (.int .i64 0)))⟩, 
    ⟨some 5, none, .mnmx false (.t 4) (.c (.p (.int .i64 1125899906842624)))⟩, 
    ⟨some 2, none, .mov (.t 5)⟩] [2] [])
  .ret)),
  [.tmp 2], false⟩
def ir217 : IFn :=   -- tympan/figure.may
⟨(.seq (.reg false [⟨some 2, none, .bx (.t 0) 3 true⟩, 
    ⟨some 4, none, .mov (.c (.p (.bool false)))⟩] [1, 2] [2])
  (.seq (.reg false [⟨some 5, none, .mov (.t 1)⟩, 
    ⟨some 6, none, .off (.t 2) 2⟩, 
    ⟨some 7, none, .ld (.t 6) 1 false⟩, 
    ⟨some 8, none, .callv (.t 5) [(.t 7)] false⟩, 
    ⟨some 4, none, .mov (.t 8)⟩] [4] [])
  .ret)),
  [.tmp 4], false⟩
def ir218 : IFn :=   -- (tympan/figure.bits).top
⟨(.seq (.reg false [⟨some 2, none, .mov (.c (.p (.bool false)))⟩] [0] [])
  (.seq (.reg false [⟨some 3, none, .mov (.t 0)⟩, 
    ⟨some 4, none, .bin .and (.t 3) (.c (.p (.int .i64 1)))⟩, 
    ⟨some 5, none, .bin .neq (.t 4) (.c (.p (.int .i64 0)))⟩, 
    ⟨some 2, none, .mov (.t 5)⟩] [2] [])
  .ret)),
  [.tmp 2], false⟩
def ir219 : IFn :=   -- (tympan/figure.bits).bottom
⟨(.seq (.reg false [⟨some 2, none, .mov (.c (.p (.bool false)))⟩] [0] [])
  (.seq (.reg false [⟨some 3, none, .mov (.t 0)⟩, 
    ⟨some 4, none, .bin .and (.t 3) (.c (.p (.int .i64 2)))⟩, 
    ⟨some 5, none, .bin .neq (.t 4) (.c (.p (.int .i64 0)))⟩, 
    ⟨some 2, none, .mov (.t 5)⟩] [2] [])
  .ret)),
  [.tmp 2], false⟩
end Go.EnvOf
