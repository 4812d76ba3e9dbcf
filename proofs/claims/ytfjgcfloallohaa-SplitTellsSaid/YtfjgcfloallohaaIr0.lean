/- The engine's instructions for the functions, part 0. -/
import Derived.Test.YtfjgcfloallohaaEngAll2
namespace Go.EnvOf
open Go Go.Eng
set_option maxRecDepth 100000
def ir4 : IFn :=   -- tympan/tympanlaw11.NoteHigh
⟨(.seq (.reg false [⟨some 3, none, .bx (.t 0) 2 true⟩, 
    ⟨some 6, none, .mov (.c (.p (.bool false)))⟩] [1, 2, 3] [3])
  (.seq (.seq (.reg false [⟨some 7, none, .off (.t 3) 0⟩, 
    ⟨some 8, none, .ld (.t 7) 1 false⟩, 
    ⟨some 9, none, .len (.t 8)⟩, 
    ⟨some 10, none, .bin .gtr (.t 9) (.c (.p (.int .i64 100)))⟩] [1, 2, 3, 10] [3])
  (.cond (.t 10)
  (.seq (.reg false [⟨some 11, none, .call 17 [] false⟩, 
      ⟨some 6, none, .mov (.t 11)⟩] [6] [])
    .ret)
  .skip))
  (.seq (.reg true [⟨some 12, none, .ldl 3 (.t 3) 2 true⟩, 
    ⟨some 13, none, .mov (.t 1)⟩, 
    ⟨some 14, none, .mov (.t 2)⟩, 
    ⟨some 15, none, .call 29 [(.t 12), (.t 13), (.t 14)] false⟩, 
    ⟨some 16, none, .ldl 3 (.t 3) 2 true⟩, 
    ⟨some 17, none, .mov (.t 1)⟩, 
    ⟨some 18, none, .mov (.t 2)⟩, 
    ⟨some 19, none, .call 30 [(.t 16), (.t 17), (.t 18)] false⟩, 
    ⟨some 20, none, .bin .eql (.t 15) (.t 19)⟩, 
    ⟨some 21, none, .mov (.t 20)⟩, 
    ⟨some 22, (some (21, true)), .call 17 [] false⟩, 
    ⟨some 23, none, .pick (.t 21) (.t 22) (.c (.p (.bool false)))⟩, 
    ⟨some 6, none, .mov (.t 23)⟩] [6] [])
  .ret))),
  [.tmp 6], false⟩
def ir6 : IFn :=   -- tympan/tympanlaw22.SplitTells
⟨(.seq (.reg false [⟨some 4, none, .bx (.t 1) 4 true⟩, 
    ⟨some 6, none, .mov (.c (.p (.bool false)))⟩] [0, 2, 4] [4])
  (.seq (.seq (.reg false [⟨some 10, none, .mov (.t 0)⟩, 
    ⟨some 11, none, .mov (.t 2)⟩, 
    ⟨some 12, none, .call 34 [(.t 10), (.t 11)] false⟩] [0, 2, 4, 12] [4])
  (.cond (.t 12)
  (.seq (.reg false [⟨some 13, none, .call 35 [] false⟩, 
      ⟨some 6, none, .mov (.t 13)⟩] [6] [])
    .ret)
  .skip))
  (.seq (.reg false [⟨some 15, none, .mov (.t 0)⟩, 
    ⟨some 16, none, .ld (.t 4) 4 true⟩, 
    ⟨some 17, none, .mov (.t 2)⟩, 
    ⟨some 18, none, .call 36 [(.t 15), (.t 16), (.t 17)] false⟩, 
    ⟨some 14, none, .mov (.t 18)⟩, 
    ⟨some 19, none, .ext (.t 14) 0⟩, 
    ⟨some 20, none, .ext (.t 14) 1⟩, 
    ⟨some 7, none, .mov (.t 19)⟩, 
    ⟨some 8, none, .mov (.t 20)⟩] [0, 2, 4, 7, 8] [4])
  (.seq (.reg false [⟨some 21, none, .mov (.t 0)⟩, 
    ⟨some 22, none, .mov (.t 2)⟩, 
    ⟨some 23, none, .off (.t 4) 2⟩, 
    ⟨some 24, none, .ld (.t 23) 1 false⟩, 
    ⟨some 25, none, .call 37 [(.t 21), (.t 22), (.t 24)] false⟩, 
    ⟨some 9, none, .mov (.t 25)⟩] [0, 2, 4, 7, 8, 9] [4])
  (.seq (.reg false [⟨some 26, none, .mov (.t 0)⟩, 
    ⟨some 27, none, .ld (.t 4) 4 true⟩, 
    ⟨some 28, none, .call 39 [(.t 27)] false⟩, 
    ⟨some 29, none, .mov (.t 2)⟩, 
    ⟨some 30, none, .call 38 [(.t 26), (.t 28), (.t 29)] false⟩, 
    ⟨some 31, none, .mov (.t 7)⟩, 
    ⟨some 32, none, .mov (.t 8)⟩, 
    ⟨some 33, none, .bld [.p (.int .i64 0), .p (.int .i64 0)] [(0, 1, (.t 31)), (1, 1, (.t 32))]⟩, 
    ⟨some 34, none, .eqa false [true, true] (.t 30) (.t 33)⟩, 
    ⟨some 35, none, .mov (.t 34)⟩, 
    ⟨some 36, (some (35, true)), .mov (.t 9)⟩, 
    ⟨some 37, (some (35, true)), .mov (.t 0)⟩, 
    ⟨some 38, (some (35, true)), .mov (.t 2)⟩, 
    ⟨some 39, (some (35, true)), .off (.t 4) 2⟩, 
    ⟨some 40, (some (35, true)), .ld (.t 39) 1 false⟩, 
    ⟨some 41, (some (35, true)), .call 40 [(.t 37), (.t 38), (.t 40)] false⟩, 
    ⟨some 42, (some (35, true)), .bin .eql (.t 36) (.t 41)⟩, 
    ⟨some 43, none, .pick (.t 35) (.t 42) (.c (.p (.bool false)))⟩, 
    ⟨some 44, none, .mov (.t 43)⟩, 
    ⟨some 45, (some (44, true)), .mov (.t 2)⟩, 
    ⟨some 46, (some (44, true)), .call 41 [(.t 45)] false⟩, 
    ⟨some 47, (some (44, true)), .mov (.t 2)⟩, 
    ⟨some 48, (some (44, true)), .call 42 [(.t 47)] false⟩, 
    ⟨some 49, (some (44, true)), .bin .eql (.t 46) (.t 48)⟩, 
    ⟨some 50, none, .pick (.t 44) (.t 49) (.c (.p (.bool false)))⟩, 
    ⟨some 51, none, .mov (.t 50)⟩, 
    ⟨some 52, (some (51, true)), .mov (.t 2)⟩, 
    ⟨some 53, (some (51, true)), .mov (.t 2)⟩, 
    ⟨some 54, (some (51, true)), .call 43 [(.t 52), (.t 53)] false⟩, 
    ⟨some 55, none, .pick (.t 51) (.t 54) (.c (.p (.bool false)))⟩, 
    ⟨some 56, none, .mov (.t 55)⟩, 
    ⟨some 57, (some (56, true)), .mov (.t 2)⟩, 
    ⟨some 58, (some (56, true)), .call 43 [(.t 57), (.c (.nils))] false⟩, 
    ⟨some 59, (some (56, true)), .mov (.t 2)⟩, 
    ⟨some 60, (some (56, true)), .len (.t 59)⟩, 
    ⟨some 61, (some (56, true)), .bin .eql (.t 60) (.c (.p (.int .i64 0)))⟩, 
    ⟨some 62, (some (56, true)), .eqb false (.t 58) (.t 61)⟩, 
    ⟨some 63, none, .pick (.t 56) (.t 62) (.c (.p (.bool false)))⟩, 
    ⟨some 64, none, .mov (.t 63)⟩, 
    ⟨some 65, (some (64, true)), .call 35 [] false⟩, 
    ⟨some 66, none, .pick (.t 64) (.t 65) (.c (.p (.bool false)))⟩, 
    ⟨some 6, none, .mov (.t 66)⟩] [6] [])
  .ret))))),
  [.tmp 6], false⟩
def ir17 : IFn :=   -- tympan/tympanlaw11.awake
⟨(.seq (.reg false [⟨some 0, none, .mov (.c (.p (.bool false)))⟩] [] [])
  (.seq (.reg false [⟨some 2, none, .bsl 1 3 [.p (.int .i64 0)] [(0, (.c (.p (.int .i64 3)))), (1, (.c (.p (.int .i64 4)))), (2, (.c (.p (.int .i64 5))))]⟩, 
    ⟨some 3, none, .bsl 1 2 [.p (.int .i64 0)] [(0, (.c (.p (.int .i64 7)))), (1, (.c (.p (.int .i64 10000))))]⟩, 
    ⟨some 4, none, .bld [.nils, .nils] [(0, 1, (.t 2)), (1, 1, (.t 3))]⟩, 
    ⟨some 1, none, .al [.nils, .nils] true⟩, 
    ⟨none, none, .st (.t 1) (.t 4) 2⟩] [1] [1])
  (.seq (.reg false [⟨some 5, none, .ld (.t 1) 2 true⟩, 
    ⟨some 6, none, .call 18 [(.t 5)] false⟩, 
    ⟨some 7, none, .bin .eql (.t 6) (.c (.p (.int .i64 0)))⟩, 
    ⟨some 8, none, .mov (.t 7)⟩, 
    ⟨some 9, (some (8, true)), .ld (.t 1) 2 true⟩, 
    ⟨some 10, (some (8, true)), .call 20 [(.t 9), (.c (.p (.int .i64 1)))] false⟩, 
    ⟨some 11, none, .pick (.t 8) (.t 10) (.c (.p (.bool false)))⟩, 
    ⟨some 12, none, .mov (.t 11)⟩, 
    ⟨some 13, (some (12, true)), .ld (.t 1) 2 true⟩, 
    ⟨some 14, (some (12, true)), .call 20 [(.t 13), (.c (.p (.int .i64 2)))] false⟩, 
    ⟨some 15, (some (12, true)), .un .not (.t 14)⟩, 
    ⟨some 16, none, .pick (.t 12) (.t 15) (.c (.p (.bool false)))⟩, 
    ⟨some 17, none, .mov (.t 16)⟩, 
    ⟨some 18, (some (17, true)), .ld (.t 1) 2 true⟩, 
    ⟨some 19, (some (17, true)), .call 29 [(.t 18), (.c (.p (.int .i64 1))), (.c (.p (.int .i64 3)))] false⟩, 
    ⟨some 20, (some (17, true)), .bin .eql (.t 19) (.c (.p (.int .i64 9)))⟩, 
    ⟨some 21, none, .pick (.t 17) (.t 20) (.c (.p (.bool false)))⟩, 
    ⟨some 22, none, .mov (.t 21)⟩, 
    ⟨some 23, (some (22, true)), .ld (.t 1) 2 true⟩, 
    ⟨some 24, (some (22, true)), .call 22 [(.t 23), (.c (.p (.int .i64 1)))] false⟩, 
    ⟨some 25, (some (22, true)), .bin .eql (.t 24) (.c (.p (.int .i64 7)))⟩, 
    ⟨some 26, none, .pick (.t 22) (.t 25) (.c (.p (.bool false)))⟩, 
    ⟨some 27, none, .mov (.t 26)⟩, 
    ⟨some 28, (some (27, true)), .ld (.t 1) 2 true⟩, 
    ⟨some 29, (some (27, true)), .call 27 [(.t 28), (.c (.p (.int .i64 1)))] false⟩, 
    ⟨some 30, (some (27, true)), .bin .eql (.t 29) (.c (.p (.int .i64 3)))⟩, 
    ⟨some 31, none, .pick (.t 27) (.t 30) (.c (.p (.bool false)))⟩, 
    ⟨some 0, none, .mov (.t 31)⟩] [0] [])
  .ret))),
  [.tmp 0], false⟩
def lp18_0 : IC :=
  (.loop [1, 3, 29, 30, 31] [1] (.seq (.reg false [⟨some 32, none, .bin .lss (.t 31) (.t 30)⟩] [1, 3, 29, 30, 31, 32] [1])
      (.seq (.cond (.t 32)
      .skip
      (.exit 0))
      (.seq (.block 1 (.seq (.reg false [⟨some 33, none, .ixs (.t 29) (.t 31) 1⟩, 
          ⟨some 34, none, .ld (.t 33) 1 false⟩, 
          ⟨some 5, none, .mov (.t 34)⟩] [1, 3, 5, 29, 30, 31] [1])
        (.reg false [⟨some 35, none, .mov (.t 3)⟩, 
          ⟨some 36, none, .mov (.t 35)⟩, 
          ⟨some 37, (some (36, false)), .mov (.t 5)⟩, 
          ⟨some 38, (some (36, false)), .bin .lss (.t 37) (.c (.p (.int .i64 1)))⟩, 
          ⟨some 39, none, .pick (.t 36) (.c (.p (.bool true))) (.t 38)⟩, 
          ⟨some 40, none, .mov (.t 39)⟩, 
          ⟨some 41, (some (40, false)), .mov (.t 5)⟩, 
          ⟨some 42, (some (40, false)), .bin .gtr (.t 41) (.c (.p (.int .i64 1073741823)))⟩, 
          ⟨some 43, none, .pick (.t 40) (.c (.p (.bool true))) (.t 42)⟩, 
          ⟨some 3, none, .mov (.t 43)⟩] [1, 3, 29, 30, 31] [1])))
      (.reg false [⟨some 44, none, .bin .add (.t 31) (.c (.p (.int .i64 1)))⟩, 
        ⟨some 31, none, .mov (.t 44)⟩] [1, 3, 29, 30, 31] [1])))))
def lp18_1 : IC :=
  (.loop [3, 46, 47, 48] [] (.seq (.reg false [⟨some 49, none, .bin .lss (.t 48) (.t 47)⟩] [3, 46, 47, 48, 49] [])
      (.seq (.cond (.t 49)
      .skip
      (.exit 2))
      (.seq (.block 3 (.seq (.reg false [⟨some 50, none, .ixs (.t 46) (.t 48) 1⟩, 
          ⟨some 51, none, .ld (.t 50) 1 false⟩, 
          ⟨some 7, none, .mov (.t 51)⟩] [3, 7, 46, 47, 48] [])
        (.reg false [⟨some 52, none, .mov (.t 3)⟩, 
          ⟨some 53, none, .mov (.t 52)⟩, 
          ⟨some 54, (some (53, false)), .mov (.t 7)⟩, 
          ⟨some 55, (some (53, false)), .bin .lss (.t 54) (.c (.p (.int .i64 0)))⟩, 
          ⟨some 56, none, .pick (.t 53) (.c (.p (.bool true))) (.t 55)⟩, 
          ⟨some 57, none, .mov (.t 56)⟩, 
          ⟨some 58, (some (57, false)), .mov (.t 7)⟩, 
          ⟨some 59, (some (57, false)), .bin .gtr (.t 58) (.c (.p (.int .i64 10000)))⟩, 
          ⟨some 60, none, .pick (.t 57) (.c (.p (.bool true))) (.t 59)⟩, 
          ⟨some 3, none, .mov (.t 60)⟩] [3, 46, 47, 48] [])))
      (.reg false [⟨some 61, none, .bin .add (.t 48) (.c (.p (.int .i64 1)))⟩, 
        ⟨some 48, none, .mov (.t 61)⟩] [3, 46, 47, 48] [])))))
def ir18 : IFn :=   -- tympan/note.Check
⟨(.seq (.reg false [⟨some 1, none, .bx (.t 0) 2 true⟩, 
    ⟨some 2, none, .mov (.c (.p (.int .i64 0)))⟩] [1] [1])
  (.seq (.reg false [⟨some 8, none, .off (.t 1) 0⟩, 
    ⟨some 9, none, .ld (.t 8) 1 false⟩, 
    ⟨some 10, none, .len (.t 9)⟩, 
    ⟨some 11, none, .bin .lss (.t 10) (.c (.p (.int .i64 1)))⟩, 
    ⟨some 12, none, .mov (.t 11)⟩, 
    ⟨some 13, (some (12, false)), .off (.t 1) 0⟩, 
    ⟨some 14, (some (12, false)), .ld (.t 13) 1 false⟩, 
    ⟨some 15, (some (12, false)), .len (.t 14)⟩, 
    ⟨some 16, (some (12, false)), .bin .gtr (.t 15) (.c (.p (.int .i64 64)))⟩, 
    ⟨some 17, none, .pick (.t 12) (.c (.p (.bool true))) (.t 16)⟩, 
    ⟨some 18, none, .mov (.t 17)⟩, 
    ⟨some 19, (some (18, false)), .off (.t 1) 1⟩, 
    ⟨some 20, (some (18, false)), .ld (.t 19) 1 false⟩, 
    ⟨some 21, (some (18, false)), .len (.t 20)⟩, 
    ⟨some 22, (some (18, false)), .off (.t 1) 0⟩, 
    ⟨some 23, (some (18, false)), .ld (.t 22) 1 false⟩, 
    ⟨some 24, (some (18, false)), .len (.t 23)⟩, 
    ⟨some 25, (some (18, false)), .bin .sub (.t 24) (.c (.p (.int .i64 1)))⟩, 
    ⟨some 26, (some (18, false)), .bin .neq (.t 21) (.t 25)⟩, 
    ⟨some 27, none, .pick (.t 18) (.c (.p (.bool true))) (.t 26)⟩, 
    ⟨some 3, none, .mov (.t 27)⟩] [1, 3] [1])
  (.seq (.seq (.reg false [⟨some 28, none, .off (.t 1) 0⟩, 
    ⟨some 29, none, .ld (.t 28) 1 false⟩, 
    ⟨some 30, none, .len (.t 29)⟩, 
    ⟨some 31, none, .mov (.c (.p (.int .i64 0)))⟩] [1, 3, 29, 30, 31] [1])
  (.block 0 lp18_0))
  (.seq (.seq (.reg false [⟨some 45, none, .off (.t 1) 1⟩, 
    ⟨some 46, none, .ld (.t 45) 1 false⟩, 
    ⟨some 47, none, .len (.t 46)⟩, 
    ⟨some 48, none, .mov (.c (.p (.int .i64 0)))⟩] [3, 46, 47, 48] [])
  (.block 2 lp18_1))
  (.seq (.seq (.reg false [⟨some 62, none, .mov (.t 3)⟩] [62] [])
  (.cond (.t 62)
  (.seq (.reg false [⟨some 2, none, .mov (.c (.p (.int .i64 9)))⟩] [2] [])
    .ret)
  .skip))
  (.seq (.reg false [⟨some 2, none, .mov (.c (.p (.int .i64 0)))⟩] [2] [])
  .ret)))))),
  [.tmp 2], false⟩
def ir20 : IFn :=   -- tympan/note.May
⟨(.seq (.reg false [⟨some 2, none, .bx (.t 0) 2 true⟩, 
    ⟨some 4, none, .mov (.c (.p (.bool false)))⟩] [1, 2] [2])
  (.seq (.reg false [⟨some 5, none, .ld (.t 2) 2 true⟩, 
    ⟨some 6, none, .mov (.t 1)⟩, 
    ⟨some 7, none, .call 84 [(.t 5), (.t 6)] false⟩, 
    ⟨some 4, none, .mov (.t 7)⟩] [4] [])
  .ret)),
  [.tmp 4], false⟩
def ir22 : IFn :=   -- tympan/note.Pen
⟨(.seq (.reg false [⟨some 2, none, .bx (.t 0) 2 true⟩, 
    ⟨some 4, none, .mov (.c (.p (.int .i64 0)))⟩] [1, 2] [2])
  (.seq (.seq (.reg false [⟨some 5, none, .ld (.t 2) 2 true⟩, 
    ⟨some 6, none, .mov (.t 1)⟩, 
    ⟨some 7, none, .call 86 [(.t 5), (.t 6)] false⟩] [1, 2, 7] [2])
  (.cond (.t 7)
  (.seq (.reg false [⟨some 8, none, .off (.t 2) 1⟩, 
      ⟨some 9, none, .ld (.t 8) 1 false⟩, 
      ⟨some 10, none, .mov (.t 1)⟩, 
      ⟨some 11, none, .bin .sub (.t 10) (.c (.p (.int .i64 1)))⟩, 
      ⟨some 12, none, .ixs (.t 9) (.t 11) 1⟩, 
      ⟨some 13, none, .ld (.t 12) 1 false⟩, 
      ⟨some 4, none, .mov (.t 13)⟩] [4] [])
    .ret)
  .skip))
  (.seq (.reg false [⟨some 4, none, .mov (.c (.p (.int .i64 0)))⟩] [4] [])
  .ret))),
  [.tmp 4], false⟩
def ir25 : IFn :=   -- tympan/note.Stops
⟨(.seq (.reg false [⟨some 2, none, .bx (.t 0) 2 true⟩, 
    ⟨some 4, none, .mov (.c (.nils))⟩] [1, 2] [2])
  (.seq (.reg false [⟨some 5, none, .mov (.t 1)⟩, 
    ⟨some 6, none, .mnmx true (.t 5) (.c (.p (.int .i64 (-1))))⟩, 
    ⟨some 7, none, .off (.t 2) 0⟩, 
    ⟨some 8, none, .ld (.t 7) 1 false⟩, 
    ⟨some 9, none, .len (.t 8)⟩, 
    ⟨some 10, none, .mnmx false (.t 6) (.t 9)⟩, 
    ⟨some 1, none, .mov (.t 10)⟩] [1, 2] [2])
  (.seq (.reg false [⟨some 11, none, .mov (.t 1)⟩, 
    ⟨some 12, none, .bin .add (.t 11) (.c (.p (.int .i64 1)))⟩, 
    ⟨some 13, none, .off (.t 2) 0⟩, 
    ⟨some 14, none, .ld (.t 13) 1 false⟩, 
    ⟨some 15, none, .len (.t 14)⟩, 
    ⟨some 16, none, .ld (.t 2) 2 true⟩, 
    ⟨some 17, none, .mkf (.func 84) [(.t 16)] []⟩, 
    ⟨some 18, none, .call 87 [(.t 12), (.t 15), (.t 17)] false⟩, 
    ⟨some 4, none, .mov (.t 18)⟩] [4] [])
  .ret))),
  [.tmp 4], false⟩
def ir27 : IFn :=   -- tympan/note.First
⟨(.seq (.reg false [⟨some 2, none, .bx (.t 0) 2 true⟩, 
    ⟨some 4, none, .mov (.c (.p (.int .i64 0)))⟩] [1, 2] [2])
  (.seq (.reg false [⟨some 6, none, .ld (.t 2) 2 true⟩, 
    ⟨some 7, none, .mov (.t 1)⟩, 
    ⟨some 8, none, .call 25 [(.t 6), (.t 7)] false⟩, 
    ⟨some 5, none, .mov (.t 8)⟩] [5] [])
  (.seq (.seq (.reg false [⟨some 9, none, .mov (.t 5)⟩, 
    ⟨some 10, none, .len (.t 9)⟩, 
    ⟨some 11, none, .bin .eql (.t 10) (.c (.p (.int .i64 0)))⟩] [5, 11] [])
  (.cond (.t 11)
  (.seq (.reg false [⟨some 4, none, .mov (.c (.p (.int .i64 (-1))))⟩] [4] [])
    .ret)
  .skip))
  (.seq (.reg false [⟨some 12, none, .mov (.t 5)⟩, 
    ⟨some 13, none, .ixs (.t 12) (.c (.p (.int .i64 0))) 1⟩, 
    ⟨some 14, none, .ld (.t 13) 1 false⟩, 
    ⟨some 4, none, .mov (.t 14)⟩] [4] [])
  .ret)))),
  [.tmp 4], false⟩
def lp29_0 : IC :=
  (.loop [2, 3, 7, 8] [3] (.seq (.seq (.reg false [⟨some 17, none, .mov (.t 8)⟩, 
        ⟨some 18, none, .mov (.t 2)⟩, 
        ⟨some 19, none, .bin .lss (.t 17) (.t 18)⟩] [2, 3, 7, 8, 19] [3])
      (.cond (.t 19)
      .skip
      (.exit 0)))
      (.seq (.block 1 (.reg false [⟨some 22, none, .mov (.t 7)⟩, 
          ⟨some 23, none, .off (.t 3) 0⟩, 
          ⟨some 24, none, .ld (.t 23) 1 false⟩, 
          ⟨some 25, none, .mov (.t 8)⟩, 
          ⟨some 26, none, .ixs (.t 24) (.t 25) 1⟩, 
          ⟨some 27, none, .ld (.t 26) 1 false⟩, 
          ⟨some 28, none, .mnmx true (.t 27) (.c (.p (.int .i64 0)))⟩, 
          ⟨some 29, none, .mnmx false (.t 28) (.c (.p (.int .i64 1125899906842624)))⟩, 
          ⟨some 30, none, .bin .add (.t 22) (.t 29)⟩, 
          ⟨some 31, none, .mnmx false (.t 30) (.c (.p (.int .i64 1125899906842624)))⟩, 
          ⟨some 7, none, .mov (.t 31)⟩] [2, 3, 7, 8] [3]))
      (.reg false [⟨some 20, none, .mov (.t 8)⟩, 
        ⟨some 21, none, .bin .add (.t 20) (.c (.p (.int .i64 1)))⟩, 
        ⟨some 8, none, .mov (.t 21)⟩] [2, 3, 7, 8] [3]))))
def ir29 : IFn :=   -- tympan/note.High
⟨(.seq (.reg false [⟨some 3, none, .bx (.t 0) 2 true⟩, 
    ⟨some 6, none, .mov (.c (.p (.int .i64 0)))⟩] [1, 2, 3] [3])
  (.seq (.reg true [⟨some 9, none, .mov (.t 1)⟩, 
    ⟨some 10, none, .mnmx true (.t 9) (.c (.p (.int .i64 0)))⟩, 
    ⟨some 11, none, .mov (.t 2)⟩, 
    ⟨some 12, none, .off (.t 3) 0⟩, 
    ⟨some 13, none, .ldl 3 (.t 12) 1 false⟩, 
    ⟨some 14, none, .len (.t 13)⟩, 
    ⟨some 15, none, .mnmx false (.t 11) (.t 14)⟩, 
    ⟨some 1, none, .mov (.t 10)⟩, 
    ⟨some 2, none, .mov (.t 15)⟩] [1, 2, 3] [3])
  (.seq (.reg false [⟨some 7, none, .mov (.c (.p (.int .i64 0)))⟩] [1, 2, 3, 7] [3])
  (.seq (.seq (.reg false [⟨some 16, none, .mov (.t 1)⟩, 
    ⟨some 8, none, .mov (.t 16)⟩] [2, 3, 7, 8] [3])
  (.block 0 lp29_0))
  (.seq (.reg false [⟨some 32, none, .mov (.t 7)⟩, 
    ⟨some 6, none, .mov (.t 32)⟩] [6] [])
  .ret))))),
  [.tmp 6], false⟩
def lp30_0 : IC :=
  (.loop [1, 2, 3, 7, 8] [3] (.seq (.seq (.reg false [⟨some 9, none, .mov (.t 8)⟩, 
        ⟨some 10, none, .off (.t 3) 0⟩, 
        ⟨some 11, none, .ld (.t 10) 1 false⟩, 
        ⟨some 12, none, .len (.t 11)⟩, 
        ⟨some 13, none, .bin .lss (.t 9) (.t 12)⟩] [1, 2, 3, 7, 8, 13] [3])
      (.cond (.t 13)
      .skip
      (.exit 0)))
      (.seq (.block 1 (.seq (.reg false [⟨some 16, none, .mov (.t 8)⟩, 
          ⟨some 17, none, .mov (.t 1)⟩, 
          ⟨some 18, none, .bin .geq (.t 16) (.t 17)⟩, 
          ⟨some 19, none, .mov (.t 18)⟩, 
          ⟨some 20, (some (19, true)), .mov (.t 8)⟩, 
          ⟨some 21, (some (19, true)), .mov (.t 2)⟩, 
          ⟨some 22, (some (19, true)), .bin .lss (.t 20) (.t 21)⟩, 
          ⟨some 23, none, .pick (.t 19) (.t 22) (.c (.p (.bool false)))⟩] [1, 2, 3, 7, 8, 23] [3])
        (.cond (.t 23)
        (.reg false [⟨some 24, none, .mov (.t 7)⟩, 
            ⟨some 25, none, .off (.t 3) 0⟩, 
            ⟨some 26, none, .ld (.t 25) 1 false⟩, 
            ⟨some 27, none, .mov (.t 8)⟩, 
            ⟨some 28, none, .ixs (.t 26) (.t 27) 1⟩, 
            ⟨some 29, none, .ld (.t 28) 1 false⟩, 
            ⟨some 30, none, .mnmx false (.t 29) (.c (.p (.int .i64 1125899906842624)))⟩, 
            ⟨some 31, none, .mnmx true (.c (.p (.int .i64 0))) (.t 30)⟩, 
            ⟨some 32, none, .bin .add (.t 24) (.t 31)⟩, 
            ⟨some 33, none, .mnmx false (.t 32) (.c (.p (.int .i64 1125899906842624)))⟩, 
            ⟨some 7, none, .mov (.t 33)⟩] [1, 2, 3, 7, 8] [3])
        .skip)))
      (.reg false [⟨some 14, none, .mov (.t 8)⟩, 
        ⟨some 15, none, .bin .add (.t 14) (.c (.p (.int .i64 1)))⟩, 
        ⟨some 8, none, .mov (.t 15)⟩] [1, 2, 3, 7, 8] [3]))))
def ir30 : IFn :=   -- tympan/tympanref11.High
⟨(.seq (.reg false [⟨some 3, none, .bx (.t 0) 2 true⟩, 
    ⟨some 6, none, .mov (.c (.p (.int .i64 0)))⟩] [1, 2, 3] [3])
  (.seq (.reg false [⟨some 7, none, .mov (.c (.p (.int .i64 0)))⟩] [1, 2, 3, 7] [3])
  (.seq (.seq (.reg false [⟨some 8, none, .mov (.c (.p (.int .i64 0)))⟩] [1, 2, 3, 7, 8] [3])
  (.block 0 lp30_0))
  (.seq (.reg false [⟨some 34, none, .mov (.t 7)⟩, 
    ⟨some 6, none, .mov (.t 34)⟩] [6] [])
  .ret)))),
  [.tmp 6], false⟩
def lp34_0 : IC :=
  (.loop [0, 1, 5] [] (.seq (.seq (.reg false [⟨some 7, none, .mov (.t 5)⟩, 
        ⟨some 8, none, .mov (.t 0)⟩, 
        ⟨some 9, none, .len (.t 8)⟩, 
        ⟨some 10, none, .bin .lss (.t 7) (.t 9)⟩, 
        ⟨some 11, none, .mov (.t 10)⟩, 
        ⟨some 12, (some (11, true)), .mov (.t 5)⟩, 
        ⟨some 13, (some (11, true)), .bin .lss (.t 12) (.c (.p (.int .i64 50)))⟩, 
        ⟨some 14, none, .pick (.t 11) (.t 13) (.c (.p (.bool false)))⟩] [0, 1, 5, 14] [])
      (.cond (.t 14)
      .skip
      (.exit 0)))
      (.seq (.block 1 (.seq (.reg false [⟨some 17, none, .mov (.t 0)⟩, 
          ⟨some 18, none, .mov (.t 5)⟩, 
          ⟨some 19, none, .ixs (.t 17) (.t 18) 2⟩, 
          ⟨some 20, none, .off (.t 19) 0⟩, 
          ⟨some 21, none, .ld (.t 20) 1 false⟩, 
          ⟨some 22, none, .len (.t 21)⟩, 
          ⟨some 23, none, .bin .gtr (.t 22) (.c (.p (.int .i64 50)))⟩] [0, 1, 5, 23] [])
        (.cond (.t 23)
        (.seq (.reg false [⟨some 4, none, .mov (.c (.p (.bool true)))⟩] [4] [])
          .ret)
        .skip)))
      (.reg false [⟨some 15, none, .mov (.t 5)⟩, 
        ⟨some 16, none, .bin .add (.t 15) (.c (.p (.int .i64 1)))⟩, 
        ⟨some 5, none, .mov (.t 16)⟩] [0, 1, 5] []))))
def lp34_1 : IC :=
  (.loop [0, 1, 6] [] (.seq (.seq (.reg false [⟨some 24, none, .mov (.t 6)⟩, 
        ⟨some 25, none, .mov (.t 1)⟩, 
        ⟨some 26, none, .len (.t 25)⟩, 
        ⟨some 27, none, .bin .lss (.t 24) (.t 26)⟩, 
        ⟨some 28, none, .mov (.t 27)⟩, 
        ⟨some 29, (some (28, true)), .mov (.t 6)⟩, 
        ⟨some 30, (some (28, true)), .bin .lss (.t 29) (.c (.p (.int .i64 50)))⟩, 
        ⟨some 31, none, .pick (.t 28) (.t 30) (.c (.p (.bool false)))⟩] [0, 1, 6, 31] [])
      (.cond (.t 31)
      .skip
      (.exit 2)))
      (.seq (.block 3 (.seq (.reg false [⟨some 34, none, .mov (.t 1)⟩, 
          ⟨some 35, none, .mov (.t 6)⟩, 
          ⟨some 36, none, .ixs (.t 34) (.t 35) 3⟩, 
          ⟨some 37, none, .off (.t 36) 1⟩, 
          ⟨some 38, none, .ld (.t 37) 1 false⟩, 
          ⟨some 39, none, .bin .lss (.t 38) (.c (.p (.int .i64 (-1073741824))))⟩, 
          ⟨some 40, none, .mov (.t 39)⟩, 
          ⟨some 41, (some (40, false)), .mov (.t 1)⟩, 
          ⟨some 42, (some (40, false)), .mov (.t 6)⟩, 
          ⟨some 43, (some (40, false)), .ixs (.t 41) (.t 42) 3⟩, 
          ⟨some 44, (some (40, false)), .off (.t 43) 2⟩, 
          ⟨some 45, (some (40, false)), .ld (.t 44) 1 false⟩, 
          ⟨some 46, (some (40, false)), .bin .gtr (.t 45) (.c (.p (.int .i64 1073741824)))⟩, 
          ⟨some 47, none, .pick (.t 40) (.c (.p (.bool true))) (.t 46)⟩, 
          ⟨some 48, none, .mov (.t 47)⟩, 
          ⟨some 49, (some (48, false)), .mov (.t 1)⟩, 
          ⟨some 50, (some (48, false)), .mov (.t 6)⟩, 
          ⟨some 51, (some (48, false)), .ixs (.t 49) (.t 50) 3⟩, 
          ⟨some 52, (some (48, false)), .off (.t 51) 1⟩, 
          ⟨some 53, (some (48, false)), .ld (.t 52) 1 false⟩, 
          ⟨some 54, (some (48, false)), .bin .gtr (.t 53) (.c (.p (.int .i64 1073741824)))⟩, 
          ⟨some 55, none, .pick (.t 48) (.c (.p (.bool true))) (.t 54)⟩, 
          ⟨some 56, none, .mov (.t 55)⟩, 
          ⟨some 57, (some (56, false)), .mov (.t 1)⟩, 
          ⟨some 58, (some (56, false)), .mov (.t 6)⟩, 
          ⟨some 59, (some (56, false)), .ixs (.t 57) (.t 58) 3⟩, 
          ⟨some 60, (some (56, false)), .off (.t 59) 2⟩, 
          ⟨some 61, (some (56, false)), .ld (.t 60) 1 false⟩, 
          ⟨some 62, (some (56, false)), .bin .lss (.t 61) (.c (.p (.int .i64 (-1073741824))))⟩, 
          ⟨some 63, none, .pick (.t 56) (.c (.p (.bool true))) (.t 62)⟩] [0, 1, 6, 63] [])
        (.cond (.t 63)
        (.seq (.reg false [⟨some 4, none, .mov (.c (.p (.bool true)))⟩] [4] [])
          .ret)
        .skip)))
      (.reg false [⟨some 32, none, .mov (.t 6)⟩, 
        ⟨some 33, none, .bin .add (.t 32) (.c (.p (.int .i64 1)))⟩, 
        ⟨some 6, none, .mov (.t 33)⟩] [0, 1, 6] []))))
def ir34 : IFn :=   -- tympan/tympanlaw22.large
⟨(.seq (.reg false [⟨some 4, none, .mov (.c (.p (.bool false)))⟩] [0, 1] [])
  (.seq (.seq (.reg false [⟨some 5, none, .mov (.c (.p (.int .i64 0)))⟩] [0, 1, 5] [])
  (.block 0 lp34_0))
  (.seq (.seq (.reg false [⟨some 6, none, .mov (.c (.p (.int .i64 0)))⟩] [0, 1, 6] [])
  (.block 2 lp34_1))
  (.seq (.reg false [⟨some 64, none, .mov (.t 0)⟩, 
    ⟨some 65, none, .len (.t 64)⟩, 
    ⟨some 66, none, .bin .gtr (.t 65) (.c (.p (.int .i64 50)))⟩, 
    ⟨some 67, none, .mov (.t 66)⟩, 
    ⟨some 68, (some (67, false)), .mov (.t 1)⟩, 
    ⟨some 69, (some (67, false)), .len (.t 68)⟩, 
    ⟨some 70, (some (67, false)), .bin .gtr (.t 69) (.c (.p (.int .i64 50)))⟩, 
    ⟨some 71, none, .pick (.t 67) (.c (.p (.bool true))) (.t 70)⟩, 
    ⟨some 4, none, .mov (.t 71)⟩] [4] [])
  .ret)))),
  [.tmp 4], false⟩
def ir35 : IFn :=   -- tympan/tympanlaw22.awake
⟨(.seq (.reg false [⟨some 0, none, .mov (.c (.p (.bool false)))⟩] [] [])
  (.seq (.reg false [⟨some 4, none, .bsl 1 2 [.p (.int .i64 0)] [(0, (.c (.p (.int .i64 2)))), (1, (.c (.p (.int .i64 2))))]⟩, 
    ⟨some 5, none, .bsl 1 1 [.p (.int .i64 0)] [(0, (.c (.p (.int .i64 0))))]⟩, 
    ⟨some 6, none, .bld [.nils, .nils] [(0, 1, (.t 4)), (1, 1, (.t 5))]⟩, 
    ⟨some 7, none, .bsl 1 3 [.p (.int .i64 0)] [(0, (.c (.p (.int .i64 3)))), (1, (.c (.p (.int .i64 3)))), (2, (.c (.p (.int .i64 3))))]⟩, 
    ⟨some 8, none, .bsl 1 2 [.p (.int .i64 0)] [(0, (.c (.p (.int .i64 0)))), (1, (.c (.p (.int .i64 0))))]⟩, 
    ⟨some 9, none, .bld [.nils, .nils] [(0, 1, (.t 7)), (1, 1, (.t 8))]⟩, 
    ⟨some 10, none, .bsl 2 2 [.nils, .nils] [(0, (.t 6)), (1, (.t 9))]⟩, 
    ⟨some 1, none, .mov (.t 10)⟩] [1] [])
  (.seq (.reg false [⟨some 11, none, .bld [.p (.int .i64 0), .p (.int .i64 0), .p (.int .i64 0), .p (.bool false)] [(2, 1, (.c (.p (.int .i64 2)))), (3, 1, (.c (.p (.bool true))))]⟩, 
    ⟨some 2, none, .al [.p (.int .i64 0), .p (.int .i64 0), .p (.int .i64 0), .p (.bool false)] true⟩, 
    ⟨none, none, .st (.t 2) (.t 11) 4⟩] [1, 2] [2])
  (.seq (.reg false [⟨some 12, none, .mov (.t 1)⟩, 
    ⟨some 13, none, .ld (.t 2) 4 true⟩, 
    ⟨some 14, none, .call 90 [(.t 12), (.t 13)] false⟩, 
    ⟨some 3, none, .mov (.t 14)⟩] [1, 2, 3] [2])
  (.seq (.reg true [⟨some 15, none, .mov (.t 3)⟩, 
    ⟨some 16, none, .len (.t 15)⟩, 
    ⟨some 17, none, .bin .eql (.t 16) (.c (.p (.int .i64 3)))⟩, 
    ⟨some 18, none, .mov (.t 17)⟩, 
    ⟨some 19, (some (18, true)), .mov (.t 3)⟩, 
    ⟨some 20, (some (18, true)), .ixs (.t 19) (.c (.p (.int .i64 0))) 1⟩, 
    ⟨some 21, (some (18, true)), .ld (.t 20) 1 false⟩, 
    ⟨some 22, (some (18, true)), .len (.t 21)⟩, 
    ⟨some 23, (some (18, true)), .bin .eql (.t 22) (.c (.p (.int .i64 2)))⟩, 
    ⟨some 24, none, .pick (.t 18) (.t 23) (.c (.p (.bool false)))⟩, 
    ⟨some 25, none, .mov (.t 24)⟩, 
    ⟨some 26, (some (25, true)), .mov (.t 3)⟩, 
    ⟨some 27, (some (25, true)), .ixs (.t 26) (.c (.p (.int .i64 0))) 1⟩, 
    ⟨some 28, (some (25, true)), .ld (.t 27) 1 false⟩, 
    ⟨some 29, (some (25, true)), .ixs (.t 28) (.c (.p (.int .i64 1))) 3⟩, 
    ⟨some 30, (some (25, true)), .ld (.t 29) 3 true⟩, 
    ⟨some 31, (some (25, true)), .bld [.p (.int .i64 0), .p (.int .i64 0), .p (.int .i64 0)] [(0, 1, (.c (.p (.int .i64 1)))), (2, 1, (.c (.p (.int .i64 1))))]⟩, 
    ⟨some 32, (some (25, true)), .eqa false [true, true, true] (.t 30) (.t 31)⟩, 
    ⟨some 33, none, .pick (.t 25) (.t 32) (.c (.p (.bool false)))⟩, 
    ⟨some 34, none, .mov (.t 33)⟩, 
    ⟨some 35, (some (34, true)), .mov (.t 1)⟩, 
    ⟨some 36, (some (34, true)), .mov (.t 3)⟩, 
    ⟨some 37, (some (34, true)), .ixs (.t 36) (.c (.p (.int .i64 0))) 1⟩, 
    ⟨some 38, (some (34, true)), .ld (.t 37) 1 false⟩, 
    ⟨some 39, (some (34, true)), .call 37 [(.t 35), (.t 38), (.c (.p (.int .i64 1)))] false⟩, 
    ⟨some 40, (some (34, true)), .bin .eql (.t 39) (.c (.p (.int .i64 8)))⟩, 
    ⟨some 41, none, .pick (.t 34) (.t 40) (.c (.p (.bool false)))⟩, 
    ⟨some 42, none, .mov (.t 41)⟩, 
    ⟨some 43, (some (42, true)), .mov (.t 3)⟩, 
    ⟨some 44, (some (42, true)), .ixs (.t 43) (.c (.p (.int .i64 2))) 1⟩, 
    ⟨some 45, (some (42, true)), .ld (.t 44) 1 false⟩, 
    ⟨some 46, (some (42, true)), .call 41 [(.t 45)] false⟩, 
    ⟨some 47, (some (42, true)), .bin .eql (.t 46) (.c (.p (.int .i64 5)))⟩, 
    ⟨some 48, none, .pick (.t 42) (.t 47) (.c (.p (.bool false)))⟩, 
    ⟨some 49, none, .mov (.t 48)⟩, 
    ⟨some 50, (some (49, true)), .mov (.t 1)⟩, 
    ⟨some 51, (some (49, true)), .ldl 2 (.t 2) 4 true⟩, 
    ⟨some 52, (some (49, true)), .mov (.t 3)⟩, 
    ⟨some 53, (some (49, true)), .ixs (.t 52) (.c (.p (.int .i64 1))) 1⟩, 
    ⟨some 54, (some (49, true)), .ld (.t 53) 1 false⟩, 
    ⟨some 55, (some (49, true)), .call 91 [(.t 50), (.t 51), (.t 54)] false⟩, 
    ⟨some 56, none, .pick (.t 49) (.t 55) (.c (.p (.bool false)))⟩, 
    ⟨some 57, none, .mov (.t 56)⟩, 
    ⟨some 58, (some (57, true)), .mov (.t 1)⟩, 
    ⟨some 59, (some (57, true)), .ldl 2 (.t 2) 4 true⟩, 
    ⟨some 60, (some (57, true)), .call 91 [(.t 58), (.t 59), (.c (.nils))] false⟩, 
    ⟨some 61, (some (57, true)), .un .not (.t 60)⟩, 
    ⟨some 62, none, .pick (.t 57) (.t 61) (.c (.p (.bool false)))⟩, 
    ⟨some 0, none, .mov (.t 62)⟩] [0] [])
  .ret))))),
  [.tmp 0], false⟩
def ir36 : IFn :=   -- tympan/split.Next
⟨(.seq (.reg false [⟨some 4, none, .bx (.t 1) 4 true⟩, 
    ⟨some 6, none, .mov (.c (.p (.int .i64 0)))⟩, 
    ⟨some 7, none, .mov (.c (.p (.int .i64 0)))⟩] [0, 2, 4] [4])
  (.seq (.seq (.reg false [⟨some 9, none, .mov (.t 2)⟩, 
    ⟨some 10, none, .len (.t 9)⟩, 
    ⟨some 11, none, .bin .eql (.t 10) (.c (.p (.int .i64 0)))⟩] [0, 2, 4, 11] [4])
  (.cond (.t 11)
  (.seq (.reg true [⟨some 12, none, .off (.t 4) 0⟩, 
      ⟨some 13, none, .ldl 4 (.t 12) 1 false⟩, 
      ⟨some 14, none, .off (.t 4) 1⟩, 
      ⟨some 15, none, .ldl 4 (.t 14) 1 false⟩, 
      ⟨some 6, none, .mov (.t 13)⟩, 
      ⟨some 7, none, .mov (.t 15)⟩] [6, 7] [])
    .ret)
  .skip))
  (.seq (.reg false [⟨some 16, none, .mov (.t 2)⟩, 
    ⟨some 17, none, .mov (.t 2)⟩, 
    ⟨some 18, none, .len (.t 17)⟩, 
    ⟨some 19, none, .bin .sub (.t 18) (.c (.p (.int .i64 1)))⟩, 
    ⟨some 20, none, .ixs (.t 16) (.t 19) 3⟩, 
    ⟨some 21, none, .ld (.t 20) 3 true⟩, 
    ⟨some 8, none, .al [.p (.int .i64 0), .p (.int .i64 0), .p (.int .i64 0)] true⟩, 
    ⟨none, none, .st (.t 8) (.t 21) 3⟩] [0, 8] [8])
  (.seq (.seq (.reg true [⟨some 22, none, .off (.t 8) 0⟩, 
    ⟨some 23, none, .ldl 8 (.t 22) 1 false⟩, 
    ⟨some 24, none, .bin .geq (.t 23) (.c (.p (.int .i64 0)))⟩, 
    ⟨some 25, none, .mov (.t 24)⟩, 
    ⟨some 26, (some (25, true)), .off (.t 8) 0⟩, 
    ⟨some 27, (some (25, true)), .ldl 8 (.t 26) 1 false⟩, 
    ⟨some 28, (some (25, true)), .mov (.t 0)⟩, 
    ⟨some 29, (some (25, true)), .len (.t 28)⟩, 
    ⟨some 30, (some (25, true)), .bin .lss (.t 27) (.t 29)⟩, 
    ⟨some 31, none, .pick (.t 25) (.t 30) (.c (.p (.bool false)))⟩, 
    ⟨some 32, none, .mov (.t 31)⟩, 
    ⟨some 33, (some (32, true)), .off (.t 8) 2⟩, 
    ⟨some 34, (some (32, true)), .ldl 8 (.t 33) 1 false⟩, 
    ⟨some 35, (some (32, true)), .mov (.t 0)⟩, 
    ⟨some 36, (some (32, true)), .off (.t 8) 0⟩, 
    ⟨some 37, (some (32, true)), .ldl 8 (.t 36) 1 false⟩, 
    ⟨some 38, (some (32, true)), .ixs (.t 35) (.t 37) 2⟩, 
    ⟨some 39, (some (32, true)), .off (.t 38) 0⟩, 
    ⟨some 40, (some (32, true)), .ld (.t 39) 1 false⟩, 
    ⟨some 41, (some (32, true)), .len (.t 40)⟩, 
    ⟨some 42, (some (32, true)), .bin .eql (.t 34) (.t 41)⟩, 
    ⟨some 43, none, .pick (.t 32) (.t 42) (.c (.p (.bool false)))⟩] [8, 43] [8])
  (.cond (.t 43)
  (.seq (.reg false [⟨some 44, none, .off (.t 8) 0⟩, 
      ⟨some 45, none, .ld (.t 44) 1 false⟩, 
      ⟨some 46, none, .bin .add (.t 45) (.c (.p (.int .i64 1)))⟩, 
      ⟨some 6, none, .mov (.t 46)⟩, 
      ⟨some 7, none, .mov (.c (.p (.int .i64 0)))⟩] [6, 7] [])
    .ret)
  .skip))
  (.seq (.reg true [⟨some 47, none, .off (.t 8) 0⟩, 
    ⟨some 48, none, .ldl 8 (.t 47) 1 false⟩, 
    ⟨some 49, none, .off (.t 8) 2⟩, 
    ⟨some 50, none, .ldl 8 (.t 49) 1 false⟩, 
    ⟨some 6, none, .mov (.t 48)⟩, 
    ⟨some 7, none, .mov (.t 50)⟩] [6, 7] [])
  .ret))))),
  [.tmp 6, .tmp 7], false⟩
def lp37_0 : IC :=
  (.loop [0, 7, 16, 17, 18] [] (.seq (.reg false [⟨some 19, none, .bin .lss (.t 18) (.t 17)⟩] [0, 7, 16, 17, 18, 19] [])
      (.seq (.cond (.t 19)
      .skip
      (.exit 0))
      (.seq (.block 1 (.seq (.reg false [⟨some 20, none, .ixs (.t 16) (.t 18) 3⟩, 
          ⟨some 21, none, .ld (.t 20) 3 true⟩, 
          ⟨some 9, none, .al [.p (.int .i64 0), .p (.int .i64 0), .p (.int .i64 0)] true⟩, 
          ⟨none, none, .st (.t 9) (.t 21) 3⟩] [0, 7, 9, 16, 17, 18] [9])
        (.seq (.reg false [⟨some 22, none, .off (.t 9) 0⟩, 
          ⟨some 23, none, .ld (.t 22) 1 false⟩, 
          ⟨some 24, none, .bin .geq (.t 23) (.c (.p (.int .i64 0)))⟩, 
          ⟨some 25, none, .mov (.t 24)⟩, 
          ⟨some 26, (some (25, true)), .off (.t 9) 0⟩, 
          ⟨some 27, (some (25, true)), .ld (.t 26) 1 false⟩, 
          ⟨some 28, (some (25, true)), .mov (.t 0)⟩, 
          ⟨some 29, (some (25, true)), .len (.t 28)⟩, 
          ⟨some 30, (some (25, true)), .bin .lss (.t 27) (.t 29)⟩, 
          ⟨some 31, none, .pick (.t 25) (.t 30) (.c (.p (.bool false)))⟩] [0, 7, 9, 16, 17, 18, 31] [9])
        (.cond (.t 31)
        (.reg true [⟨some 32, none, .mov (.t 7)⟩, 
            ⟨some 33, none, .mov (.t 0)⟩, 
            ⟨some 34, none, .off (.t 9) 0⟩, 
            ⟨some 35, none, .ldl 9 (.t 34) 1 false⟩, 
            ⟨some 36, none, .ixs (.t 33) (.t 35) 2⟩, 
            ⟨some 37, none, .ld (.t 36) 2 true⟩, 
            ⟨some 38, none, .off (.t 9) 1⟩, 
            ⟨some 39, none, .ldl 9 (.t 38) 1 false⟩, 
            ⟨some 40, none, .off (.t 9) 2⟩, 
            ⟨some 41, none, .ldl 9 (.t 40) 1 false⟩, 
            ⟨some 42, none, .call 29 [(.t 37), (.t 39), (.t 41)] false⟩, 
            ⟨some 43, none, .bin .add (.t 32) (.t 42)⟩, 
            ⟨some 44, none, .mnmx false (.t 43) (.c (.p (.int .i64 1125899906842624)))⟩, 
            ⟨some 7, none, .mov (.t 44)⟩] [0, 7, 16, 17, 18] [])
        .skip))))
      (.reg false [⟨some 45, none, .bin .add (.t 18) (.c (.p (.int .i64 1)))⟩, 
        ⟨some 18, none, .mov (.t 45)⟩] [0, 7, 16, 17, 18] [])))))
def ir37 : IFn :=   -- tympan/split.High
⟨(.seq (.reg false [⟨some 6, none, .mov (.c (.p (.int .i64 0)))⟩] [0, 1, 2] [])
  (.seq (.seq (.reg false [⟨some 10, none, .mov (.t 1)⟩, 
    ⟨some 11, none, .len (.t 10)⟩, 
    ⟨some 12, none, .bin .eql (.t 11) (.c (.p (.int .i64 0)))⟩] [0, 1, 2, 12] [])
  (.cond (.t 12)
  (.seq (.reg false [⟨some 6, none, .mov (.c (.p (.int .i64 0)))⟩] [6] [])
    .ret)
  .skip))
  (.seq (.reg false [⟨some 13, none, .mov (.t 2)⟩, 
    ⟨some 14, none, .mnmx true (.t 13) (.c (.p (.int .i64 0)))⟩, 
    ⟨some 15, none, .mnmx false (.t 14) (.c (.p (.int .i64 1125899906842624)))⟩, 
    ⟨some 7, none, .mov (.t 15)⟩] [0, 1, 7] [])
  (.seq (.seq (.reg false [⟨some 16, none, .mov (.t 1)⟩, 
    ⟨some 17, none, .len (.t 16)⟩, 
    ⟨some 18, none, .mov (.c (.p (.int .i64 0)))⟩] [0, 7, 16, 17, 18] [])
  (.block 0 lp37_0))
  (.seq (.reg false [⟨some 46, none, .mov (.t 7)⟩, 
    ⟨some 6, none, .mov (.t 46)⟩] [6] [])
  .ret))))),
  [.tmp 6], false⟩
def ir38 : IFn :=   -- tympan/tympanref22.Next
⟨(.seq (.reg false [⟨some 4, none, .bx (.t 1) 4 true⟩, 
    ⟨some 6, none, .al [.p (.int .i64 0), .p (.int .i64 0)] true⟩] [0, 2, 4, 6] [4, 6])
  (.seq (.seq (.reg false [⟨some 8, none, .mov (.t 2)⟩, 
    ⟨some 9, none, .len (.t 8)⟩, 
    ⟨some 10, none, .bin .eql (.t 9) (.c (.p (.int .i64 0)))⟩] [0, 2, 4, 6, 10] [4, 6])
  (.cond (.t 10)
  (.seq (.reg false [⟨some 11, none, .off (.t 4) 0⟩, 
      ⟨some 12, none, .ld (.t 11) 1 false⟩, 
      ⟨some 13, none, .off (.t 4) 1⟩, 
      ⟨some 14, none, .ld (.t 13) 1 false⟩, 
      ⟨some 15, none, .bld [.p (.int .i64 0), .p (.int .i64 0)] [(0, 1, (.t 12)), (1, 1, (.t 14))]⟩, 
      ⟨none, none, .st (.t 6) (.t 15) 2⟩] [6] [6])
    .ret)
  .skip))
  (.seq (.reg false [⟨some 16, none, .mov (.t 2)⟩, 
    ⟨some 17, none, .mov (.t 2)⟩, 
    ⟨some 18, none, .len (.t 17)⟩, 
    ⟨some 19, none, .bin .sub (.t 18) (.c (.p (.int .i64 1)))⟩, 
    ⟨some 20, none, .ixs (.t 16) (.t 19) 3⟩, 
    ⟨some 21, none, .ld (.t 20) 3 true⟩, 
    ⟨some 7, none, .al [.p (.int .i64 0), .p (.int .i64 0), .p (.int .i64 0)] true⟩, 
    ⟨none, none, .st (.t 7) (.t 21) 3⟩] [0, 6, 7] [6, 7])
  (.seq (.seq (.reg true [⟨some 22, none, .off (.t 7) 0⟩, 
    ⟨some 23, none, .ldl 7 (.t 22) 1 false⟩, 
    ⟨some 24, none, .bin .geq (.t 23) (.c (.p (.int .i64 0)))⟩, 
    ⟨some 25, none, .mov (.t 24)⟩, 
    ⟨some 26, (some (25, true)), .off (.t 7) 0⟩, 
    ⟨some 27, (some (25, true)), .ldl 7 (.t 26) 1 false⟩, 
    ⟨some 28, (some (25, true)), .mov (.t 0)⟩, 
    ⟨some 29, (some (25, true)), .len (.t 28)⟩, 
    ⟨some 30, (some (25, true)), .bin .lss (.t 27) (.t 29)⟩, 
    ⟨some 31, none, .pick (.t 25) (.t 30) (.c (.p (.bool false)))⟩, 
    ⟨some 32, none, .mov (.t 31)⟩, 
    ⟨some 33, (some (32, true)), .off (.t 7) 2⟩, 
    ⟨some 34, (some (32, true)), .ldl 7 (.t 33) 1 false⟩, 
    ⟨some 35, (some (32, true)), .mov (.t 0)⟩, 
    ⟨some 36, (some (32, true)), .off (.t 7) 0⟩, 
    ⟨some 37, (some (32, true)), .ldl 7 (.t 36) 1 false⟩, 
    ⟨some 38, (some (32, true)), .ixs (.t 35) (.t 37) 2⟩, 
    ⟨some 39, (some (32, true)), .off (.t 38) 0⟩, 
    ⟨some 40, (some (32, true)), .ld (.t 39) 1 false⟩, 
    ⟨some 41, (some (32, true)), .len (.t 40)⟩, 
    ⟨some 42, (some (32, true)), .bin .eql (.t 34) (.t 41)⟩, 
    ⟨some 43, none, .pick (.t 32) (.t 42) (.c (.p (.bool false)))⟩] [6, 7, 43] [6, 7])
  (.cond (.t 43)
  (.seq (.reg false [⟨some 44, none, .off (.t 7) 0⟩, 
      ⟨some 45, none, .ld (.t 44) 1 false⟩, 
      ⟨some 46, none, .bin .add (.t 45) (.c (.p (.int .i64 1)))⟩, 
      ⟨some 47, none, .bld [.p (.int .i64 0), .p (.int .i64 0)] [(0, 1, (.t 46)), (1, 1, (.c (.p (.int .i64 0))))]⟩, 
      ⟨none, none, .st (.t 6) (.t 47) 2⟩] [6] [6])
    .ret)
  .skip))
  (.seq (.reg false [⟨some 48, none, .off (.t 7) 0⟩, 
    ⟨some 49, none, .ld (.t 48) 1 false⟩, 
    ⟨some 50, none, .off (.t 7) 2⟩, 
    ⟨some 51, none, .ld (.t 50) 1 false⟩, 
    ⟨some 52, none, .bld [.p (.int .i64 0), .p (.int .i64 0)] [(0, 1, (.t 49)), (1, 1, (.t 51))]⟩, 
    ⟨none, none, .st (.t 6) (.t 52) 2⟩] [6] [6])
  .ret))))),
  [.cell 6 2 true], false⟩
def ir39 : IFn :=   -- tympan/tympanlaw22.ref
⟨(.seq (.reg false [⟨some 1, none, .bx (.t 0) 4 true⟩, 
    ⟨some 2, none, .al [.p (.int .i64 0), .p (.int .i64 0), .p (.int .i64 0), .p (.bool false)] true⟩] [1, 2] [1, 2])
  (.seq (.reg false [⟨some 3, none, .off (.t 1) 0⟩, 
    ⟨some 4, none, .ld (.t 3) 1 false⟩, 
    ⟨some 5, none, .off (.t 1) 1⟩, 
    ⟨some 6, none, .ld (.t 5) 1 false⟩, 
    ⟨some 7, none, .off (.t 1) 2⟩, 
    ⟨some 8, none, .ld (.t 7) 1 false⟩, 
    ⟨some 9, none, .off (.t 1) 3⟩, 
    ⟨some 10, none, .ld (.t 9) 1 false⟩, 
    ⟨some 11, none, .bld [.p (.int .i64 0), .p (.int .i64 0), .p (.int .i64 0), .p (.bool false)] [(0, 1, (.t 4)), (1, 1, (.t 6)), (2, 1, (.t 8)), (3, 1, (.t 10))]⟩, 
    ⟨none, none, .st (.t 2) (.t 11) 4⟩] [2] [2])
  .ret)),
  [.cell 2 4 true], false⟩
def lp40_0 : IC :=
  (.loop [0, 1, 7, 8] [] (.seq (.seq (.reg false [⟨some 15, none, .mov (.t 8)⟩, 
        ⟨some 16, none, .mov (.t 1)⟩, 
        ⟨some 17, none, .len (.t 16)⟩, 
        ⟨some 18, none, .bin .lss (.t 15) (.t 17)⟩] [0, 1, 7, 8, 18] [])
      (.cond (.t 18)
      .skip
      (.exit 0)))
      (.seq (.block 1 (.seq (.reg false [⟨some 21, none, .mov (.t 1)⟩, 
          ⟨some 22, none, .mov (.t 8)⟩, 
          ⟨some 23, none, .ixs (.t 21) (.t 22) 3⟩, 
          ⟨some 24, none, .off (.t 23) 0⟩, 
          ⟨some 25, none, .ld (.t 24) 1 false⟩, 
          ⟨some 26, none, .bin .geq (.t 25) (.c (.p (.int .i64 0)))⟩, 
          ⟨some 27, none, .mov (.t 26)⟩, 
          ⟨some 28, (some (27, true)), .mov (.t 1)⟩, 
          ⟨some 29, (some (27, true)), .mov (.t 8)⟩, 
          ⟨some 30, (some (27, true)), .ixs (.t 28) (.t 29) 3⟩, 
          ⟨some 31, (some (27, true)), .off (.t 30) 0⟩, 
          ⟨some 32, (some (27, true)), .ld (.t 31) 1 false⟩, 
          ⟨some 33, (some (27, true)), .mov (.t 0)⟩, 
          ⟨some 34, (some (27, true)), .len (.t 33)⟩, 
          ⟨some 35, (some (27, true)), .bin .lss (.t 32) (.t 34)⟩, 
          ⟨some 36, none, .pick (.t 27) (.t 35) (.c (.p (.bool false)))⟩] [0, 1, 7, 8, 36] [])
        (.cond (.t 36)
        (.reg true [⟨some 37, none, .mov (.t 7)⟩, 
            ⟨some 38, none, .mov (.t 0)⟩, 
            ⟨some 39, none, .mov (.t 1)⟩, 
            ⟨some 40, none, .mov (.t 8)⟩, 
            ⟨some 41, none, .ixs (.t 39) (.t 40) 3⟩, 
            ⟨some 42, none, .off (.t 41) 0⟩, 
            ⟨some 43, none, .ld (.t 42) 1 false⟩, 
            ⟨some 44, none, .ixs (.t 38) (.t 43) 2⟩, 
            ⟨some 45, none, .ld (.t 44) 2 true⟩, 
            ⟨some 46, none, .mov (.t 1)⟩, 
            ⟨some 47, none, .mov (.t 8)⟩, 
            ⟨some 48, none, .ixs (.t 46) (.t 47) 3⟩, 
            ⟨some 49, none, .off (.t 48) 1⟩, 
            ⟨some 50, none, .ld (.t 49) 1 false⟩, 
            ⟨some 51, none, .mov (.t 1)⟩, 
            ⟨some 52, none, .mov (.t 8)⟩, 
            ⟨some 53, none, .ixs (.t 51) (.t 52) 3⟩, 
            ⟨some 54, none, .off (.t 53) 2⟩, 
            ⟨some 55, none, .ld (.t 54) 1 false⟩, 
            ⟨some 56, none, .call 30 [(.t 45), (.t 50), (.t 55)] false⟩, 
            ⟨some 57, none, .bin .add (.t 37) (.t 56)⟩, 
            ⟨some 58, none, .mnmx false (.t 57) (.c (.p (.int .i64 1125899906842624)))⟩, 
            ⟨some 7, none, .mov (.t 58)⟩] [0, 1, 7, 8] [])
        .skip)))
      (.reg false [⟨some 19, none, .mov (.t 8)⟩, 
        ⟨some 20, none, .bin .add (.t 19) (.c (.p (.int .i64 1)))⟩, 
        ⟨some 8, none, .mov (.t 20)⟩] [0, 1, 7, 8] []))))
def ir40 : IFn :=   -- tympan/tympanref22.High
⟨(.seq (.reg false [⟨some 6, none, .mov (.c (.p (.int .i64 0)))⟩] [0, 1, 2] [])
  (.seq (.seq (.reg false [⟨some 9, none, .mov (.t 1)⟩, 
    ⟨some 10, none, .len (.t 9)⟩, 
    ⟨some 11, none, .bin .eql (.t 10) (.c (.p (.int .i64 0)))⟩] [0, 1, 2, 11] [])
  (.cond (.t 11)
  (.seq (.reg false [⟨some 6, none, .mov (.c (.p (.int .i64 0)))⟩] [6] [])
    .ret)
  .skip))
  (.seq (.reg false [⟨some 12, none, .mov (.t 2)⟩, 
    ⟨some 13, none, .mnmx false (.t 12) (.c (.p (.int .i64 1125899906842624)))⟩, 
    ⟨some 14, none, .mnmx true (.c (.p (.int .i64 0))) (.t 13)⟩, 
    ⟨some 7, none, .mov (.t 14)⟩] [0, 1, 7] [])
  (.seq (.seq (.reg false [⟨some 8, none, .mov (.c (.p (.int .i64 0)))⟩] [0, 1, 7, 8] [])
  (.block 0 lp40_0))
  (.seq (.reg false [⟨some 59, none, .mov (.t 7)⟩, 
    ⟨some 6, none, .mov (.t 59)⟩] [6] [])
  .ret))))),
  [.tmp 6], false⟩
def lp41_0 : IC :=
  (.loop [3, 6, 7, 8] [] (.seq (.reg false [⟨some 9, none, .bin .lss (.t 8) (.t 7)⟩] [3, 6, 7, 8, 9] [])
      (.seq (.cond (.t 9)
      .skip
      (.exit 0))
      (.seq (.block 1 (.seq (.reg false [⟨some 10, none, .ixs (.t 6) (.t 8) 3⟩, 
          ⟨some 11, none, .ld (.t 10) 3 true⟩, 
          ⟨some 5, none, .al [.p (.int .i64 0), .p (.int .i64 0), .p (.int .i64 0)] true⟩, 
          ⟨none, none, .st (.t 5) (.t 11) 3⟩] [3, 5, 6, 7, 8] [5])
        (.reg false [⟨some 12, none, .mov (.t 3)⟩, 
          ⟨some 13, none, .off (.t 5) 2⟩, 
          ⟨some 14, none, .ld (.t 13) 1 false⟩, 
          ⟨some 15, none, .off (.t 5) 1⟩, 
          ⟨some 16, none, .ld (.t 15) 1 false⟩, 
          ⟨some 17, none, .bin .sub (.t 14) (.t 16)⟩, 
          ⟨some 18, none, .mnmx true (.t 17) (.c (.p (.int .i64 0)))⟩, 
          ⟨some 19, none, .bin .add (.t 12) (.t 18)⟩, 
          ⟨some 3, none, .mov (.t 19)⟩] [3, 6, 7, 8] [])))
      (.reg false [⟨some 20, none, .bin .add (.t 8) (.c (.p (.int .i64 1)))⟩, 
        ⟨some 8, none, .mov (.t 20)⟩] [3, 6, 7, 8] [])))))
def ir41 : IFn :=   -- tympan/split.Lines
⟨(.seq (.reg false [⟨some 2, none, .mov (.c (.p (.int .i64 0)))⟩] [0] [])
  (.seq (.reg false [⟨some 3, none, .mov (.c (.p (.int .i64 0)))⟩] [0, 3] [])
  (.seq (.seq (.reg false [⟨some 6, none, .mov (.t 0)⟩, 
    ⟨some 7, none, .len (.t 6)⟩, 
    ⟨some 8, none, .mov (.c (.p (.int .i64 0)))⟩] [3, 6, 7, 8] [])
  (.block 0 lp41_0))
  (.seq (.reg false [⟨some 21, none, .mov (.t 3)⟩, 
    ⟨some 2, none, .mov (.t 21)⟩] [2] [])
  .ret)))),
  [.tmp 2], false⟩
def lp42_0 : IC :=
  (.loop [0, 3, 4] [] (.seq (.seq (.reg false [⟨some 5, none, .mov (.t 4)⟩, 
        ⟨some 6, none, .mov (.t 0)⟩, 
        ⟨some 7, none, .len (.t 6)⟩, 
        ⟨some 8, none, .bin .lss (.t 5) (.t 7)⟩] [0, 3, 4, 8] [])
      (.cond (.t 8)
      .skip
      (.exit 0)))
      (.seq (.block 1 (.reg true [⟨some 11, none, .mov (.t 3)⟩, 
          ⟨some 12, none, .mov (.t 0)⟩, 
          ⟨some 13, none, .mov (.t 4)⟩, 
          ⟨some 14, none, .ixs (.t 12) (.t 13) 3⟩, 
          ⟨some 15, none, .off (.t 14) 2⟩, 
          ⟨some 16, none, .ld (.t 15) 1 false⟩, 
          ⟨some 17, none, .mov (.t 0)⟩, 
          ⟨some 18, none, .mov (.t 4)⟩, 
          ⟨some 19, none, .ixs (.t 17) (.t 18) 3⟩, 
          ⟨some 20, none, .off (.t 19) 1⟩, 
          ⟨some 21, none, .ld (.t 20) 1 false⟩, 
          ⟨some 22, none, .bin .sub (.t 16) (.t 21)⟩, 
          ⟨some 23, none, .mnmx true (.c (.p (.int .i64 0))) (.t 22)⟩, 
          ⟨some 24, none, .bin .add (.t 11) (.t 23)⟩, 
          ⟨some 3, none, .mov (.t 24)⟩] [0, 3, 4] []))
      (.reg false [⟨some 9, none, .mov (.t 4)⟩, 
        ⟨some 10, none, .bin .add (.t 9) (.c (.p (.int .i64 1)))⟩, 
        ⟨some 4, none, .mov (.t 10)⟩] [0, 3, 4] []))))
def ir42 : IFn :=   -- tympan/tympanref22.Lines
⟨(.seq (.reg false [⟨some 2, none, .mov (.c (.p (.int .i64 0)))⟩] [0] [])
  (.seq (.reg false [⟨some 3, none, .mov (.c (.p (.int .i64 0)))⟩] [0, 3] [])
  (.seq (.seq (.reg false [⟨some 4, none, .mov (.c (.p (.int .i64 0)))⟩] [0, 3, 4] [])
  (.block 0 lp42_0))
  (.seq (.reg false [⟨some 25, none, .mov (.t 3)⟩, 
    ⟨some 2, none, .mov (.t 25)⟩] [2] [])
  .ret)))),
  [.tmp 2], false⟩
def ir43 : IFn :=   -- tympan/split.Same
⟨(.seq (.reg false [⟨some 4, none, .mov (.c (.p (.bool false)))⟩] [0, 1] [])
  (.seq (.reg false [⟨some 5, none, .mov (.t 0)⟩, 
    ⟨some 6, none, .mov (.t 1)⟩, 
    ⟨some 7, none, .call 92 [(.t 5), (.t 6)] false⟩, 
    ⟨some 4, none, .mov (.t 7)⟩] [4] [])
  .ret)),
  [.tmp 4], false⟩
def ir84 : IFn :=   -- (tympan/note.places).stop
⟨(.seq (.reg false [⟨some 2, none, .bx (.t 0) 2 true⟩, 
    ⟨some 4, none, .mov (.c (.p (.bool false)))⟩] [1, 2] [2])
  (.seq (.reg false [⟨some 5, none, .mov (.t 1)⟩, 
    ⟨some 6, none, .off (.t 2) 0⟩, 
    ⟨some 7, none, .ld (.t 6) 1 false⟩, 
    ⟨some 8, none, .len (.t 7)⟩, 
    ⟨some 9, none, .bin .eql (.t 5) (.t 8)⟩, 
    ⟨some 10, none, .mov (.t 9)⟩, 
    ⟨some 11, (some (10, false)), .ld (.t 2) 2 true⟩, 
    ⟨some 12, (some (10, false)), .mov (.t 1)⟩, 
    ⟨some 13, (some (10, false)), .call 86 [(.t 11), (.t 12)] false⟩, 
    ⟨some 14, none, .pick (.t 10) (.c (.p (.bool true))) (.t 13)⟩, 
    ⟨some 4, none, .mov (.t 14)⟩] [4] [])
  .ret)),
  [.tmp 4], false⟩
def ir86 : IFn :=   -- (tympan/note.places).split
⟨(.seq (.reg false [⟨some 2, none, .bx (.t 0) 2 true⟩, 
    ⟨some 4, none, .mov (.c (.p (.bool false)))⟩] [1, 2] [2])
  (.seq (.reg false [⟨some 5, none, .mov (.t 1)⟩, 
    ⟨some 6, none, .bin .gtr (.t 5) (.c (.p (.int .i64 0)))⟩, 
    ⟨some 7, none, .mov (.t 6)⟩, 
    ⟨some 8, (some (7, true)), .mov (.t 1)⟩, 
    ⟨some 9, (some (7, true)), .off (.t 2) 0⟩, 
    ⟨some 10, (some (7, true)), .ld (.t 9) 1 false⟩, 
    ⟨some 11, (some (7, true)), .len (.t 10)⟩, 
    ⟨some 12, (some (7, true)), .bin .lss (.t 8) (.t 11)⟩, 
    ⟨some 13, none, .pick (.t 7) (.t 12) (.c (.p (.bool false)))⟩, 
    ⟨some 14, none, .mov (.t 13)⟩, 
    ⟨some 15, (some (14, true)), .mov (.t 1)⟩, 
    ⟨some 16, (some (14, true)), .off (.t 2) 1⟩, 
    ⟨some 17, (some (14, true)), .ld (.t 16) 1 false⟩, 
    ⟨some 18, (some (14, true)), .len (.t 17)⟩, 
    ⟨some 19, (some (14, true)), .bin .leq (.t 15) (.t 18)⟩, 
    ⟨some 20, none, .pick (.t 14) (.t 19) (.c (.p (.bool false)))⟩, 
    ⟨some 21, none, .mov (.t 20)⟩, 
    ⟨some 22, (some (21, true)), .off (.t 2) 1⟩, 
    ⟨some 23, (some (21, true)), .ld (.t 22) 1 false⟩, 
    ⟨some 24, (some (21, true)), .mov (.t 1)⟩, 
    ⟨some 25, (some (21, true)), .bin .sub (.t 24) (.c (.p (.int .i64 1)))⟩, 
    ⟨some 26, (some (21, true)), .ixs (.t 23) (.t 25) 1⟩, 
    ⟨some 27, (some (21, true)), .ld (.t 26) 1 false⟩, 
    ⟨some 28, (some (21, true)), .bin .lss (.t 27) (.c (.p (.int .i64 10000)))⟩, 
    ⟨some 29, none, .pick (.t 21) (.t 28) (.c (.p (.bool false)))⟩, 
    ⟨some 4, none, .mov (.t 29)⟩] [4] [])
  .ret)),
  [.tmp 4], false⟩
def lp87_0 : IC :=
  (.loop [1, 2, 7, 8] [] (.seq (.seq (.reg false [⟨some 10, none, .mov (.t 8)⟩, 
        ⟨some 11, none, .mov (.t 1)⟩, 
        ⟨some 12, none, .bin .leq (.t 10) (.t 11)⟩] [1, 2, 7, 8, 12] [])
      (.cond (.t 12)
      .skip
      (.exit 0)))
      (.seq (.block 1 (.seq (.reg false [⟨some 15, none, .mov (.t 2)⟩, 
          ⟨some 16, none, .mov (.t 8)⟩, 
          ⟨some 17, none, .callv (.t 15) [(.t 16)] false⟩] [1, 2, 7, 8, 17] [])
        (.cond (.t 17)
        (.reg false [⟨some 18, none, .mov (.t 7)⟩, 
            ⟨some 19, none, .mov (.t 8)⟩, 
            ⟨some 20, none, .bsl 1 1 [.p (.int .i64 0)] [(0, (.t 19))]⟩, 
            ⟨some 21, none, .app (.t 18) (.t 20) 1⟩, 
            ⟨some 7, none, .mov (.t 21)⟩] [1, 2, 7, 8] [])
        .skip)))
      (.reg false [⟨some 13, none, .mov (.t 8)⟩, 
        ⟨some 14, none, .bin .add (.t 13) (.c (.p (.int .i64 1)))⟩, 
        ⟨some 8, none, .mov (.t 14)⟩] [1, 2, 7, 8] []))))
def ir87 : IFn :=   -- tympan/note.all
⟨(.seq (.reg false [⟨some 6, none, .mov (.c (.nils))⟩] [0, 1, 2] [])
  (.seq (.reg false [⟨some 7, none, .nrow 1⟩] [0, 1, 2, 7] [])
  (.seq (.seq (.reg false [⟨some 9, none, .mov (.t 0)⟩, 
    ⟨some 8, none, .mov (.t 9)⟩] [1, 2, 7, 8] [])
  (.block 0 lp87_0))
  (.seq (.reg false [⟨some 22, none, .mov (.t 7)⟩, 
    ⟨some 6, none, .mov (.t 22)⟩] [6] [])
  .ret)))),
  [.tmp 6], false⟩
def ir90 : IFn :=   -- tympan/split.Choices
⟨(.seq (.reg false [⟨some 3, none, .bx (.t 1) 4 true⟩, 
    ⟨some 4, none, .mov (.c (.nils))⟩] [0, 3] [3])
  (.seq (.reg false [⟨some 5, none, .mov (.t 0)⟩, 
    ⟨some 6, none, .ld (.t 3) 4 true⟩, 
    ⟨some 7, none, .call 138 [(.t 5), (.t 6)] false⟩, 
    ⟨some 8, none, .call 137 [(.t 7)] false⟩, 
    ⟨some 4, none, .mov (.t 8)⟩] [4] [])
  .ret)),
  [.tmp 4], false⟩
def lp91_0 : IC :=
  (.reg false [⟨some 7, none, .mov (.t 11)⟩] [5, 6, 7] [])
def lp91_1 : IC :=
  (.block 1 (.seq (.reg false [⟨some 12, none, .mov (.t 7)⟩, 
          ⟨some 13, none, .ld (.t 5) 1 false⟩, 
          ⟨some 14, none, .call 43 [(.t 12), (.t 13)] false⟩] [6, 14] [])
        (.cond (.t 14)
        (.seq (.reg false [⟨none, none, .st (.t 6) (.c (.p (.bool true))) 1⟩] [6] [])
          .ret)
        .skip)))
def ir91 : IFn :=   -- tympan/split.May
⟨(.seq (.reg false [⟨some 4, none, .bx (.t 1) 4 true⟩, 
    ⟨some 5, none, .bx (.t 2) 1 false⟩, 
    ⟨some 6, none, .al [.p (.bool false)] false⟩] [0, 4, 5, 6] [4])
  (.seq (.seq (.reg false [⟨some 8, none, .mov (.t 0)⟩, 
    ⟨some 9, none, .ld (.t 4) 4 true⟩, 
    ⟨some 10, none, .call 138 [(.t 8), (.t 9)] false⟩] [5, 6, 10] [])
  (.block 0 (.rangeFunc (.t 10) [11] lp91_0 lp91_1)))
  (.seq (.reg false [⟨none, none, .st (.t 6) (.c (.p (.bool false))) 1⟩] [6] [])
  .ret))),
  [.cell 6 1 false], false⟩
def lp92_0 : IC :=
  (.loop [0, 1, 12, 13] [] (.seq (.reg false [⟨some 14, none, .bin .lss (.t 13) (.t 12)⟩] [0, 1, 12, 13, 14] [])
      (.seq (.cond (.t 14)
      .skip
      (.exit 0))
      (.seq (.block 1 (.seq (.reg false [⟨some 15, none, .mov (.t 13)⟩, 
          ⟨some 5, none, .mov (.t 15)⟩] [0, 1, 5, 12, 13] [])
        (.seq (.reg true [⟨some 16, none, .mov (.t 0)⟩, 
          ⟨some 17, none, .mov (.t 5)⟩, 
          ⟨some 18, none, .ixs (.t 16) (.t 17) 3⟩, 
          ⟨some 19, none, .ld (.t 18) 3 true⟩, 
          ⟨some 20, none, .mov (.t 1)⟩, 
          ⟨some 21, none, .mov (.t 5)⟩, 
          ⟨some 22, none, .ixs (.t 20) (.t 21) 3⟩, 
          ⟨some 23, none, .ld (.t 22) 3 true⟩, 
          ⟨some 24, none, .eqa true [true, true, true] (.t 19) (.t 23)⟩] [0, 1, 12, 13, 24] [])
        (.cond (.t 24)
        (.seq (.reg false [⟨some 4, none, .mov (.c (.p (.bool false)))⟩] [4] [])
          .ret)
        .skip))))
      (.reg false [⟨some 25, none, .bin .add (.t 13) (.c (.p (.int .i64 1)))⟩, 
        ⟨some 13, none, .mov (.t 25)⟩] [0, 1, 12, 13] [])))))
def ir92 : IFn :=   -- slices.Equal[[]tympan/api.Piece,tympan/api.Piece]
⟨(.seq (.reg false [⟨some 4, none, .mov (.c (.p (.bool false)))⟩] [0, 1] [])
  (.seq (.seq (.reg false [⟨some 6, none, .mov (.t 0)⟩, 
    ⟨some 7, none, .len (.t 6)⟩, 
    ⟨some 8, none, .mov (.t 1)⟩, 
    ⟨some 9, none, .len (.t 8)⟩, 
    ⟨some 10, none, .bin .neq (.t 7) (.t 9)⟩] [0, 1, 10] [])
  (.cond (.t 10)
  (.seq (.reg false [⟨some 4, none, .mov (.c (.p (.bool false)))⟩] [4] [])
    .ret)
  .skip))
  (.seq (.seq (.reg false [⟨some 11, none, .mov (.t 0)⟩, 
    ⟨some 12, none, .len (.t 11)⟩, 
    ⟨some 13, none, .mov (.c (.p (.int .i64 0)))⟩] [0, 1, 12, 13] [])
  (.block 0 lp92_0))
  (.seq (.reg false [⟨some 4, none, .mov (.c (.p (.bool true)))⟩] [4] [])
  .ret)))),
  [.tmp 4], false⟩
def ir137 : IFn :=   -- slices.Collect[[]tympan/api.Piece]
⟨(.seq (.reg false [⟨some 2, none, .mov (.c (.nils))⟩] [0] [])
  (.seq (.reg false [⟨some 3, none, .mov (.t 0)⟩, 
    ⟨some 4, none, .call 173 [(.c .nil0), (.t 3)] false⟩, 
    ⟨some 2, none, .mov (.t 4)⟩] [2] [])
  .ret)),
  [.tmp 2], false⟩
def ir138 : IFn :=   -- tympan/split.all
⟨(.seq (.reg false [⟨some 2, none, .bx (.t 0) 1 false⟩, 
    ⟨some 3, none, .bx (.t 1) 4 false⟩, 
    ⟨some 4, none, .mov (.c (.p .nilf))⟩] [2, 3] [])
  (.seq (.reg false [⟨some 5, none, .mkf (.func 174) [] [(.t 3), (.t 2)]⟩, 
    ⟨some 4, none, .mov (.t 5)⟩] [4] [])
  .ret)),
  [.tmp 4], false⟩
def lp173_0 : IC :=
  (.reg false [⟨some 5, none, .mov (.t 7)⟩] [2, 5] [])
def lp173_1 : IC :=
  (.block 1 (.reg false [⟨some 8, none, .ld (.t 2) 1 false⟩, 
          ⟨some 9, none, .mov (.t 5)⟩, 
          ⟨some 10, none, .bsl 1 1 [.nils] [(0, (.t 9))]⟩, 
          ⟨some 11, none, .app (.t 8) (.t 10) 1⟩, 
          ⟨none, none, .st (.t 2) (.t 11) 1⟩] [] []))
def ir173 : IFn :=   -- slices.AppendSeq[[][]tympan/api.Piece,[]tympan/api.Piece]
⟨(.seq (.reg false [⟨some 2, none, .bx (.t 0) 1 false⟩, 
    ⟨some 4, none, .mov (.c (.nils))⟩] [1, 2] [])
  (.seq (.seq (.reg false [⟨some 6, none, .mov (.t 1)⟩] [2, 6] [])
  (.block 0 (.rangeFunc (.t 6) [7] lp173_0 lp173_1)))
  (.seq (.reg false [⟨some 12, none, .ld (.t 2) 1 false⟩, 
    ⟨some 4, none, .mov (.t 12)⟩] [4] [])
  .ret))),
  [.tmp 4], false⟩
def lp174_0 : IC :=
  (.loop [0, 1, 2, 4, 5, 6, 42, 43, 44] [] (.seq (.reg false [⟨some 45, none, .bin .lss (.t 44) (.t 43)⟩] [0, 1, 2, 4, 5, 6, 42, 43, 44, 45] [])
      (.seq (.cond (.t 45)
      .skip
      (.exit 0))
      (.seq (.block 1 (.seq (.reg false [⟨some 46, none, .mov (.t 44)⟩, 
          ⟨some 47, none, .ixs (.t 42) (.t 44) 2⟩, 
          ⟨some 48, none, .ld (.t 47) 2 true⟩, 
          ⟨some 8, none, .al [.nils, .nils] true⟩, 
          ⟨some 7, none, .mov (.t 46)⟩, 
          ⟨none, none, .st (.t 8) (.t 48) 2⟩] [0, 1, 2, 4, 5, 6, 7, 8, 42, 43, 44] [8])
        (.seq (.reg false [⟨some 49, none, .mov (.t 5)⟩, 
          ⟨some 50, none, .off (.t 1) 0⟩, 
          ⟨some 51, none, .ld (.t 50) 1 false⟩, 
          ⟨some 52, none, .mov (.t 7)⟩, 
          ⟨some 53, none, .bin .add (.t 51) (.t 52)⟩, 
          ⟨some 54, none, .mov (.t 6)⟩, 
          ⟨some 55, none, .off (.t 8) 0⟩, 
          ⟨some 56, none, .ld (.t 55) 1 false⟩, 
          ⟨some 57, none, .len (.t 56)⟩, 
          ⟨some 58, none, .bld [.p (.int .i64 0), .p (.int .i64 0), .p (.int .i64 0)] [(0, 1, (.t 53)), (1, 1, (.t 54)), (2, 1, (.t 57))]⟩, 
          ⟨some 59, none, .bsl 3 1 [.p (.int .i64 0), .p (.int .i64 0), .p (.int .i64 0)] [(0, (.t 58))]⟩, 
          ⟨some 60, none, .app (.t 49) (.t 59) 3⟩, 
          ⟨some 5, none, .mov (.t 60)⟩] [0, 1, 2, 4, 5, 42, 43, 44] [])
        (.reg false [⟨some 6, none, .mov (.c (.p (.int .i64 0)))⟩] [0, 1, 2, 4, 5, 6, 42, 43, 44] []))))
      (.reg false [⟨some 61, none, .bin .add (.t 44) (.c (.p (.int .i64 1)))⟩, 
        ⟨some 44, none, .mov (.t 61)⟩] [0, 1, 2, 4, 5, 6, 42, 43, 44] [])))))
def lp174_1 : IC :=
  (.loop [0, 5, 6, 9, 72, 73, 74] [] (.seq (.reg false [⟨some 75, none, .bin .lss (.t 74) (.t 73)⟩] [0, 5, 6, 9, 72, 73, 74, 75] [])
      (.seq (.cond (.t 75)
      .skip
      (.exit 2))
      (.seq (.block 3 (.seq (.reg false [⟨some 76, none, .ixs (.t 72) (.t 74) 1⟩, 
          ⟨some 77, none, .ld (.t 76) 1 false⟩, 
          ⟨some 11, none, .mov (.t 77)⟩] [0, 5, 6, 9, 11, 72, 73, 74] [])
        (.seq (.reg false [⟨some 78, none, .mov (.t 5)⟩, 
          ⟨some 79, none, .call 176 [(.t 78)] false⟩, 
          ⟨some 80, none, .mov (.t 9)⟩, 
          ⟨some 81, none, .mov (.t 6)⟩, 
          ⟨some 82, none, .mov (.t 11)⟩, 
          ⟨some 83, none, .bld [.p (.int .i64 0), .p (.int .i64 0), .p (.int .i64 0)] [(0, 1, (.t 80)), (1, 1, (.t 81)), (2, 1, (.t 82))]⟩, 
          ⟨some 84, none, .bsl 3 1 [.p (.int .i64 0), .p (.int .i64 0), .p (.int .i64 0)] [(0, (.t 83))]⟩, 
          ⟨some 85, none, .app (.t 79) (.t 84) 3⟩, 
          ⟨some 12, none, .mov (.t 85)⟩] [0, 5, 6, 9, 12, 72, 73, 74] [])
        (.seq (.reg false [⟨some 86, none, .mov (.t 0)⟩, 
          ⟨some 87, none, .mov (.t 12)⟩, 
          ⟨some 88, none, .callv (.t 86) [(.t 87)] false⟩, 
          ⟨some 89, none, .un .not (.t 88)⟩] [0, 5, 6, 9, 72, 73, 74, 89] [])
        (.cond (.t 89)
        .ret
        .skip)))))
      (.reg false [⟨some 90, none, .bin .add (.t 74) (.c (.p (.int .i64 1)))⟩, 
        ⟨some 74, none, .mov (.t 90)⟩] [0, 5, 6, 9, 72, 73, 74] [])))))
def ir174 : IFn :=   -- tympan/split.all$1
⟨(.seq (.reg false [⟨some 13, none, .ld (.t 1) 4 true⟩, 
    ⟨some 14, none, .ld (.t 2) 1 false⟩, 
    ⟨some 15, none, .call 175 [(.t 13), (.t 14)] false⟩, 
    ⟨some 4, none, .mov (.t 15)⟩] [0, 1, 2, 4] [])
  (.seq (.seq (.reg false [⟨some 16, none, .mov (.t 4)⟩, 
    ⟨some 17, none, .bin .eql (.t 16) (.c (.p (.int .i64 0)))⟩, 
    ⟨some 18, none, .mov (.t 17)⟩, 
    ⟨some 19, (some (18, false)), .off (.t 1) 3⟩, 
    ⟨some 20, (some (18, false)), .ld (.t 19) 1 false⟩, 
    ⟨some 21, (some (18, false)), .un .not (.t 20)⟩, 
    ⟨some 22, none, .pick (.t 18) (.c (.p (.bool true))) (.t 21)⟩, 
    ⟨some 23, none, .mov (.t 22)⟩, 
    ⟨some 24, (some (23, true)), .mov (.t 0)⟩, 
    ⟨some 25, (some (23, true)), .callv (.t 24) [(.c (.nils))] false⟩, 
    ⟨some 26, (some (23, true)), .un .not (.t 25)⟩, 
    ⟨some 27, none, .pick (.t 23) (.t 26) (.c (.p (.bool false)))⟩, 
    ⟨some 28, none, .mov (.t 27)⟩, 
    ⟨some 29, (some (28, false)), .mov (.t 4)⟩, 
    ⟨some 30, (some (28, false)), .bin .eql (.t 29) (.c (.p (.int .i64 0)))⟩, 
    ⟨some 31, none, .pick (.t 28) (.c (.p (.bool true))) (.t 30)⟩] [0, 1, 2, 4, 31] [])
  (.cond (.t 31)
  .ret
  .skip))
  (.seq (.reg false [⟨some 5, none, .nrow 3⟩] [0, 1, 2, 4, 5] [])
  (.seq (.reg false [⟨some 32, none, .off (.t 1) 1⟩, 
    ⟨some 33, none, .ld (.t 32) 1 false⟩, 
    ⟨some 6, none, .mov (.t 33)⟩] [0, 1, 2, 4, 5, 6] [])
  (.seq (.seq (.reg false [⟨some 34, none, .ld (.t 2) 1 false⟩, 
    ⟨some 35, none, .off (.t 1) 0⟩, 
    ⟨some 36, none, .ld (.t 35) 1 false⟩, 
    ⟨some 37, none, .off (.t 1) 0⟩, 
    ⟨some 38, none, .ld (.t 37) 1 false⟩, 
    ⟨some 39, none, .mov (.t 4)⟩, 
    ⟨some 40, none, .bin .add (.t 38) (.t 39)⟩, 
    ⟨some 41, none, .bin .sub (.t 40) (.c (.p (.int .i64 1)))⟩, 
    ⟨some 42, none, .slc (.t 34) (some (.t 36)) (some (.t 41)) 2⟩, 
    ⟨some 43, none, .len (.t 42)⟩, 
    ⟨some 44, none, .mov (.c (.p (.int .i64 0)))⟩] [0, 1, 2, 4, 5, 6, 42, 43, 44] [])
  (.block 0 lp174_0))
  (.seq (.reg false [⟨some 62, none, .off (.t 1) 0⟩, 
    ⟨some 63, none, .ld (.t 62) 1 false⟩, 
    ⟨some 64, none, .mov (.t 4)⟩, 
    ⟨some 65, none, .bin .add (.t 63) (.t 64)⟩, 
    ⟨some 66, none, .bin .sub (.t 65) (.c (.p (.int .i64 1)))⟩, 
    ⟨some 9, none, .mov (.t 66)⟩] [0, 2, 5, 6, 9] [])
  (.seq (.reg false [⟨some 67, none, .ld (.t 2) 1 false⟩, 
    ⟨some 68, none, .mov (.t 9)⟩, 
    ⟨some 69, none, .ixs (.t 67) (.t 68) 2⟩, 
    ⟨some 70, none, .ld (.t 69) 2 true⟩, 
    ⟨some 71, none, .mov (.t 6)⟩, 
    ⟨some 72, none, .call 25 [(.t 70), (.t 71)] false⟩, 
    ⟨some 73, none, .len (.t 72)⟩, 
    ⟨some 74, none, .mov (.c (.p (.int .i64 0)))⟩] [0, 5, 6, 9, 72, 73, 74] [])
  (.block 2 lp174_1)))))))),
  [], false⟩
def ir175 : IFn :=   -- (tympan/split.Spot).open
⟨(.seq (.reg false [⟨some 2, none, .bx (.t 0) 4 true⟩, 
    ⟨some 4, none, .mov (.c (.p (.int .i64 0)))⟩] [1, 2] [2])
  (.seq (.seq (.reg false [⟨some 5, none, .off (.t 2) 0⟩, 
    ⟨some 6, none, .ld (.t 5) 1 false⟩, 
    ⟨some 7, none, .bin .lss (.t 6) (.c (.p (.int .i64 0)))⟩, 
    ⟨some 8, none, .mov (.t 7)⟩, 
    ⟨some 9, (some (8, false)), .off (.t 2) 1⟩, 
    ⟨some 10, (some (8, false)), .ld (.t 9) 1 false⟩, 
    ⟨some 11, (some (8, false)), .bin .lss (.t 10) (.c (.p (.int .i64 0)))⟩, 
    ⟨some 12, none, .pick (.t 8) (.c (.p (.bool true))) (.t 11)⟩] [1, 2, 12] [2])
  (.cond (.t 12)
  (.seq (.reg false [⟨some 4, none, .mov (.c (.p (.int .i64 0)))⟩] [4] [])
    .ret)
  .skip))
  (.seq (.reg false [⟨some 13, none, .off (.t 2) 2⟩, 
    ⟨some 14, none, .ld (.t 13) 1 false⟩, 
    ⟨some 15, none, .mov (.t 1)⟩, 
    ⟨some 16, none, .len (.t 15)⟩, 
    ⟨some 17, none, .mnmx false (.t 14) (.t 16)⟩, 
    ⟨some 18, none, .mnmx true (.t 17) (.c (.p (.int .i64 0)))⟩, 
    ⟨some 19, none, .off (.t 2) 0⟩, 
    ⟨some 20, none, .ld (.t 19) 1 false⟩, 
    ⟨some 21, none, .bin .sub (.t 18) (.t 20)⟩, 
    ⟨some 22, none, .mnmx true (.t 21) (.c (.p (.int .i64 0)))⟩, 
    ⟨some 4, none, .mov (.t 22)⟩] [4] [])
  .ret))),
  [.tmp 4], false⟩
def ir176 : IFn :=   -- slices.Clone[[]tympan/api.Piece,tympan/api.Piece]
⟨(.seq (.reg false [⟨some 2, none, .mov (.c (.nils))⟩] [0] [])
  (.seq (.seq (.reg false [⟨some 3, none, .mov (.t 0)⟩, 
    ⟨some 4, none, .eqn .sl false (.t 3)⟩] [0, 4] [])
  (.cond (.t 4)
  (.seq (.reg false [⟨some 2, none, .mov (.c (.nils))⟩] [2] [])
    .ret)
  .skip))
  (.seq (.reg false [⟨some 5, none, .bsl 3 0 [.p (.int .i64 0), .p (.int .i64 0), .p (.int .i64 0)] []⟩, 
    ⟨some 6, none, .mov (.t 0)⟩, 
    ⟨some 7, none, .app (.t 5) (.t 6) 3⟩, 
    ⟨some 2, none, .mov (.t 7)⟩] [2] [])
  .ret))),
  [.tmp 2], true⟩
end Go.EnvOf
