/- The engine's instructions for the functions, part 0. -/
import Derived.Test.YtfjgcfloallohaaEng3
namespace Go.EnvOf
open Go Go.Eng
set_option maxRecDepth 100000
def ir2 : IFn :=   -- gosem.cut.init
⟨(.reg false [⟨some 0, none, .call 1 [] false⟩] [] []),
  [], false⟩
def ir3 : IFn :=   -- tympan/tympanlaw11.NoteTells
⟨(.seq (.reg false [⟨some 2, none, .bx (.t 0) 2 true⟩, 
    ⟨some 4, none, .mov (.c (.p (.bool false)))⟩] [1, 2] [2])
  (.seq (.seq (.reg false [⟨some 6, none, .off (.t 2) 0⟩, 
    ⟨some 7, none, .ld (.t 6) 1 false⟩, 
    ⟨some 8, none, .len (.t 7)⟩, 
    ⟨some 9, none, .bin .gtr (.t 8) (.c (.p (.int .i64 100)))⟩, 
    ⟨some 10, none, .mov (.t 9)⟩, 
    ⟨some 11, (some (10, false)), .off (.t 2) 1⟩, 
    ⟨some 12, (some (10, false)), .ld (.t 11) 1 false⟩, 
    ⟨some 13, (some (10, false)), .len (.t 12)⟩, 
    ⟨some 14, (some (10, false)), .bin .gtr (.t 13) (.c (.p (.int .i64 100)))⟩, 
    ⟨some 15, none, .pick (.t 10) (.c (.p (.bool true))) (.t 14)⟩] [1, 2, 15] [2])
  (.cond (.t 15)
  (.seq (.reg false [⟨some 16, none, .call 17 [] false⟩, 
      ⟨some 4, none, .mov (.t 16)⟩] [4] [])
    .ret)
  .skip))
  (.seq (.reg false [⟨some 17, none, .ld (.t 2) 2 true⟩, 
    ⟨some 18, none, .call 18 [(.t 17)] false⟩, 
    ⟨some 5, none, .mov (.t 18)⟩] [1, 2, 5] [2])
  (.seq (.seq (.reg false [⟨some 19, none, .mov (.t 5)⟩, 
    ⟨some 20, none, .bin .eql (.t 19) (.c (.p (.int .i64 0)))⟩, 
    ⟨some 21, none, .ld (.t 2) 2 true⟩, 
    ⟨some 22, none, .call 19 [(.t 21)] false⟩, 
    ⟨some 23, none, .eqb true (.t 20) (.t 22)⟩, 
    ⟨some 24, none, .mov (.t 23)⟩, 
    ⟨some 25, (some (24, false)), .mov (.t 5)⟩, 
    ⟨some 26, (some (24, false)), .bin .neq (.t 25) (.c (.p (.int .i64 0)))⟩, 
    ⟨some 27, (some (24, false)), .mov (.t 26)⟩, 
    ⟨some 28, (some (27, true)), .mov (.t 5)⟩, 
    ⟨some 29, (some (27, true)), .bin .neq (.t 28) (.c (.p (.int .i64 9)))⟩, 
    ⟨some 30, (some (24, false)), .pick (.t 27) (.t 29) (.c (.p (.bool false)))⟩, 
    ⟨some 31, none, .pick (.t 24) (.c (.p (.bool true))) (.t 30)⟩] [1, 2, 31] [2])
  (.cond (.t 31)
  (.seq (.reg false [⟨some 4, none, .mov (.c (.p (.bool false)))⟩] [4] [])
    .ret)
  .skip))
  (.seq (.reg true [⟨some 32, none, .ld (.t 2) 2 true⟩, 
    ⟨some 33, none, .mov (.t 1)⟩, 
    ⟨some 34, none, .call 20 [(.t 32), (.t 33)] true⟩, 
    ⟨some 35, none, .ld (.t 2) 2 true⟩, 
    ⟨some 36, none, .mov (.t 1)⟩, 
    ⟨some 37, none, .call 21 [(.t 35), (.t 36)] true⟩, 
    ⟨some 38, none, .eqb false (.t 34) (.t 37)⟩, 
    ⟨some 39, none, .mov (.t 38)⟩, 
    ⟨some 40, (some (39, true)), .ld (.t 2) 2 true⟩, 
    ⟨some 41, (some (39, true)), .mov (.t 1)⟩, 
    ⟨some 42, (some (39, true)), .call 22 [(.t 40), (.t 41)] true⟩, 
    ⟨some 43, (some (39, true)), .ld (.t 2) 2 true⟩, 
    ⟨some 44, (some (39, true)), .mov (.t 1)⟩, 
    ⟨some 45, (some (39, true)), .call 23 [(.t 43), (.t 44)] true⟩, 
    ⟨some 46, (some (39, true)), .bin .eql (.t 42) (.t 45)⟩, 
    ⟨some 47, none, .pick (.t 39) (.t 46) (.c (.p (.bool false)))⟩, 
    ⟨some 48, none, .mov (.t 47)⟩, 
    ⟨some 49, (some (48, true)), .ld (.t 2) 2 true⟩, 
    ⟨some 50, (some (48, true)), .mov (.t 1)⟩, 
    ⟨some 51, (some (48, true)), .call 25 [(.t 49), (.t 50)] true⟩, 
    ⟨some 52, (some (48, true)), .ld (.t 2) 2 true⟩, 
    ⟨some 53, (some (48, true)), .mov (.t 1)⟩, 
    ⟨some 54, (some (48, true)), .call 26 [(.t 52), (.t 53)] true⟩, 
    ⟨some 55, (some (48, true)), .call 24 [(.t 51), (.t 54)] true⟩, 
    ⟨some 56, none, .pick (.t 48) (.t 55) (.c (.p (.bool false)))⟩, 
    ⟨some 57, none, .mov (.t 56)⟩, 
    ⟨some 58, (some (57, true)), .ld (.t 2) 2 true⟩, 
    ⟨some 59, (some (57, true)), .mov (.t 1)⟩, 
    ⟨some 60, (some (57, true)), .call 27 [(.t 58), (.t 59)] true⟩, 
    ⟨some 61, (some (57, true)), .ld (.t 2) 2 true⟩, 
    ⟨some 62, (some (57, true)), .mov (.t 1)⟩, 
    ⟨some 63, (some (57, true)), .call 28 [(.t 61), (.t 62)] true⟩, 
    ⟨some 64, (some (57, true)), .bin .eql (.t 60) (.t 63)⟩, 
    ⟨some 65, none, .pick (.t 57) (.t 64) (.c (.p (.bool false)))⟩, 
    ⟨some 66, none, .mov (.t 65)⟩, 
    ⟨some 67, (some (66, true)), .call 17 [] true⟩, 
    ⟨some 68, none, .pick (.t 66) (.t 67) (.c (.p (.bool false)))⟩, 
    ⟨some 4, none, .mov (.t 68)⟩] [4] [])
  .ret))))),
  [.tmp 4], false⟩
def ir4 : IFn :=   -- tympan/tympanlaw11.NoteHigh
⟨(.seq (.reg false [⟨some 3, none, .bx (.t 0) 2 true⟩, 
    ⟨some 6, none, .mov (.c (.p (.bool false)))⟩] [1, 2, 3] [3])
  (.seq (.seq (.reg false [⟨some 7, none, .off (.t 3) 0⟩, 
    ⟨some 8, none, .ld (.t 7) 1 false⟩, 
    ⟨some 9, none, .len (.t 8)⟩, 
    ⟨some 10, none, .bin .gtr (.t 9) (.c (.p (.int .i64 100)))⟩] [1, 2, 3, 10] [3])
  (.cond (.t 10)
  (.seq (.reg false [⟨some 11, none, .call 17 [] false⟩, 
      ⟨some 6, none, .mov (.t 11)⟩] [6] [])
    .ret)
  .skip))
  (.seq (.reg true [⟨some 12, none, .ld (.t 3) 2 true⟩, 
    ⟨some 13, none, .mov (.t 1)⟩, 
    ⟨some 14, none, .mov (.t 2)⟩, 
    ⟨some 15, none, .call 29 [(.t 12), (.t 13), (.t 14)] true⟩, 
    ⟨some 16, none, .ld (.t 3) 2 true⟩, 
    ⟨some 17, none, .mov (.t 1)⟩, 
    ⟨some 18, none, .mov (.t 2)⟩, 
    ⟨some 19, none, .call 30 [(.t 16), (.t 17), (.t 18)] true⟩, 
    ⟨some 20, none, .bin .eql (.t 15) (.t 19)⟩, 
    ⟨some 21, none, .mov (.t 20)⟩, 
    ⟨some 22, (some (21, true)), .call 17 [] true⟩, 
    ⟨some 23, none, .pick (.t 21) (.t 22) (.c (.p (.bool false)))⟩, 
    ⟨some 6, none, .mov (.t 23)⟩] [6] [])
  .ret))),
  [.tmp 6], false⟩
def lp5_0 : IC :=
  (.loop [2, 3, 5, 6, 7, 8] [2, 3] (.seq (.seq (.reg false [⟨some 27, none, .mov (.t 8)⟩, 
        ⟨some 28, none, .mov (.t 5)⟩, 
        ⟨some 29, none, .len (.t 28)⟩, 
        ⟨some 30, none, .bin .lss (.t 27) (.t 29)⟩] [2, 3, 5, 6, 7, 8, 30] [2, 3])
      (.cond (.t 30)
      .skip
      (.exit 0)))
      (.seq (.block 1 (.seq (.seq (.reg false [⟨some 33, none, .mov (.t 5)⟩, 
          ⟨some 34, none, .mov (.t 8)⟩, 
          ⟨some 35, none, .ixs (.t 33) (.t 34) 1⟩, 
          ⟨some 36, none, .ld (.t 35) 1 false⟩, 
          ⟨some 37, none, .mov (.t 7)⟩, 
          ⟨some 38, none, .bin .leq (.t 36) (.t 37)⟩] [2, 3, 5, 6, 7, 8, 38] [2, 3])
        (.cond (.t 38)
        (.seq (.reg false [⟨some 4, none, .mov (.c (.p (.bool false)))⟩] [4] [])
          .ret)
        .skip))
        (.seq (.reg true [⟨some 39, none, .mov (.t 6)⟩, 
          ⟨some 40, none, .ld (.t 2) 2 true⟩, 
          ⟨some 41, none, .mov (.t 7)⟩, 
          ⟨some 42, none, .mov (.t 5)⟩, 
          ⟨some 43, none, .mov (.t 8)⟩, 
          ⟨some 44, none, .ixs (.t 42) (.t 43) 1⟩, 
          ⟨some 45, none, .ld (.t 44) 1 false⟩, 
          ⟨some 46, none, .call 29 [(.t 40), (.t 41), (.t 45)] true⟩, 
          ⟨some 47, none, .bin .add (.t 39) (.t 46)⟩, 
          ⟨some 6, none, .mov (.t 47)⟩] [2, 3, 5, 6, 8] [2, 3])
        (.reg false [⟨some 48, none, .mov (.t 5)⟩, 
          ⟨some 49, none, .mov (.t 8)⟩, 
          ⟨some 50, none, .ixs (.t 48) (.t 49) 1⟩, 
          ⟨some 51, none, .ld (.t 50) 1 false⟩, 
          ⟨some 7, none, .mov (.t 51)⟩] [2, 3, 5, 6, 7, 8] [2, 3]))))
      (.reg false [⟨some 31, none, .mov (.t 8)⟩, 
        ⟨some 32, none, .bin .add (.t 31) (.c (.p (.int .i64 1)))⟩, 
        ⟨some 8, none, .mov (.t 32)⟩] [2, 3, 5, 6, 7, 8] [2, 3]))))
def ir5 : IFn :=   -- tympan/tympanlaw11.NotePieces
⟨(.seq (.reg false [⟨some 2, none, .bx (.t 0) 2 true⟩, 
    ⟨some 3, none, .bx (.t 1) 2 true⟩, 
    ⟨some 4, none, .mov (.c (.p (.bool false)))⟩] [2, 3] [2, 3])
  (.seq (.seq (.reg false [⟨some 9, none, .ld (.t 2) 2 true⟩, 
    ⟨some 10, none, .call 18 [(.t 9)] false⟩, 
    ⟨some 11, none, .bin .neq (.t 10) (.c (.p (.int .i64 0)))⟩, 
    ⟨some 12, none, .mov (.t 11)⟩, 
    ⟨some 13, (some (12, false)), .off (.t 3) 0⟩, 
    ⟨some 14, (some (12, false)), .ld (.t 13) 1 false⟩, 
    ⟨some 15, (some (12, false)), .len (.t 14)⟩, 
    ⟨some 16, (some (12, false)), .bin .gtr (.t 15) (.c (.p (.int .i64 100)))⟩, 
    ⟨some 17, none, .pick (.t 12) (.c (.p (.bool true))) (.t 16)⟩, 
    ⟨some 18, none, .mov (.t 17)⟩, 
    ⟨some 19, (some (18, false)), .off (.t 3) 1⟩, 
    ⟨some 20, (some (18, false)), .ld (.t 19) 1 false⟩, 
    ⟨some 21, (some (18, false)), .len (.t 20)⟩, 
    ⟨some 22, (some (18, false)), .bin .gtr (.t 21) (.c (.p (.int .i64 100)))⟩, 
    ⟨some 23, none, .pick (.t 18) (.c (.p (.bool true))) (.t 22)⟩] [2, 3, 23] [2, 3])
  (.cond (.t 23)
  (.seq (.reg false [⟨some 24, none, .call 17 [] false⟩, 
      ⟨some 4, none, .mov (.t 24)⟩] [4] [])
    .ret)
  .skip))
  (.seq (.reg false [⟨some 25, none, .ld (.t 2) 2 true⟩, 
    ⟨some 26, none, .call 25 [(.t 25), (.c (.p (.int .i64 0)))] false⟩, 
    ⟨some 5, none, .mov (.t 26)⟩] [2, 3, 5] [2, 3])
  (.seq (.reg false [⟨some 6, none, .mov (.c (.p (.int .i64 0)))⟩] [2, 3, 5, 6] [2, 3])
  (.seq (.reg false [⟨some 7, none, .mov (.c (.p (.int .i64 0)))⟩] [2, 3, 5, 6, 7] [2, 3])
  (.seq (.seq (.reg false [⟨some 8, none, .mov (.c (.p (.int .i64 0)))⟩] [2, 3, 5, 6, 7, 8] [2, 3])
  (.block 0 lp5_0))
  (.seq (.reg true [⟨some 52, none, .mov (.t 7)⟩, 
    ⟨some 53, none, .off (.t 2) 0⟩, 
    ⟨some 54, none, .ld (.t 53) 1 false⟩, 
    ⟨some 55, none, .len (.t 54)⟩, 
    ⟨some 56, none, .bin .eql (.t 52) (.t 55)⟩, 
    ⟨some 57, none, .mov (.t 56)⟩, 
    ⟨some 58, (some (57, true)), .mov (.t 6)⟩, 
    ⟨some 59, (some (57, true)), .ld (.t 2) 2 true⟩, 
    ⟨some 60, (some (57, true)), .mov (.t 7)⟩, 
    ⟨some 61, (some (57, true)), .call 29 [(.t 59), (.c (.p (.int .i64 0))), (.t 60)] true⟩, 
    ⟨some 62, (some (57, true)), .bin .eql (.t 58) (.t 61)⟩, 
    ⟨some 63, none, .pick (.t 57) (.t 62) (.c (.p (.bool false)))⟩, 
    ⟨some 64, none, .mov (.t 63)⟩, 
    ⟨some 65, (some (64, true)), .ld (.t 2) 2 true⟩, 
    ⟨some 66, (some (64, true)), .mov (.t 7)⟩, 
    ⟨some 67, (some (64, true)), .call 20 [(.t 65), (.t 66)] true⟩, 
    ⟨some 68, none, .pick (.t 64) (.t 67) (.c (.p (.bool false)))⟩, 
    ⟨some 69, none, .mov (.t 68)⟩, 
    ⟨some 70, (some (69, true)), .ld (.t 2) 2 true⟩, 
    ⟨some 71, (some (69, true)), .ld (.t 3) 2 true⟩, 
    ⟨some 72, (some (69, true)), .ld (.t 2) 2 true⟩, 
    ⟨some 73, (some (69, true)), .bsl 2 3 [.nils, .nils] [(0, (.t 70)), (1, (.t 71)), (2, (.t 72))]⟩, 
    ⟨some 74, (some (69, true)), .call 31 [(.t 73)] true⟩, 
    ⟨some 75, (some (69, true)), .mov (.t 7)⟩, 
    ⟨some 76, (some (69, true)), .bin .mul (.c (.p (.int .i64 2))) (.t 75)⟩, 
    ⟨some 77, (some (69, true)), .off (.t 3) 0⟩, 
    ⟨some 78, (some (69, true)), .ld (.t 77) 1 false⟩, 
    ⟨some 79, (some (69, true)), .len (.t 78)⟩, 
    ⟨some 80, (some (69, true)), .bin .add (.t 76) (.t 79)⟩, 
    ⟨some 81, (some (69, true)), .bin .eql (.t 74) (.t 80)⟩, 
    ⟨some 82, none, .pick (.t 69) (.t 81) (.c (.p (.bool false)))⟩, 
    ⟨some 83, none, .mov (.t 82)⟩, 
    ⟨some 84, (some (83, true)), .ld (.t 2) 2 true⟩, 
    ⟨some 85, (some (83, true)), .ld (.t 3) 2 true⟩, 
    ⟨some 86, (some (83, true)), .call 32 [(.t 84), (.t 85)] true⟩, 
    ⟨some 87, (some (83, true)), .ld (.t 2) 2 true⟩, 
    ⟨some 88, (some (83, true)), .ld (.t 3) 2 true⟩, 
    ⟨some 89, (some (83, true)), .call 33 [(.t 87), (.t 88)] true⟩, 
    ⟨some 90, (some (83, true)), .eqb false (.t 86) (.t 89)⟩, 
    ⟨some 91, none, .pick (.t 83) (.t 90) (.c (.p (.bool false)))⟩, 
    ⟨some 92, none, .mov (.t 91)⟩, 
    ⟨some 93, (some (92, true)), .ld (.t 2) 2 true⟩, 
    ⟨some 94, (some (92, true)), .ld (.t 2) 2 true⟩, 
    ⟨some 95, (some (92, true)), .call 32 [(.t 93), (.t 94)] true⟩, 
    ⟨some 96, none, .pick (.t 92) (.t 95) (.c (.p (.bool false)))⟩, 
    ⟨some 97, none, .mov (.t 96)⟩, 
    ⟨some 98, (some (97, true)), .call 17 [] true⟩, 
    ⟨some 99, none, .pick (.t 97) (.t 98) (.c (.p (.bool false)))⟩, 
    ⟨some 4, none, .mov (.t 99)⟩] [4] [])
  .ret))))))),
  [.tmp 4], false⟩
def ir7 : IFn :=   -- tympan/tympanlaw14.GridStays
⟨(.seq (.reg false [⟨some 1, none, .bx (.t 0) 22 true⟩, 
    ⟨some 2, none, .mov (.c (.p (.bool false)))⟩] [1] [1])
  (.seq (.seq (.reg false [⟨some 4, none, .ld (.t 1) 22 true⟩, 
    ⟨some 5, none, .call 44 [(.t 4)] false⟩] [1, 5] [1])
  (.cond (.t 5)
  (.seq (.reg false [⟨some 6, none, .call 45 [] false⟩, 
      ⟨some 2, none, .mov (.t 6)⟩] [2] [])
    .ret)
  .skip))
  (.seq (.reg false [⟨some 7, none, .ld (.t 1) 22 true⟩, 
    ⟨some 8, none, .call 46 [(.t 7)] false⟩, 
    ⟨some 3, none, .al [.p (.int .i64 0), .p (.int .i64 0), .p (.int .i64 0), .p (.int .i64 0), .p (.int .i64 0), .p (.int .i64 0), .p (.int .i64 0), .p (.int .i64 0), .p (.int .i64 0), .p (.int .i64 0), .p (.int .i64 0), .p (.int .i64 0), .p (.int .i64 0), .p (.int .i64 0), .p (.int .i64 0), .p (.int .i64 0), .p (.int .i64 0), .p (.int .i64 0), .p (.bool false), .nils, .nils, .nils] true⟩, 
    ⟨none, none, .st (.t 3) (.t 8) 22⟩] [1, 3] [1, 3])
  (.seq (.seq (.reg false [⟨some 9, none, .ld (.t 1) 22 true⟩, 
    ⟨some 10, none, .call 47 [(.t 9)] false⟩, 
    ⟨some 11, none, .un .not (.t 10)⟩] [1, 3, 11] [1, 3])
  (.cond (.t 11)
  (.seq (.reg false [⟨some 12, none, .call 45 [] false⟩, 
      ⟨some 2, none, .mov (.t 12)⟩] [2] [])
    .ret)
  .skip))
  (.seq (.reg true [⟨some 13, none, .ld (.t 3) 22 true⟩, 
    ⟨some 14, none, .call 48 [(.t 13)] true⟩, 
    ⟨some 15, none, .mov (.t 14)⟩, 
    ⟨some 16, (some (15, true)), .ld (.t 3) 22 true⟩, 
    ⟨some 17, (some (15, true)), .call 46 [(.t 16)] true⟩, 
    ⟨some 18, (some (15, true)), .ld (.t 3) 22 true⟩, 
    ⟨some 19, (some (15, true)), .call 49 [(.t 17), (.t 18)] true⟩, 
    ⟨some 20, none, .pick (.t 15) (.t 19) (.c (.p (.bool false)))⟩, 
    ⟨some 21, none, .mov (.t 20)⟩, 
    ⟨some 22, (some (21, true)), .off (.t 3) 0⟩, 
    ⟨some 23, (some (21, true)), .off (.t 22) 3⟩, 
    ⟨some 24, (some (21, true)), .ld (.t 23) 1 false⟩, 
    ⟨some 25, (some (21, true)), .off (.t 1) 0⟩, 
    ⟨some 26, (some (21, true)), .off (.t 25) 3⟩, 
    ⟨some 27, (some (21, true)), .ld (.t 26) 1 false⟩, 
    ⟨some 28, (some (21, true)), .bin .leq (.t 24) (.t 27)⟩, 
    ⟨some 29, none, .pick (.t 21) (.t 28) (.c (.p (.bool false)))⟩, 
    ⟨some 30, none, .mov (.t 29)⟩, 
    ⟨some 31, (some (30, true)), .call 45 [] true⟩, 
    ⟨some 32, none, .pick (.t 30) (.t 31) (.c (.p (.bool false)))⟩, 
    ⟨some 2, none, .mov (.t 32)⟩] [2] [])
  .ret))))),
  [.tmp 2], false⟩
def ir8 : IFn :=   -- tympan/tympanlaw14.GridSnaps
⟨(.seq (.reg false [⟨some 2, none, .bx (.t 0) 22 true⟩, 
    ⟨some 3, none, .bx (.t 1) 22 true⟩, 
    ⟨some 4, none, .mov (.c (.p (.bool false)))⟩] [2, 3] [2, 3])
  (.seq (.seq (.reg false [⟨some 5, none, .ld (.t 2) 22 true⟩, 
    ⟨some 6, none, .call 44 [(.t 5)] false⟩, 
    ⟨some 7, none, .mov (.t 6)⟩, 
    ⟨some 8, (some (7, false)), .ld (.t 3) 22 true⟩, 
    ⟨some 9, (some (7, false)), .call 44 [(.t 8)] false⟩, 
    ⟨some 10, none, .pick (.t 7) (.c (.p (.bool true))) (.t 9)⟩] [2, 3, 10] [2, 3])
  (.cond (.t 10)
  (.seq (.reg false [⟨some 11, none, .call 45 [] false⟩, 
      ⟨some 4, none, .mov (.t 11)⟩] [4] [])
    .ret)
  .skip))
  (.seq (.reg true [⟨some 12, none, .ld (.t 2) 22 true⟩, 
    ⟨some 13, none, .call 46 [(.t 12)] true⟩, 
    ⟨some 14, none, .ld (.t 2) 22 true⟩, 
    ⟨some 15, none, .call 50 [(.t 14)] true⟩, 
    ⟨some 16, none, .call 49 [(.t 13), (.t 15)] true⟩, 
    ⟨some 17, none, .mov (.t 16)⟩, 
    ⟨some 18, (some (17, true)), .ld (.t 2) 22 true⟩, 
    ⟨some 19, (some (17, true)), .call 48 [(.t 18)] true⟩, 
    ⟨some 20, (some (17, true)), .ld (.t 2) 22 true⟩, 
    ⟨some 21, (some (17, true)), .call 51 [(.t 20)] true⟩, 
    ⟨some 22, (some (17, true)), .eqb false (.t 19) (.t 21)⟩, 
    ⟨some 23, none, .pick (.t 17) (.t 22) (.c (.p (.bool false)))⟩, 
    ⟨some 24, none, .mov (.t 23)⟩, 
    ⟨some 25, (some (24, true)), .ld (.t 2) 22 true⟩, 
    ⟨some 26, (some (24, true)), .ld (.t 3) 22 true⟩, 
    ⟨some 27, (some (24, true)), .call 52 [(.t 25), (.t 26)] true⟩, 
    ⟨some 28, (some (24, true)), .ld (.t 2) 22 true⟩, 
    ⟨some 29, (some (24, true)), .ld (.t 3) 22 true⟩, 
    ⟨some 30, (some (24, true)), .call 49 [(.t 28), (.t 29)] true⟩, 
    ⟨some 31, (some (24, true)), .eqb false (.t 27) (.t 30)⟩, 
    ⟨some 32, none, .pick (.t 24) (.t 31) (.c (.p (.bool false)))⟩, 
    ⟨some 33, none, .mov (.t 32)⟩, 
    ⟨some 34, (some (33, true)), .ld (.t 2) 22 true⟩, 
    ⟨some 35, (some (33, true)), .ld (.t 2) 22 true⟩, 
    ⟨some 36, (some (33, true)), .call 52 [(.t 34), (.t 35)] true⟩, 
    ⟨some 37, none, .pick (.t 33) (.t 36) (.c (.p (.bool false)))⟩, 
    ⟨some 38, none, .mov (.t 37)⟩, 
    ⟨some 39, (some (38, true)), .call 45 [] true⟩, 
    ⟨some 40, none, .pick (.t 38) (.t 39) (.c (.p (.bool false)))⟩, 
    ⟨some 4, none, .mov (.t 40)⟩] [4] [])
  .ret))),
  [.tmp 4], false⟩
def lp12_0 : IC :=
  (.loop [0, 1, 5, 6] [] (.seq (.seq (.reg false [⟨some 12, none, .mov (.t 6)⟩, 
        ⟨some 13, none, .mov (.t 5)⟩, 
        ⟨some 14, none, .len (.t 13)⟩, 
        ⟨some 15, none, .bin .lss (.t 12) (.t 14)⟩] [0, 1, 5, 6, 15] [])
      (.cond (.t 15)
      .skip
      (.exit 0)))
      (.seq (.block 1 (.seq (.reg false [⟨some 18, none, .mov (.t 5)⟩, 
          ⟨some 19, none, .mov (.t 6)⟩, 
          ⟨some 20, none, .ixs (.t 18) (.t 19) 1⟩, 
          ⟨some 21, none, .ld (.t 20) 1 false⟩, 
          ⟨some 22, none, .mov (.t 6)⟩, 
          ⟨some 23, none, .bin .add (.c (.p (.int .i64 3))) (.t 22)⟩, 
          ⟨some 24, none, .bin .neq (.t 21) (.t 23)⟩] [0, 1, 5, 6, 24] [])
        (.cond (.t 24)
        (.seq (.reg false [⟨some 4, none, .mov (.c (.p (.bool false)))⟩] [4] [])
          .ret)
        .skip)))
      (.reg false [⟨some 16, none, .mov (.t 6)⟩, 
        ⟨some 17, none, .bin .add (.t 16) (.c (.p (.int .i64 1)))⟩, 
        ⟨some 6, none, .mov (.t 17)⟩] [0, 1, 5, 6] []))))
def ir12 : IFn :=   -- tympan/tympanlaw15.ValidAnchors
⟨(.seq (.reg false [⟨some 4, none, .mov (.c (.p (.bool false)))⟩] [0, 1] [])
  (.seq (.seq (.reg false [⟨some 7, none, .mov (.t 0)⟩, 
    ⟨some 8, none, .len (.t 7)⟩, 
    ⟨some 9, none, .bin .gtr (.t 8) (.c (.p (.int .i64 200)))⟩] [0, 1, 9] [])
  (.cond (.t 9)
  (.seq (.reg false [⟨some 10, none, .call 53 [] false⟩, 
      ⟨some 4, none, .mov (.t 10)⟩] [4] [])
    .ret)
  .skip))
  (.seq (.reg false [⟨some 11, none, .call 58 [] false⟩, 
    ⟨some 5, none, .mov (.t 11)⟩] [0, 1, 5] [])
  (.seq (.seq (.reg false [⟨some 6, none, .mov (.c (.p (.int .i64 0)))⟩] [0, 1, 5, 6] [])
  (.block 0 lp12_0))
  (.seq (.reg false [⟨some 25, none, .mov (.t 5)⟩, 
    ⟨some 26, none, .len (.t 25)⟩, 
    ⟨some 27, none, .bin .eql (.t 26) (.c (.p (.int .i64 10)))⟩, 
    ⟨some 28, none, .mov (.t 27)⟩, 
    ⟨some 29, (some (28, true)), .mov (.t 0)⟩, 
    ⟨some 30, (some (28, true)), .mov (.t 1)⟩, 
    ⟨some 31, (some (28, true)), .call 59 [(.t 29), (.t 30)] false⟩, 
    ⟨some 32, (some (28, true)), .mov (.t 0)⟩, 
    ⟨some 33, (some (28, true)), .mov (.t 1)⟩, 
    ⟨some 34, (some (28, true)), .call 60 [(.t 32), (.t 33)] false⟩, 
    ⟨some 35, (some (28, true)), .bin .eql (.t 31) (.t 34)⟩, 
    ⟨some 36, none, .pick (.t 28) (.t 35) (.c (.p (.bool false)))⟩, 
    ⟨some 37, none, .mov (.t 36)⟩, 
    ⟨some 38, (some (37, true)), .call 53 [] false⟩, 
    ⟨some 39, none, .pick (.t 37) (.t 38) (.c (.p (.bool false)))⟩, 
    ⟨some 4, none, .mov (.t 39)⟩] [4] [])
  .ret))))),
  [.tmp 4], false⟩
def ir13 : IFn :=   -- tympan/tympanlaw41.CheckParts
⟨(.seq (.reg false [⟨some 2, none, .bx (.t 0) 2 true⟩, 
    ⟨some 4, none, .mov (.c (.p (.bool false)))⟩] [1, 2] [2])
  (.seq (.seq (.reg false [⟨some 5, none, .mov (.t 1)⟩, 
    ⟨some 6, none, .call 61 [(.t 5)] false⟩, 
    ⟨some 7, none, .mov (.t 6)⟩, 
    ⟨some 8, (some (7, false)), .off (.t 2) 1⟩, 
    ⟨some 9, (some (7, false)), .ld (.t 8) 1 false⟩, 
    ⟨some 10, (some (7, false)), .len (.t 9)⟩, 
    ⟨some 11, (some (7, false)), .bin .gtr (.t 10) (.c (.p (.int .i64 100)))⟩, 
    ⟨some 12, none, .pick (.t 7) (.c (.p (.bool true))) (.t 11)⟩] [1, 2, 12] [2])
  (.cond (.t 12)
  (.seq (.reg false [⟨some 13, none, .call 62 [] false⟩, 
      ⟨some 4, none, .mov (.t 13)⟩] [4] [])
    .ret)
  .skip))
  (.seq (.reg true [⟨some 14, none, .ld (.t 2) 2 true⟩, 
    ⟨some 15, none, .call 63 [(.t 14)] true⟩, 
    ⟨some 16, none, .ld (.t 2) 2 true⟩, 
    ⟨some 17, none, .call 64 [(.t 16)] true⟩, 
    ⟨some 18, none, .eqb false (.t 15) (.t 17)⟩, 
    ⟨some 19, none, .mov (.t 18)⟩, 
    ⟨some 20, (some (19, true)), .mov (.t 1)⟩, 
    ⟨some 21, (some (19, true)), .call 65 [(.t 20)] true⟩, 
    ⟨some 22, (some (19, true)), .mov (.t 1)⟩, 
    ⟨some 23, (some (19, true)), .call 66 [(.t 22)] true⟩, 
    ⟨some 24, (some (19, true)), .bin .eql (.t 21) (.t 23)⟩, 
    ⟨some 25, none, .pick (.t 19) (.t 24) (.c (.p (.bool false)))⟩, 
    ⟨some 26, none, .mov (.t 25)⟩, 
    ⟨some 27, (some (26, true)), .call 62 [] true⟩, 
    ⟨some 28, none, .pick (.t 26) (.t 27) (.c (.p (.bool false)))⟩, 
    ⟨some 4, none, .mov (.t 28)⟩] [4] [])
  .ret))),
  [.tmp 4], false⟩
def lp16_0 : IC :=
  (.loop [1, 3, 5, 7, 8, 9, 10, 11] [3, 5, 7] (.seq (.seq (.reg false [⟨some 70, none, .mov (.t 11)⟩, 
        ⟨some 71, none, .mov (.t 10)⟩, 
        ⟨some 72, none, .len (.t 71)⟩, 
        ⟨some 73, none, .bin .lss (.t 70) (.t 72)⟩] [1, 3, 5, 7, 8, 9, 10, 11, 73] [3, 5, 7])
      (.cond (.t 73)
      .skip
      (.exit 0)))
      (.seq (.block 1 (.seq (.reg false [⟨some 76, none, .mov (.t 10)⟩, 
          ⟨some 77, none, .mov (.t 11)⟩, 
          ⟨some 78, none, .ixs (.t 76) (.t 77) 2⟩, 
          ⟨some 79, none, .ld (.t 78) 2 true⟩, 
          ⟨some 12, none, .al [.nils, .nils] true⟩, 
          ⟨none, none, .st (.t 12) (.t 79) 2⟩] [1, 3, 5, 7, 8, 9, 10, 11, 12] [3, 5, 7, 12])
        (.seq (.reg true [⟨some 80, none, .mov (.t 1)⟩, 
          ⟨some 81, none, .ld (.t 7) 3 true⟩, 
          ⟨some 82, none, .off (.t 12) 0⟩, 
          ⟨some 83, none, .ld (.t 82) 1 false⟩, 
          ⟨some 84, none, .call 70 [(.t 80), (.t 81), (.t 83)] true⟩, 
          ⟨some 85, none, .un .not (.t 84)⟩, 
          ⟨some 86, none, .mov (.t 85)⟩, 
          ⟨some 87, (some (86, false)), .mov (.t 1)⟩, 
          ⟨some 88, (some (86, false)), .ld (.t 7) 3 true⟩, 
          ⟨some 89, (some (86, false)), .mov (.t 1)⟩, 
          ⟨some 90, (some (86, false)), .off (.t 12) 0⟩, 
          ⟨some 91, (some (86, false)), .ld (.t 90) 1 false⟩, 
          ⟨some 92, (some (86, false)), .call 71 [(.t 89), (.t 91)] true⟩, 
          ⟨some 93, (some (86, false)), .call 69 [(.t 88), (.t 92)] true⟩, 
          ⟨some 94, (some (86, false)), .off (.t 12) 1⟩, 
          ⟨some 95, (some (86, false)), .ld (.t 94) 1 false⟩, 
          ⟨some 96, (some (86, false)), .call 70 [(.t 87), (.t 93), (.t 95)] true⟩, 
          ⟨some 97, (some (86, false)), .un .not (.t 96)⟩, 
          ⟨some 98, none, .pick (.t 86) (.c (.p (.bool true))) (.t 97)⟩, 
          ⟨some 99, none, .mov (.t 98)⟩, 
          ⟨some 100, (some (99, false)), .ld (.t 3) 19 true⟩, 
          ⟨some 101, (some (99, false)), .mov (.t 1)⟩, 
          ⟨some 102, (some (99, false)), .ld (.t 12) 2 true⟩, 
          ⟨some 103, (some (99, false)), .call 83 [(.t 100), (.t 101), (.t 102)] true⟩, 
          ⟨some 104, (some (99, false)), .un .not (.t 103)⟩, 
          ⟨some 105, none, .pick (.t 99) (.c (.p (.bool true))) (.t 104)⟩] [1, 3, 5, 7, 8, 9, 10, 11, 105] [3, 5, 7])
        (.cond (.t 105)
        (.seq (.reg false [⟨some 6, none, .mov (.c (.p (.bool false)))⟩] [6] [])
          .ret)
        .skip))))
      (.reg false [⟨some 74, none, .mov (.t 11)⟩, 
        ⟨some 75, none, .bin .add (.t 74) (.c (.p (.int .i64 1)))⟩, 
        ⟨some 11, none, .mov (.t 75)⟩] [1, 3, 5, 7, 8, 9, 10, 11] [3, 5, 7]))))
def ir16 : IFn :=   -- tympan/tympanlaw24.AreaOrder
⟨(.seq (.reg false [⟨some 3, none, .bx (.t 0) 19 true⟩, 
    ⟨some 5, none, .bx (.t 2) 6 true⟩, 
    ⟨some 6, none, .mov (.c (.p (.bool false)))⟩] [1, 3, 5] [3, 5])
  (.seq (.seq (.reg false [⟨some 13, none, .mov (.t 1)⟩, 
    ⟨some 14, none, .len (.t 13)⟩, 
    ⟨some 15, none, .bin .gtr (.t 14) (.c (.p (.int .i64 8)))⟩, 
    ⟨some 16, none, .mov (.t 15)⟩, 
    ⟨some 17, (some (16, false)), .ixa (.t 5) (.c (.p (.int .i64 1))) 3 2⟩, 
    ⟨some 18, (some (16, false)), .ixa (.t 17) (.c (.p (.int .i64 0))) 1 3⟩, 
    ⟨some 19, (some (16, false)), .ld (.t 18) 1 false⟩, 
    ⟨some 20, (some (16, false)), .bin .gtr (.t 19) (.c (.p (.int .i64 4)))⟩, 
    ⟨some 21, none, .pick (.t 16) (.c (.p (.bool true))) (.t 20)⟩, 
    ⟨some 22, none, .mov (.t 21)⟩, 
    ⟨some 23, (some (22, false)), .ixa (.t 5) (.c (.p (.int .i64 1))) 3 2⟩, 
    ⟨some 24, (some (22, false)), .ixa (.t 23) (.c (.p (.int .i64 1))) 1 3⟩, 
    ⟨some 25, (some (22, false)), .ld (.t 24) 1 false⟩, 
    ⟨some 26, (some (22, false)), .bin .gtr (.t 25) (.c (.p (.int .i64 4)))⟩, 
    ⟨some 27, none, .pick (.t 22) (.c (.p (.bool true))) (.t 26)⟩, 
    ⟨some 28, none, .mov (.t 27)⟩, 
    ⟨some 29, (some (28, false)), .ixa (.t 5) (.c (.p (.int .i64 1))) 3 2⟩, 
    ⟨some 30, (some (28, false)), .ixa (.t 29) (.c (.p (.int .i64 2))) 1 3⟩, 
    ⟨some 31, (some (28, false)), .ld (.t 30) 1 false⟩, 
    ⟨some 32, (some (28, false)), .bin .gtr (.t 31) (.c (.p (.int .i64 4)))⟩, 
    ⟨some 33, none, .pick (.t 28) (.c (.p (.bool true))) (.t 32)⟩, 
    ⟨some 34, none, .mov (.t 33)⟩, 
    ⟨some 35, (some (34, false)), .off (.t 3) 11⟩, 
    ⟨some 36, (some (34, false)), .ld (.t 35) 1 false⟩, 
    ⟨some 37, (some (34, false)), .bin .lss (.t 36) (.c (.p (.int .i64 0)))⟩, 
    ⟨some 38, none, .pick (.t 34) (.c (.p (.bool true))) (.t 37)⟩, 
    ⟨some 39, none, .mov (.t 38)⟩, 
    ⟨some 40, (some (39, false)), .off (.t 3) 12⟩, 
    ⟨some 41, (some (39, false)), .ld (.t 40) 1 false⟩, 
    ⟨some 42, (some (39, false)), .bin .lss (.t 41) (.c (.p (.int .i64 0)))⟩, 
    ⟨some 43, none, .pick (.t 39) (.c (.p (.bool true))) (.t 42)⟩, 
    ⟨some 44, none, .mov (.t 43)⟩, 
    ⟨some 45, (some (44, false)), .off (.t 3) 9⟩, 
    ⟨some 46, (some (44, false)), .ld (.t 45) 1 false⟩, 
    ⟨some 47, (some (44, false)), .bin .lss (.t 46) (.c (.p (.int .i64 0)))⟩, 
    ⟨some 48, none, .pick (.t 44) (.c (.p (.bool true))) (.t 47)⟩, 
    ⟨some 49, none, .mov (.t 48)⟩, 
    ⟨some 50, (some (49, false)), .off (.t 3) 10⟩, 
    ⟨some 51, (some (49, false)), .ld (.t 50) 1 false⟩, 
    ⟨some 52, (some (49, false)), .bin .lss (.t 51) (.c (.p (.int .i64 0)))⟩, 
    ⟨some 53, none, .pick (.t 49) (.c (.p (.bool true))) (.t 52)⟩] [1, 3, 5, 53] [3, 5])
  (.cond (.t 53)
  (.seq (.reg false [⟨some 54, none, .call 81 [] false⟩, 
      ⟨some 6, none, .mov (.t 54)⟩] [6] [])
    .ret)
  .skip))
  (.seq (.reg false [⟨some 55, none, .ixa (.t 5) (.c (.p (.int .i64 0))) 3 2⟩, 
    ⟨some 56, none, .ld (.t 55) 3 true⟩, 
    ⟨some 7, none, .al [.p (.int .i64 0), .p (.int .i64 0), .p (.int .i64 0)] true⟩, 
    ⟨none, none, .st (.t 7) (.t 56) 3⟩] [1, 3, 5, 7] [3, 5, 7])
  (.seq (.reg false [⟨some 58, none, .mov (.t 1)⟩, 
    ⟨some 59, none, .ld (.t 7) 3 true⟩, 
    ⟨some 60, none, .bld [.p (.int .i64 0), .p (.int .i64 0), .p (.int .i64 0)] []⟩, 
    ⟨some 61, none, .call 68 [(.t 58), (.t 59), (.t 60)] false⟩, 
    ⟨some 57, none, .mov (.t 61)⟩, 
    ⟨some 62, none, .ext (.t 57) 0⟩, 
    ⟨some 63, none, .ext (.t 57) 1⟩, 
    ⟨some 8, none, .mov (.t 62)⟩, 
    ⟨some 9, none, .mov (.t 63)⟩] [1, 3, 5, 7, 8, 9] [3, 5, 7])
  (.seq (.reg false [⟨some 64, none, .ld (.t 3) 19 true⟩, 
    ⟨some 65, none, .mov (.t 1)⟩, 
    ⟨some 66, none, .ld (.t 7) 3 true⟩, 
    ⟨some 67, none, .ixa (.t 5) (.c (.p (.int .i64 1))) 3 2⟩, 
    ⟨some 68, none, .ld (.t 67) 3 true⟩, 
    ⟨some 69, none, .call 82 [(.t 64), (.t 65), (.t 66), (.t 68)] false⟩, 
    ⟨some 10, none, .mov (.t 69)⟩] [1, 3, 5, 7, 8, 9, 10] [3, 5, 7])
  (.seq (.seq (.reg false [⟨some 11, none, .mov (.c (.p (.int .i64 0)))⟩] [1, 3, 5, 7, 8, 9, 10, 11] [3, 5, 7])
  (.block 0 lp16_0))
  (.seq (.seq (.reg true [⟨some 106, none, .mov (.t 9)⟩, 
    ⟨some 107, none, .mov (.t 106)⟩, 
    ⟨some 108, (some (107, true)), .ixa (.t 5) (.c (.p (.int .i64 1))) 3 2⟩, 
    ⟨some 109, (some (107, true)), .ixa (.t 108) (.c (.p (.int .i64 0))) 1 3⟩, 
    ⟨some 110, (some (107, true)), .ld (.t 109) 1 false⟩, 
    ⟨some 111, (some (107, true)), .bin .geq (.t 110) (.c (.p (.int .i64 0)))⟩, 
    ⟨some 112, none, .pick (.t 107) (.t 111) (.c (.p (.bool false)))⟩, 
    ⟨some 113, none, .mov (.t 112)⟩, 
    ⟨some 114, (some (113, true)), .ixa (.t 5) (.c (.p (.int .i64 1))) 3 2⟩, 
    ⟨some 115, (some (113, true)), .ixa (.t 114) (.c (.p (.int .i64 1))) 1 3⟩, 
    ⟨some 116, (some (113, true)), .ld (.t 115) 1 false⟩, 
    ⟨some 117, (some (113, true)), .bin .geq (.t 116) (.c (.p (.int .i64 0)))⟩, 
    ⟨some 118, none, .pick (.t 113) (.t 117) (.c (.p (.bool false)))⟩, 
    ⟨some 119, none, .mov (.t 118)⟩, 
    ⟨some 120, (some (119, true)), .ixa (.t 5) (.c (.p (.int .i64 1))) 3 2⟩, 
    ⟨some 121, (some (119, true)), .ixa (.t 120) (.c (.p (.int .i64 2))) 1 3⟩, 
    ⟨some 122, (some (119, true)), .ld (.t 121) 1 false⟩, 
    ⟨some 123, (some (119, true)), .bin .geq (.t 122) (.c (.p (.int .i64 0)))⟩, 
    ⟨some 124, none, .pick (.t 119) (.t 123) (.c (.p (.bool false)))⟩, 
    ⟨some 125, none, .mov (.t 124)⟩, 
    ⟨some 126, (some (125, true)), .mov (.t 10)⟩, 
    ⟨some 127, (some (125, true)), .len (.t 126)⟩, 
    ⟨some 128, (some (125, true)), .bin .eql (.t 127) (.c (.p (.int .i64 0)))⟩, 
    ⟨some 129, (some (125, true)), .mov (.t 128)⟩, 
    ⟨some 130, (some (129, false)), .mov (.t 10)⟩, 
    ⟨some 131, (some (129, false)), .ixs (.t 130) (.c (.p (.int .i64 0))) 2⟩, 
    ⟨some 132, (some (129, false)), .off (.t 131) 0⟩, 
    ⟨some 133, (some (129, false)), .ld (.t 132) 1 false⟩, 
    ⟨some 134, (some (129, false)), .len (.t 133)⟩, 
    ⟨some 135, (some (129, false)), .mov (.t 10)⟩, 
    ⟨some 136, (some (129, false)), .ixs (.t 135) (.c (.p (.int .i64 0))) 2⟩, 
    ⟨some 137, (some (129, false)), .off (.t 136) 1⟩, 
    ⟨some 138, (some (129, false)), .ld (.t 137) 1 false⟩, 
    ⟨some 139, (some (129, false)), .len (.t 138)⟩, 
    ⟨some 140, (some (129, false)), .bin .add (.t 134) (.t 139)⟩, 
    ⟨some 141, (some (129, false)), .bin .neq (.t 140) (.c (.p (.int .i64 0)))⟩, 
    ⟨some 142, (some (125, true)), .pick (.t 129) (.c (.p (.bool true))) (.t 141)⟩, 
    ⟨some 143, none, .pick (.t 125) (.t 142) (.c (.p (.bool false)))⟩] [8, 143] [])
  (.cond (.t 143)
  (.seq (.reg false [⟨some 6, none, .mov (.c (.p (.bool false)))⟩] [6] [])
    .ret)
  .skip))
  (.seq (.reg false [⟨some 144, none, .mov (.t 8)⟩, 
    ⟨some 145, none, .len (.t 144)⟩, 
    ⟨some 146, none, .bin .eql (.t 145) (.c (.p (.int .i64 0)))⟩, 
    ⟨some 147, none, .mov (.t 146)⟩, 
    ⟨some 148, (some (147, true)), .call 81 [] false⟩, 
    ⟨some 149, none, .pick (.t 147) (.t 148) (.c (.p (.bool false)))⟩, 
    ⟨some 6, none, .mov (.t 149)⟩] [6] [])
  .ret)))))))),
  [.tmp 6], false⟩
def ir17 : IFn :=   -- tympan/tympanlaw11.awake
⟨(.seq (.reg false [⟨some 0, none, .mov (.c (.p (.bool false)))⟩] [] [])
  (.seq (.reg false [⟨some 2, none, .bsl 1 3 [.p (.int .i64 0)] [(0, (.c (.p (.int .i64 3)))), (1, (.c (.p (.int .i64 4)))), (2, (.c (.p (.int .i64 5))))]⟩, 
    ⟨some 3, none, .bsl 1 2 [.p (.int .i64 0)] [(0, (.c (.p (.int .i64 7)))), (1, (.c (.p (.int .i64 10000))))]⟩, 
    ⟨some 4, none, .bld [.nils, .nils] [(0, 1, (.t 2)), (1, 1, (.t 3))]⟩, 
    ⟨some 1, none, .al [.nils, .nils] true⟩, 
    ⟨none, none, .st (.t 1) (.t 4) 2⟩] [1] [1])
  (.seq (.reg false [⟨some 5, none, .ld (.t 1) 2 true⟩, 
    ⟨some 6, none, .call 18 [(.t 5)] false⟩, 
    ⟨some 7, none, .bin .eql (.t 6) (.c (.p (.int .i64 0)))⟩, 
    ⟨some 8, none, .mov (.t 7)⟩, 
    ⟨some 9, (some (8, true)), .ld (.t 1) 2 true⟩, 
    ⟨some 10, (some (8, true)), .call 20 [(.t 9), (.c (.p (.int .i64 1)))] false⟩, 
    ⟨some 11, none, .pick (.t 8) (.t 10) (.c (.p (.bool false)))⟩, 
    ⟨some 12, none, .mov (.t 11)⟩, 
    ⟨some 13, (some (12, true)), .ld (.t 1) 2 true⟩, 
    ⟨some 14, (some (12, true)), .call 20 [(.t 13), (.c (.p (.int .i64 2)))] false⟩, 
    ⟨some 15, (some (12, true)), .un .not (.t 14)⟩, 
    ⟨some 16, none, .pick (.t 12) (.t 15) (.c (.p (.bool false)))⟩, 
    ⟨some 17, none, .mov (.t 16)⟩, 
    ⟨some 18, (some (17, true)), .ld (.t 1) 2 true⟩, 
    ⟨some 19, (some (17, true)), .call 29 [(.t 18), (.c (.p (.int .i64 1))), (.c (.p (.int .i64 3)))] false⟩, 
    ⟨some 20, (some (17, true)), .bin .eql (.t 19) (.c (.p (.int .i64 9)))⟩, 
    ⟨some 21, none, .pick (.t 17) (.t 20) (.c (.p (.bool false)))⟩, 
    ⟨some 22, none, .mov (.t 21)⟩, 
    ⟨some 23, (some (22, true)), .ld (.t 1) 2 true⟩, 
    ⟨some 24, (some (22, true)), .call 22 [(.t 23), (.c (.p (.int .i64 1)))] false⟩, 
    ⟨some 25, (some (22, true)), .bin .eql (.t 24) (.c (.p (.int .i64 7)))⟩, 
    ⟨some 26, none, .pick (.t 22) (.t 25) (.c (.p (.bool false)))⟩, 
    ⟨some 27, none, .mov (.t 26)⟩, 
    ⟨some 28, (some (27, true)), .ld (.t 1) 2 true⟩, 
    ⟨some 29, (some (27, true)), .call 27 [(.t 28), (.c (.p (.int .i64 1)))] false⟩, 
    ⟨some 30, (some (27, true)), .bin .eql (.t 29) (.c (.p (.int .i64 3)))⟩, 
    ⟨some 31, none, .pick (.t 27) (.t 30) (.c (.p (.bool false)))⟩, 
    ⟨some 0, none, .mov (.t 31)⟩] [0] [])
  .ret))),
  [.tmp 0], false⟩
def lp18_0 : IC :=
  (.loop [1, 3, 29, 30, 31] [1] (.seq (.reg false [⟨some 32, none, .bin .lss (.t 31) (.t 30)⟩] [1, 3, 29, 30, 31, 32] [1])
      (.seq (.cond (.t 32)
      .skip
      (.exit 0))
      (.seq (.block 1 (.seq (.reg false [⟨some 33, none, .ixs (.t 29) (.t 31) 1⟩, 
          ⟨some 34, none, .ld (.t 33) 1 false⟩, 
          ⟨some 5, none, .mov (.t 34)⟩] [1, 3, 5, 29, 30, 31] [1])
        (.reg false [⟨some 35, none, .mov (.t 3)⟩, 
          ⟨some 36, none, .mov (.t 35)⟩, 
          ⟨some 37, (some (36, false)), .mov (.t 5)⟩, 
          ⟨some 38, (some (36, false)), .bin .lss (.t 37) (.c (.p (.int .i64 1)))⟩, 
          ⟨some 39, none, .pick (.t 36) (.c (.p (.bool true))) (.t 38)⟩, 
          ⟨some 40, none, .mov (.t 39)⟩, 
          ⟨some 41, (some (40, false)), .mov (.t 5)⟩, 
          ⟨some 42, (some (40, false)), .bin .gtr (.t 41) (.c (.p (.int .i64 1073741823)))⟩, 
          ⟨some 43, none, .pick (.t 40) (.c (.p (.bool true))) (.t 42)⟩, 
          ⟨some 3, none, .mov (.t 43)⟩] [1, 3, 29, 30, 31] [1])))
      (.reg false [⟨some 44, none, .bin .add (.t 31) (.c (.p (.int .i64 1)))⟩, 
        ⟨some 31, none, .mov (.t 44)⟩] [1, 3, 29, 30, 31] [1])))))
def lp18_1 : IC :=
  (.loop [3, 46, 47, 48] [] (.seq (.reg false [⟨some 49, none, .bin .lss (.t 48) (.t 47)⟩] [3, 46, 47, 48, 49] [])
      (.seq (.cond (.t 49)
      .skip
      (.exit 2))
      (.seq (.block 3 (.seq (.reg false [⟨some 50, none, .ixs (.t 46) (.t 48) 1⟩, 
          ⟨some 51, none, .ld (.t 50) 1 false⟩, 
          ⟨some 7, none, .mov (.t 51)⟩] [3, 7, 46, 47, 48] [])
        (.reg false [⟨some 52, none, .mov (.t 3)⟩, 
          ⟨some 53, none, .mov (.t 52)⟩, 
          ⟨some 54, (some (53, false)), .mov (.t 7)⟩, 
          ⟨some 55, (some (53, false)), .bin .lss (.t 54) (.c (.p (.int .i64 0)))⟩, 
          ⟨some 56, none, .pick (.t 53) (.c (.p (.bool true))) (.t 55)⟩, 
          ⟨some 57, none, .mov (.t 56)⟩, 
          ⟨some 58, (some (57, false)), .mov (.t 7)⟩, 
          ⟨some 59, (some (57, false)), .bin .gtr (.t 58) (.c (.p (.int .i64 10000)))⟩, 
          ⟨some 60, none, .pick (.t 57) (.c (.p (.bool true))) (.t 59)⟩, 
          ⟨some 3, none, .mov (.t 60)⟩] [3, 46, 47, 48] [])))
      (.reg false [⟨some 61, none, .bin .add (.t 48) (.c (.p (.int .i64 1)))⟩, 
        ⟨some 48, none, .mov (.t 61)⟩] [3, 46, 47, 48] [])))))
def ir18 : IFn :=   -- tympan/note.Check
⟨(.seq (.reg false [⟨some 1, none, .bx (.t 0) 2 true⟩, 
    ⟨some 2, none, .mov (.c (.p (.int .i64 0)))⟩] [1] [1])
  (.seq (.reg false [⟨some 8, none, .off (.t 1) 0⟩, 
    ⟨some 9, none, .ld (.t 8) 1 false⟩, 
    ⟨some 10, none, .len (.t 9)⟩, 
    ⟨some 11, none, .bin .lss (.t 10) (.c (.p (.int .i64 1)))⟩, 
    ⟨some 12, none, .mov (.t 11)⟩, 
    ⟨some 13, (some (12, false)), .off (.t 1) 0⟩, 
    ⟨some 14, (some (12, false)), .ld (.t 13) 1 false⟩, 
    ⟨some 15, (some (12, false)), .len (.t 14)⟩, 
    ⟨some 16, (some (12, false)), .bin .gtr (.t 15) (.c (.p (.int .i64 64)))⟩, 
    ⟨some 17, none, .pick (.t 12) (.c (.p (.bool true))) (.t 16)⟩, 
    ⟨some 18, none, .mov (.t 17)⟩, 
    ⟨some 19, (some (18, false)), .off (.t 1) 1⟩, 
    ⟨some 20, (some (18, false)), .ld (.t 19) 1 false⟩, 
    ⟨some 21, (some (18, false)), .len (.t 20)⟩, 
    ⟨some 22, (some (18, false)), .off (.t 1) 0⟩, 
    ⟨some 23, (some (18, false)), .ld (.t 22) 1 false⟩, 
    ⟨some 24, (some (18, false)), .len (.t 23)⟩, 
    ⟨some 25, (some (18, false)), .bin .sub (.t 24) (.c (.p (.int .i64 1)))⟩, 
    ⟨some 26, (some (18, false)), .bin .neq (.t 21) (.t 25)⟩, 
    ⟨some 27, none, .pick (.t 18) (.c (.p (.bool true))) (.t 26)⟩, 
    ⟨some 3, none, .mov (.t 27)⟩] [1, 3] [1])
  (.seq (.seq (.reg false [⟨some 28, none, .off (.t 1) 0⟩, 
    ⟨some 29, none, .ld (.t 28) 1 false⟩, 
    ⟨some 30, none, .len (.t 29)⟩, 
    ⟨some 31, none, .mov (.c (.p (.int .i64 0)))⟩] [1, 3, 29, 30, 31] [1])
  (.block 0 lp18_0))
  (.seq (.seq (.reg false [⟨some 45, none, .off (.t 1) 1⟩, 
    ⟨some 46, none, .ld (.t 45) 1 false⟩, 
    ⟨some 47, none, .len (.t 46)⟩, 
    ⟨some 48, none, .mov (.c (.p (.int .i64 0)))⟩] [3, 46, 47, 48] [])
  (.block 2 lp18_1))
  (.seq (.seq (.reg false [⟨some 62, none, .mov (.t 3)⟩] [62] [])
  (.cond (.t 62)
  (.seq (.reg false [⟨some 2, none, .mov (.c (.p (.int .i64 9)))⟩] [2] [])
    .ret)
  .skip))
  (.seq (.reg false [⟨some 2, none, .mov (.c (.p (.int .i64 0)))⟩] [2] [])
  .ret)))))),
  [.tmp 2], false⟩
def lp19_0 : IC :=
  (.loop [1, 3] [1] (.seq (.seq (.reg false [⟨some 25, none, .mov (.t 3)⟩, 
        ⟨some 26, none, .off (.t 1) 0⟩, 
        ⟨some 27, none, .ld (.t 26) 1 false⟩, 
        ⟨some 28, none, .len (.t 27)⟩, 
        ⟨some 29, none, .bin .lss (.t 25) (.t 28)⟩] [1, 3, 29] [1])
      (.cond (.t 29)
      .skip
      (.exit 0)))
      (.seq (.block 1 (.seq (.reg false [⟨some 32, none, .off (.t 1) 0⟩, 
          ⟨some 33, none, .ld (.t 32) 1 false⟩, 
          ⟨some 34, none, .mov (.t 3)⟩, 
          ⟨some 35, none, .ixs (.t 33) (.t 34) 1⟩, 
          ⟨some 36, none, .ld (.t 35) 1 false⟩, 
          ⟨some 37, none, .bin .lss (.t 36) (.c (.p (.int .i64 1)))⟩, 
          ⟨some 38, none, .mov (.t 37)⟩, 
          ⟨some 39, (some (38, false)), .off (.t 1) 0⟩, 
          ⟨some 40, (some (38, false)), .ld (.t 39) 1 false⟩, 
          ⟨some 41, (some (38, false)), .mov (.t 3)⟩, 
          ⟨some 42, (some (38, false)), .ixs (.t 40) (.t 41) 1⟩, 
          ⟨some 43, (some (38, false)), .ld (.t 42) 1 false⟩, 
          ⟨some 44, (some (38, false)), .bin .gtr (.t 43) (.c (.p (.int .i64 1073741823)))⟩, 
          ⟨some 45, none, .pick (.t 38) (.c (.p (.bool true))) (.t 44)⟩] [1, 3, 45] [1])
        (.cond (.t 45)
        (.seq (.reg false [⟨some 2, none, .mov (.c (.p (.bool false)))⟩] [2] [])
          .ret)
        .skip)))
      (.reg false [⟨some 30, none, .mov (.t 3)⟩, 
        ⟨some 31, none, .bin .add (.t 30) (.c (.p (.int .i64 1)))⟩, 
        ⟨some 3, none, .mov (.t 31)⟩] [1, 3] [1]))))
def lp19_1 : IC :=
  (.loop [1, 4] [1] (.seq (.seq (.reg false [⟨some 46, none, .mov (.t 4)⟩, 
        ⟨some 47, none, .off (.t 1) 1⟩, 
        ⟨some 48, none, .ld (.t 47) 1 false⟩, 
        ⟨some 49, none, .len (.t 48)⟩, 
        ⟨some 50, none, .bin .lss (.t 46) (.t 49)⟩] [1, 4, 50] [1])
      (.cond (.t 50)
      .skip
      (.exit 2)))
      (.seq (.block 3 (.seq (.reg false [⟨some 53, none, .off (.t 1) 1⟩, 
          ⟨some 54, none, .ld (.t 53) 1 false⟩, 
          ⟨some 55, none, .mov (.t 4)⟩, 
          ⟨some 56, none, .ixs (.t 54) (.t 55) 1⟩, 
          ⟨some 57, none, .ld (.t 56) 1 false⟩, 
          ⟨some 58, none, .bin .lss (.t 57) (.c (.p (.int .i64 0)))⟩, 
          ⟨some 59, none, .mov (.t 58)⟩, 
          ⟨some 60, (some (59, false)), .off (.t 1) 1⟩, 
          ⟨some 61, (some (59, false)), .ld (.t 60) 1 false⟩, 
          ⟨some 62, (some (59, false)), .mov (.t 4)⟩, 
          ⟨some 63, (some (59, false)), .ixs (.t 61) (.t 62) 1⟩, 
          ⟨some 64, (some (59, false)), .ld (.t 63) 1 false⟩, 
          ⟨some 65, (some (59, false)), .bin .gtr (.t 64) (.c (.p (.int .i64 10000)))⟩, 
          ⟨some 66, none, .pick (.t 59) (.c (.p (.bool true))) (.t 65)⟩] [1, 4, 66] [1])
        (.cond (.t 66)
        (.seq (.reg false [⟨some 2, none, .mov (.c (.p (.bool false)))⟩] [2] [])
          .ret)
        .skip)))
      (.reg false [⟨some 51, none, .mov (.t 4)⟩, 
        ⟨some 52, none, .bin .add (.t 51) (.c (.p (.int .i64 1)))⟩, 
        ⟨some 4, none, .mov (.t 52)⟩] [1, 4] [1]))))
def ir19 : IFn :=   -- tympan/tympanref11.Check
⟨(.seq (.reg false [⟨some 1, none, .bx (.t 0) 2 true⟩, 
    ⟨some 2, none, .mov (.c (.p (.bool false)))⟩] [1] [1])
  (.seq (.seq (.reg false [⟨some 5, none, .off (.t 1) 0⟩, 
    ⟨some 6, none, .ld (.t 5) 1 false⟩, 
    ⟨some 7, none, .len (.t 6)⟩, 
    ⟨some 8, none, .bin .lss (.t 7) (.c (.p (.int .i64 1)))⟩, 
    ⟨some 9, none, .mov (.t 8)⟩, 
    ⟨some 10, (some (9, false)), .off (.t 1) 0⟩, 
    ⟨some 11, (some (9, false)), .ld (.t 10) 1 false⟩, 
    ⟨some 12, (some (9, false)), .len (.t 11)⟩, 
    ⟨some 13, (some (9, false)), .bin .gtr (.t 12) (.c (.p (.int .i64 64)))⟩, 
    ⟨some 14, none, .pick (.t 9) (.c (.p (.bool true))) (.t 13)⟩, 
    ⟨some 15, none, .mov (.t 14)⟩, 
    ⟨some 16, (some (15, false)), .off (.t 1) 1⟩, 
    ⟨some 17, (some (15, false)), .ld (.t 16) 1 false⟩, 
    ⟨some 18, (some (15, false)), .len (.t 17)⟩, 
    ⟨some 19, (some (15, false)), .off (.t 1) 0⟩, 
    ⟨some 20, (some (15, false)), .ld (.t 19) 1 false⟩, 
    ⟨some 21, (some (15, false)), .len (.t 20)⟩, 
    ⟨some 22, (some (15, false)), .bin .sub (.t 21) (.c (.p (.int .i64 1)))⟩, 
    ⟨some 23, (some (15, false)), .bin .neq (.t 18) (.t 22)⟩, 
    ⟨some 24, none, .pick (.t 15) (.c (.p (.bool true))) (.t 23)⟩] [1, 24] [1])
  (.cond (.t 24)
  (.seq (.reg false [⟨some 2, none, .mov (.c (.p (.bool false)))⟩] [2] [])
    .ret)
  .skip))
  (.seq (.seq (.reg false [⟨some 3, none, .mov (.c (.p (.int .i64 0)))⟩] [1, 3] [1])
  (.block 0 lp19_0))
  (.seq (.seq (.reg false [⟨some 4, none, .mov (.c (.p (.int .i64 0)))⟩] [1, 4] [1])
  (.block 2 lp19_1))
  (.seq (.reg false [⟨some 2, none, .mov (.c (.p (.bool true)))⟩] [2] [])
  .ret))))),
  [.tmp 2], false⟩
def ir20 : IFn :=   -- tympan/note.May
⟨(.seq (.reg false [⟨some 2, none, .bx (.t 0) 2 true⟩, 
    ⟨some 4, none, .mov (.c (.p (.bool false)))⟩] [1, 2] [2])
  (.seq (.reg false [⟨some 5, none, .ld (.t 2) 2 true⟩, 
    ⟨some 6, none, .mov (.t 1)⟩, 
    ⟨some 7, none, .call 84 [(.t 5), (.t 6)] false⟩, 
    ⟨some 4, none, .mov (.t 7)⟩] [4] [])
  .ret)),
  [.tmp 4], false⟩
def ir21 : IFn :=   -- tympan/tympanref11.May
⟨(.seq (.reg false [⟨some 2, none, .bx (.t 0) 2 true⟩, 
    ⟨some 4, none, .mov (.c (.p (.bool false)))⟩] [1, 2] [2])
  (.seq (.reg false [⟨some 5, none, .mov (.t 1)⟩, 
    ⟨some 6, none, .off (.t 2) 0⟩, 
    ⟨some 7, none, .ld (.t 6) 1 false⟩, 
    ⟨some 8, none, .len (.t 7)⟩, 
    ⟨some 9, none, .bin .eql (.t 5) (.t 8)⟩, 
    ⟨some 10, none, .mov (.t 9)⟩, 
    ⟨some 11, (some (10, false)), .ld (.t 2) 2 true⟩, 
    ⟨some 12, (some (10, false)), .mov (.t 1)⟩, 
    ⟨some 13, (some (10, false)), .call 85 [(.t 11), (.t 12)] false⟩, 
    ⟨some 14, none, .pick (.t 10) (.c (.p (.bool true))) (.t 13)⟩, 
    ⟨some 4, none, .mov (.t 14)⟩] [4] [])
  .ret)),
  [.tmp 4], false⟩
def ir22 : IFn :=   -- tympan/note.Pen
⟨(.seq (.reg false [⟨some 2, none, .bx (.t 0) 2 true⟩, 
    ⟨some 4, none, .mov (.c (.p (.int .i64 0)))⟩] [1, 2] [2])
  (.seq (.seq (.reg false [⟨some 5, none, .ld (.t 2) 2 true⟩, 
    ⟨some 6, none, .mov (.t 1)⟩, 
    ⟨some 7, none, .call 86 [(.t 5), (.t 6)] false⟩] [1, 2, 7] [2])
  (.cond (.t 7)
  (.seq (.reg false [⟨some 8, none, .off (.t 2) 1⟩, 
      ⟨some 9, none, .ld (.t 8) 1 false⟩, 
      ⟨some 10, none, .mov (.t 1)⟩, 
      ⟨some 11, none, .bin .sub (.t 10) (.c (.p (.int .i64 1)))⟩, 
      ⟨some 12, none, .ixs (.t 9) (.t 11) 1⟩, 
      ⟨some 13, none, .ld (.t 12) 1 false⟩, 
      ⟨some 4, none, .mov (.t 13)⟩] [4] [])
    .ret)
  .skip))
  (.seq (.reg false [⟨some 4, none, .mov (.c (.p (.int .i64 0)))⟩] [4] [])
  .ret))),
  [.tmp 4], false⟩
def ir23 : IFn :=   -- tympan/tympanref11.Pen
⟨(.seq (.reg false [⟨some 2, none, .bx (.t 0) 2 true⟩, 
    ⟨some 4, none, .mov (.c (.p (.int .i64 0)))⟩] [1, 2] [2])
  (.seq (.seq (.reg false [⟨some 5, none, .ld (.t 2) 2 true⟩, 
    ⟨some 6, none, .mov (.t 1)⟩, 
    ⟨some 7, none, .call 85 [(.t 5), (.t 6)] false⟩] [1, 2, 7] [2])
  (.cond (.t 7)
  (.seq (.reg false [⟨some 8, none, .off (.t 2) 1⟩, 
      ⟨some 9, none, .ld (.t 8) 1 false⟩, 
      ⟨some 10, none, .mov (.t 1)⟩, 
      ⟨some 11, none, .bin .sub (.t 10) (.c (.p (.int .i64 1)))⟩, 
      ⟨some 12, none, .ixs (.t 9) (.t 11) 1⟩, 
      ⟨some 13, none, .ld (.t 12) 1 false⟩, 
      ⟨some 4, none, .mov (.t 13)⟩] [4] [])
    .ret)
  .skip))
  (.seq (.reg false [⟨some 4, none, .mov (.c (.p (.int .i64 0)))⟩] [4] [])
  .ret))),
  [.tmp 4], false⟩
def lp24_0 : IC :=
  (.loop [0, 1, 5] [] (.seq (.seq (.reg false [⟨some 11, none, .mov (.t 5)⟩, 
        ⟨some 12, none, .mov (.t 0)⟩, 
        ⟨some 13, none, .len (.t 12)⟩, 
        ⟨some 14, none, .bin .lss (.t 11) (.t 13)⟩] [0, 1, 5, 14] [])
      (.cond (.t 14)
      .skip
      (.exit 0)))
      (.seq (.block 1 (.seq (.reg true [⟨some 17, none, .mov (.t 0)⟩, 
          ⟨some 18, none, .mov (.t 5)⟩, 
          ⟨some 19, none, .ixs (.t 17) (.t 18) 1⟩, 
          ⟨some 20, none, .ld (.t 19) 1 false⟩, 
          ⟨some 21, none, .mov (.t 1)⟩, 
          ⟨some 22, none, .mov (.t 5)⟩, 
          ⟨some 23, none, .ixs (.t 21) (.t 22) 1⟩, 
          ⟨some 24, none, .ld (.t 23) 1 false⟩, 
          ⟨some 25, none, .bin .neq (.t 20) (.t 24)⟩] [0, 1, 5, 25] [])
        (.cond (.t 25)
        (.seq (.reg false [⟨some 4, none, .mov (.c (.p (.bool false)))⟩] [4] [])
          .ret)
        .skip)))
      (.reg false [⟨some 15, none, .mov (.t 5)⟩, 
        ⟨some 16, none, .bin .add (.t 15) (.c (.p (.int .i64 1)))⟩, 
        ⟨some 5, none, .mov (.t 16)⟩] [0, 1, 5] []))))
def ir24 : IFn :=   -- tympan/tympanref11.Ints
⟨(.seq (.reg false [⟨some 4, none, .mov (.c (.p (.bool false)))⟩] [0, 1] [])
  (.seq (.seq (.reg false [⟨some 6, none, .mov (.t 0)⟩, 
    ⟨some 7, none, .len (.t 6)⟩, 
    ⟨some 8, none, .mov (.t 1)⟩, 
    ⟨some 9, none, .len (.t 8)⟩, 
    ⟨some 10, none, .bin .neq (.t 7) (.t 9)⟩] [0, 1, 10] [])
  (.cond (.t 10)
  (.seq (.reg false [⟨some 4, none, .mov (.c (.p (.bool false)))⟩] [4] [])
    .ret)
  .skip))
  (.seq (.seq (.reg false [⟨some 5, none, .mov (.c (.p (.int .i64 0)))⟩] [0, 1, 5] [])
  (.block 0 lp24_0))
  (.seq (.reg false [⟨some 4, none, .mov (.c (.p (.bool true)))⟩] [4] [])
  .ret)))),
  [.tmp 4], false⟩
def ir25 : IFn :=   -- tympan/note.Stops
⟨(.seq (.reg false [⟨some 2, none, .bx (.t 0) 2 true⟩, 
    ⟨some 4, none, .mov (.c (.nils))⟩] [1, 2] [2])
  (.seq (.reg false [⟨some 5, none, .mov (.t 1)⟩, 
    ⟨some 6, none, .mnmx true (.t 5) (.c (.p (.int .i64 (-1))))⟩, 
    ⟨some 7, none, .off (.t 2) 0⟩, 
    ⟨some 8, none, .ld (.t 7) 1 false⟩, 
    ⟨some 9, none, .len (.t 8)⟩, 
    ⟨some 10, none, .mnmx false (.t 6) (.t 9)⟩, 
    ⟨some 1, none, .mov (.t 10)⟩] [1, 2] [2])
  (.seq (.reg false [⟨some 11, none, .mov (.t 1)⟩, 
    ⟨some 12, none, .bin .add (.t 11) (.c (.p (.int .i64 1)))⟩, 
    ⟨some 13, none, .off (.t 2) 0⟩, 
    ⟨some 14, none, .ld (.t 13) 1 false⟩, 
    ⟨some 15, none, .len (.t 14)⟩, 
    ⟨some 16, none, .ld (.t 2) 2 true⟩, 
    ⟨some 17, none, .mkf (.func 84) [(.t 16)] []⟩, 
    ⟨some 18, none, .call 87 [(.t 12), (.t 15), (.t 17)] false⟩, 
    ⟨some 4, none, .mov (.t 18)⟩] [4] [])
  .ret))),
  [.tmp 4], false⟩
def lp26_0 : IC :=
  (.loop [1, 2, 5, 6] [2] (.seq (.seq (.reg false [⟨some 7, none, .mov (.t 6)⟩, 
        ⟨some 8, none, .off (.t 2) 0⟩, 
        ⟨some 9, none, .ld (.t 8) 1 false⟩, 
        ⟨some 10, none, .len (.t 9)⟩, 
        ⟨some 11, none, .bin .leq (.t 7) (.t 10)⟩] [1, 2, 5, 6, 11] [2])
      (.cond (.t 11)
      .skip
      (.exit 0)))
      (.seq (.block 1 (.seq (.reg false [⟨some 14, none, .mov (.t 6)⟩, 
          ⟨some 15, none, .mov (.t 1)⟩, 
          ⟨some 16, none, .bin .gtr (.t 14) (.t 15)⟩, 
          ⟨some 17, none, .mov (.t 16)⟩, 
          ⟨some 18, (some (17, true)), .ld (.t 2) 2 true⟩, 
          ⟨some 19, (some (17, true)), .mov (.t 6)⟩, 
          ⟨some 20, (some (17, true)), .call 21 [(.t 18), (.t 19)] false⟩, 
          ⟨some 21, none, .pick (.t 17) (.t 20) (.c (.p (.bool false)))⟩] [1, 2, 5, 6, 21] [2])
        (.cond (.t 21)
        (.reg false [⟨some 22, none, .mov (.t 5)⟩, 
            ⟨some 23, none, .mov (.t 6)⟩, 
            ⟨some 24, none, .bsl 1 1 [.p (.int .i64 0)] [(0, (.t 23))]⟩, 
            ⟨some 25, none, .app (.t 22) (.t 24) 1⟩, 
            ⟨some 5, none, .mov (.t 25)⟩] [1, 2, 5, 6] [2])
        .skip)))
      (.reg false [⟨some 12, none, .mov (.t 6)⟩, 
        ⟨some 13, none, .bin .add (.t 12) (.c (.p (.int .i64 1)))⟩, 
        ⟨some 6, none, .mov (.t 13)⟩] [1, 2, 5, 6] [2]))))
def ir26 : IFn :=   -- tympan/tympanref11.Stops
⟨(.seq (.reg false [⟨some 2, none, .bx (.t 0) 2 true⟩, 
    ⟨some 4, none, .mov (.c (.nils))⟩] [1, 2] [2])
  (.seq (.reg false [⟨some 5, none, .nrow 1⟩] [1, 2, 5] [2])
  (.seq (.seq (.reg false [⟨some 6, none, .mov (.c (.p (.int .i64 0)))⟩] [1, 2, 5, 6] [2])
  (.block 0 lp26_0))
  (.seq (.reg false [⟨some 26, none, .mov (.t 5)⟩, 
    ⟨some 4, none, .mov (.t 26)⟩] [4] [])
  .ret)))),
  [.tmp 4], false⟩
def ir27 : IFn :=   -- tympan/note.First
⟨(.seq (.reg false [⟨some 2, none, .bx (.t 0) 2 true⟩, 
    ⟨some 4, none, .mov (.c (.p (.int .i64 0)))⟩] [1, 2] [2])
  (.seq (.reg false [⟨some 6, none, .ld (.t 2) 2 true⟩, 
    ⟨some 7, none, .mov (.t 1)⟩, 
    ⟨some 8, none, .call 25 [(.t 6), (.t 7)] false⟩, 
    ⟨some 5, none, .mov (.t 8)⟩] [5] [])
  (.seq (.seq (.reg false [⟨some 9, none, .mov (.t 5)⟩, 
    ⟨some 10, none, .len (.t 9)⟩, 
    ⟨some 11, none, .bin .eql (.t 10) (.c (.p (.int .i64 0)))⟩] [5, 11] [])
  (.cond (.t 11)
  (.seq (.reg false [⟨some 4, none, .mov (.c (.p (.int .i64 (-1))))⟩] [4] [])
    .ret)
  .skip))
  (.seq (.reg false [⟨some 12, none, .mov (.t 5)⟩, 
    ⟨some 13, none, .ixs (.t 12) (.c (.p (.int .i64 0))) 1⟩, 
    ⟨some 14, none, .ld (.t 13) 1 false⟩, 
    ⟨some 4, none, .mov (.t 14)⟩] [4] [])
  .ret)))),
  [.tmp 4], false⟩
def ir28 : IFn :=   -- tympan/tympanref11.First
⟨(.seq (.reg false [⟨some 2, none, .bx (.t 0) 2 true⟩, 
    ⟨some 4, none, .mov (.c (.p (.int .i64 0)))⟩] [1, 2] [2])
  (.seq (.reg false [⟨some 6, none, .ld (.t 2) 2 true⟩, 
    ⟨some 7, none, .mov (.t 1)⟩, 
    ⟨some 8, none, .call 26 [(.t 6), (.t 7)] false⟩, 
    ⟨some 5, none, .mov (.t 8)⟩] [5] [])
  (.seq (.seq (.reg false [⟨some 9, none, .mov (.t 5)⟩, 
    ⟨some 10, none, .len (.t 9)⟩, 
    ⟨some 11, none, .bin .eql (.t 10) (.c (.p (.int .i64 0)))⟩] [5, 11] [])
  (.cond (.t 11)
  (.seq (.reg false [⟨some 4, none, .mov (.c (.p (.int .i64 (-1))))⟩] [4] [])
    .ret)
  .skip))
  (.seq (.reg false [⟨some 12, none, .mov (.t 5)⟩, 
    ⟨some 13, none, .ixs (.t 12) (.c (.p (.int .i64 0))) 1⟩, 
    ⟨some 14, none, .ld (.t 13) 1 false⟩, 
    ⟨some 4, none, .mov (.t 14)⟩] [4] [])
  .ret)))),
  [.tmp 4], false⟩
def lp29_0 : IC :=
  (.loop [2, 3, 7, 8] [3] (.seq (.seq (.reg false [⟨some 17, none, .mov (.t 8)⟩, 
        ⟨some 18, none, .mov (.t 2)⟩, 
        ⟨some 19, none, .bin .lss (.t 17) (.t 18)⟩] [2, 3, 7, 8, 19] [3])
      (.cond (.t 19)
      .skip
      (.exit 0)))
      (.seq (.block 1 (.reg false [⟨some 22, none, .mov (.t 7)⟩, 
          ⟨some 23, none, .off (.t 3) 0⟩, 
          ⟨some 24, none, .ld (.t 23) 1 false⟩, 
          ⟨some 25, none, .mov (.t 8)⟩, 
          ⟨some 26, none, .ixs (.t 24) (.t 25) 1⟩, 
          ⟨some 27, none, .ld (.t 26) 1 false⟩, 
          ⟨some 28, none, .mnmx true (.t 27) (.c (.p (.int .i64 0)))⟩, 
          ⟨some 29, none, .mnmx false (.t 28) (.c (.p (.int .i64 1125899906842624)))⟩, 
          ⟨some 30, none, .bin .add (.t 22) (.t 29)⟩, 
          ⟨some 31, none, .mnmx false (.t 30) (.c (.p (.int .i64 1125899906842624)))⟩, 
          ⟨some 7, none, .mov (.t 31)⟩] [2, 3, 7, 8] [3]))
      (.reg false [⟨some 20, none, .mov (.t 8)⟩, 
        ⟨some 21, none, .bin .add (.t 20) (.c (.p (.int .i64 1)))⟩, 
        ⟨some 8, none, .mov (.t 21)⟩] [2, 3, 7, 8] [3]))))
def ir29 : IFn :=   -- tympan/note.High
⟨(.seq (.reg false [⟨some 3, none, .bx (.t 0) 2 true⟩, 
    ⟨some 6, none, .mov (.c (.p (.int .i64 0)))⟩] [1, 2, 3] [3])
  (.seq (.reg true [⟨some 9, none, .mov (.t 1)⟩, 
    ⟨some 10, none, .mnmx true (.t 9) (.c (.p (.int .i64 0)))⟩, 
    ⟨some 11, none, .mov (.t 2)⟩, 
    ⟨some 12, none, .off (.t 3) 0⟩, 
    ⟨some 13, none, .ld (.t 12) 1 false⟩, 
    ⟨some 14, none, .len (.t 13)⟩, 
    ⟨some 15, none, .mnmx false (.t 11) (.t 14)⟩, 
    ⟨some 1, none, .mov (.t 10)⟩, 
    ⟨some 2, none, .mov (.t 15)⟩] [1, 2, 3] [3])
  (.seq (.reg false [⟨some 7, none, .mov (.c (.p (.int .i64 0)))⟩] [1, 2, 3, 7] [3])
  (.seq (.seq (.reg false [⟨some 16, none, .mov (.t 1)⟩, 
    ⟨some 8, none, .mov (.t 16)⟩] [2, 3, 7, 8] [3])
  (.block 0 lp29_0))
  (.seq (.reg false [⟨some 32, none, .mov (.t 7)⟩, 
    ⟨some 6, none, .mov (.t 32)⟩] [6] [])
  .ret))))),
  [.tmp 6], false⟩
def lp30_0 : IC :=
  (.loop [1, 2, 3, 7, 8] [3] (.seq (.seq (.reg false [⟨some 9, none, .mov (.t 8)⟩, 
        ⟨some 10, none, .off (.t 3) 0⟩, 
        ⟨some 11, none, .ld (.t 10) 1 false⟩, 
        ⟨some 12, none, .len (.t 11)⟩, 
        ⟨some 13, none, .bin .lss (.t 9) (.t 12)⟩] [1, 2, 3, 7, 8, 13] [3])
      (.cond (.t 13)
      .skip
      (.exit 0)))
      (.seq (.block 1 (.seq (.reg false [⟨some 16, none, .mov (.t 8)⟩, 
          ⟨some 17, none, .mov (.t 1)⟩, 
          ⟨some 18, none, .bin .geq (.t 16) (.t 17)⟩, 
          ⟨some 19, none, .mov (.t 18)⟩, 
          ⟨some 20, (some (19, true)), .mov (.t 8)⟩, 
          ⟨some 21, (some (19, true)), .mov (.t 2)⟩, 
          ⟨some 22, (some (19, true)), .bin .lss (.t 20) (.t 21)⟩, 
          ⟨some 23, none, .pick (.t 19) (.t 22) (.c (.p (.bool false)))⟩] [1, 2, 3, 7, 8, 23] [3])
        (.cond (.t 23)
        (.reg false [⟨some 24, none, .mov (.t 7)⟩, 
            ⟨some 25, none, .off (.t 3) 0⟩, 
            ⟨some 26, none, .ld (.t 25) 1 false⟩, 
            ⟨some 27, none, .mov (.t 8)⟩, 
            ⟨some 28, none, .ixs (.t 26) (.t 27) 1⟩, 
            ⟨some 29, none, .ld (.t 28) 1 false⟩, 
            ⟨some 30, none, .mnmx false (.t 29) (.c (.p (.int .i64 1125899906842624)))⟩, 
            ⟨some 31, none, .mnmx true (.c (.p (.int .i64 0))) (.t 30)⟩, 
            ⟨some 32, none, .bin .add (.t 24) (.t 31)⟩, 
            ⟨some 33, none, .mnmx false (.t 32) (.c (.p (.int .i64 1125899906842624)))⟩, 
            ⟨some 7, none, .mov (.t 33)⟩] [1, 2, 3, 7, 8] [3])
        .skip)))
      (.reg false [⟨some 14, none, .mov (.t 8)⟩, 
        ⟨some 15, none, .bin .add (.t 14) (.c (.p (.int .i64 1)))⟩, 
        ⟨some 8, none, .mov (.t 15)⟩] [1, 2, 3, 7, 8] [3]))))
def ir30 : IFn :=   -- tympan/tympanref11.High
⟨(.seq (.reg false [⟨some 3, none, .bx (.t 0) 2 true⟩, 
    ⟨some 6, none, .mov (.c (.p (.int .i64 0)))⟩] [1, 2, 3] [3])
  (.seq (.reg false [⟨some 7, none, .mov (.c (.p (.int .i64 0)))⟩] [1, 2, 3, 7] [3])
  (.seq (.seq (.reg false [⟨some 8, none, .mov (.c (.p (.int .i64 0)))⟩] [1, 2, 3, 7, 8] [3])
  (.block 0 lp30_0))
  (.seq (.reg false [⟨some 34, none, .mov (.t 7)⟩, 
    ⟨some 6, none, .mov (.t 34)⟩] [6] [])
  .ret)))),
  [.tmp 6], false⟩
def lp31_0 : IC :=
  (.loop [3, 6, 7, 8] [] (.seq (.reg false [⟨some 9, none, .bin .lss (.t 8) (.t 7)⟩] [3, 6, 7, 8, 9] [])
      (.seq (.cond (.t 9)
      .skip
      (.exit 0))
      (.seq (.block 1 (.seq (.reg false [⟨some 10, none, .ixs (.t 6) (.t 8) 2⟩, 
          ⟨some 11, none, .ld (.t 10) 2 true⟩, 
          ⟨some 5, none, .al [.nils, .nils] true⟩, 
          ⟨none, none, .st (.t 5) (.t 11) 2⟩] [3, 5, 6, 7, 8] [5])
        (.reg false [⟨some 12, none, .mov (.t 3)⟩, 
          ⟨some 13, none, .off (.t 5) 0⟩, 
          ⟨some 14, none, .ld (.t 13) 1 false⟩, 
          ⟨some 15, none, .len (.t 14)⟩, 
          ⟨some 16, none, .bin .add (.t 12) (.t 15)⟩, 
          ⟨some 3, none, .mov (.t 16)⟩] [3, 6, 7, 8] [])))
      (.reg false [⟨some 17, none, .bin .add (.t 8) (.c (.p (.int .i64 1)))⟩, 
        ⟨some 8, none, .mov (.t 17)⟩] [3, 6, 7, 8] [])))))
def ir31 : IFn :=   -- tympan/note.Lines
⟨(.seq (.reg false [⟨some 2, none, .mov (.c (.p (.int .i64 0)))⟩] [0] [])
  (.seq (.reg false [⟨some 3, none, .mov (.c (.p (.int .i64 0)))⟩] [0, 3] [])
  (.seq (.seq (.reg false [⟨some 6, none, .mov (.t 0)⟩, 
    ⟨some 7, none, .len (.t 6)⟩, 
    ⟨some 8, none, .mov (.c (.p (.int .i64 0)))⟩] [3, 6, 7, 8] [])
  (.block 0 lp31_0))
  (.seq (.reg false [⟨some 18, none, .mov (.t 3)⟩, 
    ⟨some 2, none, .mov (.t 18)⟩] [2] [])
  .ret)))),
  [.tmp 2], false⟩
def ir32 : IFn :=   -- tympan/note.Same
⟨(.seq (.reg false [⟨some 2, none, .bx (.t 0) 2 true⟩, 
    ⟨some 3, none, .bx (.t 1) 2 true⟩, 
    ⟨some 4, none, .mov (.c (.p (.bool false)))⟩] [2, 3] [2, 3])
  (.seq (.reg false [⟨some 5, none, .off (.t 2) 0⟩, 
    ⟨some 6, none, .ld (.t 5) 1 false⟩, 
    ⟨some 7, none, .off (.t 3) 0⟩, 
    ⟨some 8, none, .ld (.t 7) 1 false⟩, 
    ⟨some 9, none, .call 88 [(.t 6), (.t 8)] false⟩, 
    ⟨some 10, none, .mov (.t 9)⟩, 
    ⟨some 11, (some (10, true)), .off (.t 2) 1⟩, 
    ⟨some 12, (some (10, true)), .ld (.t 11) 1 false⟩, 
    ⟨some 13, (some (10, true)), .off (.t 3) 1⟩, 
    ⟨some 14, (some (10, true)), .ld (.t 13) 1 false⟩, 
    ⟨some 15, (some (10, true)), .call 89 [(.t 12), (.t 14)] false⟩, 
    ⟨some 16, none, .pick (.t 10) (.t 15) (.c (.p (.bool false)))⟩, 
    ⟨some 4, none, .mov (.t 16)⟩] [4] [])
  .ret)),
  [.tmp 4], false⟩
def lp33_0 : IC :=
  (.loop [2, 3, 5] [2, 3] (.seq (.seq (.reg false [⟨some 23, none, .mov (.t 5)⟩, 
        ⟨some 24, none, .off (.t 2) 0⟩, 
        ⟨some 25, none, .ld (.t 24) 1 false⟩, 
        ⟨some 26, none, .len (.t 25)⟩, 
        ⟨some 27, none, .bin .lss (.t 23) (.t 26)⟩] [2, 3, 5, 27] [2, 3])
      (.cond (.t 27)
      .skip
      (.exit 0)))
      (.seq (.block 1 (.seq (.reg true [⟨some 30, none, .off (.t 2) 0⟩, 
          ⟨some 31, none, .ld (.t 30) 1 false⟩, 
          ⟨some 32, none, .mov (.t 5)⟩, 
          ⟨some 33, none, .ixs (.t 31) (.t 32) 1⟩, 
          ⟨some 34, none, .ld (.t 33) 1 false⟩, 
          ⟨some 35, none, .off (.t 3) 0⟩, 
          ⟨some 36, none, .ld (.t 35) 1 false⟩, 
          ⟨some 37, none, .mov (.t 5)⟩, 
          ⟨some 38, none, .ixs (.t 36) (.t 37) 1⟩, 
          ⟨some 39, none, .ld (.t 38) 1 false⟩, 
          ⟨some 40, none, .bin .neq (.t 34) (.t 39)⟩] [2, 3, 5, 40] [2, 3])
        (.cond (.t 40)
        (.seq (.reg false [⟨some 4, none, .mov (.c (.p (.bool false)))⟩] [4] [])
          .ret)
        .skip)))
      (.reg false [⟨some 28, none, .mov (.t 5)⟩, 
        ⟨some 29, none, .bin .add (.t 28) (.c (.p (.int .i64 1)))⟩, 
        ⟨some 5, none, .mov (.t 29)⟩] [2, 3, 5] [2, 3]))))
def lp33_1 : IC :=
  (.loop [2, 3, 6] [2, 3] (.seq (.seq (.reg false [⟨some 41, none, .mov (.t 6)⟩, 
        ⟨some 42, none, .off (.t 2) 1⟩, 
        ⟨some 43, none, .ld (.t 42) 1 false⟩, 
        ⟨some 44, none, .len (.t 43)⟩, 
        ⟨some 45, none, .bin .lss (.t 41) (.t 44)⟩] [2, 3, 6, 45] [2, 3])
      (.cond (.t 45)
      .skip
      (.exit 2)))
      (.seq (.block 3 (.seq (.reg true [⟨some 48, none, .off (.t 2) 1⟩, 
          ⟨some 49, none, .ld (.t 48) 1 false⟩, 
          ⟨some 50, none, .mov (.t 6)⟩, 
          ⟨some 51, none, .ixs (.t 49) (.t 50) 1⟩, 
          ⟨some 52, none, .ld (.t 51) 1 false⟩, 
          ⟨some 53, none, .off (.t 3) 1⟩, 
          ⟨some 54, none, .ld (.t 53) 1 false⟩, 
          ⟨some 55, none, .mov (.t 6)⟩, 
          ⟨some 56, none, .ixs (.t 54) (.t 55) 1⟩, 
          ⟨some 57, none, .ld (.t 56) 1 false⟩, 
          ⟨some 58, none, .bin .neq (.t 52) (.t 57)⟩] [2, 3, 6, 58] [2, 3])
        (.cond (.t 58)
        (.seq (.reg false [⟨some 4, none, .mov (.c (.p (.bool false)))⟩] [4] [])
          .ret)
        .skip)))
      (.reg false [⟨some 46, none, .mov (.t 6)⟩, 
        ⟨some 47, none, .bin .add (.t 46) (.c (.p (.int .i64 1)))⟩, 
        ⟨some 6, none, .mov (.t 47)⟩] [2, 3, 6] [2, 3]))))
def ir33 : IFn :=   -- tympan/tympanref11.Same
⟨(.seq (.reg false [⟨some 2, none, .bx (.t 0) 2 true⟩, 
    ⟨some 3, none, .bx (.t 1) 2 true⟩, 
    ⟨some 4, none, .mov (.c (.p (.bool false)))⟩] [2, 3] [2, 3])
  (.seq (.seq (.reg false [⟨some 7, none, .off (.t 2) 0⟩, 
    ⟨some 8, none, .ld (.t 7) 1 false⟩, 
    ⟨some 9, none, .len (.t 8)⟩, 
    ⟨some 10, none, .off (.t 3) 0⟩, 
    ⟨some 11, none, .ld (.t 10) 1 false⟩, 
    ⟨some 12, none, .len (.t 11)⟩, 
    ⟨some 13, none, .bin .neq (.t 9) (.t 12)⟩, 
    ⟨some 14, none, .mov (.t 13)⟩, 
    ⟨some 15, (some (14, false)), .off (.t 2) 1⟩, 
    ⟨some 16, (some (14, false)), .ld (.t 15) 1 false⟩, 
    ⟨some 17, (some (14, false)), .len (.t 16)⟩, 
    ⟨some 18, (some (14, false)), .off (.t 3) 1⟩, 
    ⟨some 19, (some (14, false)), .ld (.t 18) 1 false⟩, 
    ⟨some 20, (some (14, false)), .len (.t 19)⟩, 
    ⟨some 21, (some (14, false)), .bin .neq (.t 17) (.t 20)⟩, 
    ⟨some 22, none, .pick (.t 14) (.c (.p (.bool true))) (.t 21)⟩] [2, 3, 22] [2, 3])
  (.cond (.t 22)
  (.seq (.reg false [⟨some 4, none, .mov (.c (.p (.bool false)))⟩] [4] [])
    .ret)
  .skip))
  (.seq (.seq (.reg false [⟨some 5, none, .mov (.c (.p (.int .i64 0)))⟩] [2, 3, 5] [2, 3])
  (.block 0 lp33_0))
  (.seq (.seq (.reg false [⟨some 6, none, .mov (.c (.p (.int .i64 0)))⟩] [2, 3, 6] [2, 3])
  (.block 2 lp33_1))
  (.seq (.reg false [⟨some 4, none, .mov (.c (.p (.bool true)))⟩] [4] [])
  .ret))))),
  [.tmp 4], false⟩
def lp34_0 : IC :=
  (.loop [0, 1, 5] [] (.seq (.seq (.reg false [⟨some 7, none, .mov (.t 5)⟩, 
        ⟨some 8, none, .mov (.t 0)⟩, 
        ⟨some 9, none, .len (.t 8)⟩, 
        ⟨some 10, none, .bin .lss (.t 7) (.t 9)⟩, 
        ⟨some 11, none, .mov (.t 10)⟩, 
        ⟨some 12, (some (11, true)), .mov (.t 5)⟩, 
        ⟨some 13, (some (11, true)), .bin .lss (.t 12) (.c (.p (.int .i64 50)))⟩, 
        ⟨some 14, none, .pick (.t 11) (.t 13) (.c (.p (.bool false)))⟩] [0, 1, 5, 14] [])
      (.cond (.t 14)
      .skip
      (.exit 0)))
      (.seq (.block 1 (.seq (.reg false [⟨some 17, none, .mov (.t 0)⟩, 
          ⟨some 18, none, .mov (.t 5)⟩, 
          ⟨some 19, none, .ixs (.t 17) (.t 18) 2⟩, 
          ⟨some 20, none, .off (.t 19) 0⟩, 
          ⟨some 21, none, .ld (.t 20) 1 false⟩, 
          ⟨some 22, none, .len (.t 21)⟩, 
          ⟨some 23, none, .bin .gtr (.t 22) (.c (.p (.int .i64 50)))⟩] [0, 1, 5, 23] [])
        (.cond (.t 23)
        (.seq (.reg false [⟨some 4, none, .mov (.c (.p (.bool true)))⟩] [4] [])
          .ret)
        .skip)))
      (.reg false [⟨some 15, none, .mov (.t 5)⟩, 
        ⟨some 16, none, .bin .add (.t 15) (.c (.p (.int .i64 1)))⟩, 
        ⟨some 5, none, .mov (.t 16)⟩] [0, 1, 5] []))))
def lp34_1 : IC :=
  (.loop [0, 1, 6] [] (.seq (.seq (.reg false [⟨some 24, none, .mov (.t 6)⟩, 
        ⟨some 25, none, .mov (.t 1)⟩, 
        ⟨some 26, none, .len (.t 25)⟩, 
        ⟨some 27, none, .bin .lss (.t 24) (.t 26)⟩, 
        ⟨some 28, none, .mov (.t 27)⟩, 
        ⟨some 29, (some (28, true)), .mov (.t 6)⟩, 
        ⟨some 30, (some (28, true)), .bin .lss (.t 29) (.c (.p (.int .i64 50)))⟩, 
        ⟨some 31, none, .pick (.t 28) (.t 30) (.c (.p (.bool false)))⟩] [0, 1, 6, 31] [])
      (.cond (.t 31)
      .skip
      (.exit 2)))
      (.seq (.block 3 (.seq (.reg false [⟨some 34, none, .mov (.t 1)⟩, 
          ⟨some 35, none, .mov (.t 6)⟩, 
          ⟨some 36, none, .ixs (.t 34) (.t 35) 3⟩, 
          ⟨some 37, none, .off (.t 36) 1⟩, 
          ⟨some 38, none, .ld (.t 37) 1 false⟩, 
          ⟨some 39, none, .bin .lss (.t 38) (.c (.p (.int .i64 (-1073741824))))⟩, 
          ⟨some 40, none, .mov (.t 39)⟩, 
          ⟨some 41, (some (40, false)), .mov (.t 1)⟩, 
          ⟨some 42, (some (40, false)), .mov (.t 6)⟩, 
          ⟨some 43, (some (40, false)), .ixs (.t 41) (.t 42) 3⟩, 
          ⟨some 44, (some (40, false)), .off (.t 43) 2⟩, 
          ⟨some 45, (some (40, false)), .ld (.t 44) 1 false⟩, 
          ⟨some 46, (some (40, false)), .bin .gtr (.t 45) (.c (.p (.int .i64 1073741824)))⟩, 
          ⟨some 47, none, .pick (.t 40) (.c (.p (.bool true))) (.t 46)⟩, 
          ⟨some 48, none, .mov (.t 47)⟩, 
          ⟨some 49, (some (48, false)), .mov (.t 1)⟩, 
          ⟨some 50, (some (48, false)), .mov (.t 6)⟩, 
          ⟨some 51, (some (48, false)), .ixs (.t 49) (.t 50) 3⟩, 
          ⟨some 52, (some (48, false)), .off (.t 51) 1⟩, 
          ⟨some 53, (some (48, false)), .ld (.t 52) 1 false⟩, 
          ⟨some 54, (some (48, false)), .bin .gtr (.t 53) (.c (.p (.int .i64 1073741824)))⟩, 
          ⟨some 55, none, .pick (.t 48) (.c (.p (.bool true))) (.t 54)⟩, 
          ⟨some 56, none, .mov (.t 55)⟩, 
          ⟨some 57, (some (56, false)), .mov (.t 1)⟩, 
          ⟨some 58, (some (56, false)), .mov (.t 6)⟩, 
          ⟨some 59, (some (56, false)), .ixs (.t 57) (.t 58) 3⟩, 
          ⟨some 60, (some (56, false)), .off (.t 59) 2⟩, 
          ⟨some 61, (some (56, false)), .ld (.t 60) 1 false⟩, 
          ⟨some 62, (some (56, false)), .bin .lss (.t 61) (.c (.p (.int .i64 (-1073741824))))⟩, 
          ⟨some 63, none, .pick (.t 56) (.c (.p (.bool true))) (.t 62)⟩] [0, 1, 6, 63] [])
        (.cond (.t 63)
        (.seq (.reg false [⟨some 4, none, .mov (.c (.p (.bool true)))⟩] [4] [])
          .ret)
        .skip)))
      (.reg false [⟨some 32, none, .mov (.t 6)⟩, 
        ⟨some 33, none, .bin .add (.t 32) (.c (.p (.int .i64 1)))⟩, 
        ⟨some 6, none, .mov (.t 33)⟩] [0, 1, 6] []))))
def ir34 : IFn :=   -- tympan/tympanlaw22.large
⟨(.seq (.reg false [⟨some 4, none, .mov (.c (.p (.bool false)))⟩] [0, 1] [])
  (.seq (.seq (.reg false [⟨some 5, none, .mov (.c (.p (.int .i64 0)))⟩] [0, 1, 5] [])
  (.block 0 lp34_0))
  (.seq (.seq (.reg false [⟨some 6, none, .mov (.c (.p (.int .i64 0)))⟩] [0, 1, 6] [])
  (.block 2 lp34_1))
  (.seq (.reg false [⟨some 64, none, .mov (.t 0)⟩, 
    ⟨some 65, none, .len (.t 64)⟩, 
    ⟨some 66, none, .bin .gtr (.t 65) (.c (.p (.int .i64 50)))⟩, 
    ⟨some 67, none, .mov (.t 66)⟩, 
    ⟨some 68, (some (67, false)), .mov (.t 1)⟩, 
    ⟨some 69, (some (67, false)), .len (.t 68)⟩, 
    ⟨some 70, (some (67, false)), .bin .gtr (.t 69) (.c (.p (.int .i64 50)))⟩, 
    ⟨some 71, none, .pick (.t 67) (.c (.p (.bool true))) (.t 70)⟩, 
    ⟨some 4, none, .mov (.t 71)⟩] [4] [])
  .ret)))),
  [.tmp 4], false⟩
def ir36 : IFn :=   -- tympan/split.Next
⟨(.seq (.reg false [⟨some 4, none, .bx (.t 1) 4 true⟩, 
    ⟨some 6, none, .mov (.c (.p (.int .i64 0)))⟩, 
    ⟨some 7, none, .mov (.c (.p (.int .i64 0)))⟩] [0, 2, 4] [4])
  (.seq (.seq (.reg false [⟨some 9, none, .mov (.t 2)⟩, 
    ⟨some 10, none, .len (.t 9)⟩, 
    ⟨some 11, none, .bin .eql (.t 10) (.c (.p (.int .i64 0)))⟩] [0, 2, 4, 11] [4])
  (.cond (.t 11)
  (.seq (.reg true [⟨some 12, none, .off (.t 4) 0⟩, 
      ⟨some 13, none, .ld (.t 12) 1 false⟩, 
      ⟨some 14, none, .off (.t 4) 1⟩, 
      ⟨some 15, none, .ld (.t 14) 1 false⟩, 
      ⟨some 6, none, .mov (.t 13)⟩, 
      ⟨some 7, none, .mov (.t 15)⟩] [6, 7] [])
    .ret)
  .skip))
  (.seq (.reg false [⟨some 16, none, .mov (.t 2)⟩, 
    ⟨some 17, none, .mov (.t 2)⟩, 
    ⟨some 18, none, .len (.t 17)⟩, 
    ⟨some 19, none, .bin .sub (.t 18) (.c (.p (.int .i64 1)))⟩, 
    ⟨some 20, none, .ixs (.t 16) (.t 19) 3⟩, 
    ⟨some 21, none, .ld (.t 20) 3 true⟩, 
    ⟨some 8, none, .al [.p (.int .i64 0), .p (.int .i64 0), .p (.int .i64 0)] true⟩, 
    ⟨none, none, .st (.t 8) (.t 21) 3⟩] [0, 8] [8])
  (.seq (.seq (.reg true [⟨some 22, none, .off (.t 8) 0⟩, 
    ⟨some 23, none, .ld (.t 22) 1 false⟩, 
    ⟨some 24, none, .bin .geq (.t 23) (.c (.p (.int .i64 0)))⟩, 
    ⟨some 25, none, .mov (.t 24)⟩, 
    ⟨some 26, (some (25, true)), .off (.t 8) 0⟩, 
    ⟨some 27, (some (25, true)), .ld (.t 26) 1 false⟩, 
    ⟨some 28, (some (25, true)), .mov (.t 0)⟩, 
    ⟨some 29, (some (25, true)), .len (.t 28)⟩, 
    ⟨some 30, (some (25, true)), .bin .lss (.t 27) (.t 29)⟩, 
    ⟨some 31, none, .pick (.t 25) (.t 30) (.c (.p (.bool false)))⟩, 
    ⟨some 32, none, .mov (.t 31)⟩, 
    ⟨some 33, (some (32, true)), .off (.t 8) 2⟩, 
    ⟨some 34, (some (32, true)), .ld (.t 33) 1 false⟩, 
    ⟨some 35, (some (32, true)), .mov (.t 0)⟩, 
    ⟨some 36, (some (32, true)), .off (.t 8) 0⟩, 
    ⟨some 37, (some (32, true)), .ld (.t 36) 1 false⟩, 
    ⟨some 38, (some (32, true)), .ixs (.t 35) (.t 37) 2⟩, 
    ⟨some 39, (some (32, true)), .off (.t 38) 0⟩, 
    ⟨some 40, (some (32, true)), .ld (.t 39) 1 false⟩, 
    ⟨some 41, (some (32, true)), .len (.t 40)⟩, 
    ⟨some 42, (some (32, true)), .bin .eql (.t 34) (.t 41)⟩, 
    ⟨some 43, none, .pick (.t 32) (.t 42) (.c (.p (.bool false)))⟩] [8, 43] [8])
  (.cond (.t 43)
  (.seq (.reg false [⟨some 44, none, .off (.t 8) 0⟩, 
      ⟨some 45, none, .ld (.t 44) 1 false⟩, 
      ⟨some 46, none, .bin .add (.t 45) (.c (.p (.int .i64 1)))⟩, 
      ⟨some 6, none, .mov (.t 46)⟩, 
      ⟨some 7, none, .mov (.c (.p (.int .i64 0)))⟩] [6, 7] [])
    .ret)
  .skip))
  (.seq (.reg true [⟨some 47, none, .off (.t 8) 0⟩, 
    ⟨some 48, none, .ld (.t 47) 1 false⟩, 
    ⟨some 49, none, .off (.t 8) 2⟩, 
    ⟨some 50, none, .ld (.t 49) 1 false⟩, 
    ⟨some 6, none, .mov (.t 48)⟩, 
    ⟨some 7, none, .mov (.t 50)⟩] [6, 7] [])
  .ret))))),
  [.tmp 6, .tmp 7], false⟩
def lp37_0 : IC :=
  (.loop [0, 7, 16, 17, 18] [] (.seq (.reg false [⟨some 19, none, .bin .lss (.t 18) (.t 17)⟩] [0, 7, 16, 17, 18, 19] [])
      (.seq (.cond (.t 19)
      .skip
      (.exit 0))
      (.seq (.block 1 (.seq (.reg false [⟨some 20, none, .ixs (.t 16) (.t 18) 3⟩, 
          ⟨some 21, none, .ld (.t 20) 3 true⟩, 
          ⟨some 9, none, .al [.p (.int .i64 0), .p (.int .i64 0), .p (.int .i64 0)] true⟩, 
          ⟨none, none, .st (.t 9) (.t 21) 3⟩] [0, 7, 9, 16, 17, 18] [9])
        (.seq (.reg false [⟨some 22, none, .off (.t 9) 0⟩, 
          ⟨some 23, none, .ld (.t 22) 1 false⟩, 
          ⟨some 24, none, .bin .geq (.t 23) (.c (.p (.int .i64 0)))⟩, 
          ⟨some 25, none, .mov (.t 24)⟩, 
          ⟨some 26, (some (25, true)), .off (.t 9) 0⟩, 
          ⟨some 27, (some (25, true)), .ld (.t 26) 1 false⟩, 
          ⟨some 28, (some (25, true)), .mov (.t 0)⟩, 
          ⟨some 29, (some (25, true)), .len (.t 28)⟩, 
          ⟨some 30, (some (25, true)), .bin .lss (.t 27) (.t 29)⟩, 
          ⟨some 31, none, .pick (.t 25) (.t 30) (.c (.p (.bool false)))⟩] [0, 7, 9, 16, 17, 18, 31] [9])
        (.cond (.t 31)
        (.reg true [⟨some 32, none, .mov (.t 7)⟩, 
            ⟨some 33, none, .mov (.t 0)⟩, 
            ⟨some 34, none, .off (.t 9) 0⟩, 
            ⟨some 35, none, .ld (.t 34) 1 false⟩, 
            ⟨some 36, none, .ixs (.t 33) (.t 35) 2⟩, 
            ⟨some 37, none, .ld (.t 36) 2 true⟩, 
            ⟨some 38, none, .off (.t 9) 1⟩, 
            ⟨some 39, none, .ld (.t 38) 1 false⟩, 
            ⟨some 40, none, .off (.t 9) 2⟩, 
            ⟨some 41, none, .ld (.t 40) 1 false⟩, 
            ⟨some 42, none, .call 29 [(.t 37), (.t 39), (.t 41)] true⟩, 
            ⟨some 43, none, .bin .add (.t 32) (.t 42)⟩, 
            ⟨some 44, none, .mnmx false (.t 43) (.c (.p (.int .i64 1125899906842624)))⟩, 
            ⟨some 7, none, .mov (.t 44)⟩] [0, 7, 16, 17, 18] [])
        .skip))))
      (.reg false [⟨some 45, none, .bin .add (.t 18) (.c (.p (.int .i64 1)))⟩, 
        ⟨some 18, none, .mov (.t 45)⟩] [0, 7, 16, 17, 18] [])))))
def ir37 : IFn :=   -- tympan/split.High
⟨(.seq (.reg false [⟨some 6, none, .mov (.c (.p (.int .i64 0)))⟩] [0, 1, 2] [])
  (.seq (.seq (.reg false [⟨some 10, none, .mov (.t 1)⟩, 
    ⟨some 11, none, .len (.t 10)⟩, 
    ⟨some 12, none, .bin .eql (.t 11) (.c (.p (.int .i64 0)))⟩] [0, 1, 2, 12] [])
  (.cond (.t 12)
  (.seq (.reg false [⟨some 6, none, .mov (.c (.p (.int .i64 0)))⟩] [6] [])
    .ret)
  .skip))
  (.seq (.reg false [⟨some 13, none, .mov (.t 2)⟩, 
    ⟨some 14, none, .mnmx true (.t 13) (.c (.p (.int .i64 0)))⟩, 
    ⟨some 15, none, .mnmx false (.t 14) (.c (.p (.int .i64 1125899906842624)))⟩, 
    ⟨some 7, none, .mov (.t 15)⟩] [0, 1, 7] [])
  (.seq (.seq (.reg false [⟨some 16, none, .mov (.t 1)⟩, 
    ⟨some 17, none, .len (.t 16)⟩, 
    ⟨some 18, none, .mov (.c (.p (.int .i64 0)))⟩] [0, 7, 16, 17, 18] [])
  (.block 0 lp37_0))
  (.seq (.reg false [⟨some 46, none, .mov (.t 7)⟩, 
    ⟨some 6, none, .mov (.t 46)⟩] [6] [])
  .ret))))),
  [.tmp 6], false⟩
def ir38 : IFn :=   -- tympan/tympanref22.Next
⟨(.seq (.reg false [⟨some 4, none, .bx (.t 1) 4 true⟩, 
    ⟨some 6, none, .al [.p (.int .i64 0), .p (.int .i64 0)] true⟩] [0, 2, 4, 6] [4, 6])
  (.seq (.seq (.reg false [⟨some 8, none, .mov (.t 2)⟩, 
    ⟨some 9, none, .len (.t 8)⟩, 
    ⟨some 10, none, .bin .eql (.t 9) (.c (.p (.int .i64 0)))⟩] [0, 2, 4, 6, 10] [4, 6])
  (.cond (.t 10)
  (.seq (.reg false [⟨some 11, none, .off (.t 4) 0⟩, 
      ⟨some 12, none, .ld (.t 11) 1 false⟩, 
      ⟨some 13, none, .off (.t 4) 1⟩, 
      ⟨some 14, none, .ld (.t 13) 1 false⟩, 
      ⟨some 15, none, .bld [.p (.int .i64 0), .p (.int .i64 0)] [(0, 1, (.t 12)), (1, 1, (.t 14))]⟩, 
      ⟨none, none, .st (.t 6) (.t 15) 2⟩] [6] [6])
    .ret)
  .skip))
  (.seq (.reg false [⟨some 16, none, .mov (.t 2)⟩, 
    ⟨some 17, none, .mov (.t 2)⟩, 
    ⟨some 18, none, .len (.t 17)⟩, 
    ⟨some 19, none, .bin .sub (.t 18) (.c (.p (.int .i64 1)))⟩, 
    ⟨some 20, none, .ixs (.t 16) (.t 19) 3⟩, 
    ⟨some 21, none, .ld (.t 20) 3 true⟩, 
    ⟨some 7, none, .al [.p (.int .i64 0), .p (.int .i64 0), .p (.int .i64 0)] true⟩, 
    ⟨none, none, .st (.t 7) (.t 21) 3⟩] [0, 6, 7] [6, 7])
  (.seq (.seq (.reg true [⟨some 22, none, .off (.t 7) 0⟩, 
    ⟨some 23, none, .ld (.t 22) 1 false⟩, 
    ⟨some 24, none, .bin .geq (.t 23) (.c (.p (.int .i64 0)))⟩, 
    ⟨some 25, none, .mov (.t 24)⟩, 
    ⟨some 26, (some (25, true)), .off (.t 7) 0⟩, 
    ⟨some 27, (some (25, true)), .ld (.t 26) 1 false⟩, 
    ⟨some 28, (some (25, true)), .mov (.t 0)⟩, 
    ⟨some 29, (some (25, true)), .len (.t 28)⟩, 
    ⟨some 30, (some (25, true)), .bin .lss (.t 27) (.t 29)⟩, 
    ⟨some 31, none, .pick (.t 25) (.t 30) (.c (.p (.bool false)))⟩, 
    ⟨some 32, none, .mov (.t 31)⟩, 
    ⟨some 33, (some (32, true)), .off (.t 7) 2⟩, 
    ⟨some 34, (some (32, true)), .ld (.t 33) 1 false⟩, 
    ⟨some 35, (some (32, true)), .mov (.t 0)⟩, 
    ⟨some 36, (some (32, true)), .off (.t 7) 0⟩, 
    ⟨some 37, (some (32, true)), .ld (.t 36) 1 false⟩, 
    ⟨some 38, (some (32, true)), .ixs (.t 35) (.t 37) 2⟩, 
    ⟨some 39, (some (32, true)), .off (.t 38) 0⟩, 
    ⟨some 40, (some (32, true)), .ld (.t 39) 1 false⟩, 
    ⟨some 41, (some (32, true)), .len (.t 40)⟩, 
    ⟨some 42, (some (32, true)), .bin .eql (.t 34) (.t 41)⟩, 
    ⟨some 43, none, .pick (.t 32) (.t 42) (.c (.p (.bool false)))⟩] [6, 7, 43] [6, 7])
  (.cond (.t 43)
  (.seq (.reg false [⟨some 44, none, .off (.t 7) 0⟩, 
      ⟨some 45, none, .ld (.t 44) 1 false⟩, 
      ⟨some 46, none, .bin .add (.t 45) (.c (.p (.int .i64 1)))⟩, 
      ⟨some 47, none, .bld [.p (.int .i64 0), .p (.int .i64 0)] [(0, 1, (.t 46)), (1, 1, (.c (.p (.int .i64 0))))]⟩, 
      ⟨none, none, .st (.t 6) (.t 47) 2⟩] [6] [6])
    .ret)
  .skip))
  (.seq (.reg false [⟨some 48, none, .off (.t 7) 0⟩, 
    ⟨some 49, none, .ld (.t 48) 1 false⟩, 
    ⟨some 50, none, .off (.t 7) 2⟩, 
    ⟨some 51, none, .ld (.t 50) 1 false⟩, 
    ⟨some 52, none, .bld [.p (.int .i64 0), .p (.int .i64 0)] [(0, 1, (.t 49)), (1, 1, (.t 51))]⟩, 
    ⟨none, none, .st (.t 6) (.t 52) 2⟩] [6] [6])
  .ret))))),
  [.cell 6 2 true], false⟩
def ir39 : IFn :=   -- tympan/tympanlaw22.ref
⟨(.seq (.reg false [⟨some 1, none, .bx (.t 0) 4 true⟩, 
    ⟨some 2, none, .al [.p (.int .i64 0), .p (.int .i64 0), .p (.int .i64 0), .p (.bool false)] true⟩] [1, 2] [1, 2])
  (.seq (.reg false [⟨some 3, none, .off (.t 1) 0⟩, 
    ⟨some 4, none, .ld (.t 3) 1 false⟩, 
    ⟨some 5, none, .off (.t 1) 1⟩, 
    ⟨some 6, none, .ld (.t 5) 1 false⟩, 
    ⟨some 7, none, .off (.t 1) 2⟩, 
    ⟨some 8, none, .ld (.t 7) 1 false⟩, 
    ⟨some 9, none, .off (.t 1) 3⟩, 
    ⟨some 10, none, .ld (.t 9) 1 false⟩, 
    ⟨some 11, none, .bld [.p (.int .i64 0), .p (.int .i64 0), .p (.int .i64 0), .p (.bool false)] [(0, 1, (.t 4)), (1, 1, (.t 6)), (2, 1, (.t 8)), (3, 1, (.t 10))]⟩, 
    ⟨none, none, .st (.t 2) (.t 11) 4⟩] [2] [2])
  .ret)),
  [.cell 2 4 true], false⟩
def lp40_0 : IC :=
  (.loop [0, 1, 7, 8] [] (.seq (.seq (.reg false [⟨some 15, none, .mov (.t 8)⟩, 
        ⟨some 16, none, .mov (.t 1)⟩, 
        ⟨some 17, none, .len (.t 16)⟩, 
        ⟨some 18, none, .bin .lss (.t 15) (.t 17)⟩] [0, 1, 7, 8, 18] [])
      (.cond (.t 18)
      .skip
      (.exit 0)))
      (.seq (.block 1 (.seq (.reg false [⟨some 21, none, .mov (.t 1)⟩, 
          ⟨some 22, none, .mov (.t 8)⟩, 
          ⟨some 23, none, .ixs (.t 21) (.t 22) 3⟩, 
          ⟨some 24, none, .off (.t 23) 0⟩, 
          ⟨some 25, none, .ld (.t 24) 1 false⟩, 
          ⟨some 26, none, .bin .geq (.t 25) (.c (.p (.int .i64 0)))⟩, 
          ⟨some 27, none, .mov (.t 26)⟩, 
          ⟨some 28, (some (27, true)), .mov (.t 1)⟩, 
          ⟨some 29, (some (27, true)), .mov (.t 8)⟩, 
          ⟨some 30, (some (27, true)), .ixs (.t 28) (.t 29) 3⟩, 
          ⟨some 31, (some (27, true)), .off (.t 30) 0⟩, 
          ⟨some 32, (some (27, true)), .ld (.t 31) 1 false⟩, 
          ⟨some 33, (some (27, true)), .mov (.t 0)⟩, 
          ⟨some 34, (some (27, true)), .len (.t 33)⟩, 
          ⟨some 35, (some (27, true)), .bin .lss (.t 32) (.t 34)⟩, 
          ⟨some 36, none, .pick (.t 27) (.t 35) (.c (.p (.bool false)))⟩] [0, 1, 7, 8, 36] [])
        (.cond (.t 36)
        (.reg true [⟨some 37, none, .mov (.t 7)⟩, 
            ⟨some 38, none, .mov (.t 0)⟩, 
            ⟨some 39, none, .mov (.t 1)⟩, 
            ⟨some 40, none, .mov (.t 8)⟩, 
            ⟨some 41, none, .ixs (.t 39) (.t 40) 3⟩, 
            ⟨some 42, none, .off (.t 41) 0⟩, 
            ⟨some 43, none, .ld (.t 42) 1 false⟩, 
            ⟨some 44, none, .ixs (.t 38) (.t 43) 2⟩, 
            ⟨some 45, none, .ld (.t 44) 2 true⟩, 
            ⟨some 46, none, .mov (.t 1)⟩, 
            ⟨some 47, none, .mov (.t 8)⟩, 
            ⟨some 48, none, .ixs (.t 46) (.t 47) 3⟩, 
            ⟨some 49, none, .off (.t 48) 1⟩, 
            ⟨some 50, none, .ld (.t 49) 1 false⟩, 
            ⟨some 51, none, .mov (.t 1)⟩, 
            ⟨some 52, none, .mov (.t 8)⟩, 
            ⟨some 53, none, .ixs (.t 51) (.t 52) 3⟩, 
            ⟨some 54, none, .off (.t 53) 2⟩, 
            ⟨some 55, none, .ld (.t 54) 1 false⟩, 
            ⟨some 56, none, .call 30 [(.t 45), (.t 50), (.t 55)] true⟩, 
            ⟨some 57, none, .bin .add (.t 37) (.t 56)⟩, 
            ⟨some 58, none, .mnmx false (.t 57) (.c (.p (.int .i64 1125899906842624)))⟩, 
            ⟨some 7, none, .mov (.t 58)⟩] [0, 1, 7, 8] [])
        .skip)))
      (.reg false [⟨some 19, none, .mov (.t 8)⟩, 
        ⟨some 20, none, .bin .add (.t 19) (.c (.p (.int .i64 1)))⟩, 
        ⟨some 8, none, .mov (.t 20)⟩] [0, 1, 7, 8] []))))
def ir40 : IFn :=   -- tympan/tympanref22.High
⟨(.seq (.reg false [⟨some 6, none, .mov (.c (.p (.int .i64 0)))⟩] [0, 1, 2] [])
  (.seq (.seq (.reg false [⟨some 9, none, .mov (.t 1)⟩, 
    ⟨some 10, none, .len (.t 9)⟩, 
    ⟨some 11, none, .bin .eql (.t 10) (.c (.p (.int .i64 0)))⟩] [0, 1, 2, 11] [])
  (.cond (.t 11)
  (.seq (.reg false [⟨some 6, none, .mov (.c (.p (.int .i64 0)))⟩] [6] [])
    .ret)
  .skip))
  (.seq (.reg false [⟨some 12, none, .mov (.t 2)⟩, 
    ⟨some 13, none, .mnmx false (.t 12) (.c (.p (.int .i64 1125899906842624)))⟩, 
    ⟨some 14, none, .mnmx true (.c (.p (.int .i64 0))) (.t 13)⟩, 
    ⟨some 7, none, .mov (.t 14)⟩] [0, 1, 7] [])
  (.seq (.seq (.reg false [⟨some 8, none, .mov (.c (.p (.int .i64 0)))⟩] [0, 1, 7, 8] [])
  (.block 0 lp40_0))
  (.seq (.reg false [⟨some 59, none, .mov (.t 7)⟩, 
    ⟨some 6, none, .mov (.t 59)⟩] [6] [])
  .ret))))),
  [.tmp 6], false⟩
def lp41_0 : IC :=
  (.loop [3, 6, 7, 8] [] (.seq (.reg false [⟨some 9, none, .bin .lss (.t 8) (.t 7)⟩] [3, 6, 7, 8, 9] [])
      (.seq (.cond (.t 9)
      .skip
      (.exit 0))
      (.seq (.block 1 (.seq (.reg false [⟨some 10, none, .ixs (.t 6) (.t 8) 3⟩, 
          ⟨some 11, none, .ld (.t 10) 3 true⟩, 
          ⟨some 5, none, .al [.p (.int .i64 0), .p (.int .i64 0), .p (.int .i64 0)] true⟩, 
          ⟨none, none, .st (.t 5) (.t 11) 3⟩] [3, 5, 6, 7, 8] [5])
        (.reg false [⟨some 12, none, .mov (.t 3)⟩, 
          ⟨some 13, none, .off (.t 5) 2⟩, 
          ⟨some 14, none, .ld (.t 13) 1 false⟩, 
          ⟨some 15, none, .off (.t 5) 1⟩, 
          ⟨some 16, none, .ld (.t 15) 1 false⟩, 
          ⟨some 17, none, .bin .sub (.t 14) (.t 16)⟩, 
          ⟨some 18, none, .mnmx true (.t 17) (.c (.p (.int .i64 0)))⟩, 
          ⟨some 19, none, .bin .add (.t 12) (.t 18)⟩, 
          ⟨some 3, none, .mov (.t 19)⟩] [3, 6, 7, 8] [])))
      (.reg false [⟨some 20, none, .bin .add (.t 8) (.c (.p (.int .i64 1)))⟩, 
        ⟨some 8, none, .mov (.t 20)⟩] [3, 6, 7, 8] [])))))
def ir41 : IFn :=   -- tympan/split.Lines
⟨(.seq (.reg false [⟨some 2, none, .mov (.c (.p (.int .i64 0)))⟩] [0] [])
  (.seq (.reg false [⟨some 3, none, .mov (.c (.p (.int .i64 0)))⟩] [0, 3] [])
  (.seq (.seq (.reg false [⟨some 6, none, .mov (.t 0)⟩, 
    ⟨some 7, none, .len (.t 6)⟩, 
    ⟨some 8, none, .mov (.c (.p (.int .i64 0)))⟩] [3, 6, 7, 8] [])
  (.block 0 lp41_0))
  (.seq (.reg false [⟨some 21, none, .mov (.t 3)⟩, 
    ⟨some 2, none, .mov (.t 21)⟩] [2] [])
  .ret)))),
  [.tmp 2], false⟩
def lp42_0 : IC :=
  (.loop [0, 3, 4] [] (.seq (.seq (.reg false [⟨some 5, none, .mov (.t 4)⟩, 
        ⟨some 6, none, .mov (.t 0)⟩, 
        ⟨some 7, none, .len (.t 6)⟩, 
        ⟨some 8, none, .bin .lss (.t 5) (.t 7)⟩] [0, 3, 4, 8] [])
      (.cond (.t 8)
      .skip
      (.exit 0)))
      (.seq (.block 1 (.reg true [⟨some 11, none, .mov (.t 3)⟩, 
          ⟨some 12, none, .mov (.t 0)⟩, 
          ⟨some 13, none, .mov (.t 4)⟩, 
          ⟨some 14, none, .ixs (.t 12) (.t 13) 3⟩, 
          ⟨some 15, none, .off (.t 14) 2⟩, 
          ⟨some 16, none, .ld (.t 15) 1 false⟩, 
          ⟨some 17, none, .mov (.t 0)⟩, 
          ⟨some 18, none, .mov (.t 4)⟩, 
          ⟨some 19, none, .ixs (.t 17) (.t 18) 3⟩, 
          ⟨some 20, none, .off (.t 19) 1⟩, 
          ⟨some 21, none, .ld (.t 20) 1 false⟩, 
          ⟨some 22, none, .bin .sub (.t 16) (.t 21)⟩, 
          ⟨some 23, none, .mnmx true (.c (.p (.int .i64 0))) (.t 22)⟩, 
          ⟨some 24, none, .bin .add (.t 11) (.t 23)⟩, 
          ⟨some 3, none, .mov (.t 24)⟩] [0, 3, 4] []))
      (.reg false [⟨some 9, none, .mov (.t 4)⟩, 
        ⟨some 10, none, .bin .add (.t 9) (.c (.p (.int .i64 1)))⟩, 
        ⟨some 4, none, .mov (.t 10)⟩] [0, 3, 4] []))))
def ir42 : IFn :=   -- tympan/tympanref22.Lines
⟨(.seq (.reg false [⟨some 2, none, .mov (.c (.p (.int .i64 0)))⟩] [0] [])
  (.seq (.reg false [⟨some 3, none, .mov (.c (.p (.int .i64 0)))⟩] [0, 3] [])
  (.seq (.seq (.reg false [⟨some 4, none, .mov (.c (.p (.int .i64 0)))⟩] [0, 3, 4] [])
  (.block 0 lp42_0))
  (.seq (.reg false [⟨some 25, none, .mov (.t 3)⟩, 
    ⟨some 2, none, .mov (.t 25)⟩] [2] [])
  .ret)))),
  [.tmp 2], false⟩
def ir43 : IFn :=   -- tympan/split.Same
⟨(.seq (.reg false [⟨some 4, none, .mov (.c (.p (.bool false)))⟩] [0, 1] [])
  (.seq (.reg false [⟨some 5, none, .mov (.t 0)⟩, 
    ⟨some 6, none, .mov (.t 1)⟩, 
    ⟨some 7, none, .call 92 [(.t 5), (.t 6)] false⟩, 
    ⟨some 4, none, .mov (.t 7)⟩] [4] [])
  .ret)),
  [.tmp 4], false⟩
def lp44_0 : IC :=
  (.loop [1, 3] [1] (.seq (.seq (.reg false [⟨some 4, none, .mov (.t 3)⟩, 
        ⟨some 5, none, .off (.t 1) 20⟩, 
        ⟨some 6, none, .ld (.t 5) 1 false⟩, 
        ⟨some 7, none, .len (.t 6)⟩, 
        ⟨some 8, none, .bin .lss (.t 4) (.t 7)⟩, 
        ⟨some 9, none, .mov (.t 8)⟩, 
        ⟨some 10, (some (9, true)), .mov (.t 3)⟩, 
        ⟨some 11, (some (9, true)), .bin .lss (.t 10) (.c (.p (.int .i64 100)))⟩, 
        ⟨some 12, none, .pick (.t 9) (.t 11) (.c (.p (.bool false)))⟩] [1, 3, 12] [1])
      (.cond (.t 12)
      .skip
      (.exit 0)))
      (.seq (.block 1 (.seq (.reg false [⟨some 15, none, .off (.t 1) 20⟩, 
          ⟨some 16, none, .ld (.t 15) 1 false⟩, 
          ⟨some 17, none, .mov (.t 3)⟩, 
          ⟨some 18, none, .ixs (.t 16) (.t 17) 2⟩, 
          ⟨some 19, none, .off (.t 18) 0⟩, 
          ⟨some 20, none, .ld (.t 19) 1 false⟩, 
          ⟨some 21, none, .len (.t 20)⟩, 
          ⟨some 22, none, .bin .gtr (.t 21) (.c (.p (.int .i64 100)))⟩, 
          ⟨some 23, none, .mov (.t 22)⟩, 
          ⟨some 24, (some (23, false)), .off (.t 1) 20⟩, 
          ⟨some 25, (some (23, false)), .ld (.t 24) 1 false⟩, 
          ⟨some 26, (some (23, false)), .mov (.t 3)⟩, 
          ⟨some 27, (some (23, false)), .ixs (.t 25) (.t 26) 2⟩, 
          ⟨some 28, (some (23, false)), .off (.t 27) 1⟩, 
          ⟨some 29, (some (23, false)), .ld (.t 28) 1 false⟩, 
          ⟨some 30, (some (23, false)), .len (.t 29)⟩, 
          ⟨some 31, (some (23, false)), .bin .gtr (.t 30) (.c (.p (.int .i64 100)))⟩, 
          ⟨some 32, none, .pick (.t 23) (.c (.p (.bool true))) (.t 31)⟩] [1, 3, 32] [1])
        (.cond (.t 32)
        (.seq (.reg false [⟨some 2, none, .mov (.c (.p (.bool true)))⟩] [2] [])
          .ret)
        .skip)))
      (.reg false [⟨some 13, none, .mov (.t 3)⟩, 
        ⟨some 14, none, .bin .add (.t 13) (.c (.p (.int .i64 1)))⟩, 
        ⟨some 3, none, .mov (.t 14)⟩] [1, 3] [1]))))
def ir44 : IFn :=   -- tympan/tympanlaw14.Large
⟨(.seq (.reg false [⟨some 1, none, .bx (.t 0) 22 true⟩, 
    ⟨some 2, none, .mov (.c (.p (.bool false)))⟩] [1] [1])
  (.seq (.seq (.reg false [⟨some 3, none, .mov (.c (.p (.int .i64 0)))⟩] [1, 3] [1])
  (.block 0 lp44_0))
  (.seq (.reg false [⟨some 33, none, .off (.t 1) 19⟩, 
    ⟨some 34, none, .ld (.t 33) 1 false⟩, 
    ⟨some 35, none, .len (.t 34)⟩, 
    ⟨some 36, none, .bin .gtr (.t 35) (.c (.p (.int .i64 100)))⟩, 
    ⟨some 37, none, .mov (.t 36)⟩, 
    ⟨some 38, (some (37, false)), .off (.t 1) 20⟩, 
    ⟨some 39, (some (37, false)), .ld (.t 38) 1 false⟩, 
    ⟨some 40, (some (37, false)), .len (.t 39)⟩, 
    ⟨some 41, (some (37, false)), .bin .gtr (.t 40) (.c (.p (.int .i64 100)))⟩, 
    ⟨some 42, none, .pick (.t 37) (.c (.p (.bool true))) (.t 41)⟩, 
    ⟨some 43, none, .mov (.t 42)⟩, 
    ⟨some 44, (some (43, false)), .off (.t 1) 21⟩, 
    ⟨some 45, (some (43, false)), .ld (.t 44) 1 false⟩, 
    ⟨some 46, (some (43, false)), .len (.t 45)⟩, 
    ⟨some 47, (some (43, false)), .bin .gtr (.t 46) (.c (.p (.int .i64 100)))⟩, 
    ⟨some 48, none, .pick (.t 43) (.c (.p (.bool true))) (.t 47)⟩, 
    ⟨some 2, none, .mov (.t 48)⟩] [2] [])
  .ret))),
  [.tmp 2], false⟩
def ir45 : IFn :=   -- tympan/tympanlaw14.awake
⟨(.seq (.reg false [⟨some 0, none, .mov (.c (.p (.bool false)))⟩] [] [])
  (.seq (.reg false [⟨some 3, none, .bld [.p (.int .i64 0), .p (.int .i64 0), .p (.int .i64 0), .p (.int .i64 0), .p (.int .i64 0), .p (.int .i64 0), .p (.int .i64 0), .p (.int .i64 0), .p (.int .i64 0), .p (.int .i64 0), .p (.int .i64 0), .p (.int .i64 0), .p (.int .i64 0), .p (.int .i64 0), .p (.int .i64 0), .p (.int .i64 0), .p (.int .i64 0), .p (.int .i64 0), .p (.bool false)] [(5, 1, (.c (.p (.int .i64 6)))), (3, 1, (.c (.p (.int .i64 20)))), (4, 1, (.c (.p (.int .i64 14))))]⟩, 
    ⟨some 4, none, .bld [.p (.int .i64 0), .p (.int .i64 0), .p (.int .i64 0), .p (.int .i64 0), .p (.int .i64 0), .p (.int .i64 0), .p (.int .i64 0)] [(0, 1, (.c (.p (.int .i64 1)))), (1, 1, (.c (.p (.int .i64 7))))]⟩, 
    ⟨some 5, none, .bld [.p (.int .i64 0), .p (.int .i64 0), .p (.int .i64 0), .p (.int .i64 0), .p (.int .i64 0), .p (.int .i64 0), .p (.int .i64 0)] [(0, 1, (.c (.p (.int .i64 2)))), (1, 1, (.c (.p (.int .i64 3)))), (3, 1, (.c (.p (.int .i64 2))))]⟩, 
    ⟨some 6, none, .bsl 7 2 [.p (.int .i64 0), .p (.int .i64 0), .p (.int .i64 0), .p (.int .i64 0), .p (.int .i64 0), .p (.int .i64 0), .p (.int .i64 0)] [(0, (.t 4)), (1, (.t 5))]⟩, 
    ⟨some 7, none, .bld [.p (.int .i64 0), .p (.int .i64 0), .p (.int .i64 0)] [(1, 1, (.c (.p (.int .i64 1))))]⟩, 
    ⟨some 8, none, .bsl 3 1 [.p (.int .i64 0), .p (.int .i64 0), .p (.int .i64 0)] [(0, (.t 7))]⟩, 
    ⟨some 9, none, .bld [.p (.int .i64 0), .p (.int .i64 0), .p (.int .i64 0), .p (.int .i64 0), .p (.int .i64 0), .p (.int .i64 0), .p (.int .i64 0), .p (.int .i64 0), .p (.int .i64 0), .p (.int .i64 0), .p (.int .i64 0), .p (.int .i64 0), .p (.int .i64 0), .p (.int .i64 0), .p (.int .i64 0), .p (.int .i64 0), .p (.int .i64 0), .p (.int .i64 0), .p (.bool false), .nils, .nils, .nils] [(0, 19, (.t 3)), (19, 1, (.t 6)), (21, 1, (.t 8))]⟩, 
    ⟨some 1, none, .al [.p (.int .i64 0), .p (.int .i64 0), .p (.int .i64 0), .p (.int .i64 0), .p (.int .i64 0), .p (.int .i64 0), .p (.int .i64 0), .p (.int .i64 0), .p (.int .i64 0), .p (.int .i64 0), .p (.int .i64 0), .p (.int .i64 0), .p (.int .i64 0), .p (.int .i64 0), .p (.int .i64 0), .p (.int .i64 0), .p (.int .i64 0), .p (.int .i64 0), .p (.bool false), .nils, .nils, .nils] true⟩, 
    ⟨none, none, .st (.t 1) (.t 9) 22⟩] [1] [1])
  (.seq (.reg false [⟨some 10, none, .ld (.t 1) 22 true⟩, 
    ⟨some 11, none, .call 46 [(.t 10)] false⟩, 
    ⟨some 2, none, .al [.p (.int .i64 0), .p (.int .i64 0), .p (.int .i64 0), .p (.int .i64 0), .p (.int .i64 0), .p (.int .i64 0), .p (.int .i64 0), .p (.int .i64 0), .p (.int .i64 0), .p (.int .i64 0), .p (.int .i64 0), .p (.int .i64 0), .p (.int .i64 0), .p (.int .i64 0), .p (.int .i64 0), .p (.int .i64 0), .p (.int .i64 0), .p (.int .i64 0), .p (.bool false), .nils, .nils, .nils] true⟩, 
    ⟨none, none, .st (.t 2) (.t 11) 22⟩] [1, 2] [1, 2])
  (.seq (.reg false [⟨some 12, none, .ld (.t 1) 22 true⟩, 
    ⟨some 13, none, .call 48 [(.t 12)] false⟩, 
    ⟨some 14, none, .un .not (.t 13)⟩, 
    ⟨some 15, none, .mov (.t 14)⟩, 
    ⟨some 16, (some (15, true)), .ld (.t 2) 22 true⟩, 
    ⟨some 17, (some (15, true)), .call 48 [(.t 16)] false⟩, 
    ⟨some 18, none, .pick (.t 15) (.t 17) (.c (.p (.bool false)))⟩, 
    ⟨some 19, none, .mov (.t 18)⟩, 
    ⟨some 20, (some (19, true)), .off (.t 2) 0⟩, 
    ⟨some 21, (some (19, true)), .off (.t 20) 3⟩, 
    ⟨some 22, (some (19, true)), .ld (.t 21) 1 false⟩, 
    ⟨some 23, (some (19, true)), .bin .eql (.t 22) (.c (.p (.int .i64 18)))⟩, 
    ⟨some 24, none, .pick (.t 19) (.t 23) (.c (.p (.bool false)))⟩, 
    ⟨some 25, none, .mov (.t 24)⟩, 
    ⟨some 26, (some (25, true)), .off (.t 2) 0⟩, 
    ⟨some 27, (some (25, true)), .off (.t 26) 4⟩, 
    ⟨some 28, (some (25, true)), .ld (.t 27) 1 false⟩, 
    ⟨some 29, (some (25, true)), .bin .eql (.t 28) (.c (.p (.int .i64 12)))⟩, 
    ⟨some 30, none, .pick (.t 25) (.t 29) (.c (.p (.bool false)))⟩, 
    ⟨some 31, none, .mov (.t 30)⟩, 
    ⟨some 32, (some (31, true)), .off (.t 2) 19⟩, 
    ⟨some 33, (some (31, true)), .ld (.t 32) 1 false⟩, 
    ⟨some 34, (some (31, true)), .ixs (.t 33) (.c (.p (.int .i64 0))) 7⟩, 
    ⟨some 35, (some (31, true)), .off (.t 34) 1⟩, 
    ⟨some 36, (some (31, true)), .ld (.t 35) 1 false⟩, 
    ⟨some 37, (some (31, true)), .bin .eql (.t 36) (.c (.p (.int .i64 12)))⟩, 
    ⟨some 38, none, .pick (.t 31) (.t 37) (.c (.p (.bool false)))⟩, 
    ⟨some 39, none, .mov (.t 38)⟩, 
    ⟨some 40, (some (39, true)), .off (.t 2) 19⟩, 
    ⟨some 41, (some (39, true)), .ld (.t 40) 1 false⟩, 
    ⟨some 42, (some (39, true)), .ixs (.t 41) (.c (.p (.int .i64 1))) 7⟩, 
    ⟨some 43, (some (39, true)), .off (.t 42) 1⟩, 
    ⟨some 44, (some (39, true)), .ld (.t 43) 1 false⟩, 
    ⟨some 45, (some (39, true)), .bin .eql (.t 44) (.c (.p (.int .i64 6)))⟩, 
    ⟨some 46, none, .pick (.t 39) (.t 45) (.c (.p (.bool false)))⟩, 
    ⟨some 47, none, .mov (.t 46)⟩, 
    ⟨some 48, (some (47, true)), .off (.t 2) 21⟩, 
    ⟨some 49, (some (47, true)), .ld (.t 48) 1 false⟩, 
    ⟨some 50, (some (47, true)), .ixs (.t 49) (.c (.p (.int .i64 0))) 3⟩, 
    ⟨some 51, (some (47, true)), .off (.t 50) 1⟩, 
    ⟨some 52, (some (47, true)), .ld (.t 51) 1 false⟩, 
    ⟨some 53, (some (47, true)), .bin .eql (.t 52) (.c (.p (.int .i64 6)))⟩, 
    ⟨some 54, none, .pick (.t 47) (.t 53) (.c (.p (.bool false)))⟩, 
    ⟨some 55, none, .mov (.t 54)⟩, 
    ⟨some 56, (some (55, true)), .call 93 [(.c (.p (.int .i64 2))), (.c (.p (.int .i64 6)))] false⟩, 
    ⟨some 57, (some (55, true)), .bin .eql (.t 56) (.c (.p (.int .i64 0)))⟩, 
    ⟨some 58, none, .pick (.t 55) (.t 57) (.c (.p (.bool false)))⟩, 
    ⟨some 0, none, .mov (.t 58)⟩] [0] [])
  .ret)))),
  [.tmp 0], false⟩
def lp47_0 : IC :=
  (.loop [1, 3, 4] [1] (.seq (.seq (.reg false [⟨some 23, none, .mov (.t 4)⟩, 
        ⟨some 24, none, .off (.t 1) 19⟩, 
        ⟨some 25, none, .ld (.t 24) 1 false⟩, 
        ⟨some 26, none, .len (.t 25)⟩, 
        ⟨some 27, none, .bin .lss (.t 23) (.t 26)⟩] [1, 3, 4, 27] [1])
      (.cond (.t 27)
      .skip
      (.exit 0)))
      (.seq (.block 1 (.reg false [⟨some 30, none, .mov (.t 3)⟩, 
          ⟨some 31, none, .off (.t 1) 19⟩, 
          ⟨some 32, none, .ld (.t 31) 1 false⟩, 
          ⟨some 33, none, .mov (.t 4)⟩, 
          ⟨some 34, none, .ixs (.t 32) (.t 33) 7⟩, 
          ⟨some 35, none, .off (.t 34) 1⟩, 
          ⟨some 36, none, .ld (.t 35) 1 false⟩, 
          ⟨some 37, none, .bsl 1 1 [.p (.int .i64 0)] [(0, (.t 36))]⟩, 
          ⟨some 38, none, .app (.t 30) (.t 37) 1⟩, 
          ⟨some 3, none, .mov (.t 38)⟩] [1, 3, 4] [1]))
      (.reg false [⟨some 28, none, .mov (.t 4)⟩, 
        ⟨some 29, none, .bin .add (.t 28) (.c (.p (.int .i64 1)))⟩, 
        ⟨some 4, none, .mov (.t 29)⟩] [1, 3, 4] [1]))))
def lp47_1 : IC :=
  (.loop [1, 3, 5] [1] (.seq (.seq (.reg false [⟨some 39, none, .mov (.t 5)⟩, 
        ⟨some 40, none, .off (.t 1) 20⟩, 
        ⟨some 41, none, .ld (.t 40) 1 false⟩, 
        ⟨some 42, none, .len (.t 41)⟩, 
        ⟨some 43, none, .bin .lss (.t 39) (.t 42)⟩] [1, 3, 5, 43] [1])
      (.cond (.t 43)
      .skip
      (.exit 2)))
      (.seq (.block 3 (.reg false [⟨some 46, none, .mov (.t 3)⟩, 
          ⟨some 47, none, .off (.t 1) 20⟩, 
          ⟨some 48, none, .ld (.t 47) 1 false⟩, 
          ⟨some 49, none, .mov (.t 5)⟩, 
          ⟨some 50, none, .ixs (.t 48) (.t 49) 2⟩, 
          ⟨some 51, none, .off (.t 50) 0⟩, 
          ⟨some 52, none, .ld (.t 51) 1 false⟩, 
          ⟨some 53, none, .app (.t 46) (.t 52) 1⟩, 
          ⟨some 3, none, .mov (.t 53)⟩] [1, 3, 5] [1]))
      (.reg false [⟨some 44, none, .mov (.t 5)⟩, 
        ⟨some 45, none, .bin .add (.t 44) (.c (.p (.int .i64 1)))⟩, 
        ⟨some 5, none, .mov (.t 45)⟩] [1, 3, 5] [1]))))
def lp47_2 : IC :=
  (.loop [1, 3, 6] [1] (.seq (.seq (.reg false [⟨some 54, none, .mov (.t 6)⟩, 
        ⟨some 55, none, .off (.t 1) 21⟩, 
        ⟨some 56, none, .ld (.t 55) 1 false⟩, 
        ⟨some 57, none, .len (.t 56)⟩, 
        ⟨some 58, none, .bin .lss (.t 54) (.t 57)⟩] [1, 3, 6, 58] [1])
      (.cond (.t 58)
      .skip
      (.exit 4)))
      (.seq (.block 5 (.reg false [⟨some 61, none, .mov (.t 3)⟩, 
          ⟨some 62, none, .off (.t 1) 21⟩, 
          ⟨some 63, none, .ld (.t 62) 1 false⟩, 
          ⟨some 64, none, .mov (.t 6)⟩, 
          ⟨some 65, none, .ixs (.t 63) (.t 64) 3⟩, 
          ⟨some 66, none, .off (.t 65) 1⟩, 
          ⟨some 67, none, .ld (.t 66) 1 false⟩, 
          ⟨some 68, none, .bsl 1 1 [.p (.int .i64 0)] [(0, (.t 67))]⟩, 
          ⟨some 69, none, .app (.t 61) (.t 68) 1⟩, 
          ⟨some 3, none, .mov (.t 69)⟩] [1, 3, 6] [1]))
      (.reg false [⟨some 59, none, .mov (.t 6)⟩, 
        ⟨some 60, none, .bin .add (.t 59) (.c (.p (.int .i64 1)))⟩, 
        ⟨some 6, none, .mov (.t 60)⟩] [1, 3, 6] [1]))))
def ir47 : IFn :=   -- tympan/tympanref14.Fair
⟨(.seq (.reg false [⟨some 1, none, .bx (.t 0) 22 true⟩, 
    ⟨some 2, none, .mov (.c (.p (.bool false)))⟩] [1] [1])
  (.seq (.reg false [⟨some 7, none, .off (.t 1) 0⟩, 
    ⟨some 8, none, .off (.t 7) 5⟩, 
    ⟨some 9, none, .ld (.t 8) 1 false⟩, 
    ⟨some 10, none, .off (.t 1) 0⟩, 
    ⟨some 11, none, .off (.t 10) 3⟩, 
    ⟨some 12, none, .ld (.t 11) 1 false⟩, 
    ⟨some 13, none, .off (.t 1) 0⟩, 
    ⟨some 14, none, .off (.t 13) 4⟩, 
    ⟨some 15, none, .ld (.t 14) 1 false⟩, 
    ⟨some 16, none, .off (.t 1) 0⟩, 
    ⟨some 17, none, .off (.t 16) 6⟩, 
    ⟨some 18, none, .ld (.t 17) 1 false⟩, 
    ⟨some 19, none, .off (.t 1) 0⟩, 
    ⟨some 20, none, .off (.t 19) 7⟩, 
    ⟨some 21, none, .ld (.t 20) 1 false⟩, 
    ⟨some 22, none, .bsl 1 5 [.p (.int .i64 0)] [(0, (.t 9)), (1, (.t 12)), (2, (.t 15)), (3, (.t 18)), (4, (.t 21))]⟩, 
    ⟨some 3, none, .mov (.t 22)⟩] [1, 3] [1])
  (.seq (.seq (.reg false [⟨some 4, none, .mov (.c (.p (.int .i64 0)))⟩] [1, 3, 4] [1])
  (.block 0 lp47_0))
  (.seq (.seq (.reg false [⟨some 5, none, .mov (.c (.p (.int .i64 0)))⟩] [1, 3, 5] [1])
  (.block 2 lp47_1))
  (.seq (.seq (.reg false [⟨some 6, none, .mov (.c (.p (.int .i64 0)))⟩] [1, 3, 6] [1])
  (.block 4 lp47_2))
  (.seq (.reg false [⟨some 70, none, .mov (.t 3)⟩, 
    ⟨some 71, none, .call 100 [(.t 70)] false⟩, 
    ⟨some 2, none, .mov (.t 71)⟩] [2] [])
  .ret)))))),
  [.tmp 2], false⟩
def lp48_0 : IC :=
  (.loop [1, 4, 5, 34, 35, 36] [1] (.seq (.reg false [⟨some 37, none, .bin .lss (.t 36) (.t 35)⟩] [1, 4, 5, 34, 35, 36, 37] [1])
      (.seq (.cond (.t 37)
      .skip
      (.exit 0))
      (.seq (.block 1 (.seq (.reg false [⟨some 38, none, .ixs (.t 34) (.t 36) 7⟩, 
          ⟨some 39, none, .ld (.t 38) 7 true⟩, 
          ⟨some 7, none, .al [.p (.int .i64 0), .p (.int .i64 0), .p (.int .i64 0), .p (.int .i64 0), .p (.int .i64 0), .p (.int .i64 0), .p (.int .i64 0)] true⟩, 
          ⟨none, none, .st (.t 7) (.t 39) 7⟩] [1, 4, 5, 7, 34, 35, 36] [1, 7])
        (.seq (.reg false [⟨some 40, none, .off (.t 7) 0⟩, 
          ⟨some 41, none, .ld (.t 40) 1 false⟩] [1, 4, 5, 7, 34, 35, 36, 41] [1, 7])
        (.block 2 (.seq (.block 4 (.seq (.block 3 (.seq (.seq (.seq (.reg false [⟨some 43, none, .bin .eql (.t 41) (.c (.p (.int .i64 2)))⟩, 
                ⟨some 42, none, .mov (.t 43)⟩] [1, 4, 5, 7, 34, 35, 36, 41, 42] [1, 7])
              (.cond (.t 42)
              (.exit 3)
              .skip))
              (.seq (.reg false [⟨some 45, none, .bin .eql (.t 41) (.c (.p (.int .i64 1)))⟩, 
                ⟨some 44, none, .mov (.t 45)⟩] [1, 4, 5, 7, 34, 35, 36, 44] [1, 7])
              (.cond (.t 44)
              (.exit 4)
              .skip)))
              (.exit 2)))
            (.reg false [⟨some 46, none, .mov (.t 5)⟩, 
              ⟨some 47, none, .mov (.t 46)⟩, 
              ⟨some 48, (some (47, false)), .off (.t 7) 3⟩, 
              ⟨some 49, (some (47, false)), .ld (.t 48) 1 false⟩, 
              ⟨some 50, (some (47, false)), .bin .neq (.t 49) (.c (.p (.int .i64 0)))⟩, 
              ⟨some 51, none, .pick (.t 47) (.c (.p (.bool true))) (.t 50)⟩, 
              ⟨some 52, none, .mov (.t 51)⟩, 
              ⟨some 53, (some (52, false)), .off (.t 7) 4⟩, 
              ⟨some 54, (some (52, false)), .ld (.t 53) 1 false⟩, 
              ⟨some 55, (some (52, false)), .bin .neq (.t 54) (.c (.p (.int .i64 0)))⟩, 
              ⟨some 56, none, .pick (.t 52) (.c (.p (.bool true))) (.t 55)⟩, 
              ⟨some 57, none, .mov (.t 56)⟩, 
              ⟨some 58, (some (57, false)), .off (.t 7) 5⟩, 
              ⟨some 59, (some (57, false)), .ld (.t 58) 1 false⟩, 
              ⟨some 60, (some (57, false)), .bin .neq (.t 59) (.c (.p (.int .i64 0)))⟩, 
              ⟨some 61, none, .pick (.t 57) (.c (.p (.bool true))) (.t 60)⟩, 
              ⟨some 5, none, .mov (.t 61)⟩] [1, 4, 5, 7, 34, 35, 36] [1, 7])))
          (.seq (.reg false [⟨some 62, none, .mov (.t 5)⟩, 
            ⟨some 63, none, .mov (.t 62)⟩, 
            ⟨some 64, (some (63, false)), .mov (.t 4)⟩, 
            ⟨some 65, (some (63, false)), .off (.t 7) 1⟩, 
            ⟨some 66, (some (63, false)), .ld (.t 65) 1 false⟩, 
            ⟨some 67, (some (63, false)), .bsl 1 1 [.p (.int .i64 0)] [(0, (.t 66))]⟩, 
            ⟨some 68, (some (63, false)), .callv (.t 64) [(.t 67)] false⟩, 
            ⟨some 69, none, .pick (.t 63) (.c (.p (.bool true))) (.t 68)⟩, 
            ⟨some 5, none, .mov (.t 69)⟩] [1, 4, 5, 34, 35, 36] [1])
          (.exit 2)))))))
      (.reg false [⟨some 70, none, .bin .add (.t 36) (.c (.p (.int .i64 1)))⟩, 
        ⟨some 36, none, .mov (.t 70)⟩] [1, 4, 5, 34, 35, 36] [1])))))
def lp48_1 : IC :=
  (.loop [1, 4, 5, 72, 73, 74] [1] (.seq (.reg false [⟨some 75, none, .bin .lss (.t 74) (.t 73)⟩] [1, 4, 5, 72, 73, 74, 75] [1])
      (.seq (.cond (.t 75)
      .skip
      (.exit 5))
      (.seq (.block 6 (.seq (.reg false [⟨some 76, none, .ixs (.t 72) (.t 74) 2⟩, 
          ⟨some 77, none, .ld (.t 76) 2 true⟩, 
          ⟨some 9, none, .al [.nils, .nils] true⟩, 
          ⟨none, none, .st (.t 9) (.t 77) 2⟩] [1, 4, 5, 9, 72, 73, 74] [1, 9])
        (.reg false [⟨some 78, none, .mov (.t 5)⟩, 
          ⟨some 79, none, .mov (.t 78)⟩, 
          ⟨some 80, (some (79, false)), .mov (.t 4)⟩, 
          ⟨some 81, (some (79, false)), .off (.t 9) 0⟩, 
          ⟨some 82, (some (79, false)), .ld (.t 81) 1 false⟩, 
          ⟨some 83, (some (79, false)), .callv (.t 80) [(.t 82)] false⟩, 
          ⟨some 84, none, .pick (.t 79) (.c (.p (.bool true))) (.t 83)⟩, 
          ⟨some 5, none, .mov (.t 84)⟩] [1, 4, 5, 72, 73, 74] [1])))
      (.reg false [⟨some 85, none, .bin .add (.t 74) (.c (.p (.int .i64 1)))⟩, 
        ⟨some 74, none, .mov (.t 85)⟩] [1, 4, 5, 72, 73, 74] [1])))))
def lp48_2 : IC :=
  (.loop [4, 5, 87, 88, 89] [] (.seq (.reg false [⟨some 90, none, .bin .lss (.t 89) (.t 88)⟩] [4, 5, 87, 88, 89, 90] [])
      (.seq (.cond (.t 90)
      .skip
      (.exit 7))
      (.seq (.block 8 (.seq (.reg false [⟨some 91, none, .ixs (.t 87) (.t 89) 3⟩, 
          ⟨some 92, none, .ld (.t 91) 3 true⟩, 
          ⟨some 11, none, .al [.p (.int .i64 0), .p (.int .i64 0), .p (.int .i64 0)] true⟩, 
          ⟨none, none, .st (.t 11) (.t 92) 3⟩] [4, 5, 11, 87, 88, 89] [11])
        (.reg false [⟨some 93, none, .mov (.t 5)⟩, 
          ⟨some 94, none, .mov (.t 93)⟩, 
          ⟨some 95, (some (94, false)), .mov (.t 4)⟩, 
          ⟨some 96, (some (94, false)), .off (.t 11) 1⟩, 
          ⟨some 97, (some (94, false)), .ld (.t 96) 1 false⟩, 
          ⟨some 98, (some (94, false)), .bsl 1 1 [.p (.int .i64 0)] [(0, (.t 97))]⟩, 
          ⟨some 99, (some (94, false)), .callv (.t 95) [(.t 98)] false⟩, 
          ⟨some 100, none, .pick (.t 94) (.c (.p (.bool true))) (.t 99)⟩, 
          ⟨some 5, none, .mov (.t 100)⟩] [4, 5, 87, 88, 89] [])))
      (.reg false [⟨some 101, none, .bin .add (.t 89) (.c (.p (.int .i64 1)))⟩, 
        ⟨some 89, none, .mov (.t 101)⟩] [4, 5, 87, 88, 89] [])))))
def ir48 : IFn :=   -- tympan/grid.On
⟨(.seq (.reg false [⟨some 1, none, .bx (.t 0) 22 true⟩, 
    ⟨some 2, none, .mov (.c (.p (.bool false)))⟩] [1] [1])
  (.seq (.reg false [⟨some 12, none, .off (.t 1) 0⟩, 
    ⟨some 13, none, .off (.t 12) 5⟩, 
    ⟨some 14, none, .ld (.t 13) 1 false⟩, 
    ⟨some 3, none, .al [.p (.int .i64 0)] false⟩, 
    ⟨none, none, .st (.t 3) (.t 14) 1⟩] [1, 3] [1])
  (.seq (.seq (.reg false [⟨some 15, none, .ld (.t 3) 1 false⟩, 
    ⟨some 16, none, .bin .lss (.t 15) (.c (.p (.int .i64 1)))⟩] [1, 3, 16] [1])
  (.cond (.t 16)
  (.seq (.reg false [⟨some 2, none, .mov (.c (.p (.bool true)))⟩] [2] [])
    .ret)
  .skip))
  (.seq (.reg false [⟨some 17, none, .mkf (.func 101) [] [(.t 3)]⟩, 
    ⟨some 4, none, .mov (.t 17)⟩] [1, 4] [1])
  (.seq (.reg false [⟨some 18, none, .mov (.t 4)⟩, 
    ⟨some 19, none, .off (.t 1) 0⟩, 
    ⟨some 20, none, .off (.t 19) 3⟩, 
    ⟨some 21, none, .ld (.t 20) 1 false⟩, 
    ⟨some 22, none, .off (.t 1) 0⟩, 
    ⟨some 23, none, .off (.t 22) 4⟩, 
    ⟨some 24, none, .ld (.t 23) 1 false⟩, 
    ⟨some 25, none, .off (.t 1) 0⟩, 
    ⟨some 26, none, .off (.t 25) 6⟩, 
    ⟨some 27, none, .ld (.t 26) 1 false⟩, 
    ⟨some 28, none, .off (.t 1) 0⟩, 
    ⟨some 29, none, .off (.t 28) 7⟩, 
    ⟨some 30, none, .ld (.t 29) 1 false⟩, 
    ⟨some 31, none, .bsl 1 4 [.p (.int .i64 0)] [(0, (.t 21)), (1, (.t 24)), (2, (.t 27)), (3, (.t 30))]⟩, 
    ⟨some 32, none, .callv (.t 18) [(.t 31)] false⟩, 
    ⟨some 5, none, .mov (.t 32)⟩] [1, 4, 5] [1])
  (.seq (.seq (.reg false [⟨some 33, none, .off (.t 1) 19⟩, 
    ⟨some 34, none, .ld (.t 33) 1 false⟩, 
    ⟨some 35, none, .len (.t 34)⟩, 
    ⟨some 36, none, .mov (.c (.p (.int .i64 0)))⟩] [1, 4, 5, 34, 35, 36] [1])
  (.block 0 lp48_0))
  (.seq (.seq (.reg false [⟨some 71, none, .off (.t 1) 20⟩, 
    ⟨some 72, none, .ld (.t 71) 1 false⟩, 
    ⟨some 73, none, .len (.t 72)⟩, 
    ⟨some 74, none, .mov (.c (.p (.int .i64 0)))⟩] [1, 4, 5, 72, 73, 74] [1])
  (.block 5 lp48_1))
  (.seq (.seq (.reg false [⟨some 86, none, .off (.t 1) 21⟩, 
    ⟨some 87, none, .ld (.t 86) 1 false⟩, 
    ⟨some 88, none, .len (.t 87)⟩, 
    ⟨some 89, none, .mov (.c (.p (.int .i64 0)))⟩] [4, 5, 87, 88, 89] [])
  (.block 7 lp48_2))
  (.seq (.reg false [⟨some 102, none, .mov (.t 5)⟩, 
    ⟨some 103, none, .un .not (.t 102)⟩, 
    ⟨some 2, none, .mov (.t 103)⟩] [2] [])
  .ret))))))))),
  [.tmp 2], false⟩
def lp50_0 : IC :=
  (.loop [1, 2, 3, 4, 5] [1, 2, 4] (.seq (.seq (.reg false [⟨some 48, none, .mov (.t 5)⟩, 
        ⟨some 49, none, .off (.t 1) 19⟩, 
        ⟨some 50, none, .ld (.t 49) 1 false⟩, 
        ⟨some 51, none, .len (.t 50)⟩, 
        ⟨some 52, none, .bin .lss (.t 48) (.t 51)⟩] [1, 2, 3, 4, 5, 52] [1, 2, 4])
      (.cond (.t 52)
      .skip
      (.exit 0)))
      (.seq (.block 1 (.reg true [⟨some 55, none, .off (.t 4) 19⟩, 
          ⟨some 56, none, .ld (.t 55) 1 false⟩, 
          ⟨some 57, none, .off (.t 1) 19⟩, 
          ⟨some 58, none, .ld (.t 57) 1 false⟩, 
          ⟨some 59, none, .mov (.t 5)⟩, 
          ⟨some 60, none, .ixs (.t 58) (.t 59) 7⟩, 
          ⟨some 61, none, .ld (.t 60) 7 true⟩, 
          ⟨some 62, none, .mov (.t 3)⟩, 
          ⟨some 63, none, .call 108 [(.t 61), (.t 62)] true⟩, 
          ⟨some 64, none, .bsl 7 1 [.p (.int .i64 0), .p (.int .i64 0), .p (.int .i64 0), .p (.int .i64 0), .p (.int .i64 0), .p (.int .i64 0), .p (.int .i64 0)] [(0, (.t 63))]⟩, 
          ⟨some 65, none, .app (.t 56) (.t 64) 7⟩, 
          ⟨some 66, none, .off (.t 4) 19⟩, 
          ⟨none, none, .st (.t 66) (.t 65) 1⟩] [1, 2, 3, 4, 5] [1, 2, 4]))
      (.reg false [⟨some 53, none, .mov (.t 5)⟩, 
        ⟨some 54, none, .bin .add (.t 53) (.c (.p (.int .i64 1)))⟩, 
        ⟨some 5, none, .mov (.t 54)⟩] [1, 2, 3, 4, 5] [1, 2, 4]))))
def lp50_1 : IC :=
  (.loop [1, 2, 3, 4, 6, 7, 8] [1, 2, 4, 7] (.seq (.seq (.reg false [⟨some 81, none, .mov (.t 8)⟩, 
              ⟨some 82, none, .off (.t 1) 20⟩, 
              ⟨some 83, none, .ld (.t 82) 1 false⟩, 
              ⟨some 84, none, .mov (.t 6)⟩, 
              ⟨some 85, none, .ixs (.t 83) (.t 84) 2⟩, 
              ⟨some 86, none, .off (.t 85) 0⟩, 
              ⟨some 87, none, .ld (.t 86) 1 false⟩, 
              ⟨some 88, none, .len (.t 87)⟩, 
              ⟨some 89, none, .bin .lss (.t 81) (.t 88)⟩] [1, 2, 3, 4, 6, 7, 8, 89] [1, 2, 4, 7])
            (.cond (.t 89)
            .skip
            (.exit 4)))
            (.seq (.block 5 (.reg true [⟨some 92, none, .off (.t 7) 0⟩, 
                ⟨some 93, none, .ld (.t 92) 1 false⟩, 
                ⟨some 94, none, .off (.t 1) 20⟩, 
                ⟨some 95, none, .ld (.t 94) 1 false⟩, 
                ⟨some 96, none, .mov (.t 6)⟩, 
                ⟨some 97, none, .ixs (.t 95) (.t 96) 2⟩, 
                ⟨some 98, none, .off (.t 97) 0⟩, 
                ⟨some 99, none, .ld (.t 98) 1 false⟩, 
                ⟨some 100, none, .mov (.t 8)⟩, 
                ⟨some 101, none, .ixs (.t 99) (.t 100) 1⟩, 
                ⟨some 102, none, .ld (.t 101) 1 false⟩, 
                ⟨some 103, none, .mov (.t 3)⟩, 
                ⟨some 104, none, .call 107 [(.t 102), (.t 103)] true⟩, 
                ⟨some 105, none, .bsl 1 1 [.p (.int .i64 0)] [(0, (.t 104))]⟩, 
                ⟨some 106, none, .app (.t 93) (.t 105) 1⟩, 
                ⟨some 107, none, .off (.t 7) 0⟩, 
                ⟨none, none, .st (.t 107) (.t 106) 1⟩] [1, 2, 3, 4, 6, 7, 8] [1, 2, 4, 7]))
            (.reg false [⟨some 90, none, .mov (.t 8)⟩, 
              ⟨some 91, none, .bin .add (.t 90) (.c (.p (.int .i64 1)))⟩, 
              ⟨some 8, none, .mov (.t 91)⟩] [1, 2, 3, 4, 6, 7, 8] [1, 2, 4, 7]))))
def lp50_2 : IC :=
  (.loop [1, 2, 3, 4, 6] [1, 2, 4] (.seq (.seq (.reg false [⟨some 67, none, .mov (.t 6)⟩, 
        ⟨some 68, none, .off (.t 1) 20⟩, 
        ⟨some 69, none, .ld (.t 68) 1 false⟩, 
        ⟨some 70, none, .len (.t 69)⟩, 
        ⟨some 71, none, .bin .lss (.t 67) (.t 70)⟩] [1, 2, 3, 4, 6, 71] [1, 2, 4])
      (.cond (.t 71)
      .skip
      (.exit 2)))
      (.seq (.block 3 (.seq (.reg false [⟨some 74, none, .off (.t 1) 20⟩, 
          ⟨some 75, none, .ld (.t 74) 1 false⟩, 
          ⟨some 76, none, .mov (.t 6)⟩, 
          ⟨some 77, none, .ixs (.t 75) (.t 76) 2⟩, 
          ⟨some 78, none, .off (.t 77) 1⟩, 
          ⟨some 79, none, .ld (.t 78) 1 false⟩, 
          ⟨some 80, none, .bld [.nils, .nils] [(1, 1, (.t 79))]⟩, 
          ⟨some 7, none, .al [.nils, .nils] true⟩, 
          ⟨none, none, .st (.t 7) (.t 80) 2⟩] [1, 2, 3, 4, 6, 7] [1, 2, 4, 7])
        (.seq (.seq (.reg false [⟨some 8, none, .mov (.c (.p (.int .i64 0)))⟩] [1, 2, 3, 4, 6, 7, 8] [1, 2, 4, 7])
        (.block 4 lp50_1))
        (.reg false [⟨some 108, none, .off (.t 4) 20⟩, 
          ⟨some 109, none, .ld (.t 108) 1 false⟩, 
          ⟨some 110, none, .ld (.t 7) 2 true⟩, 
          ⟨some 111, none, .bsl 2 1 [.nils, .nils] [(0, (.t 110))]⟩, 
          ⟨some 112, none, .app (.t 109) (.t 111) 2⟩, 
          ⟨some 113, none, .off (.t 4) 20⟩, 
          ⟨none, none, .st (.t 113) (.t 112) 1⟩] [1, 2, 3, 4, 6] [1, 2, 4]))))
      (.reg false [⟨some 72, none, .mov (.t 6)⟩, 
        ⟨some 73, none, .bin .add (.t 72) (.c (.p (.int .i64 1)))⟩, 
        ⟨some 6, none, .mov (.t 73)⟩] [1, 2, 3, 4, 6] [1, 2, 4]))))
def lp50_3 : IC :=
  (.loop [1, 2, 3, 4, 9] [1, 2, 4] (.seq (.seq (.reg false [⟨some 114, none, .mov (.t 9)⟩, 
        ⟨some 115, none, .off (.t 1) 21⟩, 
        ⟨some 116, none, .ld (.t 115) 1 false⟩, 
        ⟨some 117, none, .len (.t 116)⟩, 
        ⟨some 118, none, .bin .lss (.t 114) (.t 117)⟩] [1, 2, 3, 4, 9, 118] [1, 2, 4])
      (.cond (.t 118)
      .skip
      (.exit 6)))
      (.seq (.block 7 (.seq (.reg false [⟨some 121, none, .off (.t 1) 21⟩, 
          ⟨some 122, none, .ld (.t 121) 1 false⟩, 
          ⟨some 123, none, .mov (.t 9)⟩, 
          ⟨some 124, none, .ixs (.t 122) (.t 123) 3⟩, 
          ⟨some 125, none, .ld (.t 124) 3 true⟩, 
          ⟨some 10, none, .al [.p (.int .i64 0), .p (.int .i64 0), .p (.int .i64 0)] true⟩, 
          ⟨none, none, .st (.t 10) (.t 125) 3⟩] [1, 2, 3, 4, 9, 10] [1, 2, 4, 10])
        (.seq (.reg false [⟨some 126, none, .off (.t 10) 1⟩, 
          ⟨some 127, none, .ld (.t 126) 1 false⟩, 
          ⟨some 128, none, .mov (.t 3)⟩, 
          ⟨some 129, none, .call 107 [(.t 127), (.t 128)] false⟩, 
          ⟨some 130, none, .off (.t 10) 1⟩, 
          ⟨none, none, .st (.t 130) (.t 129) 1⟩] [1, 2, 3, 4, 9, 10] [1, 2, 4, 10])
        (.reg false [⟨some 131, none, .off (.t 4) 21⟩, 
          ⟨some 132, none, .ld (.t 131) 1 false⟩, 
          ⟨some 133, none, .ld (.t 10) 3 true⟩, 
          ⟨some 134, none, .bsl 3 1 [.p (.int .i64 0), .p (.int .i64 0), .p (.int .i64 0)] [(0, (.t 133))]⟩, 
          ⟨some 135, none, .app (.t 132) (.t 134) 3⟩, 
          ⟨some 136, none, .off (.t 4) 21⟩, 
          ⟨none, none, .st (.t 136) (.t 135) 1⟩] [1, 2, 3, 4, 9] [1, 2, 4]))))
      (.reg false [⟨some 119, none, .mov (.t 9)⟩, 
        ⟨some 120, none, .bin .add (.t 119) (.c (.p (.int .i64 1)))⟩, 
        ⟨some 9, none, .mov (.t 120)⟩] [1, 2, 3, 4, 9] [1, 2, 4]))))
def ir50 : IFn :=   -- tympan/tympanref14.Snap
⟨(.seq (.reg false [⟨some 1, none, .bx (.t 0) 22 true⟩, 
    ⟨some 2, none, .al [.p (.int .i64 0), .p (.int .i64 0), .p (.int .i64 0), .p (.int .i64 0), .p (.int .i64 0), .p (.int .i64 0), .p (.int .i64 0), .p (.int .i64 0), .p (.int .i64 0), .p (.int .i64 0), .p (.int .i64 0), .p (.int .i64 0), .p (.int .i64 0), .p (.int .i64 0), .p (.int .i64 0), .p (.int .i64 0), .p (.int .i64 0), .p (.int .i64 0), .p (.bool false), .nils, .nils, .nils] true⟩] [1, 2] [1, 2])
  (.seq (.reg false [⟨some 11, none, .off (.t 1) 0⟩, 
    ⟨some 12, none, .off (.t 11) 5⟩, 
    ⟨some 13, none, .ld (.t 12) 1 false⟩, 
    ⟨some 3, none, .mov (.t 13)⟩] [1, 2, 3] [1, 2])
  (.seq (.seq (.reg false [⟨some 14, none, .mov (.t 3)⟩, 
    ⟨some 15, none, .bin .lss (.t 14) (.c (.p (.int .i64 1)))⟩] [1, 2, 3, 15] [1, 2])
  (.cond (.t 15)
  (.seq (.reg false [⟨some 16, none, .ld (.t 1) 22 true⟩, 
      ⟨none, none, .st (.t 2) (.t 16) 22⟩] [2] [2])
    .ret)
  .skip))
  (.seq (.reg false [⟨some 17, none, .off (.t 1) 0⟩, 
    ⟨some 18, none, .ld (.t 17) 19 true⟩, 
    ⟨some 19, none, .bld [.p (.int .i64 0), .p (.int .i64 0), .p (.int .i64 0), .p (.int .i64 0), .p (.int .i64 0), .p (.int .i64 0), .p (.int .i64 0), .p (.int .i64 0), .p (.int .i64 0), .p (.int .i64 0), .p (.int .i64 0), .p (.int .i64 0), .p (.int .i64 0), .p (.int .i64 0), .p (.int .i64 0), .p (.int .i64 0), .p (.int .i64 0), .p (.int .i64 0), .p (.bool false), .nils, .nils, .nils] [(0, 19, (.t 18))]⟩, 
    ⟨some 4, none, .al [.p (.int .i64 0), .p (.int .i64 0), .p (.int .i64 0), .p (.int .i64 0), .p (.int .i64 0), .p (.int .i64 0), .p (.int .i64 0), .p (.int .i64 0), .p (.int .i64 0), .p (.int .i64 0), .p (.int .i64 0), .p (.int .i64 0), .p (.int .i64 0), .p (.int .i64 0), .p (.int .i64 0), .p (.int .i64 0), .p (.int .i64 0), .p (.int .i64 0), .p (.bool false), .nils, .nils, .nils] true⟩, 
    ⟨none, none, .st (.t 4) (.t 19) 22⟩] [1, 2, 3, 4] [1, 2, 4])
  (.seq (.reg false [⟨some 20, none, .off (.t 1) 0⟩, 
    ⟨some 21, none, .off (.t 20) 3⟩, 
    ⟨some 22, none, .ld (.t 21) 1 false⟩, 
    ⟨some 23, none, .mov (.t 3)⟩, 
    ⟨some 24, none, .call 106 [(.t 22), (.t 23)] false⟩, 
    ⟨some 25, none, .off (.t 4) 0⟩, 
    ⟨some 26, none, .off (.t 25) 3⟩, 
    ⟨none, none, .st (.t 26) (.t 24) 1⟩] [1, 2, 3, 4] [1, 2, 4])
  (.seq (.reg false [⟨some 27, none, .off (.t 1) 0⟩, 
    ⟨some 28, none, .off (.t 27) 4⟩, 
    ⟨some 29, none, .ld (.t 28) 1 false⟩, 
    ⟨some 30, none, .mov (.t 3)⟩, 
    ⟨some 31, none, .call 106 [(.t 29), (.t 30)] false⟩, 
    ⟨some 32, none, .off (.t 4) 0⟩, 
    ⟨some 33, none, .off (.t 32) 4⟩, 
    ⟨none, none, .st (.t 33) (.t 31) 1⟩] [1, 2, 3, 4] [1, 2, 4])
  (.seq (.reg false [⟨some 34, none, .off (.t 1) 0⟩, 
    ⟨some 35, none, .off (.t 34) 6⟩, 
    ⟨some 36, none, .ld (.t 35) 1 false⟩, 
    ⟨some 37, none, .mov (.t 3)⟩, 
    ⟨some 38, none, .call 107 [(.t 36), (.t 37)] false⟩, 
    ⟨some 39, none, .off (.t 4) 0⟩, 
    ⟨some 40, none, .off (.t 39) 6⟩, 
    ⟨none, none, .st (.t 40) (.t 38) 1⟩] [1, 2, 3, 4] [1, 2, 4])
  (.seq (.reg false [⟨some 41, none, .off (.t 1) 0⟩, 
    ⟨some 42, none, .off (.t 41) 7⟩, 
    ⟨some 43, none, .ld (.t 42) 1 false⟩, 
    ⟨some 44, none, .mov (.t 3)⟩, 
    ⟨some 45, none, .call 107 [(.t 43), (.t 44)] false⟩, 
    ⟨some 46, none, .off (.t 4) 0⟩, 
    ⟨some 47, none, .off (.t 46) 7⟩, 
    ⟨none, none, .st (.t 47) (.t 45) 1⟩] [1, 2, 3, 4] [1, 2, 4])
  (.seq (.seq (.reg false [⟨some 5, none, .mov (.c (.p (.int .i64 0)))⟩] [1, 2, 3, 4, 5] [1, 2, 4])
  (.block 0 lp50_0))
  (.seq (.seq (.reg false [⟨some 6, none, .mov (.c (.p (.int .i64 0)))⟩] [1, 2, 3, 4, 6] [1, 2, 4])
  (.block 2 lp50_2))
  (.seq (.seq (.reg false [⟨some 9, none, .mov (.c (.p (.int .i64 0)))⟩] [1, 2, 3, 4, 9] [1, 2, 4])
  (.block 6 lp50_3))
  (.seq (.reg false [⟨some 137, none, .ld (.t 4) 22 true⟩, 
    ⟨none, none, .st (.t 2) (.t 137) 22⟩] [2] [2])
  .ret)))))))))))),
  [.cell 2 22 true], false⟩
def lp51_0 : IC :=
  (.loop [1, 3, 4] [1] (.seq (.seq (.reg false [⟨some 44, none, .mov (.t 4)⟩, 
        ⟨some 45, none, .off (.t 1) 19⟩, 
        ⟨some 46, none, .ld (.t 45) 1 false⟩, 
        ⟨some 47, none, .len (.t 46)⟩, 
        ⟨some 48, none, .bin .lss (.t 44) (.t 47)⟩] [1, 3, 4, 48] [1])
      (.cond (.t 48)
      .skip
      (.exit 0)))
      (.seq (.block 1 (.seq (.reg false [⟨some 51, none, .off (.t 1) 19⟩, 
          ⟨some 52, none, .ld (.t 51) 1 false⟩, 
          ⟨some 53, none, .mov (.t 4)⟩, 
          ⟨some 54, none, .ixs (.t 52) (.t 53) 7⟩, 
          ⟨some 55, none, .ld (.t 54) 7 true⟩, 
          ⟨some 5, none, .al [.p (.int .i64 0), .p (.int .i64 0), .p (.int .i64 0), .p (.int .i64 0), .p (.int .i64 0), .p (.int .i64 0), .p (.int .i64 0)] true⟩, 
          ⟨none, none, .st (.t 5) (.t 55) 7⟩] [1, 3, 4, 5] [1, 5])
        (.seq (.reg false [⟨some 56, none, .off (.t 5) 0⟩, 
          ⟨some 57, none, .ld (.t 56) 1 false⟩, 
          ⟨some 58, none, .bin .eql (.t 57) (.c (.p (.int .i64 1)))⟩, 
          ⟨some 59, none, .mov (.t 58)⟩, 
          ⟨some 60, (some (59, false)), .off (.t 5) 0⟩, 
          ⟨some 61, (some (59, false)), .ld (.t 60) 1 false⟩, 
          ⟨some 62, (some (59, false)), .bin .eql (.t 61) (.c (.p (.int .i64 2)))⟩, 
          ⟨some 63, none, .pick (.t 59) (.c (.p (.bool true))) (.t 62)⟩, 
          ⟨some 64, none, .mov (.t 63)⟩, 
          ⟨some 65, (some (64, true)), .off (.t 5) 1⟩, 
          ⟨some 66, (some (64, true)), .ld (.t 65) 1 false⟩, 
          ⟨some 67, (some (64, true)), .mov (.t 3)⟩, 
          ⟨some 68, (some (64, true)), .bin .rem (.t 66) (.t 67)⟩, 
          ⟨some 69, (some (64, true)), .bin .neq (.t 68) (.c (.p (.int .i64 0)))⟩, 
          ⟨some 70, none, .pick (.t 64) (.t 69) (.c (.p (.bool false)))⟩, 
          ⟨some 71, none, .mov (.t 70)⟩, 
          ⟨some 72, (some (71, false)), .off (.t 5) 0⟩, 
          ⟨some 73, (some (71, false)), .ld (.t 72) 1 false⟩, 
          ⟨some 74, (some (71, false)), .bin .eql (.t 73) (.c (.p (.int .i64 2)))⟩, 
          ⟨some 75, (some (71, false)), .mov (.t 74)⟩, 
          ⟨some 76, (some (75, true)), .off (.t 5) 3⟩, 
          ⟨some 77, (some (75, true)), .ld (.t 76) 1 false⟩, 
          ⟨some 78, (some (75, true)), .bin .neq (.t 77) (.c (.p (.int .i64 0)))⟩, 
          ⟨some 79, (some (75, true)), .mov (.t 78)⟩, 
          ⟨some 80, (some (79, false)), .off (.t 5) 4⟩, 
          ⟨some 81, (some (79, false)), .ld (.t 80) 1 false⟩, 
          ⟨some 82, (some (79, false)), .bin .neq (.t 81) (.c (.p (.int .i64 0)))⟩, 
          ⟨some 83, (some (75, true)), .pick (.t 79) (.c (.p (.bool true))) (.t 82)⟩, 
          ⟨some 84, (some (75, true)), .mov (.t 83)⟩, 
          ⟨some 85, (some (84, false)), .off (.t 5) 5⟩, 
          ⟨some 86, (some (84, false)), .ld (.t 85) 1 false⟩, 
          ⟨some 87, (some (84, false)), .bin .neq (.t 86) (.c (.p (.int .i64 0)))⟩, 
          ⟨some 88, (some (75, true)), .pick (.t 84) (.c (.p (.bool true))) (.t 87)⟩, 
          ⟨some 89, (some (71, false)), .pick (.t 75) (.t 88) (.c (.p (.bool false)))⟩, 
          ⟨some 90, none, .pick (.t 71) (.c (.p (.bool true))) (.t 89)⟩] [1, 3, 4, 90] [1])
        (.cond (.t 90)
        (.seq (.reg false [⟨some 2, none, .mov (.c (.p (.bool false)))⟩] [2] [])
          .ret)
        .skip))))
      (.reg false [⟨some 49, none, .mov (.t 4)⟩, 
        ⟨some 50, none, .bin .add (.t 49) (.c (.p (.int .i64 1)))⟩, 
        ⟨some 4, none, .mov (.t 50)⟩] [1, 3, 4] [1]))))
def lp51_1 : IC :=
  (.loop [1, 3, 6, 7] [1] (.seq (.seq (.reg false [⟨some 98, none, .mov (.t 7)⟩, 
              ⟨some 99, none, .off (.t 1) 20⟩, 
              ⟨some 100, none, .ld (.t 99) 1 false⟩, 
              ⟨some 101, none, .mov (.t 6)⟩, 
              ⟨some 102, none, .ixs (.t 100) (.t 101) 2⟩, 
              ⟨some 103, none, .off (.t 102) 0⟩, 
              ⟨some 104, none, .ld (.t 103) 1 false⟩, 
              ⟨some 105, none, .len (.t 104)⟩, 
              ⟨some 106, none, .bin .lss (.t 98) (.t 105)⟩] [1, 3, 6, 7, 106] [1])
            (.cond (.t 106)
            .skip
            (.exit 4)))
            (.seq (.block 5 (.seq (.reg false [⟨some 109, none, .off (.t 1) 20⟩, 
                ⟨some 110, none, .ld (.t 109) 1 false⟩, 
                ⟨some 111, none, .mov (.t 6)⟩, 
                ⟨some 112, none, .ixs (.t 110) (.t 111) 2⟩, 
                ⟨some 113, none, .off (.t 112) 0⟩, 
                ⟨some 114, none, .ld (.t 113) 1 false⟩, 
                ⟨some 115, none, .mov (.t 7)⟩, 
                ⟨some 116, none, .ixs (.t 114) (.t 115) 1⟩, 
                ⟨some 117, none, .ld (.t 116) 1 false⟩, 
                ⟨some 118, none, .mov (.t 3)⟩, 
                ⟨some 119, none, .bin .rem (.t 117) (.t 118)⟩, 
                ⟨some 120, none, .bin .neq (.t 119) (.c (.p (.int .i64 0)))⟩] [1, 3, 6, 7, 120] [1])
              (.cond (.t 120)
              (.seq (.reg false [⟨some 2, none, .mov (.c (.p (.bool false)))⟩] [2] [])
                .ret)
              .skip)))
            (.reg false [⟨some 107, none, .mov (.t 7)⟩, 
              ⟨some 108, none, .bin .add (.t 107) (.c (.p (.int .i64 1)))⟩, 
              ⟨some 7, none, .mov (.t 108)⟩] [1, 3, 6, 7] [1]))))
def lp51_2 : IC :=
  (.loop [1, 3, 6] [1] (.seq (.seq (.reg false [⟨some 91, none, .mov (.t 6)⟩, 
        ⟨some 92, none, .off (.t 1) 20⟩, 
        ⟨some 93, none, .ld (.t 92) 1 false⟩, 
        ⟨some 94, none, .len (.t 93)⟩, 
        ⟨some 95, none, .bin .lss (.t 91) (.t 94)⟩] [1, 3, 6, 95] [1])
      (.cond (.t 95)
      .skip
      (.exit 2)))
      (.seq (.block 3 (.seq (.reg false [⟨some 7, none, .mov (.c (.p (.int .i64 0)))⟩] [1, 3, 6, 7] [1])
        (.block 4 lp51_1)))
      (.reg false [⟨some 96, none, .mov (.t 6)⟩, 
        ⟨some 97, none, .bin .add (.t 96) (.c (.p (.int .i64 1)))⟩, 
        ⟨some 6, none, .mov (.t 97)⟩] [1, 3, 6] [1]))))
def lp51_3 : IC :=
  (.loop [1, 3, 8] [1] (.seq (.seq (.reg false [⟨some 121, none, .mov (.t 8)⟩, 
        ⟨some 122, none, .off (.t 1) 21⟩, 
        ⟨some 123, none, .ld (.t 122) 1 false⟩, 
        ⟨some 124, none, .len (.t 123)⟩, 
        ⟨some 125, none, .bin .lss (.t 121) (.t 124)⟩] [1, 3, 8, 125] [1])
      (.cond (.t 125)
      .skip
      (.exit 6)))
      (.seq (.block 7 (.seq (.reg false [⟨some 128, none, .off (.t 1) 21⟩, 
          ⟨some 129, none, .ld (.t 128) 1 false⟩, 
          ⟨some 130, none, .mov (.t 8)⟩, 
          ⟨some 131, none, .ixs (.t 129) (.t 130) 3⟩, 
          ⟨some 132, none, .off (.t 131) 1⟩, 
          ⟨some 133, none, .ld (.t 132) 1 false⟩, 
          ⟨some 134, none, .mov (.t 3)⟩, 
          ⟨some 135, none, .bin .rem (.t 133) (.t 134)⟩, 
          ⟨some 136, none, .bin .neq (.t 135) (.c (.p (.int .i64 0)))⟩] [1, 3, 8, 136] [1])
        (.cond (.t 136)
        (.seq (.reg false [⟨some 2, none, .mov (.c (.p (.bool false)))⟩] [2] [])
          .ret)
        .skip)))
      (.reg false [⟨some 126, none, .mov (.t 8)⟩, 
        ⟨some 127, none, .bin .add (.t 126) (.c (.p (.int .i64 1)))⟩, 
        ⟨some 8, none, .mov (.t 127)⟩] [1, 3, 8] [1]))))
def ir51 : IFn :=   -- tympan/tympanref14.On
⟨(.seq (.reg false [⟨some 1, none, .bx (.t 0) 22 true⟩, 
    ⟨some 2, none, .mov (.c (.p (.bool false)))⟩] [1] [1])
  (.seq (.reg false [⟨some 9, none, .off (.t 1) 0⟩, 
    ⟨some 10, none, .off (.t 9) 5⟩, 
    ⟨some 11, none, .ld (.t 10) 1 false⟩, 
    ⟨some 3, none, .mov (.t 11)⟩] [1, 3] [1])
  (.seq (.seq (.reg false [⟨some 12, none, .mov (.t 3)⟩, 
    ⟨some 13, none, .bin .lss (.t 12) (.c (.p (.int .i64 1)))⟩] [1, 3, 13] [1])
  (.cond (.t 13)
  (.seq (.reg false [⟨some 2, none, .mov (.c (.p (.bool true)))⟩] [2] [])
    .ret)
  .skip))
  (.seq (.seq (.reg false [⟨some 14, none, .off (.t 1) 0⟩, 
    ⟨some 15, none, .off (.t 14) 3⟩, 
    ⟨some 16, none, .ld (.t 15) 1 false⟩, 
    ⟨some 17, none, .mov (.t 3)⟩, 
    ⟨some 18, none, .bin .rem (.t 16) (.t 17)⟩, 
    ⟨some 19, none, .bin .neq (.t 18) (.c (.p (.int .i64 0)))⟩, 
    ⟨some 20, none, .mov (.t 19)⟩, 
    ⟨some 21, (some (20, false)), .off (.t 1) 0⟩, 
    ⟨some 22, (some (20, false)), .off (.t 21) 4⟩, 
    ⟨some 23, (some (20, false)), .ld (.t 22) 1 false⟩, 
    ⟨some 24, (some (20, false)), .mov (.t 3)⟩, 
    ⟨some 25, (some (20, false)), .bin .rem (.t 23) (.t 24)⟩, 
    ⟨some 26, (some (20, false)), .bin .neq (.t 25) (.c (.p (.int .i64 0)))⟩, 
    ⟨some 27, none, .pick (.t 20) (.c (.p (.bool true))) (.t 26)⟩, 
    ⟨some 28, none, .mov (.t 27)⟩, 
    ⟨some 29, (some (28, false)), .off (.t 1) 0⟩, 
    ⟨some 30, (some (28, false)), .off (.t 29) 6⟩, 
    ⟨some 31, (some (28, false)), .ld (.t 30) 1 false⟩, 
    ⟨some 32, (some (28, false)), .mov (.t 3)⟩, 
    ⟨some 33, (some (28, false)), .bin .rem (.t 31) (.t 32)⟩, 
    ⟨some 34, (some (28, false)), .bin .neq (.t 33) (.c (.p (.int .i64 0)))⟩, 
    ⟨some 35, none, .pick (.t 28) (.c (.p (.bool true))) (.t 34)⟩, 
    ⟨some 36, none, .mov (.t 35)⟩, 
    ⟨some 37, (some (36, false)), .off (.t 1) 0⟩, 
    ⟨some 38, (some (36, false)), .off (.t 37) 7⟩, 
    ⟨some 39, (some (36, false)), .ld (.t 38) 1 false⟩, 
    ⟨some 40, (some (36, false)), .mov (.t 3)⟩, 
    ⟨some 41, (some (36, false)), .bin .rem (.t 39) (.t 40)⟩, 
    ⟨some 42, (some (36, false)), .bin .neq (.t 41) (.c (.p (.int .i64 0)))⟩, 
    ⟨some 43, none, .pick (.t 36) (.c (.p (.bool true))) (.t 42)⟩] [1, 3, 43] [1])
  (.cond (.t 43)
  (.seq (.reg false [⟨some 2, none, .mov (.c (.p (.bool false)))⟩] [2] [])
    .ret)
  .skip))
  (.seq (.seq (.reg false [⟨some 4, none, .mov (.c (.p (.int .i64 0)))⟩] [1, 3, 4] [1])
  (.block 0 lp51_0))
  (.seq (.seq (.reg false [⟨some 6, none, .mov (.c (.p (.int .i64 0)))⟩] [1, 3, 6] [1])
  (.block 2 lp51_2))
  (.seq (.seq (.reg false [⟨some 8, none, .mov (.c (.p (.int .i64 0)))⟩] [1, 3, 8] [1])
  (.block 6 lp51_3))
  (.seq (.reg false [⟨some 2, none, .mov (.c (.p (.bool true)))⟩] [2] [])
  .ret)))))))),
  [.tmp 2], false⟩
def ir53 : IFn :=   -- tympan/tympanlaw15.awake
⟨(.seq (.reg false [⟨some 0, none, .mov (.c (.p (.bool false)))⟩] [] [])
  (.seq (.reg false [⟨some 5, none, .bld [.p (.int .i64 0), .p (.int .i64 0), .p (.int .i64 0), .p (.int .i64 0), .p (.int .i64 0), .p (.int .i64 0), .p (.int .i64 0), .p (.int .i64 0), .p (.int .i64 0), .p (.int .i64 0), .p (.int .i64 0), .p (.int .i64 0), .p (.int .i64 0), .p (.int .i64 0), .p (.int .i64 0), .p (.int .i64 0), .p (.int .i64 0), .p (.int .i64 0), .p (.bool false)] [(0, 1, (.c (.p (.int .i64 1)))), (1, 1, (.c (.p (.int .i64 1)))), (3, 1, (.c (.p (.int .i64 9)))), (4, 1, (.c (.p (.int .i64 9))))]⟩, 
    ⟨some 6, none, .bld [.p (.int .i64 0), .p (.int .i64 0), .p (.int .i64 0), .p (.int .i64 0), .p (.int .i64 0), .p (.int .i64 0), .p (.int .i64 0)] [(0, 1, (.c (.p (.int .i64 1)))), (1, 1, (.c (.p (.int .i64 3))))]⟩, 
    ⟨some 7, none, .bld [.p (.int .i64 0), .p (.int .i64 0), .p (.int .i64 0), .p (.int .i64 0), .p (.int .i64 0), .p (.int .i64 0), .p (.int .i64 0)] [(0, 1, (.c (.p (.int .i64 6))))]⟩, 
    ⟨some 8, none, .bsl 7 2 [.p (.int .i64 0), .p (.int .i64 0), .p (.int .i64 0), .p (.int .i64 0), .p (.int .i64 0), .p (.int .i64 0), .p (.int .i64 0)] [(0, (.t 6)), (1, (.t 7))]⟩, 
    ⟨some 9, none, .bld [.p (.int .i64 0), .p (.int .i64 0), .p (.int .i64 0)] [(1, 1, (.c (.p (.int .i64 9))))]⟩, 
    ⟨some 10, none, .bsl 3 1 [.p (.int .i64 0), .p (.int .i64 0), .p (.int .i64 0)] [(0, (.t 9))]⟩, 
    ⟨some 11, none, .bld [.p (.int .i64 0), .p (.int .i64 0), .p (.int .i64 0), .p (.int .i64 0), .p (.int .i64 0), .p (.int .i64 0), .p (.int .i64 0), .p (.int .i64 0), .p (.int .i64 0), .p (.int .i64 0), .p (.int .i64 0), .p (.int .i64 0), .p (.int .i64 0), .p (.int .i64 0), .p (.int .i64 0), .p (.int .i64 0), .p (.int .i64 0), .p (.int .i64 0), .p (.bool false), .nils, .nils, .nils] [(0, 19, (.t 5)), (19, 1, (.t 8)), (21, 1, (.t 10))]⟩, 
    ⟨some 1, none, .al [.p (.int .i64 0), .p (.int .i64 0), .p (.int .i64 0), .p (.int .i64 0), .p (.int .i64 0), .p (.int .i64 0), .p (.int .i64 0), .p (.int .i64 0), .p (.int .i64 0), .p (.int .i64 0), .p (.int .i64 0), .p (.int .i64 0), .p (.int .i64 0), .p (.int .i64 0), .p (.int .i64 0), .p (.int .i64 0), .p (.int .i64 0), .p (.int .i64 0), .p (.bool false), .nils, .nils, .nils] true⟩, 
    ⟨none, none, .st (.t 1) (.t 11) 22⟩] [1] [1])
  (.seq (.reg false [⟨some 12, none, .ld (.t 1) 22 true⟩, 
    ⟨some 2, none, .al [.p (.int .i64 0), .p (.int .i64 0), .p (.int .i64 0), .p (.int .i64 0), .p (.int .i64 0), .p (.int .i64 0), .p (.int .i64 0), .p (.int .i64 0), .p (.int .i64 0), .p (.int .i64 0), .p (.int .i64 0), .p (.int .i64 0), .p (.int .i64 0), .p (.int .i64 0), .p (.int .i64 0), .p (.int .i64 0), .p (.int .i64 0), .p (.int .i64 0), .p (.bool false), .nils, .nils, .nils] true⟩, 
    ⟨none, none, .st (.t 2) (.t 12) 22⟩] [1, 2] [1, 2])
  (.seq (.reg false [⟨some 13, none, .bld [.p (.int .i64 0), .p (.int .i64 0), .p (.int .i64 0)] [(1, 1, (.c (.p (.int .i64 10))))]⟩, 
    ⟨some 14, none, .bsl 3 1 [.p (.int .i64 0), .p (.int .i64 0), .p (.int .i64 0)] [(0, (.t 13))]⟩, 
    ⟨some 15, none, .off (.t 2) 21⟩, 
    ⟨none, none, .st (.t 15) (.t 14) 1⟩] [1, 2] [1, 2])
  (.seq (.reg false [⟨some 17, none, .ld (.t 2) 22 true⟩, 
    ⟨some 18, none, .call 54 [(.t 17)] false⟩, 
    ⟨some 16, none, .mov (.t 18)⟩, 
    ⟨some 19, none, .ext (.t 16) 0⟩, 
    ⟨some 20, none, .ext (.t 16) 1⟩, 
    ⟨some 3, none, .mov (.t 19)⟩, 
    ⟨some 4, none, .mov (.t 20)⟩] [1, 3, 4] [1])
  (.seq (.reg false [⟨some 21, none, .ld (.t 1) 22 true⟩, 
    ⟨some 22, none, .call 56 [(.t 21)] false⟩, 
    ⟨some 23, none, .mov (.t 22)⟩, 
    ⟨some 24, (some (23, true)), .mov (.t 3)⟩, 
    ⟨some 25, (some (23, true)), .bin .eql (.t 24) (.c (.p (.int .i64 12)))⟩, 
    ⟨some 26, none, .pick (.t 23) (.t 25) (.c (.p (.bool false)))⟩, 
    ⟨some 27, none, .mov (.t 26)⟩, 
    ⟨some 28, (some (27, true)), .mov (.t 4)⟩, 
    ⟨some 29, (some (27, true)), .bin .eql (.t 28) (.c (.p (.int .i64 0)))⟩, 
    ⟨some 30, none, .pick (.t 27) (.t 29) (.c (.p (.bool false)))⟩, 
    ⟨some 0, none, .mov (.t 30)⟩] [0] [])
  .ret)))))),
  [.tmp 0], false⟩
def lp54_0 : IC :=
  (.loop [1, 7, 8, 9] [1] (.seq (.reg false [⟨some 10, none, .bin .lss (.t 9) (.t 8)⟩] [1, 7, 8, 9, 10] [1])
      (.seq (.cond (.t 10)
      .skip
      (.exit 0))
      (.seq (.block 1 (.seq (.reg false [⟨some 11, none, .ixs (.t 7) (.t 9) 2⟩, 
          ⟨some 12, none, .ld (.t 11) 2 true⟩, 
          ⟨some 5, none, .al [.p (.int .i64 0), .p .nilf] true⟩, 
          ⟨none, none, .st (.t 5) (.t 12) 2⟩] [1, 5, 7, 8, 9] [1, 5])
        (.seq (.reg false [⟨some 13, none, .off (.t 5) 1⟩, 
          ⟨some 14, none, .ld (.t 13) 1 false⟩, 
          ⟨some 15, none, .ld (.t 1) 22 true⟩, 
          ⟨some 16, none, .callv (.t 14) [(.t 15)] false⟩, 
          ⟨some 6, none, .mov (.t 16)⟩] [1, 5, 6, 7, 8, 9] [1, 5])
        (.seq (.reg false [⟨some 17, none, .mov (.t 6)⟩, 
          ⟨some 18, none, .bin .geq (.t 17) (.c (.p (.int .i64 0)))⟩] [1, 5, 6, 7, 8, 9, 18] [1, 5])
        (.cond (.t 18)
        (.seq (.reg false [⟨some 19, none, .off (.t 5) 0⟩, 
            ⟨some 20, none, .ld (.t 19) 1 false⟩, 
            ⟨some 21, none, .mov (.t 6)⟩, 
            ⟨some 2, none, .mov (.t 20)⟩, 
            ⟨some 3, none, .mov (.t 21)⟩] [2, 3] [])
          .ret)
        .skip)))))
      (.reg false [⟨some 22, none, .bin .add (.t 9) (.c (.p (.int .i64 1)))⟩, 
        ⟨some 9, none, .mov (.t 22)⟩] [1, 7, 8, 9] [1])))))
def ir54 : IFn :=   -- tympan/valid.Check
⟨(.seq (.reg false [⟨some 1, none, .bx (.t 0) 22 true⟩, 
    ⟨some 2, none, .mov (.c (.p (.int .i64 0)))⟩, 
    ⟨some 3, none, .mov (.c (.p (.int .i64 0)))⟩] [1] [1])
  (.seq (.seq (.reg false [⟨some 7, none, .call 112 [] false⟩, 
    ⟨some 8, none, .len (.t 7)⟩, 
    ⟨some 9, none, .mov (.c (.p (.int .i64 0)))⟩] [1, 7, 8, 9] [1])
  (.block 0 lp54_0))
  (.seq (.reg false [⟨some 2, none, .mov (.c (.p (.int .i64 0)))⟩, 
    ⟨some 3, none, .mov (.c (.p (.int .i64 0)))⟩] [2, 3] [])
  .ret))),
  [.tmp 2, .tmp 3], false⟩
def lp55_0 : IC :=
  (.loop [1, 2, 4] [1, 2] (.seq (.seq (.reg false [⟨some 33, none, .mov (.t 4)⟩, 
        ⟨some 34, none, .off (.t 1) 19⟩, 
        ⟨some 35, none, .ld (.t 34) 1 false⟩, 
        ⟨some 36, none, .len (.t 35)⟩, 
        ⟨some 37, none, .bin .lss (.t 33) (.t 36)⟩] [1, 2, 4, 37] [1, 2])
      (.cond (.t 37)
      .skip
      (.exit 0)))
      (.seq (.block 1 (.seq (.reg false [⟨some 40, none, .off (.t 1) 19⟩, 
          ⟨some 41, none, .ld (.t 40) 1 false⟩, 
          ⟨some 42, none, .mov (.t 4)⟩, 
          ⟨some 43, none, .ixs (.t 41) (.t 42) 7⟩, 
          ⟨some 44, none, .ld (.t 43) 7 true⟩, 
          ⟨some 45, none, .call 57 [(.t 44)] false⟩, 
          ⟨some 46, none, .un .not (.t 45)⟩] [1, 2, 4, 46] [1, 2])
        (.cond (.t 46)
        (.seq (.reg false [⟨some 47, none, .mov (.t 4)⟩, 
            ⟨some 48, none, .bld [.p (.int .i64 0), .p (.int .i64 0)] [(0, 1, (.c (.p (.int .i64 8)))), (1, 1, (.t 47))]⟩, 
            ⟨none, none, .st (.t 2) (.t 48) 2⟩] [2] [2])
          .ret)
        .skip)))
      (.reg false [⟨some 38, none, .mov (.t 4)⟩, 
        ⟨some 39, none, .bin .add (.t 38) (.c (.p (.int .i64 1)))⟩, 
        ⟨some 4, none, .mov (.t 39)⟩] [1, 2, 4] [1, 2]))))
def lp55_1 : IC :=
  (.loop [1, 2, 5] [1, 2] (.seq (.seq (.reg false [⟨some 49, none, .mov (.t 5)⟩, 
        ⟨some 50, none, .off (.t 1) 20⟩, 
        ⟨some 51, none, .ld (.t 50) 1 false⟩, 
        ⟨some 52, none, .len (.t 51)⟩, 
        ⟨some 53, none, .bin .lss (.t 49) (.t 52)⟩] [1, 2, 5, 53] [1, 2])
      (.cond (.t 53)
      .skip
      (.exit 2)))
      (.seq (.block 3 (.seq (.reg false [⟨some 56, none, .off (.t 1) 20⟩, 
          ⟨some 57, none, .ld (.t 56) 1 false⟩, 
          ⟨some 58, none, .mov (.t 5)⟩, 
          ⟨some 59, none, .ixs (.t 57) (.t 58) 2⟩, 
          ⟨some 60, none, .ld (.t 59) 2 true⟩, 
          ⟨some 61, none, .call 19 [(.t 60)] false⟩, 
          ⟨some 62, none, .un .not (.t 61)⟩] [1, 2, 5, 62] [1, 2])
        (.cond (.t 62)
        (.seq (.reg false [⟨some 63, none, .mov (.t 5)⟩, 
            ⟨some 64, none, .bld [.p (.int .i64 0), .p (.int .i64 0)] [(0, 1, (.c (.p (.int .i64 9)))), (1, 1, (.t 63))]⟩, 
            ⟨none, none, .st (.t 2) (.t 64) 2⟩] [2] [2])
          .ret)
        .skip)))
      (.reg false [⟨some 54, none, .mov (.t 5)⟩, 
        ⟨some 55, none, .bin .add (.t 54) (.c (.p (.int .i64 1)))⟩, 
        ⟨some 5, none, .mov (.t 55)⟩] [1, 2, 5] [1, 2]))))
def lp55_2 : IC :=
  (.loop [1, 2, 6] [1, 2] (.seq (.seq (.reg false [⟨some 65, none, .mov (.t 6)⟩, 
        ⟨some 66, none, .off (.t 1) 21⟩, 
        ⟨some 67, none, .ld (.t 66) 1 false⟩, 
        ⟨some 68, none, .len (.t 67)⟩, 
        ⟨some 69, none, .bin .lss (.t 65) (.t 68)⟩] [1, 2, 6, 69] [1, 2])
      (.cond (.t 69)
      .skip
      (.exit 4)))
      (.seq (.block 5 (.seq (.reg false [⟨some 72, none, .off (.t 1) 21⟩, 
          ⟨some 73, none, .ld (.t 72) 1 false⟩, 
          ⟨some 74, none, .mov (.t 6)⟩, 
          ⟨some 75, none, .ixs (.t 73) (.t 74) 3⟩, 
          ⟨some 76, none, .ld (.t 75) 3 true⟩, 
          ⟨some 77, none, .call 114 [(.t 76)] false⟩, 
          ⟨some 78, none, .un .not (.t 77)⟩] [1, 2, 6, 78] [1, 2])
        (.cond (.t 78)
        (.seq (.reg false [⟨some 79, none, .mov (.t 6)⟩, 
            ⟨some 80, none, .bld [.p (.int .i64 0), .p (.int .i64 0)] [(0, 1, (.c (.p (.int .i64 10)))), (1, 1, (.t 79))]⟩, 
            ⟨none, none, .st (.t 2) (.t 80) 2⟩] [2] [2])
          .ret)
        .skip)))
      (.reg false [⟨some 70, none, .mov (.t 6)⟩, 
        ⟨some 71, none, .bin .add (.t 70) (.c (.p (.int .i64 1)))⟩, 
        ⟨some 6, none, .mov (.t 71)⟩] [1, 2, 6] [1, 2]))))
def lp55_3 : IC :=
  (.loop [2, 9, 10] [2, 9] (.seq (.seq (.reg false [⟨some 112, none, .mov (.t 10)⟩, 
        ⟨some 113, none, .off (.t 9) 21⟩, 
        ⟨some 114, none, .ld (.t 113) 1 false⟩, 
        ⟨some 115, none, .len (.t 114)⟩, 
        ⟨some 116, none, .bin .lss (.t 112) (.t 115)⟩] [2, 9, 10, 116] [2, 9])
      (.cond (.t 116)
      .skip
      (.exit 6)))
      (.seq (.block 7 (.seq (.reg true [⟨some 119, none, .off (.t 9) 21⟩, 
          ⟨some 120, none, .ld (.t 119) 1 false⟩, 
          ⟨some 121, none, .mov (.t 10)⟩, 
          ⟨some 122, none, .ixs (.t 120) (.t 121) 3⟩, 
          ⟨some 123, none, .off (.t 122) 1⟩, 
          ⟨some 124, none, .ld (.t 123) 1 false⟩, 
          ⟨some 125, none, .off (.t 9) 0⟩, 
          ⟨some 126, none, .off (.t 125) 4⟩, 
          ⟨some 127, none, .ld (.t 126) 1 false⟩, 
          ⟨some 128, none, .bin .gtr (.t 124) (.t 127)⟩] [2, 9, 10, 128] [2, 9])
        (.cond (.t 128)
        (.seq (.reg false [⟨some 129, none, .mov (.t 10)⟩, 
            ⟨some 130, none, .bld [.p (.int .i64 0), .p (.int .i64 0)] [(0, 1, (.c (.p (.int .i64 12)))), (1, 1, (.t 129))]⟩, 
            ⟨none, none, .st (.t 2) (.t 130) 2⟩] [2] [2])
          .ret)
        .skip)))
      (.reg false [⟨some 117, none, .mov (.t 10)⟩, 
        ⟨some 118, none, .bin .add (.t 117) (.c (.p (.int .i64 1)))⟩, 
        ⟨some 10, none, .mov (.t 118)⟩] [2, 9, 10] [2, 9]))))
def ir55 : IFn :=   -- tympan/tympanref15.Check
⟨(.seq (.reg false [⟨some 1, none, .bx (.t 0) 22 true⟩, 
    ⟨some 2, none, .al [.p (.int .i64 0), .p (.int .i64 0)] true⟩] [1, 2] [1, 2])
  (.seq (.seq (.reg false [⟨some 11, none, .off (.t 1) 19⟩, 
    ⟨some 12, none, .ld (.t 11) 1 false⟩, 
    ⟨some 13, none, .len (.t 12)⟩, 
    ⟨some 14, none, .bin .gtr (.t 13) (.c (.p (.int .i64 4096)))⟩] [1, 2, 14] [1, 2])
  (.cond (.t 14)
  (.seq (.reg false [⟨some 15, none, .bld [.p (.int .i64 0), .p (.int .i64 0)] [(0, 1, (.c (.p (.int .i64 3))))]⟩, 
      ⟨none, none, .st (.t 2) (.t 15) 2⟩] [2] [2])
    .ret)
  .skip))
  (.seq (.seq (.reg false [⟨some 16, none, .off (.t 1) 21⟩, 
    ⟨some 17, none, .ld (.t 16) 1 false⟩, 
    ⟨some 18, none, .len (.t 17)⟩, 
    ⟨some 19, none, .bin .gtr (.t 18) (.c (.p (.int .i64 256)))⟩] [1, 2, 19] [1, 2])
  (.cond (.t 19)
  (.seq (.reg false [⟨some 20, none, .bld [.p (.int .i64 0), .p (.int .i64 0)] [(0, 1, (.c (.p (.int .i64 4))))]⟩, 
      ⟨none, none, .st (.t 2) (.t 20) 2⟩] [2] [2])
    .ret)
  .skip))
  (.seq (.seq (.reg false [⟨some 21, none, .off (.t 1) 20⟩, 
    ⟨some 22, none, .ld (.t 21) 1 false⟩, 
    ⟨some 23, none, .len (.t 22)⟩, 
    ⟨some 24, none, .bin .gtr (.t 23) (.c (.p (.int .i64 512)))⟩] [1, 2, 24] [1, 2])
  (.cond (.t 24)
  (.seq (.reg false [⟨some 25, none, .bld [.p (.int .i64 0), .p (.int .i64 0)] [(0, 1, (.c (.p (.int .i64 5))))]⟩, 
      ⟨none, none, .st (.t 2) (.t 25) 2⟩] [2] [2])
    .ret)
  .skip))
  (.seq (.seq (.reg false [⟨some 26, none, .off (.t 1) 0⟩, 
    ⟨some 27, none, .ld (.t 26) 19 true⟩, 
    ⟨some 28, none, .call 113 [(.t 27)] false⟩, 
    ⟨some 3, none, .mov (.t 28)⟩] [1, 2, 3] [1, 2])
  (.seq (.reg false [⟨some 29, none, .mov (.t 3)⟩, 
    ⟨some 30, none, .bin .neq (.t 29) (.c (.p (.int .i64 0)))⟩] [1, 2, 3, 30] [1, 2])
  (.cond (.t 30)
  (.seq (.reg false [⟨some 31, none, .mov (.t 3)⟩, 
      ⟨some 32, none, .bld [.p (.int .i64 0), .p (.int .i64 0)] [(0, 1, (.t 31))]⟩, 
      ⟨none, none, .st (.t 2) (.t 32) 2⟩] [2] [2])
    .ret)
  .skip)))
  (.seq (.seq (.reg false [⟨some 4, none, .mov (.c (.p (.int .i64 0)))⟩] [1, 2, 4] [1, 2])
  (.block 0 lp55_0))
  (.seq (.seq (.reg false [⟨some 5, none, .mov (.c (.p (.int .i64 0)))⟩] [1, 2, 5] [1, 2])
  (.block 2 lp55_1))
  (.seq (.seq (.reg false [⟨some 6, none, .mov (.c (.p (.int .i64 0)))⟩] [1, 2, 6] [1, 2])
  (.block 4 lp55_2))
  (.seq (.reg true [⟨some 81, none, .off (.t 1) 19⟩, 
    ⟨some 82, none, .ld (.t 81) 1 false⟩, 
    ⟨some 83, none, .off (.t 1) 20⟩, 
    ⟨some 84, none, .ld (.t 83) 1 false⟩, 
    ⟨some 85, none, .len (.t 84)⟩, 
    ⟨some 86, none, .call 115 [(.t 82), (.c (.p (.int .i64 5))), (.t 85)] true⟩, 
    ⟨some 87, none, .off (.t 1) 19⟩, 
    ⟨some 88, none, .ld (.t 87) 1 false⟩, 
    ⟨some 89, none, .off (.t 1) 21⟩, 
    ⟨some 90, none, .ld (.t 89) 1 false⟩, 
    ⟨some 91, none, .len (.t 90)⟩, 
    ⟨some 92, none, .call 115 [(.t 88), (.c (.p (.int .i64 6))), (.t 91)] true⟩, 
    ⟨some 7, none, .mov (.t 86)⟩, 
    ⟨some 8, none, .mov (.t 92)⟩] [1, 2, 7, 8] [1, 2])
  (.seq (.seq (.reg false [⟨some 93, none, .mov (.t 7)⟩, 
    ⟨some 94, none, .bin .geq (.t 93) (.c (.p (.int .i64 0)))⟩, 
    ⟨some 95, none, .mov (.t 94)⟩, 
    ⟨some 96, (some (95, true)), .mov (.t 8)⟩, 
    ⟨some 97, (some (95, true)), .bin .lss (.t 96) (.c (.p (.int .i64 0)))⟩, 
    ⟨some 98, (some (95, true)), .mov (.t 97)⟩, 
    ⟨some 99, (some (98, false)), .mov (.t 7)⟩, 
    ⟨some 100, (some (98, false)), .mov (.t 8)⟩, 
    ⟨some 101, (some (98, false)), .bin .leq (.t 99) (.t 100)⟩, 
    ⟨some 102, (some (95, true)), .pick (.t 98) (.c (.p (.bool true))) (.t 101)⟩, 
    ⟨some 103, none, .pick (.t 95) (.t 102) (.c (.p (.bool false)))⟩] [1, 2, 7, 8, 103] [1, 2])
  (.cond (.t 103)
  (.seq (.reg false [⟨some 104, none, .mov (.t 7)⟩, 
      ⟨some 105, none, .bld [.p (.int .i64 0), .p (.int .i64 0)] [(0, 1, (.c (.p (.int .i64 11)))), (1, 1, (.t 104))]⟩, 
      ⟨none, none, .st (.t 2) (.t 105) 2⟩] [2] [2])
    .ret)
  .skip))
  (.seq (.seq (.reg false [⟨some 106, none, .mov (.t 8)⟩, 
    ⟨some 107, none, .bin .geq (.t 106) (.c (.p (.int .i64 0)))⟩] [1, 2, 8, 107] [1, 2])
  (.cond (.t 107)
  (.seq (.reg false [⟨some 108, none, .mov (.t 8)⟩, 
      ⟨some 109, none, .bld [.p (.int .i64 0), .p (.int .i64 0)] [(0, 1, (.c (.p (.int .i64 11)))), (1, 1, (.t 108))]⟩, 
      ⟨none, none, .st (.t 2) (.t 109) 2⟩] [2] [2])
    .ret)
  .skip))
  (.seq (.reg false [⟨some 110, none, .ld (.t 1) 22 true⟩, 
    ⟨some 111, none, .call 50 [(.t 110)] false⟩, 
    ⟨some 9, none, .al [.p (.int .i64 0), .p (.int .i64 0), .p (.int .i64 0), .p (.int .i64 0), .p (.int .i64 0), .p (.int .i64 0), .p (.int .i64 0), .p (.int .i64 0), .p (.int .i64 0), .p (.int .i64 0), .p (.int .i64 0), .p (.int .i64 0), .p (.int .i64 0), .p (.int .i64 0), .p (.int .i64 0), .p (.int .i64 0), .p (.int .i64 0), .p (.int .i64 0), .p (.bool false), .nils, .nils, .nils] true⟩, 
    ⟨none, none, .st (.t 9) (.t 111) 22⟩] [2, 9] [2, 9])
  (.seq (.seq (.reg false [⟨some 10, none, .mov (.c (.p (.int .i64 0)))⟩] [2, 9, 10] [2, 9])
  (.block 6 lp55_3))
  (.seq (.reg false [⟨some 131, none, .bld [.p (.int .i64 0), .p (.int .i64 0)] []⟩, 
    ⟨none, none, .st (.t 2) (.t 131) 2⟩] [2] [2])
  .ret)))))))))))))),
  [.cell 2 2 true], false⟩
def ir56 : IFn :=   -- tympan/valid.Right
⟨(.seq (.reg false [⟨some 1, none, .bx (.t 0) 22 true⟩, 
    ⟨some 2, none, .mov (.c (.p (.bool false)))⟩] [1] [1])
  (.seq (.reg false [⟨some 6, none, .ld (.t 1) 22 true⟩, 
    ⟨some 7, none, .call 54 [(.t 6)] false⟩, 
    ⟨some 5, none, .mov (.t 7)⟩, 
    ⟨some 8, none, .ext (.t 5) 0⟩, 
    ⟨some 9, none, .ext (.t 5) 1⟩, 
    ⟨some 3, none, .mov (.t 8)⟩, 
    ⟨some 4, none, .mov (.t 9)⟩] [3] [])
  (.seq (.reg false [⟨some 10, none, .mov (.t 3)⟩, 
    ⟨some 11, none, .bin .eql (.t 10) (.c (.p (.int .i64 0)))⟩, 
    ⟨some 2, none, .mov (.t 11)⟩] [2] [])
  .ret))),
  [.tmp 2], false⟩
def lp58_0 : IC :=
  (.loop [1, 4, 5, 6] [] (.seq (.reg false [⟨some 7, none, .bin .lss (.t 6) (.t 5)⟩] [1, 4, 5, 6, 7] [])
      (.seq (.cond (.t 7)
      .skip
      (.exit 0))
      (.seq (.block 1 (.seq (.reg false [⟨some 8, none, .ixs (.t 4) (.t 6) 2⟩, 
          ⟨some 9, none, .ld (.t 8) 2 true⟩, 
          ⟨some 3, none, .al [.p (.int .i64 0), .p .nilf] true⟩, 
          ⟨none, none, .st (.t 3) (.t 9) 2⟩] [1, 3, 4, 5, 6] [3])
        (.reg false [⟨some 10, none, .mov (.t 1)⟩, 
          ⟨some 11, none, .off (.t 3) 0⟩, 
          ⟨some 12, none, .ld (.t 11) 1 false⟩, 
          ⟨some 13, none, .bsl 1 1 [.p (.int .i64 0)] [(0, (.t 12))]⟩, 
          ⟨some 14, none, .app (.t 10) (.t 13) 1⟩, 
          ⟨some 1, none, .mov (.t 14)⟩] [1, 4, 5, 6] [])))
      (.reg false [⟨some 15, none, .bin .add (.t 6) (.c (.p (.int .i64 1)))⟩, 
        ⟨some 6, none, .mov (.t 15)⟩] [1, 4, 5, 6] [])))))
def ir58 : IFn :=   -- tympan/valid.Clauses
⟨(.seq (.reg false [⟨some 0, none, .mov (.c (.nils))⟩] [] [])
  (.seq (.reg false [⟨some 1, none, .nrow 1⟩] [1] [])
  (.seq (.seq (.reg false [⟨some 4, none, .call 112 [] false⟩, 
    ⟨some 5, none, .len (.t 4)⟩, 
    ⟨some 6, none, .mov (.c (.p (.int .i64 0)))⟩] [1, 4, 5, 6] [])
  (.block 0 lp58_0))
  (.seq (.reg false [⟨some 16, none, .mov (.t 1)⟩, 
    ⟨some 0, none, .mov (.t 16)⟩] [0] [])
  .ret)))),
  [.tmp 0], false⟩
def ir59 : IFn :=   -- tympan/valid.Anchors
⟨(.seq (.reg false [⟨some 3, none, .bx (.t 1) 1 false⟩, 
    ⟨some 4, none, .mov (.c (.p (.int .i64 0)))⟩] [0, 3] [])
  (.seq (.reg false [⟨some 5, none, .al [.p (.int .i64 0)] false⟩, 
    ⟨none, none, .st (.t 5) (.c (.p (.int .i64 0))) 1⟩] [0, 3, 5] [])
  (.seq (.reg false [⟨some 6, none, .mov (.t 0)⟩, 
    ⟨some 7, none, .mkf (.func 118) [] [(.t 3), (.t 5)]⟩, 
    ⟨some 8, none, .call 117 [(.t 6), (.t 7)] false⟩, 
    ⟨some 4, none, .mov (.t 8)⟩] [4] [])
  .ret))),
  [.tmp 4], false⟩
def lp60_0 : IC :=
  (.loop [0, 1, 5, 6] [] (.seq (.seq (.reg false [⟨some 7, none, .mov (.t 6)⟩, 
        ⟨some 8, none, .mov (.t 0)⟩, 
        ⟨some 9, none, .len (.t 8)⟩, 
        ⟨some 10, none, .bin .lss (.t 7) (.t 9)⟩] [0, 1, 5, 6, 10] [])
      (.cond (.t 10)
      .skip
      (.exit 0)))
      (.seq (.block 1 (.seq (.reg false [⟨some 13, none, .mov (.t 0)⟩, 
          ⟨some 14, none, .mov (.t 6)⟩, 
          ⟨some 15, none, .ixs (.t 13) (.t 14) 7⟩, 
          ⟨some 16, none, .off (.t 15) 0⟩, 
          ⟨some 17, none, .ld (.t 16) 1 false⟩, 
          ⟨some 18, none, .mov (.t 1)⟩, 
          ⟨some 19, none, .bin .eql (.t 17) (.t 18)⟩] [0, 1, 5, 6, 19] [])
        (.cond (.t 19)
        (.seq (.seq (.reg false [⟨some 20, none, .mov (.t 0)⟩, 
            ⟨some 21, none, .mov (.t 6)⟩, 
            ⟨some 22, none, .ixs (.t 20) (.t 21) 7⟩, 
            ⟨some 23, none, .off (.t 22) 6⟩, 
            ⟨some 24, none, .ld (.t 23) 1 false⟩, 
            ⟨some 25, none, .mov (.t 5)⟩, 
            ⟨some 26, none, .bin .neq (.t 24) (.t 25)⟩] [0, 1, 5, 6, 26] [])
          (.cond (.t 26)
          (.seq (.reg false [⟨some 27, none, .mov (.t 6)⟩, 
              ⟨some 4, none, .mov (.t 27)⟩] [4] [])
            .ret)
          .skip))
          (.reg false [⟨some 28, none, .mov (.t 5)⟩, 
            ⟨some 29, none, .bin .add (.t 28) (.c (.p (.int .i64 1)))⟩, 
            ⟨some 5, none, .mov (.t 29)⟩] [0, 1, 5, 6] []))
        .skip)))
      (.reg false [⟨some 11, none, .mov (.t 6)⟩, 
        ⟨some 12, none, .bin .add (.t 11) (.c (.p (.int .i64 1)))⟩, 
        ⟨some 6, none, .mov (.t 12)⟩] [0, 1, 5, 6] []))))
def ir60 : IFn :=   -- tympan/tympanref15.Anchors
⟨(.seq (.reg false [⟨some 4, none, .mov (.c (.p (.int .i64 0)))⟩] [0, 1] [])
  (.seq (.reg false [⟨some 5, none, .mov (.c (.p (.int .i64 0)))⟩] [0, 1, 5] [])
  (.seq (.seq (.reg false [⟨some 6, none, .mov (.c (.p (.int .i64 0)))⟩] [0, 1, 5, 6] [])
  (.block 0 lp60_0))
  (.seq (.reg false [⟨some 4, none, .mov (.c (.p (.int .i64 (-1))))⟩] [4] [])
  .ret)))),
  [.tmp 4], false⟩
def lp61_0 : IC :=
  (.loop [0, 3, 4] [] (.seq (.seq (.reg false [⟨some 22, none, .mov (.t 4)⟩, 
              ⟨some 23, none, .mov (.t 0)⟩, 
              ⟨some 24, none, .mov (.t 3)⟩, 
              ⟨some 25, none, .ixs (.t 23) (.t 24) 4⟩, 
              ⟨some 26, none, .off (.t 25) 0⟩, 
              ⟨some 27, none, .ld (.t 26) 1 false⟩, 
              ⟨some 28, none, .len (.t 27)⟩, 
              ⟨some 29, none, .bin .lss (.t 22) (.t 28)⟩] [0, 3, 4, 29] [])
            (.cond (.t 29)
            .skip
            (.exit 2)))
            (.seq (.block 3 (.seq (.reg false [⟨some 32, none, .mov (.t 0)⟩, 
                ⟨some 33, none, .mov (.t 3)⟩, 
                ⟨some 34, none, .ixs (.t 32) (.t 33) 4⟩, 
                ⟨some 35, none, .off (.t 34) 0⟩, 
                ⟨some 36, none, .ld (.t 35) 1 false⟩, 
                ⟨some 37, none, .mov (.t 4)⟩, 
                ⟨some 38, none, .ixs (.t 36) (.t 37) 2⟩, 
                ⟨some 39, none, .off (.t 38) 1⟩, 
                ⟨some 40, none, .ld (.t 39) 1 false⟩, 
                ⟨some 41, none, .len (.t 40)⟩, 
                ⟨some 42, none, .bin .gtr (.t 41) (.c (.p (.int .i64 100)))⟩] [0, 3, 4, 42] [])
              (.cond (.t 42)
              (.seq (.reg false [⟨some 2, none, .mov (.c (.p (.bool true)))⟩] [2] [])
                .ret)
              .skip)))
            (.reg false [⟨some 30, none, .mov (.t 4)⟩, 
              ⟨some 31, none, .bin .add (.t 30) (.c (.p (.int .i64 1)))⟩, 
              ⟨some 4, none, .mov (.t 31)⟩] [0, 3, 4] []))))
def lp61_1 : IC :=
  (.loop [0, 3] [] (.seq (.seq (.reg false [⟨some 5, none, .mov (.t 3)⟩, 
        ⟨some 6, none, .mov (.t 0)⟩, 
        ⟨some 7, none, .len (.t 6)⟩, 
        ⟨some 8, none, .bin .lss (.t 5) (.t 7)⟩, 
        ⟨some 9, none, .mov (.t 8)⟩, 
        ⟨some 10, (some (9, true)), .mov (.t 3)⟩, 
        ⟨some 11, (some (9, true)), .bin .lss (.t 10) (.c (.p (.int .i64 40)))⟩, 
        ⟨some 12, none, .pick (.t 9) (.t 11) (.c (.p (.bool false)))⟩] [0, 3, 12] [])
      (.cond (.t 12)
      .skip
      (.exit 0)))
      (.seq (.block 1 (.seq (.seq (.reg false [⟨some 15, none, .mov (.t 0)⟩, 
          ⟨some 16, none, .mov (.t 3)⟩, 
          ⟨some 17, none, .ixs (.t 15) (.t 16) 4⟩, 
          ⟨some 18, none, .off (.t 17) 0⟩, 
          ⟨some 19, none, .ld (.t 18) 1 false⟩, 
          ⟨some 20, none, .len (.t 19)⟩, 
          ⟨some 21, none, .bin .gtr (.t 20) (.c (.p (.int .i64 20)))⟩] [0, 3, 21] [])
        (.cond (.t 21)
        (.seq (.reg false [⟨some 2, none, .mov (.c (.p (.bool true)))⟩] [2] [])
          .ret)
        .skip))
        (.seq (.reg false [⟨some 4, none, .mov (.c (.p (.int .i64 0)))⟩] [0, 3, 4] [])
        (.block 2 lp61_0))))
      (.reg false [⟨some 13, none, .mov (.t 3)⟩, 
        ⟨some 14, none, .bin .add (.t 13) (.c (.p (.int .i64 1)))⟩, 
        ⟨some 3, none, .mov (.t 14)⟩] [0, 3] []))))
def ir61 : IFn :=   -- tympan/tympanlaw38.Large
⟨(.seq (.reg false [⟨some 2, none, .mov (.c (.p (.bool false)))⟩] [0] [])
  (.seq (.seq (.reg false [⟨some 3, none, .mov (.c (.p (.int .i64 0)))⟩] [0, 3] [])
  (.block 0 lp61_1))
  (.seq (.reg false [⟨some 43, none, .mov (.t 0)⟩, 
    ⟨some 44, none, .len (.t 43)⟩, 
    ⟨some 45, none, .bin .gtr (.t 44) (.c (.p (.int .i64 40)))⟩, 
    ⟨some 2, none, .mov (.t 45)⟩] [2] [])
  .ret))),
  [.tmp 2], false⟩
end Go.EnvOf
