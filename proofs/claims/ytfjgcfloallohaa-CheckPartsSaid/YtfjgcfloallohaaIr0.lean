/- The engine's instructions for the functions, part 0. -/
import Derived.Test.YtfjgcfloallohaaEngAll2
namespace Go.EnvOf
open Go Go.Eng
set_option maxRecDepth 100000
def ir13 : IFn :=   -- tympan/tympanlaw41.CheckParts
⟨(.seq (.reg false [⟨some 2, none, .bx (.t 0) 2 true⟩, 
    ⟨some 4, none, .mov (.c (.p (.bool false)))⟩] [1, 2] [2])
  (.seq (.seq (.reg false [⟨some 5, none, .mov (.t 1)⟩, 
    ⟨some 6, none, .call 61 [(.t 5)] false⟩, 
    ⟨some 7, none, .mov (.t 6)⟩, 
    ⟨some 8, (some (7, false)), .off (.t 2) 1⟩, 
    ⟨some 9, (some (7, false)), .ld (.t 8) 1 false⟩, 
    ⟨some 10, (some (7, false)), .len (.t 9)⟩, 
    ⟨some 11, (some (7, false)), .bin .gtr (.t 10) (.c (.p (.int .i64 100)))⟩, 
    ⟨some 12, none, .pick (.t 7) (.c (.p (.bool true))) (.t 11)⟩] [1, 2, 12] [2])
  (.cond (.t 12)
  (.seq (.reg false [⟨some 13, none, .call 62 [] false⟩, 
      ⟨some 4, none, .mov (.t 13)⟩] [4] [])
    .ret)
  .skip))
  (.seq (.reg true [⟨some 14, none, .ldl 2 (.t 2) 2 true⟩, 
    ⟨some 15, none, .call 63 [(.t 14)] false⟩, 
    ⟨some 16, none, .ldl 2 (.t 2) 2 true⟩, 
    ⟨some 17, none, .call 64 [(.t 16)] false⟩, 
    ⟨some 18, none, .eqb false (.t 15) (.t 17)⟩, 
    ⟨some 19, none, .mov (.t 18)⟩, 
    ⟨some 20, (some (19, true)), .mov (.t 1)⟩, 
    ⟨some 21, (some (19, true)), .call 65 [(.t 20)] false⟩, 
    ⟨some 22, (some (19, true)), .mov (.t 1)⟩, 
    ⟨some 23, (some (19, true)), .call 66 [(.t 22)] false⟩, 
    ⟨some 24, (some (19, true)), .bin .eql (.t 21) (.t 23)⟩, 
    ⟨some 25, none, .pick (.t 19) (.t 24) (.c (.p (.bool false)))⟩, 
    ⟨some 26, none, .mov (.t 25)⟩, 
    ⟨some 27, (some (26, true)), .call 62 [] false⟩, 
    ⟨some 28, none, .pick (.t 26) (.t 27) (.c (.p (.bool false)))⟩, 
    ⟨some 4, none, .mov (.t 28)⟩] [4] [])
  .ret))),
  [.tmp 4], false⟩
def lp18_0 : IC :=
  (.loop [1, 3, 29, 30, 31] [1] (.seq (.reg false [⟨some 32, none, .bin .lss (.t 31) (.t 30)⟩] [1, 3, 29, 30, 31, 32] [1])
      (.seq (.cond (.t 32)
      .skip
      (.exit 0))
      (.seq (.block 1 (.seq (.reg false [⟨some 33, none, .ixs (.t 29) (.t 31) 1⟩, 
          ⟨some 34, none, .ld (.t 33) 1 false⟩, 
          ⟨some 5, none, .mov (.t 34)⟩] [1, 3, 5, 29, 30, 31] [1])
        (.reg false [⟨some 35, none, .mov (.t 3)⟩, 
          ⟨some 36, none, .mov (.t 35)⟩, 
          ⟨some 37, (some (36, false)), .mov (.t 5)⟩, 
          ⟨some 38, (some (36, false)), .bin .lss (.t 37) (.c (.p (.int .i64 1)))⟩, 
          ⟨some 39, none, .pick (.t 36) (.c (.p (.bool true))) (.t 38)⟩, 
          ⟨some 40, none, .mov (.t 39)⟩, 
          ⟨some 41, (some (40, false)), .mov (.t 5)⟩, 
          ⟨some 42, (some (40, false)), .bin .gtr (.t 41) (.c (.p (.int .i64 1073741823)))⟩, 
          ⟨some 43, none, .pick (.t 40) (.c (.p (.bool true))) (.t 42)⟩, 
          ⟨some 3, none, .mov (.t 43)⟩] [1, 3, 29, 30, 31] [1])))
      (.reg false [⟨some 44, none, .bin .add (.t 31) (.c (.p (.int .i64 1)))⟩, 
        ⟨some 31, none, .mov (.t 44)⟩] [1, 3, 29, 30, 31] [1])))))
def lp18_1 : IC :=
  (.loop [3, 46, 47, 48] [] (.seq (.reg false [⟨some 49, none, .bin .lss (.t 48) (.t 47)⟩] [3, 46, 47, 48, 49] [])
      (.seq (.cond (.t 49)
      .skip
      (.exit 2))
      (.seq (.block 3 (.seq (.reg false [⟨some 50, none, .ixs (.t 46) (.t 48) 1⟩, 
          ⟨some 51, none, .ld (.t 50) 1 false⟩, 
          ⟨some 7, none, .mov (.t 51)⟩] [3, 7, 46, 47, 48] [])
        (.reg false [⟨some 52, none, .mov (.t 3)⟩, 
          ⟨some 53, none, .mov (.t 52)⟩, 
          ⟨some 54, (some (53, false)), .mov (.t 7)⟩, 
          ⟨some 55, (some (53, false)), .bin .lss (.t 54) (.c (.p (.int .i64 0)))⟩, 
          ⟨some 56, none, .pick (.t 53) (.c (.p (.bool true))) (.t 55)⟩, 
          ⟨some 57, none, .mov (.t 56)⟩, 
          ⟨some 58, (some (57, false)), .mov (.t 7)⟩, 
          ⟨some 59, (some (57, false)), .bin .gtr (.t 58) (.c (.p (.int .i64 10000)))⟩, 
          ⟨some 60, none, .pick (.t 57) (.c (.p (.bool true))) (.t 59)⟩, 
          ⟨some 3, none, .mov (.t 60)⟩] [3, 46, 47, 48] [])))
      (.reg false [⟨some 61, none, .bin .add (.t 48) (.c (.p (.int .i64 1)))⟩, 
        ⟨some 48, none, .mov (.t 61)⟩] [3, 46, 47, 48] [])))))
def ir18 : IFn :=   -- tympan/note.Check
⟨(.seq (.reg false [⟨some 1, none, .bx (.t 0) 2 true⟩, 
    ⟨some 2, none, .mov (.c (.p (.int .i64 0)))⟩] [1] [1])
  (.seq (.reg false [⟨some 8, none, .off (.t 1) 0⟩, 
    ⟨some 9, none, .ld (.t 8) 1 false⟩, 
    ⟨some 10, none, .len (.t 9)⟩, 
    ⟨some 11, none, .bin .lss (.t 10) (.c (.p (.int .i64 1)))⟩, 
    ⟨some 12, none, .mov (.t 11)⟩, 
    ⟨some 13, (some (12, false)), .off (.t 1) 0⟩, 
    ⟨some 14, (some (12, false)), .ld (.t 13) 1 false⟩, 
    ⟨some 15, (some (12, false)), .len (.t 14)⟩, 
    ⟨some 16, (some (12, false)), .bin .gtr (.t 15) (.c (.p (.int .i64 64)))⟩, 
    ⟨some 17, none, .pick (.t 12) (.c (.p (.bool true))) (.t 16)⟩, 
    ⟨some 18, none, .mov (.t 17)⟩, 
    ⟨some 19, (some (18, false)), .off (.t 1) 1⟩, 
    ⟨some 20, (some (18, false)), .ld (.t 19) 1 false⟩, 
    ⟨some 21, (some (18, false)), .len (.t 20)⟩, 
    ⟨some 22, (some (18, false)), .off (.t 1) 0⟩, 
    ⟨some 23, (some (18, false)), .ld (.t 22) 1 false⟩, 
    ⟨some 24, (some (18, false)), .len (.t 23)⟩, 
    ⟨some 25, (some (18, false)), .bin .sub (.t 24) (.c (.p (.int .i64 1)))⟩, 
    ⟨some 26, (some (18, false)), .bin .neq (.t 21) (.t 25)⟩, 
    ⟨some 27, none, .pick (.t 18) (.c (.p (.bool true))) (.t 26)⟩, 
    ⟨some 3, none, .mov (.t 27)⟩] [1, 3] [1])
  (.seq (.seq (.reg false [⟨some 28, none, .off (.t 1) 0⟩, 
    ⟨some 29, none, .ld (.t 28) 1 false⟩, 
    ⟨some 30, none, .len (.t 29)⟩, 
    ⟨some 31, none, .mov (.c (.p (.int .i64 0)))⟩] [1, 3, 29, 30, 31] [1])
  (.block 0 lp18_0))
  (.seq (.seq (.reg false [⟨some 45, none, .off (.t 1) 1⟩, 
    ⟨some 46, none, .ld (.t 45) 1 false⟩, 
    ⟨some 47, none, .len (.t 46)⟩, 
    ⟨some 48, none, .mov (.c (.p (.int .i64 0)))⟩] [3, 46, 47, 48] [])
  (.block 2 lp18_1))
  (.seq (.seq (.reg false [⟨some 62, none, .mov (.t 3)⟩] [62] [])
  (.cond (.t 62)
  (.seq (.reg false [⟨some 2, none, .mov (.c (.p (.int .i64 9)))⟩] [2] [])
    .ret)
  .skip))
  (.seq (.reg false [⟨some 2, none, .mov (.c (.p (.int .i64 0)))⟩] [2] [])
  .ret)))))),
  [.tmp 2], false⟩
def lp46_0 : IC :=
  (.loop [2, 3, 4, 44, 45] [2, 3] (.seq (.reg false [⟨some 46, none, .bin .lss (.t 45) (.t 44)⟩] [2, 3, 4, 44, 45, 46] [2, 3])
      (.seq (.cond (.t 46)
      .skip
      (.exit 0))
      (.seq (.block 1 (.seq (.reg false [⟨some 47, none, .mov (.t 45)⟩, 
          ⟨some 5, none, .mov (.t 47)⟩] [2, 3, 4, 5, 44, 45] [2, 3])
        (.reg true [⟨some 48, none, .ldl 3 (.t 3) 1 true⟩, 
          ⟨some 49, none, .off (.t 4) 21⟩, 
          ⟨some 50, none, .ld (.t 49) 1 false⟩, 
          ⟨some 51, none, .mov (.t 5)⟩, 
          ⟨some 52, none, .ixs (.t 50) (.t 51) 3⟩, 
          ⟨some 53, none, .off (.t 52) 1⟩, 
          ⟨some 54, none, .bsl 1 1 [.p .nilp] [(0, (.t 53))]⟩, 
          ⟨some 55, none, .call 97 [(.t 48), (.c (.p (.fn 99))), (.t 54)] false⟩] [2, 3, 4, 44, 45] [2, 3])))
      (.reg false [⟨some 56, none, .bin .add (.t 45) (.c (.p (.int .i64 1)))⟩, 
        ⟨some 45, none, .mov (.t 56)⟩] [2, 3, 4, 44, 45] [2, 3])))))
def ir46 : IFn :=   -- tympan/grid.Snap
⟨(.seq (.reg false [⟨some 1, none, .bx (.t 0) 22 true⟩, 
    ⟨some 2, none, .al [.p (.int .i64 0), .p (.int .i64 0), .p (.int .i64 0), .p (.int .i64 0), .p (.int .i64 0), .p (.int .i64 0), .p (.int .i64 0), .p (.int .i64 0), .p (.int .i64 0), .p (.int .i64 0), .p (.int .i64 0), .p (.int .i64 0), .p (.int .i64 0), .p (.int .i64 0), .p (.int .i64 0), .p (.int .i64 0), .p (.int .i64 0), .p (.int .i64 0), .p (.bool false), .nils, .nils, .nils] true⟩] [1, 2] [1, 2])
  (.seq (.reg false [⟨some 6, none, .off (.t 1) 0⟩, 
    ⟨some 7, none, .off (.t 6) 5⟩, 
    ⟨some 8, none, .ld (.t 7) 1 false⟩, 
    ⟨some 9, none, .bld [.p (.int .i64 0)] [(0, 1, (.t 8))]⟩, 
    ⟨some 3, none, .al [.p (.int .i64 0)] true⟩, 
    ⟨none, none, .st (.t 3) (.t 9) 1⟩] [1, 2, 3] [1, 2, 3])
  (.seq (.seq (.reg false [⟨some 10, none, .off (.t 3) 0⟩, 
    ⟨some 11, none, .ld (.t 10) 1 false⟩, 
    ⟨some 12, none, .bin .lss (.t 11) (.c (.p (.int .i64 1)))⟩] [1, 2, 3, 12] [1, 2, 3])
  (.cond (.t 12)
  (.seq (.reg false [⟨some 13, none, .ld (.t 1) 22 true⟩, 
      ⟨none, none, .st (.t 2) (.t 13) 22⟩] [2] [2])
    .ret)
  .skip))
  (.seq (.prep [4] (.reg true [⟨some 14, none, .off (.t 1) 0⟩, 
    ⟨some 15, none, .ldl 1 (.t 14) 19 true⟩, 
    ⟨some 16, none, .ldl 3 (.t 3) 1 true⟩, 
    ⟨some 17, none, .off (.t 1) 19⟩, 
    ⟨some 18, none, .ldl 1 (.t 17) 1 false⟩, 
    ⟨some 19, none, .call 94 [(.t 16), (.t 18)] false⟩, 
    ⟨some 20, none, .ldl 3 (.t 3) 1 true⟩, 
    ⟨some 21, none, .off (.t 1) 20⟩, 
    ⟨some 22, none, .ldl 1 (.t 21) 1 false⟩, 
    ⟨some 23, none, .call 95 [(.t 20), (.t 22)] false⟩, 
    ⟨some 24, none, .off (.t 1) 21⟩, 
    ⟨some 25, none, .ldl 1 (.t 24) 1 false⟩, 
    ⟨some 26, none, .call 96 [(.t 25)] false⟩, 
    ⟨some 27, none, .bld [.p (.int .i64 0), .p (.int .i64 0), .p (.int .i64 0), .p (.int .i64 0), .p (.int .i64 0), .p (.int .i64 0), .p (.int .i64 0), .p (.int .i64 0), .p (.int .i64 0), .p (.int .i64 0), .p (.int .i64 0), .p (.int .i64 0), .p (.int .i64 0), .p (.int .i64 0), .p (.int .i64 0), .p (.int .i64 0), .p (.int .i64 0), .p (.int .i64 0), .p (.bool false), .nils, .nils, .nils] [(0, 19, (.t 15)), (19, 1, (.t 19)), (20, 1, (.t 23)), (21, 1, (.t 26))]⟩, 
    ⟨some 4, none, .alp [.p (.int .i64 0), .p (.int .i64 0), .p (.int .i64 0), .p (.int .i64 0), .p (.int .i64 0), .p (.int .i64 0), .p (.int .i64 0), .p (.int .i64 0), .p (.int .i64 0), .p (.int .i64 0), .p (.int .i64 0), .p (.int .i64 0), .p (.int .i64 0), .p (.int .i64 0), .p (.int .i64 0), .p (.int .i64 0), .p (.int .i64 0), .p (.int .i64 0), .p (.bool false), .nils, .nils, .nils]⟩, 
    ⟨none, none, .stl 4 (.t 4) (.t 27) 22⟩] [2, 3, 4] [2, 3, 4]))
  (.esc [4] (.seq (.reg false [⟨some 28, none, .ld (.t 3) 1 true⟩, 
    ⟨some 29, none, .off (.t 4) 0⟩, 
    ⟨some 30, none, .off (.t 29) 3⟩, 
    ⟨some 31, none, .off (.t 4) 0⟩, 
    ⟨some 32, none, .off (.t 31) 4⟩, 
    ⟨some 33, none, .bsl 1 2 [.p .nilp] [(0, (.t 30)), (1, (.t 32))]⟩, 
    ⟨some 34, none, .call 97 [(.t 28), (.c (.p (.fn 98))), (.t 33)] false⟩] [2, 3, 4] [2, 3])
  (.seq (.reg false [⟨some 35, none, .ld (.t 3) 1 true⟩, 
    ⟨some 36, none, .off (.t 4) 0⟩, 
    ⟨some 37, none, .off (.t 36) 6⟩, 
    ⟨some 38, none, .off (.t 4) 0⟩, 
    ⟨some 39, none, .off (.t 38) 7⟩, 
    ⟨some 40, none, .bsl 1 2 [.p .nilp] [(0, (.t 37)), (1, (.t 39))]⟩, 
    ⟨some 41, none, .call 97 [(.t 35), (.c (.p (.fn 99))), (.t 40)] false⟩] [2, 3, 4] [2, 3])
  (.seq (.seq (.reg false [⟨some 42, none, .off (.t 4) 21⟩, 
    ⟨some 43, none, .ld (.t 42) 1 false⟩, 
    ⟨some 44, none, .len (.t 43)⟩, 
    ⟨some 45, none, .mov (.c (.p (.int .i64 0)))⟩] [2, 3, 4, 44, 45] [2, 3])
  (.block 0 lp46_0))
  (.seq (.reg false [⟨some 57, none, .ld (.t 4) 22 true⟩, 
    ⟨none, none, .st (.t 2) (.t 57) 22⟩] [2] [2])
  .ret))))))))),
  [.cell 2 22 true], false⟩
def lp54_0 : IC :=
  (.loop [1, 7, 8, 9] [1] (.seq (.reg false [⟨some 10, none, .bin .lss (.t 9) (.t 8)⟩] [1, 7, 8, 9, 10] [1])
      (.seq (.cond (.t 10)
      .skip
      (.exit 0))
      (.seq (.block 1 (.seq (.reg false [⟨some 11, none, .ixs (.t 7) (.t 9) 2⟩, 
          ⟨some 12, none, .ld (.t 11) 2 true⟩, 
          ⟨some 5, none, .al [.p (.int .i64 0), .p .nilf] true⟩, 
          ⟨none, none, .st (.t 5) (.t 12) 2⟩] [1, 5, 7, 8, 9] [1, 5])
        (.seq (.reg false [⟨some 13, none, .off (.t 5) 1⟩, 
          ⟨some 14, none, .ld (.t 13) 1 false⟩, 
          ⟨some 15, none, .ld (.t 1) 22 true⟩, 
          ⟨some 16, none, .callv (.t 14) [(.t 15)] false⟩, 
          ⟨some 6, none, .mov (.t 16)⟩] [1, 5, 6, 7, 8, 9] [1, 5])
        (.seq (.reg false [⟨some 17, none, .mov (.t 6)⟩, 
          ⟨some 18, none, .bin .geq (.t 17) (.c (.p (.int .i64 0)))⟩] [1, 5, 6, 7, 8, 9, 18] [1, 5])
        (.cond (.t 18)
        (.seq (.reg false [⟨some 19, none, .off (.t 5) 0⟩, 
            ⟨some 20, none, .ld (.t 19) 1 false⟩, 
            ⟨some 21, none, .mov (.t 6)⟩, 
            ⟨some 2, none, .mov (.t 20)⟩, 
            ⟨some 3, none, .mov (.t 21)⟩] [2, 3] [])
          .ret)
        .skip)))))
      (.reg false [⟨some 22, none, .bin .add (.t 9) (.c (.p (.int .i64 1)))⟩, 
        ⟨some 9, none, .mov (.t 22)⟩] [1, 7, 8, 9] [1])))))
def ir54 : IFn :=   -- tympan/valid.Check
⟨(.seq (.reg false [⟨some 1, none, .bx (.t 0) 22 true⟩, 
    ⟨some 2, none, .mov (.c (.p (.int .i64 0)))⟩, 
    ⟨some 3, none, .mov (.c (.p (.int .i64 0)))⟩] [1] [1])
  (.seq (.seq (.reg false [⟨some 7, none, .call 112 [] false⟩, 
    ⟨some 8, none, .len (.t 7)⟩, 
    ⟨some 9, none, .mov (.c (.p (.int .i64 0)))⟩] [1, 7, 8, 9] [1])
  (.block 0 lp54_0))
  (.seq (.reg false [⟨some 2, none, .mov (.c (.p (.int .i64 0)))⟩, 
    ⟨some 3, none, .mov (.c (.p (.int .i64 0)))⟩] [2, 3] [])
  .ret))),
  [.tmp 2, .tmp 3], false⟩
def ir56 : IFn :=   -- tympan/valid.Right
⟨(.seq (.reg false [⟨some 1, none, .bx (.t 0) 22 true⟩, 
    ⟨some 2, none, .mov (.c (.p (.bool false)))⟩] [1] [1])
  (.seq (.reg false [⟨some 6, none, .ld (.t 1) 22 true⟩, 
    ⟨some 7, none, .call 54 [(.t 6)] false⟩, 
    ⟨some 5, none, .mov (.t 7)⟩, 
    ⟨some 8, none, .ext (.t 5) 0⟩, 
    ⟨some 9, none, .ext (.t 5) 1⟩, 
    ⟨some 3, none, .mov (.t 8)⟩, 
    ⟨some 4, none, .mov (.t 9)⟩] [3] [])
  (.seq (.reg false [⟨some 10, none, .mov (.t 3)⟩, 
    ⟨some 11, none, .bin .eql (.t 10) (.c (.p (.int .i64 0)))⟩, 
    ⟨some 2, none, .mov (.t 11)⟩] [2] [])
  .ret))),
  [.tmp 2], false⟩
def ir59 : IFn :=   -- tympan/valid.Anchors
⟨(.seq (.reg false [⟨some 3, none, .bx (.t 1) 1 false⟩, 
    ⟨some 4, none, .mov (.c (.p (.int .i64 0)))⟩] [0, 3] [])
  (.seq (.reg false [⟨some 5, none, .al [.p (.int .i64 0)] false⟩, 
    ⟨none, none, .st (.t 5) (.c (.p (.int .i64 0))) 1⟩] [0, 3, 5] [])
  (.seq (.reg false [⟨some 6, none, .mov (.t 0)⟩, 
    ⟨some 7, none, .mkf (.func 118) [] [(.t 3), (.t 5)]⟩, 
    ⟨some 8, none, .call 117 [(.t 6), (.t 7)] false⟩, 
    ⟨some 4, none, .mov (.t 8)⟩] [4] [])
  .ret))),
  [.tmp 4], false⟩
def lp61_0 : IC :=
  (.loop [0, 3, 4] [] (.seq (.seq (.reg false [⟨some 22, none, .mov (.t 4)⟩, 
              ⟨some 23, none, .mov (.t 0)⟩, 
              ⟨some 24, none, .mov (.t 3)⟩, 
              ⟨some 25, none, .ixs (.t 23) (.t 24) 4⟩, 
              ⟨some 26, none, .off (.t 25) 0⟩, 
              ⟨some 27, none, .ld (.t 26) 1 false⟩, 
              ⟨some 28, none, .len (.t 27)⟩, 
              ⟨some 29, none, .bin .lss (.t 22) (.t 28)⟩] [0, 3, 4, 29] [])
            (.cond (.t 29)
            .skip
            (.exit 2)))
            (.seq (.block 3 (.seq (.reg false [⟨some 32, none, .mov (.t 0)⟩, 
                ⟨some 33, none, .mov (.t 3)⟩, 
                ⟨some 34, none, .ixs (.t 32) (.t 33) 4⟩, 
                ⟨some 35, none, .off (.t 34) 0⟩, 
                ⟨some 36, none, .ld (.t 35) 1 false⟩, 
                ⟨some 37, none, .mov (.t 4)⟩, 
                ⟨some 38, none, .ixs (.t 36) (.t 37) 2⟩, 
                ⟨some 39, none, .off (.t 38) 1⟩, 
                ⟨some 40, none, .ld (.t 39) 1 false⟩, 
                ⟨some 41, none, .len (.t 40)⟩, 
                ⟨some 42, none, .bin .gtr (.t 41) (.c (.p (.int .i64 100)))⟩] [0, 3, 4, 42] [])
              (.cond (.t 42)
              (.seq (.reg false [⟨some 2, none, .mov (.c (.p (.bool true)))⟩] [2] [])
                .ret)
              .skip)))
            (.reg false [⟨some 30, none, .mov (.t 4)⟩, 
              ⟨some 31, none, .bin .add (.t 30) (.c (.p (.int .i64 1)))⟩, 
              ⟨some 4, none, .mov (.t 31)⟩] [0, 3, 4] []))))
def lp61_1 : IC :=
  (.loop [0, 3] [] (.seq (.seq (.reg false [⟨some 5, none, .mov (.t 3)⟩, 
        ⟨some 6, none, .mov (.t 0)⟩, 
        ⟨some 7, none, .len (.t 6)⟩, 
        ⟨some 8, none, .bin .lss (.t 5) (.t 7)⟩, 
        ⟨some 9, none, .mov (.t 8)⟩, 
        ⟨some 10, (some (9, true)), .mov (.t 3)⟩, 
        ⟨some 11, (some (9, true)), .bin .lss (.t 10) (.c (.p (.int .i64 40)))⟩, 
        ⟨some 12, none, .pick (.t 9) (.t 11) (.c (.p (.bool false)))⟩] [0, 3, 12] [])
      (.cond (.t 12)
      .skip
      (.exit 0)))
      (.seq (.block 1 (.seq (.seq (.reg false [⟨some 15, none, .mov (.t 0)⟩, 
          ⟨some 16, none, .mov (.t 3)⟩, 
          ⟨some 17, none, .ixs (.t 15) (.t 16) 4⟩, 
          ⟨some 18, none, .off (.t 17) 0⟩, 
          ⟨some 19, none, .ld (.t 18) 1 false⟩, 
          ⟨some 20, none, .len (.t 19)⟩, 
          ⟨some 21, none, .bin .gtr (.t 20) (.c (.p (.int .i64 20)))⟩] [0, 3, 21] [])
        (.cond (.t 21)
        (.seq (.reg false [⟨some 2, none, .mov (.c (.p (.bool true)))⟩] [2] [])
          .ret)
        .skip))
        (.seq (.reg false [⟨some 4, none, .mov (.c (.p (.int .i64 0)))⟩] [0, 3, 4] [])
        (.block 2 lp61_0))))
      (.reg false [⟨some 13, none, .mov (.t 3)⟩, 
        ⟨some 14, none, .bin .add (.t 13) (.c (.p (.int .i64 1)))⟩, 
        ⟨some 3, none, .mov (.t 14)⟩] [0, 3] []))))
def ir61 : IFn :=   -- tympan/tympanlaw38.Large
⟨(.seq (.reg false [⟨some 2, none, .mov (.c (.p (.bool false)))⟩] [0] [])
  (.seq (.seq (.reg false [⟨some 3, none, .mov (.c (.p (.int .i64 0)))⟩] [0, 3] [])
  (.block 0 lp61_1))
  (.seq (.reg false [⟨some 43, none, .mov (.t 0)⟩, 
    ⟨some 44, none, .len (.t 43)⟩, 
    ⟨some 45, none, .bin .gtr (.t 44) (.c (.p (.int .i64 40)))⟩, 
    ⟨some 2, none, .mov (.t 45)⟩] [2] [])
  .ret))),
  [.tmp 2], false⟩
def ir62 : IFn :=   -- tympan/tympanlaw41.awake
⟨(.seq (.reg false [⟨some 0, none, .mov (.c (.p (.bool false)))⟩] [] [])
  (.seq (.reg false [⟨some 6, none, .bld [.p (.int .i64 0), .p (.int .i64 0), .p (.int .i64 0), .p (.int .i64 0), .p (.int .i64 0), .p (.int .i64 0), .p (.int .i64 0), .p (.int .i64 0), .p (.int .i64 0), .p (.int .i64 0), .p (.int .i64 0), .p (.int .i64 0), .p (.int .i64 0), .p (.int .i64 0), .p (.int .i64 0), .p (.int .i64 0), .p (.int .i64 0), .p (.int .i64 0), .p (.bool false)] [(0, 1, (.c (.p (.int .i64 1)))), (1, 1, (.c (.p (.int .i64 1)))), (3, 1, (.c (.p (.int .i64 9)))), (4, 1, (.c (.p (.int .i64 9))))]⟩, 
    ⟨some 7, none, .bld [.p (.int .i64 0), .p (.int .i64 0), .p (.int .i64 0), .p (.int .i64 0), .p (.int .i64 0), .p (.int .i64 0), .p (.int .i64 0)] [(0, 1, (.c (.p (.int .i64 1)))), (1, 1, (.c (.p (.int .i64 3))))]⟩, 
    ⟨some 8, none, .bld [.p (.int .i64 0), .p (.int .i64 0), .p (.int .i64 0), .p (.int .i64 0), .p (.int .i64 0), .p (.int .i64 0), .p (.int .i64 0)] [(0, 1, (.c (.p (.int .i64 1)))), (1, 1, (.c (.p (.int .i64 3))))]⟩, 
    ⟨some 9, none, .bsl 7 2 [.p (.int .i64 0), .p (.int .i64 0), .p (.int .i64 0), .p (.int .i64 0), .p (.int .i64 0), .p (.int .i64 0), .p (.int .i64 0)] [(0, (.t 7)), (1, (.t 8))]⟩, 
    ⟨some 10, none, .bld [.p (.int .i64 0), .p (.int .i64 0), .p (.int .i64 0), .p (.int .i64 0), .p (.int .i64 0), .p (.int .i64 0), .p (.int .i64 0), .p (.int .i64 0), .p (.int .i64 0), .p (.int .i64 0), .p (.int .i64 0), .p (.int .i64 0), .p (.int .i64 0), .p (.int .i64 0), .p (.int .i64 0), .p (.int .i64 0), .p (.int .i64 0), .p (.int .i64 0), .p (.bool false), .nils, .nils, .nils] [(0, 19, (.t 6)), (19, 1, (.t 9))]⟩, 
    ⟨some 1, none, .al [.p (.int .i64 0), .p (.int .i64 0), .p (.int .i64 0), .p (.int .i64 0), .p (.int .i64 0), .p (.int .i64 0), .p (.int .i64 0), .p (.int .i64 0), .p (.int .i64 0), .p (.int .i64 0), .p (.int .i64 0), .p (.int .i64 0), .p (.int .i64 0), .p (.int .i64 0), .p (.int .i64 0), .p (.int .i64 0), .p (.int .i64 0), .p (.int .i64 0), .p (.bool false), .nils, .nils, .nils] true⟩, 
    ⟨none, none, .st (.t 1) (.t 10) 22⟩] [1] [1])
  (.seq (.reg false [⟨some 11, none, .bld [.p (.int .i64 0), .p (.int .i64 0), .p (.int .i64 0), .p (.int .i64 0), .p (.int .i64 0)] [(0, 1, (.c (.p (.int .i64 1)))), (4, 1, (.c (.p (.int .i64 3))))]⟩, 
    ⟨some 12, none, .bld [.p (.int .i64 0), .p (.int .i64 0), .p (.int .i64 0), .p (.int .i64 0), .p (.int .i64 0)] [(0, 1, (.c (.p (.int .i64 1)))), (1, 1, (.c (.p (.int .i64 1)))), (3, 1, (.c (.p (.int .i64 3)))), (4, 1, (.c (.p (.int .i64 3))))]⟩, 
    ⟨some 13, none, .bsl 5 2 [.p (.int .i64 0), .p (.int .i64 0), .p (.int .i64 0), .p (.int .i64 0), .p (.int .i64 0)] [(0, (.t 11)), (1, (.t 12))]⟩, 
    ⟨some 14, none, .bld [.p (.int .i64 0), .nils] [(1, 1, (.t 13))]⟩, 
    ⟨some 15, none, .bsl 2 1 [.p (.int .i64 0), .nils] [(0, (.t 14))]⟩, 
    ⟨some 16, none, .bld [.nils, .p (.int .i64 0), .p (.int .i64 0), .p (.int .i64 0)] [(0, 1, (.t 15)), (1, 1, (.c (.p (.int .i64 (-1))))), (2, 1, (.c (.p (.int .i64 (-1))))), (3, 1, (.c (.p (.int .i64 (-1)))))]⟩, 
    ⟨some 17, none, .bsl 4 1 [.nils, .p (.int .i64 0), .p (.int .i64 0), .p (.int .i64 0)] [(0, (.t 16))]⟩, 
    ⟨some 2, none, .mov (.t 17)⟩] [1, 2] [1])
  (.seq (.reg false [⟨some 18, none, .bld [.p (.int .i64 0), .p (.int .i64 0), .p (.int .i64 0), .p (.int .i64 0), .p (.int .i64 0)] [(0, 1, (.c (.p (.int .i64 1)))), (4, 1, (.c (.p (.int .i64 3))))]⟩, 
    ⟨some 19, none, .bld [.p (.int .i64 0), .p (.int .i64 0), .p (.int .i64 0), .p (.int .i64 0), .p (.int .i64 0)] [(0, 1, (.c (.p (.int .i64 1)))), (1, 1, (.c (.p (.int .i64 1)))), (4, 1, (.c (.p (.int .i64 3))))]⟩, 
    ⟨some 20, none, .bsl 5 2 [.p (.int .i64 0), .p (.int .i64 0), .p (.int .i64 0), .p (.int .i64 0), .p (.int .i64 0)] [(0, (.t 18)), (1, (.t 19))]⟩, 
    ⟨some 21, none, .bld [.p (.int .i64 0), .nils] [(1, 1, (.t 20))]⟩, 
    ⟨some 22, none, .bsl 2 1 [.p (.int .i64 0), .nils] [(0, (.t 21))]⟩, 
    ⟨some 23, none, .bld [.nils, .p (.int .i64 0), .p (.int .i64 0), .p (.int .i64 0)] [(0, 1, (.t 22)), (1, 1, (.c (.p (.int .i64 (-1)))))]⟩, 
    ⟨some 24, none, .bsl 4 1 [.nils, .p (.int .i64 0), .p (.int .i64 0), .p (.int .i64 0)] [(0, (.t 23))]⟩, 
    ⟨some 3, none, .mov (.t 24)⟩] [1, 2, 3] [1])
  (.seq (.reg false [⟨some 26, none, .ld (.t 1) 22 true⟩, 
    ⟨some 27, none, .mov (.t 3)⟩, 
    ⟨some 28, none, .call 119 [(.t 26), (.t 27)] false⟩, 
    ⟨some 25, none, .mov (.t 28)⟩, 
    ⟨some 29, none, .ext (.t 25) 0⟩, 
    ⟨some 30, none, .ext (.t 25) 1⟩, 
    ⟨some 4, none, .mov (.t 29)⟩, 
    ⟨some 5, none, .mov (.t 30)⟩] [1, 2, 3, 4, 5] [1])
  (.seq (.reg false [⟨some 31, none, .ld (.t 1) 22 true⟩, 
    ⟨some 32, none, .mov (.t 2)⟩, 
    ⟨some 33, none, .call 120 [(.t 31), (.t 32)] false⟩, 
    ⟨some 34, none, .mov (.t 33)⟩, 
    ⟨some 35, (some (34, true)), .mov (.t 4)⟩, 
    ⟨some 36, (some (34, true)), .bin .eql (.t 35) (.c (.p (.int .i64 17)))⟩, 
    ⟨some 37, none, .pick (.t 34) (.t 36) (.c (.p (.bool false)))⟩, 
    ⟨some 38, none, .mov (.t 37)⟩, 
    ⟨some 39, (some (38, true)), .mov (.t 5)⟩, 
    ⟨some 40, (some (38, true)), .bin .eql (.t 39) (.c (.p (.int .i64 0)))⟩, 
    ⟨some 41, none, .pick (.t 38) (.t 40) (.c (.p (.bool false)))⟩, 
    ⟨some 42, none, .mov (.t 41)⟩, 
    ⟨some 43, (some (42, true)), .mov (.t 3)⟩, 
    ⟨some 44, (some (42, true)), .ixs (.t 43) (.c (.p (.int .i64 0))) 4⟩, 
    ⟨some 45, (some (42, true)), .off (.t 44) 0⟩, 
    ⟨some 46, (some (42, true)), .ld (.t 45) 1 false⟩, 
    ⟨some 47, (some (42, true)), .ixs (.t 46) (.c (.p (.int .i64 0))) 2⟩, 
    ⟨some 48, (some (42, true)), .ld (.t 47) 2 true⟩, 
    ⟨some 49, (some (42, true)), .call 63 [(.t 48)] false⟩, 
    ⟨some 50, (some (42, true)), .un .not (.t 49)⟩, 
    ⟨some 51, none, .pick (.t 42) (.t 50) (.c (.p (.bool false)))⟩, 
    ⟨some 52, none, .mov (.t 51)⟩, 
    ⟨some 53, (some (52, true)), .mov (.t 2)⟩, 
    ⟨some 54, (some (52, true)), .call 65 [(.t 53)] false⟩, 
    ⟨some 55, (some (52, true)), .bin .eql (.t 54) (.c (.p (.int .i64 (-1))))⟩, 
    ⟨some 56, none, .pick (.t 52) (.t 55) (.c (.p (.bool false)))⟩, 
    ⟨some 0, none, .mov (.t 56)⟩] [0] [])
  .ret)))))),
  [.tmp 0], false⟩
def lp63_0 : IC :=
  (.loop [3, 7, 8, 9] [] (.seq (.reg false [⟨some 10, none, .bin .lss (.t 9) (.t 8)⟩] [3, 7, 8, 9, 10] [])
      (.seq (.cond (.t 10)
      .skip
      (.exit 0))
      (.seq (.block 1 (.seq (.reg false [⟨some 11, none, .ixs (.t 7) (.t 9) 5⟩, 
          ⟨some 12, none, .ld (.t 11) 5 true⟩, 
          ⟨some 5, none, .al [.p (.int .i64 0), .p (.int .i64 0), .p (.int .i64 0), .p (.int .i64 0), .p (.int .i64 0)] true⟩, 
          ⟨none, none, .st (.t 5) (.t 12) 5⟩] [3, 5, 7, 8, 9] [5])
        (.seq (.seq (.reg false [⟨some 13, none, .off (.t 5) 3⟩, 
          ⟨some 14, none, .ld (.t 13) 1 false⟩, 
          ⟨some 15, none, .mov (.t 3)⟩, 
          ⟨some 16, none, .bin .lss (.t 14) (.t 15)⟩, 
          ⟨some 17, none, .mov (.t 16)⟩, 
          ⟨some 18, (some (17, false)), .off (.t 5) 3⟩, 
          ⟨some 19, (some (17, false)), .ld (.t 18) 1 false⟩, 
          ⟨some 20, (some (17, false)), .bin .gtr (.t 19) (.c (.p (.int .i64 1125899906842624)))⟩, 
          ⟨some 21, none, .pick (.t 17) (.c (.p (.bool true))) (.t 20)⟩, 
          ⟨some 22, none, .mov (.t 21)⟩, 
          ⟨some 23, (some (22, false)), .off (.t 5) 4⟩, 
          ⟨some 24, (some (22, false)), .ld (.t 23) 1 false⟩, 
          ⟨some 25, (some (22, false)), .bin .lss (.t 24) (.c (.p (.int .i64 0)))⟩, 
          ⟨some 26, none, .pick (.t 22) (.c (.p (.bool true))) (.t 25)⟩, 
          ⟨some 27, none, .mov (.t 26)⟩, 
          ⟨some 28, (some (27, false)), .off (.t 5) 4⟩, 
          ⟨some 29, (some (27, false)), .ld (.t 28) 1 false⟩, 
          ⟨some 30, (some (27, false)), .bin .gtr (.t 29) (.c (.p (.int .i64 1125899906842624)))⟩, 
          ⟨some 31, none, .pick (.t 27) (.c (.p (.bool true))) (.t 30)⟩] [5, 7, 8, 9, 31] [5])
        (.cond (.t 31)
        (.seq (.reg false [⟨some 2, none, .mov (.c (.p (.bool false)))⟩] [2] [])
          .ret)
        .skip))
        (.reg false [⟨some 32, none, .off (.t 5) 3⟩, 
          ⟨some 33, none, .ld (.t 32) 1 false⟩, 
          ⟨some 34, none, .off (.t 5) 4⟩, 
          ⟨some 35, none, .ld (.t 34) 1 false⟩, 
          ⟨some 36, none, .bin .add (.t 33) (.t 35)⟩, 
          ⟨some 3, none, .mov (.t 36)⟩] [3, 7, 8, 9] []))))
      (.reg false [⟨some 37, none, .bin .add (.t 9) (.c (.p (.int .i64 1)))⟩, 
        ⟨some 9, none, .mov (.t 37)⟩] [3, 7, 8, 9] [])))))
def ir63 : IFn :=   -- tympan/check.Lane
⟨(.seq (.reg false [⟨some 1, none, .bx (.t 0) 2 true⟩, 
    ⟨some 2, none, .mov (.c (.p (.bool false)))⟩] [1] [1])
  (.seq (.reg false [⟨some 3, none, .mov (.c (.p (.int .i64 0)))⟩] [1, 3] [1])
  (.seq (.seq (.reg false [⟨some 6, none, .off (.t 1) 1⟩, 
    ⟨some 7, none, .ld (.t 6) 1 false⟩, 
    ⟨some 8, none, .len (.t 7)⟩, 
    ⟨some 9, none, .mov (.c (.p (.int .i64 0)))⟩] [3, 7, 8, 9] [])
  (.block 0 lp63_0))
  (.seq (.reg false [⟨some 2, none, .mov (.c (.p (.bool true)))⟩] [2] [])
  .ret)))),
  [.tmp 2], false⟩
def lp64_0 : IC :=
  (.loop [1, 3] [1] (.seq (.seq (.reg false [⟨some 5, none, .mov (.t 3)⟩, 
        ⟨some 6, none, .off (.t 1) 1⟩, 
        ⟨some 7, none, .ld (.t 6) 1 false⟩, 
        ⟨some 8, none, .len (.t 7)⟩, 
        ⟨some 9, none, .bin .lss (.t 5) (.t 8)⟩] [1, 3, 9] [1])
      (.cond (.t 9)
      .skip
      (.exit 0)))
      (.seq (.block 1 (.seq (.reg false [⟨some 12, none, .off (.t 1) 1⟩, 
          ⟨some 13, none, .ld (.t 12) 1 false⟩, 
          ⟨some 14, none, .mov (.t 3)⟩, 
          ⟨some 15, none, .ixs (.t 13) (.t 14) 5⟩, 
          ⟨some 16, none, .ld (.t 15) 5 true⟩, 
          ⟨some 4, none, .al [.p (.int .i64 0), .p (.int .i64 0), .p (.int .i64 0), .p (.int .i64 0), .p (.int .i64 0)] true⟩, 
          ⟨none, none, .st (.t 4) (.t 16) 5⟩] [1, 3, 4] [1, 4])
        (.seq (.seq (.reg false [⟨some 17, none, .off (.t 4) 3⟩, 
          ⟨some 18, none, .ld (.t 17) 1 false⟩, 
          ⟨some 19, none, .bin .lss (.t 18) (.c (.p (.int .i64 0)))⟩, 
          ⟨some 20, none, .mov (.t 19)⟩, 
          ⟨some 21, (some (20, false)), .off (.t 4) 4⟩, 
          ⟨some 22, (some (20, false)), .ld (.t 21) 1 false⟩, 
          ⟨some 23, (some (20, false)), .bin .lss (.t 22) (.c (.p (.int .i64 0)))⟩, 
          ⟨some 24, none, .pick (.t 20) (.c (.p (.bool true))) (.t 23)⟩, 
          ⟨some 25, none, .mov (.t 24)⟩, 
          ⟨some 26, (some (25, false)), .off (.t 4) 3⟩, 
          ⟨some 27, (some (25, false)), .ld (.t 26) 1 false⟩, 
          ⟨some 28, (some (25, false)), .bin .gtr (.t 27) (.c (.p (.int .i64 1125899906842624)))⟩, 
          ⟨some 29, none, .pick (.t 25) (.c (.p (.bool true))) (.t 28)⟩, 
          ⟨some 30, none, .mov (.t 29)⟩, 
          ⟨some 31, (some (30, false)), .off (.t 4) 4⟩, 
          ⟨some 32, (some (30, false)), .ld (.t 31) 1 false⟩, 
          ⟨some 33, (some (30, false)), .bin .gtr (.t 32) (.c (.p (.int .i64 1125899906842624)))⟩, 
          ⟨some 34, none, .pick (.t 30) (.c (.p (.bool true))) (.t 33)⟩] [1, 3, 4, 34] [1, 4])
        (.cond (.t 34)
        (.seq (.reg false [⟨some 2, none, .mov (.c (.p (.bool false)))⟩] [2] [])
          .ret)
        .skip))
        (.seq (.reg true [⟨some 35, none, .mov (.t 3)⟩, 
          ⟨some 36, none, .bin .gtr (.t 35) (.c (.p (.int .i64 0)))⟩, 
          ⟨some 37, none, .mov (.t 36)⟩, 
          ⟨some 38, (some (37, true)), .off (.t 4) 3⟩, 
          ⟨some 39, (some (37, true)), .ldl 4 (.t 38) 1 false⟩, 
          ⟨some 40, (some (37, true)), .off (.t 1) 1⟩, 
          ⟨some 41, (some (37, true)), .ldl 1 (.t 40) 1 false⟩, 
          ⟨some 42, (some (37, true)), .mov (.t 3)⟩, 
          ⟨some 43, (some (37, true)), .bin .sub (.t 42) (.c (.p (.int .i64 1)))⟩, 
          ⟨some 44, (some (37, true)), .ixs (.t 41) (.t 43) 5⟩, 
          ⟨some 45, (some (37, true)), .off (.t 44) 3⟩, 
          ⟨some 46, (some (37, true)), .ld (.t 45) 1 false⟩, 
          ⟨some 47, (some (37, true)), .off (.t 1) 1⟩, 
          ⟨some 48, (some (37, true)), .ldl 1 (.t 47) 1 false⟩, 
          ⟨some 49, (some (37, true)), .mov (.t 3)⟩, 
          ⟨some 50, (some (37, true)), .bin .sub (.t 49) (.c (.p (.int .i64 1)))⟩, 
          ⟨some 51, (some (37, true)), .ixs (.t 48) (.t 50) 5⟩, 
          ⟨some 52, (some (37, true)), .off (.t 51) 4⟩, 
          ⟨some 53, (some (37, true)), .ld (.t 52) 1 false⟩, 
          ⟨some 54, (some (37, true)), .bin .add (.t 46) (.t 53)⟩, 
          ⟨some 55, (some (37, true)), .bin .lss (.t 39) (.t 54)⟩, 
          ⟨some 56, none, .pick (.t 37) (.t 55) (.c (.p (.bool false)))⟩] [1, 3, 56] [1])
        (.cond (.t 56)
        (.seq (.reg false [⟨some 2, none, .mov (.c (.p (.bool false)))⟩] [2] [])
          .ret)
        .skip)))))
      (.reg false [⟨some 10, none, .mov (.t 3)⟩, 
        ⟨some 11, none, .bin .add (.t 10) (.c (.p (.int .i64 1)))⟩, 
        ⟨some 3, none, .mov (.t 11)⟩] [1, 3] [1]))))
def ir64 : IFn :=   -- tympan/tympanref41.Lane
⟨(.seq (.reg false [⟨some 1, none, .bx (.t 0) 2 true⟩, 
    ⟨some 2, none, .mov (.c (.p (.bool false)))⟩] [1] [1])
  (.seq (.seq (.reg false [⟨some 3, none, .mov (.c (.p (.int .i64 0)))⟩] [1, 3] [1])
  (.block 0 lp64_0))
  (.seq (.reg false [⟨some 2, none, .mov (.c (.p (.bool true)))⟩] [2] [])
  .ret))),
  [.tmp 2], false⟩
def lp65_0 : IC :=
  (.loop [3, 6, 7, 8] [] (.seq (.reg false [⟨some 9, none, .bin .lss (.t 8) (.t 7)⟩] [3, 6, 7, 8, 9] [])
      (.seq (.cond (.t 9)
      .skip
      (.exit 0))
      (.seq (.block 1 (.seq (.reg false [⟨some 10, none, .mov (.t 8)⟩, 
          ⟨some 11, none, .ixs (.t 6) (.t 8) 4⟩, 
          ⟨some 12, none, .ld (.t 11) 4 true⟩, 
          ⟨some 5, none, .al [.nils, .p (.int .i64 0), .p (.int .i64 0), .p (.int .i64 0)] true⟩, 
          ⟨some 4, none, .mov (.t 10)⟩, 
          ⟨none, none, .st (.t 5) (.t 12) 4⟩] [3, 4, 5, 6, 7, 8] [5])
        (.seq (.seq (.reg false [⟨some 13, none, .off (.t 5) 1⟩, 
          ⟨some 14, none, .ld (.t 13) 1 false⟩, 
          ⟨some 15, none, .mov (.t 3)⟩, 
          ⟨some 16, none, .bin .neq (.t 14) (.t 15)⟩] [4, 5, 6, 7, 8, 16] [5])
        (.cond (.t 16)
        (.seq (.reg false [⟨some 17, none, .mov (.t 4)⟩, 
            ⟨some 2, none, .mov (.t 17)⟩] [2] [])
          .ret)
        .skip))
        (.reg false [⟨some 18, none, .off (.t 5) 3⟩, 
          ⟨some 19, none, .ld (.t 18) 1 false⟩, 
          ⟨some 3, none, .mov (.t 19)⟩] [3, 6, 7, 8] []))))
      (.reg false [⟨some 20, none, .bin .add (.t 8) (.c (.p (.int .i64 1)))⟩, 
        ⟨some 8, none, .mov (.t 20)⟩] [3, 6, 7, 8] [])))))
def ir65 : IFn :=   -- tympan/check.Marks
⟨(.seq (.reg false [⟨some 2, none, .mov (.c (.p (.int .i64 0)))⟩] [0] [])
  (.seq (.reg false [⟨some 3, none, .mov (.c (.p (.int .i64 (-1))))⟩] [0, 3] [])
  (.seq (.seq (.reg false [⟨some 6, none, .mov (.t 0)⟩, 
    ⟨some 7, none, .len (.t 6)⟩, 
    ⟨some 8, none, .mov (.c (.p (.int .i64 0)))⟩] [3, 6, 7, 8] [])
  (.block 0 lp65_0))
  (.seq (.reg false [⟨some 2, none, .mov (.c (.p (.int .i64 (-1))))⟩] [2] [])
  .ret)))),
  [.tmp 2], false⟩
def lp66_0 : IC :=
  (.loop [0, 3, 4] [] (.seq (.seq (.reg false [⟨some 5, none, .mov (.t 4)⟩, 
        ⟨some 6, none, .mov (.t 0)⟩, 
        ⟨some 7, none, .len (.t 6)⟩, 
        ⟨some 8, none, .bin .lss (.t 5) (.t 7)⟩] [0, 3, 4, 8] [])
      (.cond (.t 8)
      .skip
      (.exit 0)))
      (.seq (.block 1 (.seq (.seq (.reg false [⟨some 11, none, .mov (.t 0)⟩, 
          ⟨some 12, none, .mov (.t 4)⟩, 
          ⟨some 13, none, .ixs (.t 11) (.t 12) 4⟩, 
          ⟨some 14, none, .off (.t 13) 1⟩, 
          ⟨some 15, none, .ld (.t 14) 1 false⟩, 
          ⟨some 16, none, .mov (.t 3)⟩, 
          ⟨some 17, none, .bin .neq (.t 15) (.t 16)⟩] [0, 4, 17] [])
        (.cond (.t 17)
        (.seq (.reg false [⟨some 18, none, .mov (.t 4)⟩, 
            ⟨some 2, none, .mov (.t 18)⟩] [2] [])
          .ret)
        .skip))
        (.reg false [⟨some 19, none, .mov (.t 0)⟩, 
          ⟨some 20, none, .mov (.t 4)⟩, 
          ⟨some 21, none, .ixs (.t 19) (.t 20) 4⟩, 
          ⟨some 22, none, .off (.t 21) 3⟩, 
          ⟨some 23, none, .ld (.t 22) 1 false⟩, 
          ⟨some 3, none, .mov (.t 23)⟩] [0, 3, 4] [])))
      (.reg false [⟨some 9, none, .mov (.t 4)⟩, 
        ⟨some 10, none, .bin .add (.t 9) (.c (.p (.int .i64 1)))⟩, 
        ⟨some 4, none, .mov (.t 10)⟩] [0, 3, 4] []))))
def ir66 : IFn :=   -- tympan/tympanref41.Marks
⟨(.seq (.reg false [⟨some 2, none, .mov (.c (.p (.int .i64 0)))⟩] [0] [])
  (.seq (.reg false [⟨some 3, none, .mov (.c (.p (.int .i64 (-1))))⟩] [0, 3] [])
  (.seq (.seq (.reg false [⟨some 4, none, .mov (.c (.p (.int .i64 0)))⟩] [0, 3, 4] [])
  (.block 0 lp66_0))
  (.seq (.reg false [⟨some 2, none, .mov (.c (.p (.int .i64 (-1))))⟩] [2] [])
  .ret)))),
  [.tmp 2], false⟩
def ir93 : IFn :=   -- tympan/grid.Near
⟨(.seq (.reg false [⟨some 4, none, .mov (.c (.p (.int .i64 0)))⟩] [0, 1] [])
  (.seq (.seq (.reg false [⟨some 6, none, .mov (.t 1)⟩, 
    ⟨some 7, none, .bin .lss (.t 6) (.c (.p (.int .i64 1)))⟩] [0, 1, 7] [])
  (.cond (.t 7)
  (.seq (.reg false [⟨some 8, none, .mov (.t 0)⟩, 
      ⟨some 4, none, .mov (.t 8)⟩] [4] [])
    .ret)
  .skip))
  (.seq (.reg false [⟨some 9, none, .mov (.t 0)⟩, 
    ⟨some 10, none, .mov (.t 1)⟩, 
    ⟨some 11, none, .bin .rem (.t 9) (.t 10)⟩, 
    ⟨some 5, none, .mov (.t 11)⟩] [0, 1, 5] [])
  (.seq (.seq (.reg false [⟨some 12, none, .mov (.t 5)⟩, 
    ⟨some 13, none, .bin .lss (.t 12) (.c (.p (.int .i64 0)))⟩] [0, 1, 5, 13] [])
  (.cond (.t 13)
  (.reg false [⟨some 14, none, .mov (.t 5)⟩, 
      ⟨some 15, none, .mov (.t 1)⟩, 
      ⟨some 16, none, .bin .add (.t 14) (.t 15)⟩, 
      ⟨some 5, none, .mov (.t 16)⟩] [0, 1, 5] [])
  .skip))
  (.seq (.seq (.reg false [⟨some 17, none, .mov (.t 5)⟩, 
    ⟨some 18, none, .mov (.t 1)⟩, 
    ⟨some 19, none, .mov (.t 5)⟩, 
    ⟨some 20, none, .bin .sub (.t 18) (.t 19)⟩, 
    ⟨some 21, none, .bin .lss (.t 17) (.t 20)⟩] [0, 1, 21] [])
  (.cond (.t 21)
  (.seq (.reg false [⟨some 22, none, .mov (.t 0)⟩, 
      ⟨some 23, none, .mov (.t 1)⟩, 
      ⟨some 24, none, .call 98 [(.t 22), (.t 23)] false⟩, 
      ⟨some 4, none, .mov (.t 24)⟩] [4] [])
    .ret)
  .skip))
  (.seq (.reg false [⟨some 25, none, .mov (.t 0)⟩, 
    ⟨some 26, none, .mov (.t 1)⟩, 
    ⟨some 27, none, .call 99 [(.t 25), (.t 26)] false⟩, 
    ⟨some 4, none, .mov (.t 27)⟩] [4] [])
  .ret)))))),
  [.tmp 4], false⟩
def lp94_0 : IC :=
  (.loop [2, 5, 11, 12] [2] (.seq (.reg false [⟨some 13, none, .bin .lss (.t 12) (.t 11)⟩] [2, 5, 11, 12, 13] [2])
      (.seq (.cond (.t 13)
      .skip
      (.exit 0))
      (.seq (.block 1 (.seq (.reg false [⟨some 14, none, .mov (.t 12)⟩, 
          ⟨some 6, none, .mov (.t 14)⟩] [2, 5, 6, 11, 12] [2])
        (.seq (.reg false [⟨some 15, none, .mov (.t 5)⟩, 
          ⟨some 16, none, .mov (.t 6)⟩, 
          ⟨some 17, none, .ixs (.t 15) (.t 16) 7⟩, 
          ⟨some 7, none, .mov (.t 17)⟩] [2, 5, 7, 11, 12] [2])
        (.seq (.reg false [⟨some 18, none, .mov (.t 7)⟩, 
          ⟨some 19, none, .nck (.t 18)⟩, 
          ⟨some 20, none, .off (.t 19) 0⟩, 
          ⟨some 21, none, .ld (.t 20) 1 false⟩] [2, 5, 7, 11, 12, 21] [2])
        (.block 2 (.seq (.reg false [⟨some 23, none, .bin .eql (.t 21) (.c (.p (.int .i64 1)))⟩, 
            ⟨some 22, none, .mov (.t 23)⟩] [2, 5, 7, 11, 12, 21, 22] [2])
          (.cond (.t 22)
          (.reg true [⟨some 24, none, .ldl 2 (.t 2) 1 true⟩, 
              ⟨some 25, none, .mov (.t 7)⟩, 
              ⟨some 26, none, .nck (.t 25)⟩, 
              ⟨some 27, none, .off (.t 26) 1⟩, 
              ⟨some 28, none, .bsl 1 1 [.p .nilp] [(0, (.t 27))]⟩, 
              ⟨some 29, none, .call 97 [(.t 24), (.c (.p (.fn 99))), (.t 28)] false⟩] [2, 5, 11, 12] [2])
          (.seq (.reg false [⟨some 31, none, .bin .eql (.t 21) (.c (.p (.int .i64 2)))⟩, 
              ⟨some 30, none, .mov (.t 31)⟩] [2, 5, 7, 11, 12, 30] [2])
            (.cond (.t 30)
            (.seq (.reg true [⟨some 32, none, .ldl 2 (.t 2) 1 true⟩, 
                ⟨some 33, none, .mov (.t 7)⟩, 
                ⟨some 34, none, .nck (.t 33)⟩, 
                ⟨some 35, none, .off (.t 34) 1⟩, 
                ⟨some 36, none, .bsl 1 1 [.p .nilp] [(0, (.t 35))]⟩, 
                ⟨some 37, none, .call 97 [(.t 32), (.c (.p (.fn 93))), (.t 36)] false⟩] [2, 5, 7, 11, 12] [2])
              (.reg false [⟨some 38, none, .mov (.t 7)⟩, 
                ⟨some 39, none, .mov (.t 7)⟩, 
                ⟨some 40, none, .mov (.t 7)⟩, 
                ⟨some 41, none, .nck (.t 38)⟩, 
                ⟨some 42, none, .off (.t 41) 3⟩, 
                ⟨none, none, .st (.t 42) (.c (.p (.int .i64 0))) 1⟩, 
                ⟨some 43, none, .nck (.t 39)⟩, 
                ⟨some 44, none, .off (.t 43) 4⟩, 
                ⟨none, none, .st (.t 44) (.c (.p (.int .i64 0))) 1⟩, 
                ⟨some 45, none, .nck (.t 40)⟩, 
                ⟨some 46, none, .off (.t 45) 5⟩, 
                ⟨none, none, .st (.t 46) (.c (.p (.int .i64 0))) 1⟩] [2, 5, 11, 12] [2]))
            .skip)))))))))
      (.reg false [⟨some 47, none, .bin .add (.t 12) (.c (.p (.int .i64 1)))⟩, 
        ⟨some 12, none, .mov (.t 47)⟩] [2, 5, 11, 12] [2])))))
def ir94 : IFn :=   -- (tympan/grid.snapper).items
⟨(.seq (.reg false [⟨some 2, none, .bx (.t 0) 1 true⟩, 
    ⟨some 4, none, .mov (.c (.nils))⟩] [1, 2] [2])
  (.seq (.reg false [⟨some 8, none, .mov (.t 1)⟩, 
    ⟨some 9, none, .call 139 [(.t 8)] false⟩, 
    ⟨some 5, none, .mov (.t 9)⟩] [2, 5] [2])
  (.seq (.seq (.reg false [⟨some 10, none, .mov (.t 5)⟩, 
    ⟨some 11, none, .len (.t 10)⟩, 
    ⟨some 12, none, .mov (.c (.p (.int .i64 0)))⟩] [2, 5, 11, 12] [2])
  (.block 0 lp94_0))
  (.seq (.reg false [⟨some 48, none, .mov (.t 5)⟩, 
    ⟨some 4, none, .mov (.t 48)⟩] [4] [])
  .ret)))),
  [.tmp 4], false⟩
def lp95_0 : IC :=
  (.loop [2, 5, 6, 12, 13, 14, 34, 35] [2] (.seq (.reg false [⟨some 36, none, .bin .lss (.t 35) (.t 34)⟩] [2, 5, 6, 12, 13, 14, 34, 35, 36] [2])
            (.seq (.cond (.t 36)
            .skip
            (.exit 2))
            (.seq (.block 3 (.seq (.reg false [⟨some 37, none, .mov (.t 35)⟩, 
                ⟨some 8, none, .mov (.t 37)⟩] [2, 5, 6, 8, 12, 13, 14, 34, 35] [2])
              (.reg true [⟨some 38, none, .ldl 2 (.t 2) 1 true⟩, 
                ⟨some 39, none, .mov (.t 5)⟩, 
                ⟨some 40, none, .mov (.t 6)⟩, 
                ⟨some 41, none, .ixs (.t 39) (.t 40) 2⟩, 
                ⟨some 42, none, .off (.t 41) 0⟩, 
                ⟨some 43, none, .ld (.t 42) 1 false⟩, 
                ⟨some 44, none, .mov (.t 8)⟩, 
                ⟨some 45, none, .ixs (.t 43) (.t 44) 1⟩, 
                ⟨some 46, none, .bsl 1 1 [.p .nilp] [(0, (.t 45))]⟩, 
                ⟨some 47, none, .call 97 [(.t 38), (.c (.p (.fn 99))), (.t 46)] false⟩] [2, 5, 6, 12, 13, 14, 34, 35] [2])))
            (.reg false [⟨some 48, none, .bin .add (.t 35) (.c (.p (.int .i64 1)))⟩, 
              ⟨some 35, none, .mov (.t 48)⟩] [2, 5, 6, 12, 13, 14, 34, 35] [2])))))
def lp95_1 : IC :=
  (.loop [2, 5, 12, 13, 14] [2] (.seq (.reg false [⟨some 15, none, .bin .lss (.t 14) (.t 13)⟩] [2, 5, 12, 13, 14, 15] [2])
      (.seq (.cond (.t 15)
      .skip
      (.exit 0))
      (.seq (.block 1 (.seq (.reg false [⟨some 16, none, .mov (.t 14)⟩, 
          ⟨some 17, none, .ixs (.t 12) (.t 14) 2⟩, 
          ⟨some 18, none, .ld (.t 17) 2 true⟩, 
          ⟨some 7, none, .al [.nils, .nils] true⟩, 
          ⟨some 6, none, .mov (.t 16)⟩, 
          ⟨none, none, .st (.t 7) (.t 18) 2⟩] [2, 5, 6, 7, 12, 13, 14] [2, 7])
        (.seq (.reg true [⟨some 19, none, .mov (.t 5)⟩, 
          ⟨some 20, none, .mov (.t 6)⟩, 
          ⟨some 21, none, .off (.t 7) 0⟩, 
          ⟨some 22, none, .ldl 7 (.t 21) 1 false⟩, 
          ⟨some 23, none, .call 140 [(.t 22)] false⟩, 
          ⟨some 24, none, .off (.t 7) 1⟩, 
          ⟨some 25, none, .ldl 7 (.t 24) 1 false⟩, 
          ⟨some 26, none, .call 141 [(.t 25)] false⟩, 
          ⟨some 27, none, .bld [.nils, .nils] [(0, 1, (.t 23)), (1, 1, (.t 26))]⟩, 
          ⟨some 28, none, .ixs (.t 19) (.t 20) 2⟩, 
          ⟨none, none, .st (.t 28) (.t 27) 2⟩] [2, 5, 6, 12, 13, 14] [2])
        (.seq (.reg false [⟨some 29, none, .mov (.t 5)⟩, 
          ⟨some 30, none, .mov (.t 6)⟩, 
          ⟨some 31, none, .ixs (.t 29) (.t 30) 2⟩, 
          ⟨some 32, none, .off (.t 31) 0⟩, 
          ⟨some 33, none, .ld (.t 32) 1 false⟩, 
          ⟨some 34, none, .len (.t 33)⟩, 
          ⟨some 35, none, .mov (.c (.p (.int .i64 0)))⟩] [2, 5, 6, 12, 13, 14, 34, 35] [2])
        (.block 2 lp95_0)))))
      (.reg false [⟨some 49, none, .bin .add (.t 14) (.c (.p (.int .i64 1)))⟩, 
        ⟨some 14, none, .mov (.t 49)⟩] [2, 5, 12, 13, 14] [2])))))
def ir95 : IFn :=   -- (tympan/grid.snapper).notes
⟨(.seq (.reg false [⟨some 2, none, .bx (.t 0) 1 true⟩, 
    ⟨some 4, none, .mov (.c (.nils))⟩] [1, 2] [2])
  (.seq (.reg false [⟨some 9, none, .mov (.t 1)⟩, 
    ⟨some 10, none, .len (.t 9)⟩, 
    ⟨some 11, none, .mks 2 [.nils, .nils] (.t 10)⟩, 
    ⟨some 5, none, .mov (.t 11)⟩] [1, 2, 5] [2])
  (.seq (.seq (.reg false [⟨some 12, none, .mov (.t 1)⟩, 
    ⟨some 13, none, .len (.t 12)⟩, 
    ⟨some 14, none, .mov (.c (.p (.int .i64 0)))⟩] [2, 5, 12, 13, 14] [2])
  (.block 0 lp95_1))
  (.seq (.reg false [⟨some 50, none, .mov (.t 5)⟩, 
    ⟨some 4, none, .mov (.t 50)⟩] [4] [])
  .ret)))),
  [.tmp 4], false⟩
def ir96 : IFn :=   -- slices.Clone[[]tympan/api.Float,tympan/api.Float]
⟨(.seq (.reg false [⟨some 2, none, .mov (.c (.nils))⟩] [0] [])
  (.seq (.seq (.reg false [⟨some 3, none, .mov (.t 0)⟩, 
    ⟨some 4, none, .eqn .sl false (.t 3)⟩] [0, 4] [])
  (.cond (.t 4)
  (.seq (.reg false [⟨some 2, none, .mov (.c (.nils))⟩] [2] [])
    .ret)
  .skip))
  (.seq (.reg false [⟨some 5, none, .bsl 3 0 [.p (.int .i64 0), .p (.int .i64 0), .p (.int .i64 0)] []⟩, 
    ⟨some 6, none, .mov (.t 0)⟩, 
    ⟨some 7, none, .app (.t 5) (.t 6) 3⟩, 
    ⟨some 2, none, .mov (.t 7)⟩] [2] [])
  .ret))),
  [.tmp 2], true⟩
def lp97_0 : IC :=
  (.loop [1, 3, 8, 9, 10] [3] (.seq (.reg false [⟨some 11, none, .bin .lss (.t 10) (.t 9)⟩] [1, 3, 8, 9, 10, 11] [3])
      (.seq (.cond (.t 11)
      .skip
      (.exit 0))
      (.seq (.block 1 (.seq (.reg false [⟨some 12, none, .ixs (.t 8) (.t 10) 1⟩, 
          ⟨some 13, none, .ld (.t 12) 1 false⟩, 
          ⟨some 7, none, .mov (.t 13)⟩] [1, 3, 7, 8, 9, 10] [3])
        (.reg true [⟨some 14, none, .mov (.t 7)⟩, 
          ⟨some 15, none, .mov (.t 1)⟩, 
          ⟨some 16, none, .mov (.t 7)⟩, 
          ⟨some 17, none, .nck (.t 16)⟩, 
          ⟨some 18, none, .ld (.t 17) 1 false⟩, 
          ⟨some 19, none, .off (.t 3) 0⟩, 
          ⟨some 20, none, .ldl 3 (.t 19) 1 false⟩, 
          ⟨some 21, none, .callv (.t 15) [(.t 18), (.t 20)] false⟩, 
          ⟨some 22, none, .nck (.t 14)⟩, 
          ⟨none, none, .st (.t 22) (.t 21) 1⟩] [1, 3, 8, 9, 10] [3])))
      (.reg false [⟨some 23, none, .bin .add (.t 10) (.c (.p (.int .i64 1)))⟩, 
        ⟨some 10, none, .mov (.t 23)⟩] [1, 3, 8, 9, 10] [3])))))
def ir97 : IFn :=   -- (tympan/grid.snapper).turn
⟨(.seq (.reg false [⟨some 3, none, .bx (.t 0) 1 true⟩] [1, 2, 3] [3])
  (.seq (.reg false [⟨some 8, none, .mov (.t 2)⟩, 
    ⟨some 9, none, .len (.t 8)⟩, 
    ⟨some 10, none, .mov (.c (.p (.int .i64 0)))⟩] [1, 3, 8, 9, 10] [3])
  (.block 0 lp97_0))),
  [], false⟩
def ir98 : IFn :=   -- tympan/grid.Down
⟨(.seq (.reg false [⟨some 4, none, .mov (.c (.p (.int .i64 0)))⟩] [0, 1] [])
  (.seq (.reg false [⟨some 5, none, .mov (.t 0)⟩, 
    ⟨some 6, none, .mov (.t 1)⟩, 
    ⟨some 7, none, .call 142 [(.t 5), (.t 6), (.c (.p (.fn 143)))] false⟩, 
    ⟨some 4, none, .mov (.t 7)⟩] [4] [])
  .ret)),
  [.tmp 4], false⟩
def ir99 : IFn :=   -- tympan/grid.Up
⟨(.seq (.reg false [⟨some 4, none, .mov (.c (.p (.int .i64 0)))⟩] [0, 1] [])
  (.seq (.reg false [⟨some 5, none, .mov (.t 0)⟩, 
    ⟨some 6, none, .mov (.t 1)⟩, 
    ⟨some 7, none, .call 142 [(.t 5), (.t 6), (.c (.p (.fn 144)))] false⟩, 
    ⟨some 4, none, .mov (.t 7)⟩] [4] [])
  .ret)),
  [.tmp 4], false⟩
def ir102 : IFn :=   -- slices.ContainsFunc[[]tympan/api.Sp,tympan/api.Sp]
⟨(.seq (.reg false [⟨some 4, none, .mov (.c (.p (.bool false)))⟩] [0, 1] [])
  (.seq (.reg false [⟨some 5, none, .mov (.t 0)⟩, 
    ⟨some 6, none, .mov (.t 1)⟩, 
    ⟨some 7, none, .call 145 [(.t 5), (.t 6)] false⟩, 
    ⟨some 8, none, .bin .geq (.t 7) (.c (.p (.int .i64 0)))⟩, 
    ⟨some 4, none, .mov (.t 8)⟩] [4] [])
  .ret)),
  [.tmp 4], false⟩
def ir112 : IFn :=   -- tympan/valid.clauses
⟨(.seq (.reg false [⟨some 0, none, .mov (.c (.nils))⟩] [] [])
  (.seq (.reg false [⟨some 1, none, .call 150 [(.c (.p (.fn 151)))] false⟩, 
    ⟨some 2, none, .bld [.p (.int .i64 0), .p .nilf] [(0, 1, (.c (.p (.int .i64 3)))), (1, 1, (.t 1))]⟩, 
    ⟨some 3, none, .call 150 [(.c (.p (.fn 152)))] false⟩, 
    ⟨some 4, none, .bld [.p (.int .i64 0), .p .nilf] [(0, 1, (.c (.p (.int .i64 4)))), (1, 1, (.t 3))]⟩, 
    ⟨some 5, none, .call 150 [(.c (.p (.fn 153)))] false⟩, 
    ⟨some 6, none, .bld [.p (.int .i64 0), .p .nilf] [(0, 1, (.c (.p (.int .i64 5)))), (1, 1, (.t 5))]⟩, 
    ⟨some 7, none, .call 150 [(.c (.p (.fn 154)))] false⟩, 
    ⟨some 8, none, .bld [.p (.int .i64 0), .p .nilf] [(0, 1, (.c (.p (.int .i64 6)))), (1, 1, (.t 7))]⟩, 
    ⟨some 9, none, .call 150 [(.c (.p (.fn 156)))] false⟩, 
    ⟨some 10, none, .bld [.p (.int .i64 0), .p .nilf] [(0, 1, (.c (.p (.int .i64 7)))), (1, 1, (.t 9))]⟩, 
    ⟨some 11, none, .bld [.p (.int .i64 0), .p .nilf] [(0, 1, (.c (.p (.int .i64 8)))), (1, 1, (.c (.p (.fn 157))))]⟩, 
    ⟨some 12, none, .bld [.p (.int .i64 0), .p .nilf] [(0, 1, (.c (.p (.int .i64 9)))), (1, 1, (.c (.p (.fn 160))))]⟩, 
    ⟨some 13, none, .bld [.p (.int .i64 0), .p .nilf] [(0, 1, (.c (.p (.int .i64 10)))), (1, 1, (.c (.p (.fn 162))))]⟩, 
    ⟨some 14, none, .bld [.p (.int .i64 0), .p .nilf] [(0, 1, (.c (.p (.int .i64 11)))), (1, 1, (.c (.p (.fn 165))))]⟩, 
    ⟨some 15, none, .bld [.p (.int .i64 0), .p .nilf] [(0, 1, (.c (.p (.int .i64 12)))), (1, 1, (.c (.p (.fn 166))))]⟩, 
    ⟨some 16, none, .bsl 2 10 [.p (.int .i64 0), .p .nilf] [(0, (.t 2)), (1, (.t 4)), (2, (.t 6)), (3, (.t 8)), (4, (.t 10)), (5, (.t 11)), (6, (.t 12)), (7, (.t 13)), (8, (.t 14)), (9, (.t 15))]⟩, 
    ⟨some 0, none, .mov (.t 16)⟩] [0] [])
  .ret)),
  [.tmp 0], false⟩
def lp117_0 : IC :=
  (.loop [0, 1, 7, 8] [] (.seq (.reg false [⟨some 9, none, .bin .lss (.t 8) (.t 7)⟩] [0, 1, 7, 8, 9] [])
      (.seq (.cond (.t 9)
      .skip
      (.exit 0))
      (.seq (.block 1 (.seq (.reg false [⟨some 10, none, .mov (.t 8)⟩, 
          ⟨some 5, none, .mov (.t 10)⟩] [0, 1, 5, 7, 8] [])
        (.seq (.reg false [⟨some 11, none, .mov (.t 1)⟩, 
          ⟨some 12, none, .mov (.t 0)⟩, 
          ⟨some 13, none, .mov (.t 5)⟩, 
          ⟨some 14, none, .ixs (.t 12) (.t 13) 7⟩, 
          ⟨some 15, none, .ld (.t 14) 7 true⟩, 
          ⟨some 16, none, .callv (.t 11) [(.t 15)] false⟩] [0, 1, 5, 7, 8, 16] [])
        (.cond (.t 16)
        (.seq (.reg false [⟨some 17, none, .mov (.t 5)⟩, 
            ⟨some 4, none, .mov (.t 17)⟩] [4] [])
          .ret)
        .skip))))
      (.reg false [⟨some 18, none, .bin .add (.t 8) (.c (.p (.int .i64 1)))⟩, 
        ⟨some 8, none, .mov (.t 18)⟩] [0, 1, 7, 8] [])))))
def ir117 : IFn :=   -- slices.IndexFunc[[]tympan/api.Item,tympan/api.Item]
⟨(.seq (.reg false [⟨some 4, none, .mov (.c (.p (.int .i64 0)))⟩] [0, 1] [])
  (.seq (.seq (.reg false [⟨some 6, none, .mov (.t 0)⟩, 
    ⟨some 7, none, .len (.t 6)⟩, 
    ⟨some 8, none, .mov (.c (.p (.int .i64 0)))⟩] [0, 1, 7, 8] [])
  (.block 0 lp117_0))
  (.seq (.reg false [⟨some 4, none, .mov (.c (.p (.int .i64 (-1))))⟩] [4] [])
  .ret))),
  [.tmp 4], false⟩
def ir118 : IFn :=   -- tympan/valid.Anchors$1
⟨(.seq (.reg false [⟨some 3, none, .bx (.t 0) 7 true⟩, 
    ⟨some 4, none, .mov (.c (.p (.bool false)))⟩] [1, 2, 3] [3])
  (.seq (.seq (.reg false [⟨some 5, none, .off (.t 3) 0⟩, 
    ⟨some 6, none, .ld (.t 5) 1 false⟩, 
    ⟨some 7, none, .ld (.t 1) 1 false⟩, 
    ⟨some 8, none, .bin .neq (.t 6) (.t 7)⟩] [2, 3, 8] [3])
  (.cond (.t 8)
  (.seq (.reg false [⟨some 4, none, .mov (.c (.p (.bool false)))⟩] [4] [])
    .ret)
  .skip))
  (.seq (.reg false [⟨some 9, none, .ld (.t 2) 1 false⟩, 
    ⟨some 10, none, .bin .add (.t 9) (.c (.p (.int .i64 1)))⟩, 
    ⟨none, none, .st (.t 2) (.t 10) 1⟩] [2, 3] [3])
  (.seq (.reg false [⟨some 11, none, .off (.t 3) 6⟩, 
    ⟨some 12, none, .ld (.t 11) 1 false⟩, 
    ⟨some 13, none, .ld (.t 2) 1 false⟩, 
    ⟨some 14, none, .bin .sub (.t 13) (.c (.p (.int .i64 1)))⟩, 
    ⟨some 15, none, .bin .neq (.t 12) (.t 14)⟩, 
    ⟨some 4, none, .mov (.t 15)⟩] [4] [])
  .ret)))),
  [.tmp 4], false⟩
def lp119_0 : IC :=
  (.loop [6, 17, 18, 19] [6] (.seq (.reg false [⟨some 20, none, .bin .lss (.t 19) (.t 18)⟩] [6, 17, 18, 19, 20] [6])
      (.seq (.cond (.t 20)
      .skip
      (.exit 0))
      (.seq (.block 1 (.seq (.reg false [⟨some 21, none, .ixs (.t 17) (.t 19) 2⟩, 
          ⟨some 22, none, .ld (.t 21) 2 true⟩, 
          ⟨some 8, none, .al [.p (.int .i64 0), .p .nilf] true⟩, 
          ⟨none, none, .st (.t 8) (.t 22) 2⟩] [6, 8, 17, 18, 19] [6, 8])
        (.seq (.reg false [⟨some 23, none, .off (.t 8) 1⟩, 
          ⟨some 24, none, .ld (.t 23) 1 false⟩, 
          ⟨some 25, none, .ld (.t 6) 23 true⟩, 
          ⟨some 26, none, .callv (.t 24) [(.t 25)] false⟩, 
          ⟨some 9, none, .mov (.t 26)⟩] [6, 8, 9, 17, 18, 19] [6, 8])
        (.seq (.reg false [⟨some 27, none, .mov (.t 9)⟩, 
          ⟨some 28, none, .bin .geq (.t 27) (.c (.p (.int .i64 0)))⟩] [6, 8, 9, 17, 18, 19, 28] [6, 8])
        (.cond (.t 28)
        (.seq (.reg false [⟨some 29, none, .off (.t 8) 0⟩, 
            ⟨some 30, none, .ld (.t 29) 1 false⟩, 
            ⟨some 31, none, .mov (.t 9)⟩, 
            ⟨some 4, none, .mov (.t 30)⟩, 
            ⟨some 5, none, .mov (.t 31)⟩] [4, 5] [])
          .ret)
        .skip)))))
      (.reg false [⟨some 32, none, .bin .add (.t 19) (.c (.p (.int .i64 1)))⟩, 
        ⟨some 19, none, .mov (.t 32)⟩] [6, 17, 18, 19] [6])))))
def ir119 : IFn :=   -- tympan/check.Pages
⟨(.seq (.reg false [⟨some 2, none, .bx (.t 0) 22 true⟩, 
    ⟨some 4, none, .mov (.c (.p (.int .i64 0)))⟩, 
    ⟨some 5, none, .mov (.c (.p (.int .i64 0)))⟩] [1, 2] [2])
  (.seq (.seq (.reg false [⟨some 10, none, .ld (.t 2) 22 true⟩, 
    ⟨some 11, none, .call 56 [(.t 10)] false⟩, 
    ⟨some 12, none, .un .not (.t 11)⟩] [1, 2, 12] [2])
  (.cond (.t 12)
  (.seq (.reg false [⟨some 4, none, .mov (.c (.p (.int .i64 1)))⟩, 
      ⟨some 5, none, .mov (.c (.p (.int .i64 0)))⟩] [4, 5] [])
    .ret)
  .skip))
  (.seq (.reg false [⟨some 13, none, .ld (.t 2) 22 true⟩, 
    ⟨some 14, none, .call 46 [(.t 13)] false⟩, 
    ⟨some 15, none, .mov (.t 1)⟩, 
    ⟨some 16, none, .bld [.p (.int .i64 0), .p (.int .i64 0), .p (.int .i64 0), .p (.int .i64 0), .p (.int .i64 0), .p (.int .i64 0), .p (.int .i64 0), .p (.int .i64 0), .p (.int .i64 0), .p (.int .i64 0), .p (.int .i64 0), .p (.int .i64 0), .p (.int .i64 0), .p (.int .i64 0), .p (.int .i64 0), .p (.int .i64 0), .p (.int .i64 0), .p (.int .i64 0), .p (.bool false), .nils, .nils, .nils, .nils] [(0, 22, (.t 14)), (22, 1, (.t 15))]⟩, 
    ⟨some 6, none, .al [.p (.int .i64 0), .p (.int .i64 0), .p (.int .i64 0), .p (.int .i64 0), .p (.int .i64 0), .p (.int .i64 0), .p (.int .i64 0), .p (.int .i64 0), .p (.int .i64 0), .p (.int .i64 0), .p (.int .i64 0), .p (.int .i64 0), .p (.int .i64 0), .p (.int .i64 0), .p (.int .i64 0), .p (.int .i64 0), .p (.int .i64 0), .p (.int .i64 0), .p (.bool false), .nils, .nils, .nils, .nils] true⟩, 
    ⟨none, none, .st (.t 6) (.t 16) 23⟩] [6] [6])
  (.seq (.seq (.reg false [⟨some 17, none, .call 167 [] false⟩, 
    ⟨some 18, none, .len (.t 17)⟩, 
    ⟨some 19, none, .mov (.c (.p (.int .i64 0)))⟩] [6, 17, 18, 19] [6])
  (.block 0 lp119_0))
  (.seq (.reg false [⟨some 4, none, .mov (.c (.p (.int .i64 0)))⟩, 
    ⟨some 5, none, .mov (.c (.p (.int .i64 0)))⟩] [4, 5] [])
  .ret))))),
  [.tmp 4, .tmp 5], false⟩
def ir120 : IFn :=   -- tympan/check.Right
⟨(.seq (.reg false [⟨some 2, none, .bx (.t 0) 22 true⟩, 
    ⟨some 4, none, .mov (.c (.p (.bool false)))⟩] [1, 2] [2])
  (.seq (.reg false [⟨some 8, none, .ld (.t 2) 22 true⟩, 
    ⟨some 9, none, .mov (.t 1)⟩, 
    ⟨some 10, none, .call 119 [(.t 8), (.t 9)] false⟩, 
    ⟨some 7, none, .mov (.t 10)⟩, 
    ⟨some 11, none, .ext (.t 7) 0⟩, 
    ⟨some 12, none, .ext (.t 7) 1⟩, 
    ⟨some 5, none, .mov (.t 11)⟩, 
    ⟨some 6, none, .mov (.t 12)⟩] [5] [])
  (.seq (.reg false [⟨some 13, none, .mov (.t 5)⟩, 
    ⟨some 14, none, .bin .eql (.t 13) (.c (.p (.int .i64 0)))⟩, 
    ⟨some 4, none, .mov (.t 14)⟩] [4] [])
  .ret))),
  [.tmp 4], false⟩
def ir125 : IFn :=   -- tympan/figure.At
⟨(.seq (.reg false [⟨some 4, none, .al [.p (.int .i64 0), .p (.int .i64 0), .p (.int .i64 0)] true⟩, 
    ⟨some 5, none, .mov (.c (.p (.bool false)))⟩] [0, 1, 4] [4])
  (.seq (.seq (.reg false [⟨some 6, none, .mov (.t 1)⟩, 
    ⟨some 7, none, .bin .lss (.t 6) (.c (.p (.int .i64 0)))⟩, 
    ⟨some 8, none, .mov (.t 7)⟩, 
    ⟨some 9, (some (8, false)), .mov (.t 1)⟩, 
    ⟨some 10, (some (8, false)), .mov (.t 0)⟩, 
    ⟨some 11, (some (8, false)), .len (.t 10)⟩, 
    ⟨some 12, (some (8, false)), .bin .geq (.t 9) (.t 11)⟩, 
    ⟨some 13, none, .pick (.t 8) (.c (.p (.bool true))) (.t 12)⟩] [0, 1, 4, 13] [4])
  (.cond (.t 13)
  (.seq (.reg false [⟨some 14, none, .bld [.p (.int .i64 0), .p (.int .i64 0), .p (.int .i64 0)] []⟩, 
      ⟨none, none, .st (.t 4) (.t 14) 3⟩, 
      ⟨some 5, none, .mov (.c (.p (.bool false)))⟩] [4, 5] [4])
    .ret)
  .skip))
  (.seq (.reg false [⟨some 15, none, .mov (.t 0)⟩, 
    ⟨some 16, none, .mov (.t 1)⟩, 
    ⟨some 17, none, .ixs (.t 15) (.t 16) 3⟩, 
    ⟨some 18, none, .ld (.t 17) 3 true⟩, 
    ⟨none, none, .st (.t 4) (.t 18) 3⟩, 
    ⟨some 5, none, .mov (.c (.p (.bool true)))⟩] [4, 5] [4])
  .ret))),
  [.cell 4 3 true, .tmp 5], false⟩
def ir139 : IFn :=   -- slices.Clone[[]tympan/api.Item,tympan/api.Item]
⟨(.seq (.reg false [⟨some 2, none, .mov (.c (.nils))⟩] [0] [])
  (.seq (.seq (.reg false [⟨some 3, none, .mov (.t 0)⟩, 
    ⟨some 4, none, .eqn .sl false (.t 3)⟩] [0, 4] [])
  (.cond (.t 4)
  (.seq (.reg false [⟨some 2, none, .mov (.c (.nils))⟩] [2] [])
    .ret)
  .skip))
  (.seq (.reg false [⟨some 5, none, .bsl 7 0 [.p (.int .i64 0), .p (.int .i64 0), .p (.int .i64 0), .p (.int .i64 0), .p (.int .i64 0), .p (.int .i64 0), .p (.int .i64 0)] []⟩, 
    ⟨some 6, none, .mov (.t 0)⟩, 
    ⟨some 7, none, .app (.t 5) (.t 6) 7⟩, 
    ⟨some 2, none, .mov (.t 7)⟩] [2] [])
  .ret))),
  [.tmp 2], true⟩
def ir140 : IFn :=   -- slices.Clone[[]tympan/api.Sp,tympan/api.Sp]
⟨(.seq (.reg false [⟨some 2, none, .mov (.c (.nils))⟩] [0] [])
  (.seq (.seq (.reg false [⟨some 3, none, .mov (.t 0)⟩, 
    ⟨some 4, none, .eqn .sl false (.t 3)⟩] [0, 4] [])
  (.cond (.t 4)
  (.seq (.reg false [⟨some 2, none, .mov (.c (.nils))⟩] [2] [])
    .ret)
  .skip))
  (.seq (.reg false [⟨some 5, none, .bsl 1 0 [.p (.int .i64 0)] []⟩, 
    ⟨some 6, none, .mov (.t 0)⟩, 
    ⟨some 7, none, .app (.t 5) (.t 6) 1⟩, 
    ⟨some 2, none, .mov (.t 7)⟩] [2] [])
  .ret))),
  [.tmp 2], true⟩
def ir141 : IFn :=   -- slices.Clone[[]int,int]
⟨(.seq (.reg false [⟨some 2, none, .mov (.c (.nils))⟩] [0] [])
  (.seq (.seq (.reg false [⟨some 3, none, .mov (.t 0)⟩, 
    ⟨some 4, none, .eqn .sl false (.t 3)⟩] [0, 4] [])
  (.cond (.t 4)
  (.seq (.reg false [⟨some 2, none, .mov (.c (.nils))⟩] [2] [])
    .ret)
  .skip))
  (.seq (.reg false [⟨some 5, none, .bsl 1 0 [.p (.int .i64 0)] []⟩, 
    ⟨some 6, none, .mov (.t 0)⟩, 
    ⟨some 7, none, .app (.t 5) (.t 6) 1⟩, 
    ⟨some 2, none, .mov (.t 7)⟩] [2] [])
  .ret))),
  [.tmp 2], true⟩
def ir142 : IFn :=   -- tympan/grid.or
⟨(.seq (.reg false [⟨some 6, none, .mov (.c (.p (.int .i64 0)))⟩] [0, 1, 2] [])
  (.seq (.seq (.reg false [⟨some 10, none, .mov (.t 2)⟩, 
    ⟨some 11, none, .mov (.t 0)⟩, 
    ⟨some 12, none, .mov (.t 1)⟩, 
    ⟨some 13, none, .callv (.t 10) [(.t 11), (.t 12)] false⟩, 
    ⟨some 9, none, .mov (.t 13)⟩, 
    ⟨some 14, none, .ext (.t 9) 0⟩, 
    ⟨some 15, none, .ext (.t 9) 1⟩, 
    ⟨some 7, none, .mov (.t 14)⟩, 
    ⟨some 8, none, .mov (.t 15)⟩] [0, 7, 8] [])
  (.seq (.reg false [⟨some 16, none, .mov (.t 8)⟩] [0, 7, 16] [])
  (.cond (.t 16)
  (.seq (.reg false [⟨some 17, none, .mov (.t 7)⟩, 
      ⟨some 6, none, .mov (.t 17)⟩] [6] [])
    .ret)
  .skip)))
  (.seq (.reg false [⟨some 18, none, .mov (.t 0)⟩, 
    ⟨some 6, none, .mov (.t 18)⟩] [6] [])
  .ret))),
  [.tmp 6], false⟩
def ir143 : IFn :=   -- tympan/sp.Down
⟨(.seq (.reg false [⟨some 4, none, .mov (.c (.p (.int .i64 0)))⟩, 
    ⟨some 5, none, .mov (.c (.p (.bool false)))⟩] [0, 1] [])
  (.seq (.seq (.reg false [⟨some 6, none, .mov (.t 1)⟩, 
    ⟨some 7, none, .bin .lss (.t 6) (.c (.p (.int .i64 1)))⟩] [0, 1, 7] [])
  (.cond (.t 7)
  (.seq (.reg false [⟨some 4, none, .mov (.c (.p (.int .i64 0)))⟩, 
      ⟨some 5, none, .mov (.c (.p (.bool false)))⟩] [4, 5] [])
    .ret)
  .skip))
  (.seq (.reg false [⟨some 8, none, .mov (.t 0)⟩, 
    ⟨some 9, none, .mov (.t 0)⟩, 
    ⟨some 10, none, .mov (.t 1)⟩, 
    ⟨some 11, none, .call 178 [(.t 9), (.t 10)] false⟩, 
    ⟨some 12, none, .call 177 [(.t 8), (.t 11)] false⟩, 
    ⟨some 13, none, .ext (.t 12) 0⟩, 
    ⟨some 14, none, .ext (.t 12) 1⟩, 
    ⟨some 4, none, .mov (.t 13)⟩, 
    ⟨some 5, none, .mov (.t 14)⟩] [4, 5] [])
  .ret))),
  [.tmp 4, .tmp 5], false⟩
def ir144 : IFn :=   -- tympan/sp.Up
⟨(.seq (.reg false [⟨some 4, none, .mov (.c (.p (.int .i64 0)))⟩, 
    ⟨some 5, none, .mov (.c (.p (.bool false)))⟩] [0, 1] [])
  (.seq (.seq (.reg false [⟨some 7, none, .mov (.t 1)⟩, 
    ⟨some 8, none, .bin .lss (.t 7) (.c (.p (.int .i64 1)))⟩] [0, 1, 8] [])
  (.cond (.t 8)
  (.seq (.reg false [⟨some 4, none, .mov (.c (.p (.int .i64 0)))⟩, 
      ⟨some 5, none, .mov (.c (.p (.bool false)))⟩] [4, 5] [])
    .ret)
  .skip))
  (.seq (.seq (.reg false [⟨some 9, none, .mov (.t 0)⟩, 
    ⟨some 10, none, .mov (.t 1)⟩, 
    ⟨some 11, none, .call 178 [(.t 9), (.t 10)] false⟩, 
    ⟨some 6, none, .mov (.t 11)⟩] [0, 1, 6] [])
  (.seq (.reg false [⟨some 12, none, .mov (.t 6)⟩, 
    ⟨some 13, none, .bin .gtr (.t 12) (.c (.p (.int .i64 0)))⟩] [0, 1, 6, 13] [])
  (.cond (.t 13)
  (.seq (.reg false [⟨some 14, none, .mov (.t 0)⟩, 
      ⟨some 15, none, .mov (.t 1)⟩, 
      ⟨some 16, none, .mov (.t 6)⟩, 
      ⟨some 17, none, .bin .sub (.t 15) (.t 16)⟩, 
      ⟨some 18, none, .call 179 [(.t 14), (.t 17)] false⟩, 
      ⟨some 19, none, .ext (.t 18) 0⟩, 
      ⟨some 20, none, .ext (.t 18) 1⟩, 
      ⟨some 4, none, .mov (.t 19)⟩, 
      ⟨some 5, none, .mov (.t 20)⟩] [4, 5] [])
    .ret)
  .skip)))
  (.seq (.reg false [⟨some 21, none, .mov (.t 0)⟩, 
    ⟨some 4, none, .mov (.t 21)⟩, 
    ⟨some 5, none, .mov (.c (.p (.bool true)))⟩] [4, 5] [])
  .ret)))),
  [.tmp 4, .tmp 5], false⟩
def lp145_0 : IC :=
  (.loop [0, 1, 7, 8] [] (.seq (.reg false [⟨some 9, none, .bin .lss (.t 8) (.t 7)⟩] [0, 1, 7, 8, 9] [])
      (.seq (.cond (.t 9)
      .skip
      (.exit 0))
      (.seq (.block 1 (.seq (.reg false [⟨some 10, none, .mov (.t 8)⟩, 
          ⟨some 5, none, .mov (.t 10)⟩] [0, 1, 5, 7, 8] [])
        (.seq (.reg false [⟨some 11, none, .mov (.t 1)⟩, 
          ⟨some 12, none, .mov (.t 0)⟩, 
          ⟨some 13, none, .mov (.t 5)⟩, 
          ⟨some 14, none, .ixs (.t 12) (.t 13) 1⟩, 
          ⟨some 15, none, .ld (.t 14) 1 false⟩, 
          ⟨some 16, none, .callv (.t 11) [(.t 15)] false⟩] [0, 1, 5, 7, 8, 16] [])
        (.cond (.t 16)
        (.seq (.reg false [⟨some 17, none, .mov (.t 5)⟩, 
            ⟨some 4, none, .mov (.t 17)⟩] [4] [])
          .ret)
        .skip))))
      (.reg false [⟨some 18, none, .bin .add (.t 8) (.c (.p (.int .i64 1)))⟩, 
        ⟨some 8, none, .mov (.t 18)⟩] [0, 1, 7, 8] [])))))
def ir145 : IFn :=   -- slices.IndexFunc[[]tympan/api.Sp,tympan/api.Sp]
⟨(.seq (.reg false [⟨some 4, none, .mov (.c (.p (.int .i64 0)))⟩] [0, 1] [])
  (.seq (.seq (.reg false [⟨some 6, none, .mov (.t 0)⟩, 
    ⟨some 7, none, .len (.t 6)⟩, 
    ⟨some 8, none, .mov (.c (.p (.int .i64 0)))⟩] [0, 1, 7, 8] [])
  (.block 0 lp145_0))
  (.seq (.reg false [⟨some 4, none, .mov (.c (.p (.int .i64 (-1))))⟩] [4] [])
  .ret))),
  [.tmp 4], false⟩
def ir150 : IFn :=   -- tympan/valid.when
⟨(.seq (.reg false [⟨some 1, none, .bx (.t 0) 1 false⟩, 
    ⟨some 2, none, .mov (.c (.p .nilf))⟩] [1] [])
  (.seq (.reg false [⟨some 3, none, .mkf (.func 182) [] [(.t 1)]⟩, 
    ⟨some 2, none, .mov (.t 3)⟩] [2] [])
  .ret)),
  [.tmp 2], false⟩
def ir151 : IFn :=   -- tympan/valid.clauses$1
⟨(.seq (.reg false [⟨some 1, none, .bx (.t 0) 22 true⟩, 
    ⟨some 2, none, .mov (.c (.p (.bool false)))⟩] [1] [1])
  (.seq (.reg false [⟨some 3, none, .off (.t 1) 19⟩, 
    ⟨some 4, none, .ld (.t 3) 1 false⟩, 
    ⟨some 5, none, .len (.t 4)⟩, 
    ⟨some 6, none, .bin .gtr (.t 5) (.c (.p (.int .i64 4096)))⟩, 
    ⟨some 2, none, .mov (.t 6)⟩] [2] [])
  .ret)),
  [.tmp 2], false⟩
def ir152 : IFn :=   -- tympan/valid.clauses$2
⟨(.seq (.reg false [⟨some 1, none, .bx (.t 0) 22 true⟩, 
    ⟨some 2, none, .mov (.c (.p (.bool false)))⟩] [1] [1])
  (.seq (.reg false [⟨some 3, none, .off (.t 1) 21⟩, 
    ⟨some 4, none, .ld (.t 3) 1 false⟩, 
    ⟨some 5, none, .len (.t 4)⟩, 
    ⟨some 6, none, .bin .gtr (.t 5) (.c (.p (.int .i64 256)))⟩, 
    ⟨some 2, none, .mov (.t 6)⟩] [2] [])
  .ret)),
  [.tmp 2], false⟩
def ir153 : IFn :=   -- tympan/valid.clauses$3
⟨(.seq (.reg false [⟨some 1, none, .bx (.t 0) 22 true⟩, 
    ⟨some 2, none, .mov (.c (.p (.bool false)))⟩] [1] [1])
  (.seq (.reg false [⟨some 3, none, .off (.t 1) 20⟩, 
    ⟨some 4, none, .ld (.t 3) 1 false⟩, 
    ⟨some 5, none, .len (.t 4)⟩, 
    ⟨some 6, none, .bin .gtr (.t 5) (.c (.p (.int .i64 512)))⟩, 
    ⟨some 2, none, .mov (.t 6)⟩] [2] [])
  .ret)),
  [.tmp 2], false⟩
def ir154 : IFn :=   -- tympan/valid.clauses$4
⟨(.seq (.reg false [⟨some 1, none, .bx (.t 0) 22 true⟩, 
    ⟨some 2, none, .mov (.c (.p (.bool false)))⟩] [1] [1])
  (.seq (.reg false [⟨some 3, none, .off (.t 1) 0⟩, 
    ⟨some 4, none, .ld (.t 3) 19 true⟩, 
    ⟨some 5, none, .call 155 [(.t 4)] false⟩, 
    ⟨some 6, none, .bin .eql (.t 5) (.c (.p (.int .i64 6)))⟩, 
    ⟨some 2, none, .mov (.t 6)⟩] [2] [])
  .ret)),
  [.tmp 2], false⟩
def ir155 : IFn :=   -- tympan/geom.Check
⟨(.seq (.reg false [⟨some 1, none, .bx (.t 0) 19 true⟩, 
    ⟨some 2, none, .mov (.c (.p (.int .i64 0)))⟩] [1] [1])
  (.seq (.seq (.reg true [⟨some 8, none, .call 183 [(.c (.p (.int .i64 1))), (.c (.p (.int .i64 8)))] false⟩, 
    ⟨some 9, none, .off (.t 1) 0⟩, 
    ⟨some 10, none, .ldl 1 (.t 9) 1 false⟩, 
    ⟨some 11, none, .bsl 1 1 [.p (.int .i64 0)] [(0, (.t 10))]⟩, 
    ⟨some 12, none, .callv (.t 8) [(.t 11)] false⟩, 
    ⟨some 13, none, .un .not (.t 12)⟩] [1, 13] [1])
  (.cond (.t 13)
  (.seq (.reg false [⟨some 2, none, .mov (.c (.p (.int .i64 6)))⟩] [2] [])
    .ret)
  .skip))
  (.seq (.reg false [⟨some 14, none, .call 184 [(.c (.p (.int .i64 1))), (.c (.p (.int .i64 1073741823)))] false⟩, 
    ⟨some 15, none, .call 184 [(.c (.p (.int .i64 0))), (.c (.p (.int .i64 1073741823)))] false⟩, 
    ⟨some 16, none, .call 184 [(.c (.p (.int .i64 0))), (.c (.p (.int .i64 536870912)))] false⟩, 
    ⟨some 3, none, .mov (.t 14)⟩, 
    ⟨some 4, none, .mov (.t 15)⟩, 
    ⟨some 5, none, .mov (.t 16)⟩] [1, 3, 4, 5] [1])
  (.seq (.reg false [⟨some 17, none, .off (.t 1) 2⟩, 
    ⟨some 18, none, .ld (.t 17) 1 false⟩, 
    ⟨some 19, none, .off (.t 1) 8⟩, 
    ⟨some 20, none, .ld (.t 19) 1 false⟩, 
    ⟨some 21, none, .off (.t 1) 9⟩, 
    ⟨some 22, none, .ld (.t 21) 1 false⟩, 
    ⟨some 23, none, .off (.t 1) 10⟩, 
    ⟨some 24, none, .ld (.t 23) 1 false⟩, 
    ⟨some 25, none, .bld [.p (.int .i64 0), .p (.int .i64 0), .p (.int .i64 0), .p (.int .i64 0)] [(0, 1, (.t 18)), (1, 1, (.t 20)), (2, 1, (.t 22)), (3, 1, (.t 24))]⟩, 
    ⟨some 6, none, .al [.p (.int .i64 0), .p (.int .i64 0), .p (.int .i64 0), .p (.int .i64 0)] false⟩, 
    ⟨none, none, .st (.t 6) (.t 25) 4⟩] [1, 3, 4, 5, 6] [1])
  (.seq (.reg false [⟨some 26, none, .off (.t 1) 13⟩, 
    ⟨some 27, none, .ld (.t 26) 1 false⟩, 
    ⟨some 28, none, .off (.t 1) 14⟩, 
    ⟨some 29, none, .ld (.t 28) 1 false⟩, 
    ⟨some 30, none, .off (.t 1) 15⟩, 
    ⟨some 31, none, .ld (.t 30) 1 false⟩, 
    ⟨some 32, none, .off (.t 1) 16⟩, 
    ⟨some 33, none, .ld (.t 32) 1 false⟩, 
    ⟨some 34, none, .off (.t 1) 17⟩, 
    ⟨some 35, none, .ld (.t 34) 1 false⟩, 
    ⟨some 36, none, .bld [.p (.int .i64 0), .p (.int .i64 0), .p (.int .i64 0), .p (.int .i64 0), .p (.int .i64 0)] [(0, 1, (.t 27)), (1, 1, (.t 29)), (2, 1, (.t 31)), (3, 1, (.t 33)), (4, 1, (.t 35))]⟩, 
    ⟨some 7, none, .al [.p (.int .i64 0), .p (.int .i64 0), .p (.int .i64 0), .p (.int .i64 0), .p (.int .i64 0)] false⟩, 
    ⟨none, none, .st (.t 7) (.t 36) 5⟩] [1, 3, 4, 5, 6, 7] [1])
  (.seq (.block 0 (.seq (.seq (.reg false [⟨some 38, none, .mov (.t 3)⟩, 
      ⟨some 39, none, .off (.t 1) 1⟩, 
      ⟨some 40, none, .ld (.t 39) 1 false⟩, 
      ⟨some 41, none, .off (.t 1) 3⟩, 
      ⟨some 42, none, .ld (.t 41) 1 false⟩, 
      ⟨some 43, none, .bsl 1 2 [.p (.int .i64 0)] [(0, (.t 40)), (1, (.t 42))]⟩, 
      ⟨some 44, none, .callv (.t 38) [(.t 43)] false⟩, 
      ⟨some 45, none, .un .not (.t 44)⟩, 
      ⟨some 37, none, .mov (.t 45)⟩] [1, 4, 5, 6, 7, 37] [1])
    (.cond (.t 37)
    .skip
    (.seq (.reg false [⟨some 46, none, .mov (.t 4)⟩, 
        ⟨some 47, none, .slca (.t 6) none 1 4⟩, 
        ⟨some 48, none, .callv (.t 46) [(.t 47)] false⟩, 
        ⟨some 49, none, .un .not (.t 48)⟩, 
        ⟨some 37, none, .mov (.t 49)⟩] [1, 5, 7, 37] [1])
      (.cond (.t 37)
      .skip
      (.reg false [⟨some 50, none, .mov (.t 5)⟩, 
          ⟨some 51, none, .off (.t 1) 6⟩, 
          ⟨some 52, none, .ld (.t 51) 1 false⟩, 
          ⟨some 53, none, .off (.t 1) 7⟩, 
          ⟨some 54, none, .ld (.t 53) 1 false⟩, 
          ⟨some 55, none, .off (.t 1) 5⟩, 
          ⟨some 56, none, .ld (.t 55) 1 false⟩, 
          ⟨some 57, none, .bsl 1 3 [.p (.int .i64 0)] [(0, (.t 52)), (1, (.t 54)), (2, (.t 56))]⟩, 
          ⟨some 58, none, .callv (.t 50) [(.t 57)] false⟩, 
          ⟨some 59, none, .un .not (.t 58)⟩, 
          ⟨some 37, none, .mov (.t 59)⟩] [1, 7, 37] [1])))))
    (.cond (.t 37)
    (.seq (.reg false [⟨some 2, none, .mov (.c (.p (.int .i64 7)))⟩] [2] [])
      .ret)
    (.seq (.seq (.reg true [⟨some 61, none, .off (.t 1) 3⟩, 
        ⟨some 62, none, .ldl 1 (.t 61) 1 false⟩, 
        ⟨some 63, none, .call 184 [(.c (.p (.int .i64 1))), (.t 62)] false⟩, 
        ⟨some 64, none, .off (.t 1) 4⟩, 
        ⟨some 65, none, .ldl 1 (.t 64) 1 false⟩, 
        ⟨some 66, none, .bsl 1 1 [.p (.int .i64 0)] [(0, (.t 65))]⟩, 
        ⟨some 67, none, .callv (.t 63) [(.t 66)] false⟩, 
        ⟨some 68, none, .un .not (.t 67)⟩, 
        ⟨some 60, none, .mov (.t 68)⟩] [1, 7, 60] [1])
      (.cond (.t 60)
      .skip
      (.reg true [⟨some 69, none, .off (.t 1) 4⟩, 
          ⟨some 70, none, .ldl 1 (.t 69) 1 false⟩, 
          ⟨some 71, none, .call 184 [(.c (.p (.int .i64 0))), (.t 70)] false⟩, 
          ⟨some 72, none, .off (.t 1) 5⟩, 
          ⟨some 73, none, .ldl 1 (.t 72) 1 false⟩, 
          ⟨some 74, none, .bsl 1 1 [.p (.int .i64 0)] [(0, (.t 73))]⟩, 
          ⟨some 75, none, .callv (.t 71) [(.t 74)] false⟩, 
          ⟨some 76, none, .un .not (.t 75)⟩, 
          ⟨some 60, none, .mov (.t 76)⟩] [1, 7, 60] [1])))
      (.cond (.t 60)
      (.seq (.reg false [⟨some 2, none, .mov (.c (.p (.int .i64 7)))⟩] [2] [])
        .ret)
      (.seq (.seq (.reg true [⟨some 78, none, .call 183 [(.c (.p (.int .i64 0))), (.c (.p (.int .i64 4)))] false⟩, 
          ⟨some 79, none, .off (.t 1) 11⟩, 
          ⟨some 80, none, .ldl 1 (.t 79) 1 false⟩, 
          ⟨some 81, none, .off (.t 1) 12⟩, 
          ⟨some 82, none, .ldl 1 (.t 81) 1 false⟩, 
          ⟨some 83, none, .bsl 1 2 [.p (.int .i64 0)] [(0, (.t 80)), (1, (.t 82))]⟩, 
          ⟨some 84, none, .callv (.t 78) [(.t 83)] false⟩, 
          ⟨some 85, none, .un .not (.t 84)⟩, 
          ⟨some 77, none, .mov (.t 85)⟩] [7, 77] [])
        (.cond (.t 77)
        .skip
        (.reg true [⟨some 86, none, .call 183 [(.c (.p (.int .i64 0))), (.c (.p (.int .i64 1048576)))] false⟩, 
            ⟨some 87, none, .slca (.t 7) none 1 5⟩, 
            ⟨some 88, none, .callv (.t 86) [(.t 87)] false⟩, 
            ⟨some 89, none, .un .not (.t 88)⟩, 
            ⟨some 77, none, .mov (.t 89)⟩] [77] [])))
        (.cond (.t 77)
        (.seq (.reg false [⟨some 2, none, .mov (.c (.p (.int .i64 7)))⟩] [2] [])
          .ret)
        .skip)))))))
  (.seq (.reg false [⟨some 2, none, .mov (.c (.p (.int .i64 0)))⟩] [2] [])
  .ret))))))),
  [.tmp 2], false⟩
def ir156 : IFn :=   -- tympan/valid.clauses$5
⟨(.seq (.reg false [⟨some 1, none, .bx (.t 0) 22 true⟩, 
    ⟨some 2, none, .mov (.c (.p (.bool false)))⟩] [1] [1])
  (.seq (.reg false [⟨some 3, none, .off (.t 1) 0⟩, 
    ⟨some 4, none, .ld (.t 3) 19 true⟩, 
    ⟨some 5, none, .call 155 [(.t 4)] false⟩, 
    ⟨some 6, none, .bin .eql (.t 5) (.c (.p (.int .i64 7)))⟩, 
    ⟨some 2, none, .mov (.t 6)⟩] [2] [])
  .ret)),
  [.tmp 2], false⟩
def ir157 : IFn :=   -- tympan/valid.clauses$6
⟨(.seq (.reg false [⟨some 1, none, .bx (.t 0) 22 true⟩, 
    ⟨some 2, none, .mov (.c (.p (.int .i64 0)))⟩] [1] [1])
  (.seq (.reg true [⟨some 3, none, .call 158 [(.c (.p (.fn 159)))] false⟩, 
    ⟨some 4, none, .off (.t 1) 19⟩, 
    ⟨some 5, none, .ldl 1 (.t 4) 1 false⟩, 
    ⟨some 6, none, .callv (.t 3) [(.t 5)] false⟩, 
    ⟨some 2, none, .mov (.t 6)⟩] [2] [])
  .ret)),
  [.tmp 2], false⟩
def ir158 : IFn :=   -- tympan/valid.first[tympan/api.Item]
⟨(.seq (.reg false [⟨some 1, none, .bx (.t 0) 1 false⟩, 
    ⟨some 2, none, .mov (.c (.p .nilf))⟩] [1] [])
  (.seq (.reg false [⟨some 3, none, .mkf (.func 185) [] [(.t 1)]⟩, 
    ⟨some 2, none, .mov (.t 3)⟩] [2] [])
  .ret)),
  [.tmp 2], false⟩
def ir159 : IFn :=   -- tympan/item.Check
⟨(.seq (.reg false [⟨some 1, none, .bx (.t 0) 7 true⟩, 
    ⟨some 2, none, .mov (.c (.p (.int .i64 0)))⟩] [1] [1])
  (.seq (.seq (.reg false [⟨some 5, none, .off (.t 1) 0⟩, 
    ⟨some 6, none, .ld (.t 5) 1 false⟩, 
    ⟨some 7, none, .bin .lss (.t 6) (.c (.p (.int .i64 1)))⟩, 
    ⟨some 8, none, .mov (.t 7)⟩, 
    ⟨some 9, (some (8, false)), .off (.t 1) 0⟩, 
    ⟨some 10, (some (8, false)), .ld (.t 9) 1 false⟩, 
    ⟨some 11, (some (8, false)), .bin .gtr (.t 10) (.c (.p (.int .i64 7)))⟩, 
    ⟨some 12, none, .pick (.t 8) (.c (.p (.bool true))) (.t 11)⟩] [1, 12] [1])
  (.cond (.t 12)
  (.seq (.reg false [⟨some 2, none, .mov (.c (.p (.int .i64 8)))⟩] [2] [])
    .ret)
  .skip))
  (.seq (.prep [3] (.reg true [⟨some 13, none, .call 187 [] false⟩, 
    ⟨some 14, none, .off (.t 1) 0⟩, 
    ⟨some 15, none, .ldl 1 (.t 14) 1 false⟩, 
    ⟨some 16, none, .bin .sub (.t 15) (.c (.p (.int .i64 1)))⟩, 
    ⟨some 17, none, .ixs (.t 13) (.t 16) 2⟩, 
    ⟨some 18, none, .ld (.t 17) 2 true⟩, 
    ⟨some 3, none, .alp [.p .nilf, .p .nilf]⟩, 
    ⟨none, none, .stl 3 (.t 3) (.t 18) 2⟩] [1, 3] [1, 3]))
  (.seq (.reg false [⟨some 19, none, .call 188 [(.c (.p (.int .i64 3)))] false⟩, 
    ⟨some 4, none, .mov (.t 19)⟩] [1, 3, 4] [1, 3])
  (.seq (.seq (.reg true [⟨some 20, none, .off (.t 3) 0⟩, 
    ⟨some 21, none, .ldl 3 (.t 20) 1 false⟩, 
    ⟨some 22, none, .ldl 1 (.t 1) 7 true⟩, 
    ⟨some 23, none, .callv (.t 21) [(.t 22)] false⟩, 
    ⟨some 24, none, .ldl 1 (.t 1) 7 true⟩, 
    ⟨some 25, none, .eqa true [true, true, true, true, true, true, true] (.t 23) (.t 24)⟩, 
    ⟨some 26, none, .mov (.t 25)⟩, 
    ⟨some 27, (some (26, false)), .off (.t 3) 1⟩, 
    ⟨some 28, (some (26, false)), .ldl 3 (.t 27) 1 false⟩, 
    ⟨some 29, (some (26, false)), .off (.t 1) 6⟩, 
    ⟨some 30, (some (26, false)), .ldl 1 (.t 29) 1 false⟩, 
    ⟨some 31, (some (26, false)), .callv (.t 28) [(.t 30)] false⟩, 
    ⟨some 32, (some (26, false)), .un .not (.t 31)⟩, 
    ⟨some 33, none, .pick (.t 26) (.c (.p (.bool true))) (.t 32)⟩, 
    ⟨some 34, none, .mov (.t 33)⟩, 
    ⟨some 35, (some (34, false)), .off (.t 1) 1⟩, 
    ⟨some 36, (some (34, false)), .ldl 1 (.t 35) 1 false⟩, 
    ⟨some 37, (some (34, false)), .off (.t 1) 3⟩, 
    ⟨some 38, (some (34, false)), .ldl 1 (.t 37) 1 false⟩, 
    ⟨some 39, (some (34, false)), .off (.t 1) 5⟩, 
    ⟨some 40, (some (34, false)), .ldl 1 (.t 39) 1 false⟩, 
    ⟨some 41, (some (34, false)), .bsl 1 3 [.p (.int .i64 0)] [(0, (.t 36)), (1, (.t 38)), (2, (.t 40))]⟩, 
    ⟨some 42, (some (34, false)), .call 189 [(.t 41)] false⟩, 
    ⟨some 43, (some (34, false)), .un .not (.t 42)⟩, 
    ⟨some 44, none, .pick (.t 34) (.c (.p (.bool true))) (.t 43)⟩, 
    ⟨some 45, none, .mov (.t 44)⟩, 
    ⟨some 46, (some (45, false)), .mov (.t 4)⟩, 
    ⟨some 47, (some (45, false)), .off (.t 1) 2⟩, 
    ⟨some 48, (some (45, false)), .ldl 1 (.t 47) 1 false⟩, 
    ⟨some 49, (some (45, false)), .callv (.t 46) [(.t 48)] false⟩, 
    ⟨some 50, (some (45, false)), .un .not (.t 49)⟩, 
    ⟨some 51, none, .pick (.t 45) (.c (.p (.bool true))) (.t 50)⟩, 
    ⟨some 52, none, .mov (.t 51)⟩, 
    ⟨some 53, (some (52, false)), .mov (.t 4)⟩, 
    ⟨some 54, (some (52, false)), .off (.t 1) 4⟩, 
    ⟨some 55, (some (52, false)), .ldl 1 (.t 54) 1 false⟩, 
    ⟨some 56, (some (52, false)), .callv (.t 53) [(.t 55)] false⟩, 
    ⟨some 57, (some (52, false)), .un .not (.t 56)⟩, 
    ⟨some 58, none, .pick (.t 52) (.c (.p (.bool true))) (.t 57)⟩, 
    ⟨some 59, none, .mov (.t 58)⟩, 
    ⟨some 60, (some (59, false)), .off (.t 1) 0⟩, 
    ⟨some 61, (some (59, false)), .ldl 1 (.t 60) 1 false⟩, 
    ⟨some 62, (some (59, false)), .bin .eql (.t 61) (.c (.p (.int .i64 2)))⟩, 
    ⟨some 63, (some (59, false)), .mov (.t 62)⟩, 
    ⟨some 64, (some (63, true)), .off (.t 1) 5⟩, 
    ⟨some 65, (some (63, true)), .ldl 1 (.t 64) 1 false⟩, 
    ⟨some 66, (some (63, true)), .off (.t 1) 1⟩, 
    ⟨some 67, (some (63, true)), .ldl 1 (.t 66) 1 false⟩, 
    ⟨some 68, (some (63, true)), .bin .gtr (.t 65) (.t 67)⟩, 
    ⟨some 69, (some (59, false)), .pick (.t 63) (.t 68) (.c (.p (.bool false)))⟩, 
    ⟨some 70, none, .pick (.t 59) (.c (.p (.bool true))) (.t 69)⟩] [70] [])
  (.cond (.t 70)
  (.seq (.reg false [⟨some 2, none, .mov (.c (.p (.int .i64 8)))⟩] [2] [])
    .ret)
  .skip))
  (.seq (.reg false [⟨some 2, none, .mov (.c (.p (.int .i64 0)))⟩] [2] [])
  .ret)))))),
  [.tmp 2], false⟩
def ir160 : IFn :=   -- tympan/valid.clauses$7
⟨(.seq (.reg false [⟨some 1, none, .bx (.t 0) 22 true⟩, 
    ⟨some 2, none, .mov (.c (.p (.int .i64 0)))⟩] [1] [1])
  (.seq (.reg true [⟨some 3, none, .call 161 [(.c (.p (.fn 18)))] false⟩, 
    ⟨some 4, none, .off (.t 1) 20⟩, 
    ⟨some 5, none, .ldl 1 (.t 4) 1 false⟩, 
    ⟨some 6, none, .callv (.t 3) [(.t 5)] false⟩, 
    ⟨some 2, none, .mov (.t 6)⟩] [2] [])
  .ret)),
  [.tmp 2], false⟩
def ir161 : IFn :=   -- tympan/valid.first[tympan/api.Note]
⟨(.seq (.reg false [⟨some 1, none, .bx (.t 0) 1 false⟩, 
    ⟨some 2, none, .mov (.c (.p .nilf))⟩] [1] [])
  (.seq (.reg false [⟨some 3, none, .mkf (.func 190) [] [(.t 1)]⟩, 
    ⟨some 2, none, .mov (.t 3)⟩] [2] [])
  .ret)),
  [.tmp 2], false⟩
def ir162 : IFn :=   -- tympan/valid.clauses$8
⟨(.seq (.reg false [⟨some 1, none, .bx (.t 0) 22 true⟩, 
    ⟨some 2, none, .mov (.c (.p (.int .i64 0)))⟩] [1] [1])
  (.seq (.reg true [⟨some 3, none, .call 163 [(.c (.p (.fn 164)))] false⟩, 
    ⟨some 4, none, .off (.t 1) 21⟩, 
    ⟨some 5, none, .ldl 1 (.t 4) 1 false⟩, 
    ⟨some 6, none, .callv (.t 3) [(.t 5)] false⟩, 
    ⟨some 2, none, .mov (.t 6)⟩] [2] [])
  .ret)),
  [.tmp 2], false⟩
def ir163 : IFn :=   -- tympan/valid.first[tympan/api.Float]
⟨(.seq (.reg false [⟨some 1, none, .bx (.t 0) 1 false⟩, 
    ⟨some 2, none, .mov (.c (.p .nilf))⟩] [1] [])
  (.seq (.reg false [⟨some 3, none, .mkf (.func 193) [] [(.t 1)]⟩, 
    ⟨some 2, none, .mov (.t 3)⟩] [2] [])
  .ret)),
  [.tmp 2], false⟩
def ir164 : IFn :=   -- tympan/figure.Check
⟨(.seq (.reg false [⟨some 1, none, .bx (.t 0) 3 true⟩, 
    ⟨some 2, none, .mov (.c (.p (.int .i64 0)))⟩] [1] [1])
  (.seq (.seq (.reg false [⟨some 3, none, .off (.t 1) 0⟩, 
    ⟨some 4, none, .ld (.t 3) 1 false⟩, 
    ⟨some 5, none, .bin .lss (.t 4) (.c (.p (.int .i64 0)))⟩, 
    ⟨some 6, none, .mov (.t 5)⟩, 
    ⟨some 7, (some (6, false)), .off (.t 1) 0⟩, 
    ⟨some 8, (some (6, false)), .ld (.t 7) 1 false⟩, 
    ⟨some 9, (some (6, false)), .bin .geq (.t 8) (.c (.p (.int .i64 3)))⟩, 
    ⟨some 10, none, .pick (.t 6) (.c (.p (.bool true))) (.t 9)⟩, 
    ⟨some 11, none, .mov (.t 10)⟩, 
    ⟨some 12, (some (11, false)), .off (.t 1) 1⟩, 
    ⟨some 13, (some (11, false)), .ld (.t 12) 1 false⟩, 
    ⟨some 14, (some (11, false)), .bin .lss (.t 13) (.c (.p (.int .i64 1)))⟩, 
    ⟨some 15, none, .pick (.t 11) (.c (.p (.bool true))) (.t 14)⟩, 
    ⟨some 16, none, .mov (.t 15)⟩, 
    ⟨some 17, (some (16, false)), .off (.t 1) 1⟩, 
    ⟨some 18, (some (16, false)), .ld (.t 17) 1 false⟩, 
    ⟨some 19, (some (16, false)), .bin .gtr (.t 18) (.c (.p (.int .i64 1073741823)))⟩, 
    ⟨some 20, none, .pick (.t 16) (.c (.p (.bool true))) (.t 19)⟩, 
    ⟨some 21, none, .mov (.t 20)⟩, 
    ⟨some 22, (some (21, false)), .off (.t 1) 2⟩, 
    ⟨some 23, (some (21, false)), .ld (.t 22) 1 false⟩, 
    ⟨some 24, (some (21, false)), .bin .lss (.t 23) (.c (.p (.int .i64 0)))⟩, 
    ⟨some 25, none, .pick (.t 21) (.c (.p (.bool true))) (.t 24)⟩, 
    ⟨some 26, none, .mov (.t 25)⟩, 
    ⟨some 27, (some (26, false)), .off (.t 1) 2⟩, 
    ⟨some 28, (some (26, false)), .ld (.t 27) 1 false⟩, 
    ⟨some 29, (some (26, false)), .bin .gtr (.t 28) (.c (.p (.int .i64 3)))⟩, 
    ⟨some 30, none, .pick (.t 26) (.c (.p (.bool true))) (.t 29)⟩] [30] [])
  (.cond (.t 30)
  (.seq (.reg false [⟨some 2, none, .mov (.c (.p (.int .i64 10)))⟩] [2] [])
    .ret)
  .skip))
  (.seq (.reg false [⟨some 2, none, .mov (.c (.p (.int .i64 0)))⟩] [2] [])
  .ret))),
  [.tmp 2], false⟩
def ir165 : IFn :=   -- tympan/valid.loose
⟨(.seq (.reg false [⟨some 1, none, .bx (.t 0) 22 true⟩, 
    ⟨some 2, none, .mov (.c (.p (.int .i64 0)))⟩] [1] [1])
  (.seq (.reg true [⟨some 5, none, .off (.t 1) 19⟩, 
    ⟨some 6, none, .ldl 1 (.t 5) 1 false⟩, 
    ⟨some 7, none, .off (.t 1) 20⟩, 
    ⟨some 8, none, .ldl 1 (.t 7) 1 false⟩, 
    ⟨some 9, none, .len (.t 8)⟩, 
    ⟨some 10, none, .call 196 [(.t 6), (.c (.p (.int .i64 5))), (.t 9)] false⟩, 
    ⟨some 11, none, .off (.t 1) 19⟩, 
    ⟨some 12, none, .ldl 1 (.t 11) 1 false⟩, 
    ⟨some 13, none, .off (.t 1) 21⟩, 
    ⟨some 14, none, .ldl 1 (.t 13) 1 false⟩, 
    ⟨some 15, none, .len (.t 14)⟩, 
    ⟨some 16, none, .call 196 [(.t 12), (.c (.p (.int .i64 6))), (.t 15)] false⟩, 
    ⟨some 3, none, .mov (.t 10)⟩, 
    ⟨some 4, none, .mov (.t 16)⟩] [3, 4] [])
  (.seq (.seq (.reg false [⟨some 17, none, .mov (.t 3)⟩, 
    ⟨some 18, none, .bin .lss (.t 17) (.c (.p (.int .i64 0)))⟩, 
    ⟨some 19, none, .mov (.t 18)⟩, 
    ⟨some 20, (some (19, false)), .mov (.t 4)⟩, 
    ⟨some 21, (some (19, false)), .bin .lss (.t 20) (.c (.p (.int .i64 0)))⟩, 
    ⟨some 22, none, .pick (.t 19) (.c (.p (.bool true))) (.t 21)⟩] [3, 4, 22] [])
  (.cond (.t 22)
  (.seq (.reg false [⟨some 23, none, .mov (.t 3)⟩, 
      ⟨some 24, none, .mov (.t 4)⟩, 
      ⟨some 25, none, .mnmx true (.t 23) (.t 24)⟩, 
      ⟨some 2, none, .mov (.t 25)⟩] [2] [])
    .ret)
  .skip))
  (.seq (.reg false [⟨some 26, none, .mov (.t 3)⟩, 
    ⟨some 27, none, .mov (.t 4)⟩, 
    ⟨some 28, none, .mnmx false (.t 26) (.t 27)⟩, 
    ⟨some 2, none, .mov (.t 28)⟩] [2] [])
  .ret)))),
  [.tmp 2], false⟩
def ir166 : IFn :=   -- tympan/valid.tall
⟨(.seq (.reg false [⟨some 1, none, .bx (.t 0) 22 true⟩, 
    ⟨some 2, none, .mov (.c (.p (.int .i64 0)))⟩] [1] [1])
  (.seq (.reg false [⟨some 4, none, .ld (.t 1) 22 true⟩, 
    ⟨some 5, none, .call 46 [(.t 4)] false⟩, 
    ⟨some 3, none, .al [.p (.int .i64 0), .p (.int .i64 0), .p (.int .i64 0), .p (.int .i64 0), .p (.int .i64 0), .p (.int .i64 0), .p (.int .i64 0), .p (.int .i64 0), .p (.int .i64 0), .p (.int .i64 0), .p (.int .i64 0), .p (.int .i64 0), .p (.int .i64 0), .p (.int .i64 0), .p (.int .i64 0), .p (.int .i64 0), .p (.int .i64 0), .p (.int .i64 0), .p (.bool false), .nils, .nils, .nils] false⟩, 
    ⟨none, none, .st (.t 3) (.t 5) 22⟩] [3] [])
  (.seq (.reg false [⟨some 6, none, .off (.t 3) 21⟩, 
    ⟨some 7, none, .ld (.t 6) 1 false⟩, 
    ⟨some 8, none, .mkf (.func 197) [] [(.t 3)]⟩, 
    ⟨some 9, none, .call 194 [(.t 7), (.t 8)] false⟩, 
    ⟨some 2, none, .mov (.t 9)⟩] [2] [])
  .ret))),
  [.tmp 2], false⟩
def ir167 : IFn :=   -- tympan/check.clauses
⟨(.seq (.reg false [⟨some 0, none, .mov (.c (.nils))⟩] [] [])
  (.seq (.reg false [⟨some 1, none, .bld [.p (.int .i64 0), .p .nilf] [(0, 1, (.c (.p (.int .i64 6)))), (1, 1, (.c (.p (.fn 198))))]⟩, 
    ⟨some 2, none, .bld [.p (.int .i64 0), .p .nilf] [(0, 1, (.c (.p (.int .i64 17)))), (1, 1, (.c (.p (.fn 199))))]⟩, 
    ⟨some 3, none, .bld [.p (.int .i64 0), .p .nilf] [(0, 1, (.c (.p (.int .i64 8)))), (1, 1, (.c (.p (.fn 200))))]⟩, 
    ⟨some 4, none, .bld [.p (.int .i64 0), .p .nilf] [(0, 1, (.c (.p (.int .i64 9)))), (1, 1, (.c (.p (.fn 201))))]⟩, 
    ⟨some 5, none, .bld [.p (.int .i64 0), .p .nilf] [(0, 1, (.c (.p (.int .i64 10)))), (1, 1, (.c (.p (.fn 202))))]⟩, 
    ⟨some 6, none, .bld [.p (.int .i64 0), .p .nilf] [(0, 1, (.c (.p (.int .i64 7)))), (1, 1, (.c (.p (.fn 203))))]⟩, 
    ⟨some 7, none, .bld [.p (.int .i64 0), .p .nilf] [(0, 1, (.c (.p (.int .i64 11)))), (1, 1, (.c (.p (.fn 204))))]⟩, 
    ⟨some 8, none, .bsl 2 7 [.p (.int .i64 0), .p .nilf] [(0, (.t 1)), (1, (.t 2)), (2, (.t 3)), (3, (.t 4)), (4, (.t 5)), (5, (.t 6)), (6, (.t 7))]⟩, 
    ⟨some 0, none, .mov (.t 8)⟩] [0] [])
  .ret)),
  [.tmp 0], false⟩
def ir177 : IFn :=   -- tympan/sp.Sub
⟨(.seq (.reg false [⟨some 4, none, .mov (.c (.p (.int .i64 0)))⟩, 
    ⟨some 5, none, .mov (.c (.p (.bool false)))⟩] [0, 1] [])
  (.seq (.reg false [⟨some 7, none, .mov (.t 0)⟩, 
    ⟨some 8, none, .mov (.t 1)⟩, 
    ⟨some 9, none, .bin .sub (.t 7) (.t 8)⟩, 
    ⟨some 6, none, .mov (.t 9)⟩] [0, 1, 6] [])
  (.seq (.seq (.reg false [⟨some 10, none, .mov (.t 6)⟩, 
    ⟨some 11, none, .mov (.t 0)⟩, 
    ⟨some 12, none, .bin .lss (.t 10) (.t 11)⟩, 
    ⟨some 13, none, .mov (.t 1)⟩, 
    ⟨some 14, none, .bin .gtr (.t 13) (.c (.p (.int .i64 0)))⟩, 
    ⟨some 15, none, .eqb true (.t 12) (.t 14)⟩, 
    ⟨some 16, none, .mov (.t 15)⟩, 
    ⟨some 17, (some (16, true)), .mov (.t 1)⟩, 
    ⟨some 18, (some (16, true)), .bin .neq (.t 17) (.c (.p (.int .i64 0)))⟩, 
    ⟨some 19, none, .pick (.t 16) (.t 18) (.c (.p (.bool false)))⟩] [6, 19] [])
  (.cond (.t 19)
  (.seq (.reg false [⟨some 4, none, .mov (.c (.p (.int .i64 0)))⟩, 
      ⟨some 5, none, .mov (.c (.p (.bool false)))⟩] [4, 5] [])
    .ret)
  .skip))
  (.seq (.reg false [⟨some 20, none, .mov (.t 6)⟩, 
    ⟨some 4, none, .mov (.t 20)⟩, 
    ⟨some 5, none, .mov (.c (.p (.bool true)))⟩] [4, 5] [])
  .ret)))),
  [.tmp 4, .tmp 5], false⟩
def ir178 : IFn :=   -- tympan/sp.above
⟨(.seq (.reg false [⟨some 4, none, .mov (.c (.p (.int .i64 0)))⟩] [0, 1] [])
  (.seq (.reg false [⟨some 6, none, .mov (.t 0)⟩, 
    ⟨some 7, none, .mov (.t 1)⟩, 
    ⟨some 8, none, .bin .rem (.t 6) (.t 7)⟩, 
    ⟨some 5, none, .mov (.t 8)⟩] [1, 5] [])
  (.seq (.seq (.reg false [⟨some 9, none, .mov (.t 5)⟩, 
    ⟨some 10, none, .bin .lss (.t 9) (.c (.p (.int .i64 0)))⟩] [1, 5, 10] [])
  (.cond (.t 10)
  (.reg false [⟨some 11, none, .mov (.t 5)⟩, 
      ⟨some 12, none, .mov (.t 1)⟩, 
      ⟨some 13, none, .bin .add (.t 11) (.t 12)⟩, 
      ⟨some 5, none, .mov (.t 13)⟩] [5] [])
  .skip))
  (.seq (.reg false [⟨some 14, none, .mov (.t 5)⟩, 
    ⟨some 4, none, .mov (.t 14)⟩] [4] [])
  .ret)))),
  [.tmp 4], false⟩
def ir179 : IFn :=   -- tympan/sp.Add
⟨(.seq (.reg false [⟨some 4, none, .mov (.c (.p (.int .i64 0)))⟩, 
    ⟨some 5, none, .mov (.c (.p (.bool false)))⟩] [0, 1] [])
  (.seq (.reg false [⟨some 7, none, .mov (.t 0)⟩, 
    ⟨some 8, none, .mov (.t 1)⟩, 
    ⟨some 9, none, .bin .add (.t 7) (.t 8)⟩, 
    ⟨some 6, none, .mov (.t 9)⟩] [0, 1, 6] [])
  (.seq (.seq (.reg false [⟨some 10, none, .mov (.t 6)⟩, 
    ⟨some 11, none, .mov (.t 0)⟩, 
    ⟨some 12, none, .bin .gtr (.t 10) (.t 11)⟩, 
    ⟨some 13, none, .mov (.t 1)⟩, 
    ⟨some 14, none, .bin .gtr (.t 13) (.c (.p (.int .i64 0)))⟩, 
    ⟨some 15, none, .eqb true (.t 12) (.t 14)⟩, 
    ⟨some 16, none, .mov (.t 15)⟩, 
    ⟨some 17, (some (16, true)), .mov (.t 1)⟩, 
    ⟨some 18, (some (16, true)), .bin .neq (.t 17) (.c (.p (.int .i64 0)))⟩, 
    ⟨some 19, none, .pick (.t 16) (.t 18) (.c (.p (.bool false)))⟩] [6, 19] [])
  (.cond (.t 19)
  (.seq (.reg false [⟨some 4, none, .mov (.c (.p (.int .i64 0)))⟩, 
      ⟨some 5, none, .mov (.c (.p (.bool false)))⟩] [4, 5] [])
    .ret)
  .skip))
  (.seq (.reg false [⟨some 20, none, .mov (.t 6)⟩, 
    ⟨some 4, none, .mov (.t 20)⟩, 
    ⟨some 5, none, .mov (.c (.p (.bool true)))⟩] [4, 5] [])
  .ret)))),
  [.tmp 4, .tmp 5], false⟩
def ir182 : IFn :=   -- tympan/valid.when$1
⟨(.seq (.reg false [⟨some 2, none, .bx (.t 0) 22 true⟩, 
    ⟨some 3, none, .mov (.c (.p (.int .i64 0)))⟩] [1, 2] [2])
  (.seq (.seq (.reg false [⟨some 4, none, .ld (.t 1) 1 false⟩, 
    ⟨some 5, none, .ld (.t 2) 22 true⟩, 
    ⟨some 6, none, .callv (.t 4) [(.t 5)] false⟩] [6] [])
  (.cond (.t 6)
  (.seq (.reg false [⟨some 3, none, .mov (.c (.p (.int .i64 0)))⟩] [3] [])
    .ret)
  .skip))
  (.seq (.reg false [⟨some 3, none, .mov (.c (.p (.int .i64 (-1))))⟩] [3] [])
  .ret))),
  [.tmp 3], false⟩
def ir183 : IFn :=   -- tympan/geom.within[int]
⟨(.seq (.reg false [⟨some 2, none, .bx (.t 0) 1 false⟩, 
    ⟨some 3, none, .bx (.t 1) 1 false⟩, 
    ⟨some 4, none, .mov (.c (.p .nilf))⟩] [2, 3] [])
  (.seq (.reg false [⟨some 5, none, .mkf (.func 220) [] [(.t 2), (.t 3)]⟩, 
    ⟨some 4, none, .mov (.t 5)⟩] [4] [])
  .ret)),
  [.tmp 4], false⟩
def ir184 : IFn :=   -- tympan/geom.within[tympan/api.Sp]
⟨(.seq (.reg false [⟨some 2, none, .bx (.t 0) 1 false⟩, 
    ⟨some 3, none, .bx (.t 1) 1 false⟩, 
    ⟨some 4, none, .mov (.c (.p .nilf))⟩] [2, 3] [])
  (.seq (.reg false [⟨some 5, none, .mkf (.func 221) [] [(.t 2), (.t 3)]⟩, 
    ⟨some 4, none, .mov (.t 5)⟩] [4] [])
  .ret)),
  [.tmp 4], false⟩
def ir185 : IFn :=   -- tympan/valid.first[tympan/api.Item]$1
⟨(.seq (.reg false [⟨some 3, none, .mov (.c (.p (.int .i64 0)))⟩] [0, 1] [])
  (.seq (.reg false [⟨some 4, none, .mov (.t 0)⟩, 
    ⟨some 5, none, .mkf (.func 186) [] [(.t 1)]⟩, 
    ⟨some 6, none, .call 117 [(.t 4), (.t 5)] false⟩, 
    ⟨some 3, none, .mov (.t 6)⟩] [3] [])
  .ret)),
  [.tmp 3], false⟩
def ir186 : IFn :=   -- tympan/valid.first[tympan/api.Item]$1$1
⟨(.seq (.reg false [⟨some 2, none, .bx (.t 0) 7 true⟩, 
    ⟨some 3, none, .mov (.c (.p (.bool false)))⟩] [1, 2] [2])
  (.seq (.reg false [⟨some 4, none, .ld (.t 1) 1 false⟩, 
    ⟨some 5, none, .ld (.t 2) 7 true⟩, 
    ⟨some 6, none, .callv (.t 4) [(.t 5)] false⟩, 
    ⟨some 7, none, .bin .neq (.t 6) (.c (.p (.int .i64 0)))⟩, 
    ⟨some 3, none, .mov (.t 7)⟩] [3] [])
  .ret)),
  [.tmp 3], false⟩
def ir187 : IFn :=   -- tympan/item.forms
⟨(.seq (.reg false [⟨some 0, none, .mov (.c (.nils))⟩] [] [])
  (.seq (.reg false [⟨some 1, none, .mov (.c (.p (.fn 222)))⟩] [1] [])
  (.seq (.reg false [⟨some 2, none, .call 188 [(.c (.p (.int .i64 0)))] false⟩, 
    ⟨some 3, none, .bld [.p .nilf, .p .nilf] [(0, 1, (.c (.p (.fn 224)))), (1, 1, (.t 2))]⟩, 
    ⟨some 4, none, .call 188 [(.c (.p (.int .i64 0)))] false⟩, 
    ⟨some 5, none, .bld [.p .nilf, .p .nilf] [(0, 1, (.c (.p (.fn 226)))), (1, 1, (.t 4))]⟩, 
    ⟨some 6, none, .mov (.t 1)⟩, 
    ⟨some 7, none, .callv (.t 6) [(.c (.p (.fn 228)))] false⟩, 
    ⟨some 8, none, .bld [.p .nilf, .p .nilf] [(0, 1, (.t 7)), (1, 1, (.c (.p (.fn 229))))]⟩, 
    ⟨some 9, none, .mov (.t 1)⟩, 
    ⟨some 10, none, .callv (.t 9) [(.c (.p (.fn 230)))] false⟩, 
    ⟨some 11, none, .call 188 [(.c (.p (.int .i64 1048576)))] false⟩, 
    ⟨some 12, none, .bld [.p .nilf, .p .nilf] [(0, 1, (.t 10)), (1, 1, (.t 11))]⟩, 
    ⟨some 13, none, .mov (.t 1)⟩, 
    ⟨some 14, none, .callv (.t 13) [(.c (.p (.fn 231)))] false⟩, 
    ⟨some 15, none, .call 188 [(.c (.p (.int .i64 511)))] false⟩, 
    ⟨some 16, none, .bld [.p .nilf, .p .nilf] [(0, 1, (.t 14)), (1, 1, (.t 15))]⟩, 
    ⟨some 17, none, .mov (.t 1)⟩, 
    ⟨some 18, none, .callv (.t 17) [(.c (.p (.fn 232)))] false⟩, 
    ⟨some 19, none, .call 188 [(.c (.p (.int .i64 255)))] false⟩, 
    ⟨some 20, none, .bld [.p .nilf, .p .nilf] [(0, 1, (.t 18)), (1, 1, (.t 19))]⟩, 
    ⟨some 21, none, .call 188 [(.c (.p (.int .i64 0)))] false⟩, 
    ⟨some 22, none, .bld [.p .nilf, .p .nilf] [(0, 1, (.c (.p (.fn 233)))), (1, 1, (.t 21))]⟩, 
    ⟨some 23, none, .bsl 2 7 [.p .nilf, .p .nilf] [(0, (.t 3)), (1, (.t 5)), (2, (.t 8)), (3, (.t 12)), (4, (.t 16)), (5, (.t 20)), (6, (.t 22))]⟩, 
    ⟨some 0, none, .mov (.t 23)⟩] [0] [])
  .ret))),
  [.tmp 0], false⟩
def ir188 : IFn :=   -- tympan/item.upTo
⟨(.seq (.reg false [⟨some 1, none, .bx (.t 0) 1 false⟩, 
    ⟨some 2, none, .mov (.c (.p .nilf))⟩] [1] [])
  (.seq (.reg false [⟨some 3, none, .mkf (.func 235) [] [(.t 1)]⟩, 
    ⟨some 2, none, .mov (.t 3)⟩] [2] [])
  .ret)),
  [.tmp 2], false⟩
def ir189 : IFn :=   -- tympan/item.long
⟨(.seq (.reg false [⟨some 2, none, .mov (.c (.p (.bool false)))⟩] [0] [])
  (.seq (.reg false [⟨some 3, none, .mov (.t 0)⟩, 
    ⟨some 4, none, .call 102 [(.t 3), (.c (.p (.fn 236)))] false⟩, 
    ⟨some 5, none, .un .not (.t 4)⟩, 
    ⟨some 2, none, .mov (.t 5)⟩] [2] [])
  .ret)),
  [.tmp 2], false⟩
def ir190 : IFn :=   -- tympan/valid.first[tympan/api.Note]$1
⟨(.seq (.reg false [⟨some 3, none, .mov (.c (.p (.int .i64 0)))⟩] [0, 1] [])
  (.seq (.reg false [⟨some 4, none, .mov (.t 0)⟩, 
    ⟨some 5, none, .mkf (.func 192) [] [(.t 1)]⟩, 
    ⟨some 6, none, .call 191 [(.t 4), (.t 5)] false⟩, 
    ⟨some 3, none, .mov (.t 6)⟩] [3] [])
  .ret)),
  [.tmp 3], false⟩
def lp191_0 : IC :=
  (.loop [0, 1, 7, 8] [] (.seq (.reg false [⟨some 9, none, .bin .lss (.t 8) (.t 7)⟩] [0, 1, 7, 8, 9] [])
      (.seq (.cond (.t 9)
      .skip
      (.exit 0))
      (.seq (.block 1 (.seq (.reg false [⟨some 10, none, .mov (.t 8)⟩, 
          ⟨some 5, none, .mov (.t 10)⟩] [0, 1, 5, 7, 8] [])
        (.seq (.reg false [⟨some 11, none, .mov (.t 1)⟩, 
          ⟨some 12, none, .mov (.t 0)⟩, 
          ⟨some 13, none, .mov (.t 5)⟩, 
          ⟨some 14, none, .ixs (.t 12) (.t 13) 2⟩, 
          ⟨some 15, none, .ld (.t 14) 2 true⟩, 
          ⟨some 16, none, .callv (.t 11) [(.t 15)] false⟩] [0, 1, 5, 7, 8, 16] [])
        (.cond (.t 16)
        (.seq (.reg false [⟨some 17, none, .mov (.t 5)⟩, 
            ⟨some 4, none, .mov (.t 17)⟩] [4] [])
          .ret)
        .skip))))
      (.reg false [⟨some 18, none, .bin .add (.t 8) (.c (.p (.int .i64 1)))⟩, 
        ⟨some 8, none, .mov (.t 18)⟩] [0, 1, 7, 8] [])))))
def ir191 : IFn :=   -- slices.IndexFunc[[]tympan/api.Note,tympan/api.Note]
⟨(.seq (.reg false [⟨some 4, none, .mov (.c (.p (.int .i64 0)))⟩] [0, 1] [])
  (.seq (.seq (.reg false [⟨some 6, none, .mov (.t 0)⟩, 
    ⟨some 7, none, .len (.t 6)⟩, 
    ⟨some 8, none, .mov (.c (.p (.int .i64 0)))⟩] [0, 1, 7, 8] [])
  (.block 0 lp191_0))
  (.seq (.reg false [⟨some 4, none, .mov (.c (.p (.int .i64 (-1))))⟩] [4] [])
  .ret))),
  [.tmp 4], false⟩
def ir192 : IFn :=   -- tympan/valid.first[tympan/api.Note]$1$1
⟨(.seq (.reg false [⟨some 2, none, .bx (.t 0) 2 true⟩, 
    ⟨some 3, none, .mov (.c (.p (.bool false)))⟩] [1, 2] [2])
  (.seq (.reg false [⟨some 4, none, .ld (.t 1) 1 false⟩, 
    ⟨some 5, none, .ld (.t 2) 2 true⟩, 
    ⟨some 6, none, .callv (.t 4) [(.t 5)] false⟩, 
    ⟨some 7, none, .bin .neq (.t 6) (.c (.p (.int .i64 0)))⟩, 
    ⟨some 3, none, .mov (.t 7)⟩] [3] [])
  .ret)),
  [.tmp 3], false⟩
def ir193 : IFn :=   -- tympan/valid.first[tympan/api.Float]$1
⟨(.seq (.reg false [⟨some 3, none, .mov (.c (.p (.int .i64 0)))⟩] [0, 1] [])
  (.seq (.reg false [⟨some 4, none, .mov (.t 0)⟩, 
    ⟨some 5, none, .mkf (.func 195) [] [(.t 1)]⟩, 
    ⟨some 6, none, .call 194 [(.t 4), (.t 5)] false⟩, 
    ⟨some 3, none, .mov (.t 6)⟩] [3] [])
  .ret)),
  [.tmp 3], false⟩
def lp194_0 : IC :=
  (.loop [0, 1, 7, 8] [] (.seq (.reg false [⟨some 9, none, .bin .lss (.t 8) (.t 7)⟩] [0, 1, 7, 8, 9] [])
      (.seq (.cond (.t 9)
      .skip
      (.exit 0))
      (.seq (.block 1 (.seq (.reg false [⟨some 10, none, .mov (.t 8)⟩, 
          ⟨some 5, none, .mov (.t 10)⟩] [0, 1, 5, 7, 8] [])
        (.seq (.reg false [⟨some 11, none, .mov (.t 1)⟩, 
          ⟨some 12, none, .mov (.t 0)⟩, 
          ⟨some 13, none, .mov (.t 5)⟩, 
          ⟨some 14, none, .ixs (.t 12) (.t 13) 3⟩, 
          ⟨some 15, none, .ld (.t 14) 3 true⟩, 
          ⟨some 16, none, .callv (.t 11) [(.t 15)] false⟩] [0, 1, 5, 7, 8, 16] [])
        (.cond (.t 16)
        (.seq (.reg false [⟨some 17, none, .mov (.t 5)⟩, 
            ⟨some 4, none, .mov (.t 17)⟩] [4] [])
          .ret)
        .skip))))
      (.reg false [⟨some 18, none, .bin .add (.t 8) (.c (.p (.int .i64 1)))⟩, 
        ⟨some 8, none, .mov (.t 18)⟩] [0, 1, 7, 8] [])))))
def ir194 : IFn :=   -- slices.IndexFunc[[]tympan/api.Float,tympan/api.Float]
⟨(.seq (.reg false [⟨some 4, none, .mov (.c (.p (.int .i64 0)))⟩] [0, 1] [])
  (.seq (.seq (.reg false [⟨some 6, none, .mov (.t 0)⟩, 
    ⟨some 7, none, .len (.t 6)⟩, 
    ⟨some 8, none, .mov (.c (.p (.int .i64 0)))⟩] [0, 1, 7, 8] [])
  (.block 0 lp194_0))
  (.seq (.reg false [⟨some 4, none, .mov (.c (.p (.int .i64 (-1))))⟩] [4] [])
  .ret))),
  [.tmp 4], false⟩
def ir195 : IFn :=   -- tympan/valid.first[tympan/api.Float]$1$1
⟨(.seq (.reg false [⟨some 2, none, .bx (.t 0) 3 true⟩, 
    ⟨some 3, none, .mov (.c (.p (.bool false)))⟩] [1, 2] [2])
  (.seq (.reg false [⟨some 4, none, .ld (.t 1) 1 false⟩, 
    ⟨some 5, none, .ld (.t 2) 3 true⟩, 
    ⟨some 6, none, .callv (.t 4) [(.t 5)] false⟩, 
    ⟨some 7, none, .bin .neq (.t 6) (.c (.p (.int .i64 0)))⟩, 
    ⟨some 3, none, .mov (.t 7)⟩] [3] [])
  .ret)),
  [.tmp 3], false⟩
def lp196_0 : IC :=
  (.loop [0, 1, 2, 7, 8, 14, 15, 16] [] (.seq (.reg false [⟨some 17, none, .bin .lss (.t 16) (.t 15)⟩] [0, 1, 2, 7, 8, 14, 15, 16, 17] [])
      (.seq (.cond (.t 17)
      .skip
      (.exit 0))
      (.seq (.block 1 (.seq (.reg false [⟨some 18, none, .mov (.t 16)⟩, 
          ⟨some 19, none, .ixs (.t 14) (.t 16) 7⟩, 
          ⟨some 20, none, .ld (.t 19) 7 true⟩, 
          ⟨some 10, none, .al [.p (.int .i64 0), .p (.int .i64 0), .p (.int .i64 0), .p (.int .i64 0), .p (.int .i64 0), .p (.int .i64 0), .p (.int .i64 0)] true⟩, 
          ⟨some 9, none, .mov (.t 18)⟩, 
          ⟨none, none, .st (.t 10) (.t 20) 7⟩] [0, 1, 2, 7, 8, 9, 10, 14, 15, 16] [10])
        (.seq (.seq (.reg false [⟨some 21, none, .mov (.t 9)⟩, 
          ⟨some 22, none, .mov (.t 7)⟩, 
          ⟨some 23, none, .bin .eql (.t 21) (.t 22)⟩, 
          ⟨some 24, none, .mov (.t 23)⟩, 
          ⟨some 25, (some (24, false)), .off (.t 10) 0⟩, 
          ⟨some 26, (some (24, false)), .ld (.t 25) 1 false⟩, 
          ⟨some 27, (some (24, false)), .mov (.t 1)⟩, 
          ⟨some 28, (some (24, false)), .bin .eql (.t 26) (.t 27)⟩, 
          ⟨some 29, (some (24, false)), .mov (.t 28)⟩, 
          ⟨some 30, (some (29, true)), .mov (.t 8)⟩, 
          ⟨some 31, (some (29, true)), .mov (.t 2)⟩, 
          ⟨some 32, (some (29, true)), .bin .eql (.t 30) (.t 31)⟩, 
          ⟨some 33, (some (24, false)), .pick (.t 29) (.t 32) (.c (.p (.bool false)))⟩, 
          ⟨some 34, none, .pick (.t 24) (.c (.p (.bool true))) (.t 33)⟩] [0, 1, 2, 7, 8, 9, 10, 14, 15, 16, 34] [10])
        (.cond (.t 34)
        (.seq (.reg false [⟨some 35, none, .mov (.t 9)⟩, 
            ⟨some 6, none, .mov (.t 35)⟩] [6] [])
          .ret)
        .skip))
        (.seq (.reg false [⟨some 36, none, .off (.t 10) 0⟩, 
          ⟨some 37, none, .ld (.t 36) 1 false⟩, 
          ⟨some 38, none, .mov (.t 1)⟩, 
          ⟨some 39, none, .bin .eql (.t 37) (.t 38)⟩] [0, 1, 2, 7, 8, 14, 15, 16, 39] [])
        (.cond (.t 39)
        (.reg false [⟨some 40, none, .mov (.t 8)⟩, 
            ⟨some 41, none, .bin .add (.t 40) (.c (.p (.int .i64 1)))⟩, 
            ⟨some 8, none, .mov (.t 41)⟩] [0, 1, 2, 7, 8, 14, 15, 16] [])
        .skip)))))
      (.reg false [⟨some 42, none, .bin .add (.t 16) (.c (.p (.int .i64 1)))⟩, 
        ⟨some 16, none, .mov (.t 42)⟩] [0, 1, 2, 7, 8, 14, 15, 16] [])))))
def ir196 : IFn :=   -- tympan/valid.refs
⟨(.seq (.reg false [⟨some 6, none, .mov (.c (.p (.int .i64 0)))⟩] [0, 1, 2] [])
  (.seq (.reg false [⟨some 11, none, .mov (.t 0)⟩, 
    ⟨some 12, none, .mov (.t 1)⟩, 
    ⟨some 13, none, .call 59 [(.t 11), (.t 12)] false⟩, 
    ⟨some 7, none, .mov (.t 13)⟩] [0, 1, 2, 7] [])
  (.seq (.reg false [⟨some 8, none, .mov (.c (.p (.int .i64 0)))⟩] [0, 1, 2, 7, 8] [])
  (.seq (.seq (.reg false [⟨some 14, none, .mov (.t 0)⟩, 
    ⟨some 15, none, .len (.t 14)⟩, 
    ⟨some 16, none, .mov (.c (.p (.int .i64 0)))⟩] [0, 1, 2, 7, 8, 14, 15, 16] [])
  (.block 0 lp196_0))
  (.seq (.seq (.reg false [⟨some 43, none, .mov (.t 8)⟩, 
    ⟨some 44, none, .mov (.t 2)⟩, 
    ⟨some 45, none, .bin .lss (.t 43) (.t 44)⟩] [0, 45] [])
  (.cond (.t 45)
  (.seq (.reg false [⟨some 46, none, .mov (.t 0)⟩, 
      ⟨some 47, none, .len (.t 46)⟩, 
      ⟨some 6, none, .mov (.t 47)⟩] [6] [])
    .ret)
  .skip))
  (.seq (.reg false [⟨some 6, none, .mov (.c (.p (.int .i64 (-1))))⟩] [6] [])
  .ret)))))),
  [.tmp 6], false⟩
def ir197 : IFn :=   -- tympan/valid.tall$1
⟨(.seq (.reg false [⟨some 2, none, .bx (.t 0) 3 true⟩, 
    ⟨some 3, none, .mov (.c (.p (.bool false)))⟩] [1, 2] [2])
  (.seq (.reg false [⟨some 4, none, .off (.t 2) 1⟩, 
    ⟨some 5, none, .ld (.t 4) 1 false⟩, 
    ⟨some 6, none, .off (.t 1) 0⟩, 
    ⟨some 7, none, .off (.t 6) 4⟩, 
    ⟨some 8, none, .ld (.t 7) 1 false⟩, 
    ⟨some 9, none, .bin .gtr (.t 5) (.t 8)⟩, 
    ⟨some 3, none, .mov (.t 9)⟩] [3] [])
  .ret)),
  [.tmp 3], false⟩
def lp198_0 : IC :=
  (.loop [1, 3, 9, 10, 11, 47, 48, 49] [1] (.seq (.reg false [⟨some 50, none, .bin .lss (.t 49) (.t 48)⟩] [1, 3, 9, 10, 11, 47, 48, 49, 50] [1])
            (.seq (.cond (.t 50)
            .skip
            (.exit 2))
            (.seq (.block 3 (.seq (.reg false [⟨some 51, none, .mov (.t 49)⟩, 
                ⟨some 52, none, .ixs (.t 47) (.t 49) 2⟩, 
                ⟨some 53, none, .ld (.t 52) 2 true⟩, 
                ⟨some 7, none, .al [.p (.int .i64 0), .nils] true⟩, 
                ⟨some 6, none, .mov (.t 51)⟩, 
                ⟨none, none, .st (.t 7) (.t 53) 2⟩] [1, 3, 6, 7, 9, 10, 11, 47, 48, 49] [1, 7])
              (.seq (.reg true [⟨some 54, none, .off (.t 7) 0⟩, 
                ⟨some 55, none, .ldl 7 (.t 54) 1 false⟩, 
                ⟨some 56, none, .off (.t 1) 0⟩, 
                ⟨some 57, none, .off (.t 56) 0⟩, 
                ⟨some 58, none, .ldl 1 (.t 57) 19 true⟩, 
                ⟨some 59, none, .mov (.t 6)⟩, 
                ⟨some 60, none, .call 237 [(.t 58), (.t 59)] false⟩, 
                ⟨some 61, none, .bin .neq (.t 55) (.t 60)⟩] [1, 3, 9, 10, 11, 47, 48, 49, 61] [1])
              (.cond (.t 61)
              (.seq (.reg false [⟨some 62, none, .mov (.t 3)⟩, 
                  ⟨some 2, none, .mov (.t 62)⟩] [2] [])
                .ret)
              .skip))))
            (.reg false [⟨some 63, none, .bin .add (.t 49) (.c (.p (.int .i64 1)))⟩, 
              ⟨some 49, none, .mov (.t 63)⟩] [1, 3, 9, 10, 11, 47, 48, 49] [1])))))
def lp198_1 : IC :=
  (.loop [1, 9, 10, 11] [1] (.seq (.reg false [⟨some 12, none, .bin .lss (.t 11) (.t 10)⟩] [1, 9, 10, 11, 12] [1])
      (.seq (.cond (.t 12)
      .skip
      (.exit 0))
      (.seq (.block 1 (.seq (.reg false [⟨some 13, none, .mov (.t 11)⟩, 
          ⟨some 14, none, .ixs (.t 9) (.t 11) 4⟩, 
          ⟨some 15, none, .ld (.t 14) 4 true⟩, 
          ⟨some 4, none, .al [.nils, .p (.int .i64 0), .p (.int .i64 0), .p (.int .i64 0)] true⟩, 
          ⟨some 3, none, .mov (.t 13)⟩, 
          ⟨none, none, .st (.t 4) (.t 15) 4⟩] [1, 3, 4, 9, 10, 11] [1, 4])
        (.seq (.reg false [⟨some 16, none, .off (.t 4) 0⟩, 
          ⟨some 17, none, .ld (.t 16) 1 false⟩, 
          ⟨some 18, none, .len (.t 17)⟩, 
          ⟨some 5, none, .mov (.t 18)⟩] [1, 3, 4, 5, 9, 10, 11] [1, 4])
        (.seq (.seq (.reg false [⟨some 19, none, .mov (.t 5)⟩, 
          ⟨some 20, none, .bin .lss (.t 19) (.c (.p (.int .i64 1)))⟩, 
          ⟨some 21, none, .mov (.t 20)⟩, 
          ⟨some 22, (some (21, false)), .mov (.t 5)⟩, 
          ⟨some 23, (some (21, false)), .off (.t 1) 0⟩, 
          ⟨some 24, (some (21, false)), .off (.t 23) 0⟩, 
          ⟨some 25, (some (21, false)), .off (.t 24) 0⟩, 
          ⟨some 26, (some (21, false)), .ld (.t 25) 1 false⟩, 
          ⟨some 27, (some (21, false)), .bin .gtr (.t 22) (.t 26)⟩, 
          ⟨some 28, none, .pick (.t 21) (.c (.p (.bool true))) (.t 27)⟩, 
          ⟨some 29, none, .mov (.t 28)⟩, 
          ⟨some 30, (some (29, false)), .mov (.t 5)⟩, 
          ⟨some 31, (some (29, false)), .off (.t 1) 0⟩, 
          ⟨some 32, (some (29, false)), .off (.t 31) 0⟩, 
          ⟨some 33, (some (29, false)), .off (.t 32) 0⟩, 
          ⟨some 34, (some (29, false)), .ld (.t 33) 1 false⟩, 
          ⟨some 35, (some (29, false)), .bin .lss (.t 30) (.t 34)⟩, 
          ⟨some 36, (some (29, false)), .mov (.t 35)⟩, 
          ⟨some 37, (some (36, true)), .mov (.t 3)⟩, 
          ⟨some 38, (some (36, true)), .off (.t 1) 22⟩, 
          ⟨some 39, (some (36, true)), .ld (.t 38) 1 false⟩, 
          ⟨some 40, (some (36, true)), .len (.t 39)⟩, 
          ⟨some 41, (some (36, true)), .bin .sub (.t 40) (.c (.p (.int .i64 1)))⟩, 
          ⟨some 42, (some (36, true)), .bin .lss (.t 37) (.t 41)⟩, 
          ⟨some 43, (some (29, false)), .pick (.t 36) (.t 42) (.c (.p (.bool false)))⟩, 
          ⟨some 44, none, .pick (.t 29) (.c (.p (.bool true))) (.t 43)⟩] [1, 3, 4, 9, 10, 11, 44] [1, 4])
        (.cond (.t 44)
        (.seq (.reg false [⟨some 45, none, .mov (.t 3)⟩, 
            ⟨some 2, none, .mov (.t 45)⟩] [2] [])
          .ret)
        .skip))
        (.seq (.reg false [⟨some 46, none, .off (.t 4) 0⟩, 
          ⟨some 47, none, .ld (.t 46) 1 false⟩, 
          ⟨some 48, none, .len (.t 47)⟩, 
          ⟨some 49, none, .mov (.c (.p (.int .i64 0)))⟩] [1, 3, 9, 10, 11, 47, 48, 49] [1])
        (.block 2 lp198_0))))))
      (.reg false [⟨some 64, none, .bin .add (.t 11) (.c (.p (.int .i64 1)))⟩, 
        ⟨some 11, none, .mov (.t 64)⟩] [1, 9, 10, 11] [1])))))
def ir198 : IFn :=   -- (tympan/check.asked).cols
⟨(.seq (.reg false [⟨some 1, none, .bx (.t 0) 23 true⟩, 
    ⟨some 2, none, .mov (.c (.p (.int .i64 0)))⟩] [1] [1])
  (.seq (.seq (.reg false [⟨some 8, none, .off (.t 1) 22⟩, 
    ⟨some 9, none, .ld (.t 8) 1 false⟩, 
    ⟨some 10, none, .len (.t 9)⟩, 
    ⟨some 11, none, .mov (.c (.p (.int .i64 0)))⟩] [1, 9, 10, 11] [1])
  (.block 0 lp198_1))
  (.seq (.reg false [⟨some 2, none, .mov (.c (.p (.int .i64 (-1))))⟩] [2] [])
  .ret))),
  [.tmp 2], false⟩
def lp199_0 : IC :=
  (.loop [3, 8, 9, 10, 16, 17, 18] [] (.seq (.reg false [⟨some 19, none, .bin .lss (.t 18) (.t 17)⟩] [3, 8, 9, 10, 16, 17, 18, 19] [])
            (.seq (.cond (.t 19)
            .skip
            (.exit 2))
            (.seq (.block 3 (.seq (.reg false [⟨some 20, none, .ixs (.t 16) (.t 18) 2⟩, 
                ⟨some 21, none, .ld (.t 20) 2 true⟩, 
                ⟨some 6, none, .al [.p (.int .i64 0), .nils] true⟩, 
                ⟨none, none, .st (.t 6) (.t 21) 2⟩] [3, 6, 8, 9, 10, 16, 17, 18] [6])
              (.seq (.reg false [⟨some 22, none, .ld (.t 6) 2 true⟩, 
                ⟨some 23, none, .call 63 [(.t 22)] false⟩, 
                ⟨some 24, none, .un .not (.t 23)⟩] [3, 8, 9, 10, 16, 17, 18, 24] [])
              (.cond (.t 24)
              (.seq (.reg false [⟨some 25, none, .mov (.t 3)⟩, 
                  ⟨some 2, none, .mov (.t 25)⟩] [2] [])
                .ret)
              .skip))))
            (.reg false [⟨some 26, none, .bin .add (.t 18) (.c (.p (.int .i64 1)))⟩, 
              ⟨some 18, none, .mov (.t 26)⟩] [3, 8, 9, 10, 16, 17, 18] [])))))
def lp199_1 : IC :=
  (.loop [8, 9, 10] [] (.seq (.reg false [⟨some 11, none, .bin .lss (.t 10) (.t 9)⟩] [8, 9, 10, 11] [])
      (.seq (.cond (.t 11)
      .skip
      (.exit 0))
      (.seq (.block 1 (.seq (.reg false [⟨some 12, none, .mov (.t 10)⟩, 
          ⟨some 13, none, .ixs (.t 8) (.t 10) 4⟩, 
          ⟨some 14, none, .ld (.t 13) 4 true⟩, 
          ⟨some 4, none, .al [.nils, .p (.int .i64 0), .p (.int .i64 0), .p (.int .i64 0)] true⟩, 
          ⟨some 3, none, .mov (.t 12)⟩, 
          ⟨none, none, .st (.t 4) (.t 14) 4⟩] [3, 4, 8, 9, 10] [4])
        (.seq (.reg false [⟨some 15, none, .off (.t 4) 0⟩, 
          ⟨some 16, none, .ld (.t 15) 1 false⟩, 
          ⟨some 17, none, .len (.t 16)⟩, 
          ⟨some 18, none, .mov (.c (.p (.int .i64 0)))⟩] [3, 8, 9, 10, 16, 17, 18] [])
        (.block 2 lp199_0))))
      (.reg false [⟨some 27, none, .bin .add (.t 10) (.c (.p (.int .i64 1)))⟩, 
        ⟨some 10, none, .mov (.t 27)⟩] [8, 9, 10] [])))))
def ir199 : IFn :=   -- (tympan/check.asked).stands
⟨(.seq (.reg false [⟨some 1, none, .bx (.t 0) 23 true⟩, 
    ⟨some 2, none, .mov (.c (.p (.int .i64 0)))⟩] [1] [1])
  (.seq (.seq (.reg false [⟨some 7, none, .off (.t 1) 22⟩, 
    ⟨some 8, none, .ld (.t 7) 1 false⟩, 
    ⟨some 9, none, .len (.t 8)⟩, 
    ⟨some 10, none, .mov (.c (.p (.int .i64 0)))⟩] [8, 9, 10] [])
  (.block 0 lp199_1))
  (.seq (.reg false [⟨some 2, none, .mov (.c (.p (.int .i64 (-1))))⟩] [2] [])
  .ret))),
  [.tmp 2], false⟩
def lp200_0 : IC :=
  (.loop [1, 3, 8, 9, 10] [1] (.seq (.reg false [⟨some 11, none, .bin .lss (.t 10) (.t 9)⟩] [1, 3, 8, 9, 10, 11] [1])
      (.seq (.cond (.t 11)
      .skip
      (.exit 0))
      (.seq (.block 1 (.seq (.reg false [⟨some 12, none, .mov (.t 10)⟩, 
          ⟨some 13, none, .ixs (.t 8) (.t 10) 7⟩, 
          ⟨some 14, none, .ld (.t 13) 7 true⟩, 
          ⟨some 5, none, .al [.p (.int .i64 0), .p (.int .i64 0), .p (.int .i64 0), .p (.int .i64 0), .p (.int .i64 0), .p (.int .i64 0), .p (.int .i64 0)] true⟩, 
          ⟨some 4, none, .mov (.t 12)⟩, 
          ⟨none, none, .st (.t 5) (.t 14) 7⟩] [1, 3, 4, 5, 8, 9, 10] [1, 5])
        (.seq (.reg false [⟨some 15, none, .off (.t 5) 0⟩, 
          ⟨some 16, none, .ld (.t 15) 1 false⟩, 
          ⟨some 17, none, .bin .eql (.t 16) (.c (.p (.int .i64 1)))⟩] [1, 3, 4, 5, 8, 9, 10, 17] [1, 5])
        (.cond (.t 17)
        (.reg false [⟨some 18, none, .mov (.t 3)⟩, 
            ⟨some 19, none, .mov (.t 4)⟩, 
            ⟨some 20, none, .off (.t 5) 1⟩, 
            ⟨some 21, none, .ld (.t 20) 1 false⟩, 
            ⟨some 22, none, .bld [.p (.int .i64 0), .p (.int .i64 0), .p (.int .i64 0), .p (.int .i64 0), .p (.int .i64 0)] [(1, 1, (.t 19)), (4, 1, (.t 21))]⟩, 
            ⟨some 23, none, .bsl 5 1 [.p (.int .i64 0), .p (.int .i64 0), .p (.int .i64 0), .p (.int .i64 0), .p (.int .i64 0)] [(0, (.t 22))]⟩, 
            ⟨some 24, none, .app (.t 18) (.t 23) 5⟩, 
            ⟨some 3, none, .mov (.t 24)⟩] [1, 3, 8, 9, 10] [1])
        .skip))))
      (.reg false [⟨some 25, none, .bin .add (.t 10) (.c (.p (.int .i64 1)))⟩, 
        ⟨some 10, none, .mov (.t 25)⟩] [1, 3, 8, 9, 10] [1])))))
def ir200 : IFn :=   -- (tympan/check.asked).boxes
⟨(.seq (.reg false [⟨some 1, none, .bx (.t 0) 23 true⟩, 
    ⟨some 2, none, .mov (.c (.p (.int .i64 0)))⟩] [1] [1])
  (.seq (.reg false [⟨some 3, none, .nrow 5⟩] [1, 3] [1])
  (.seq (.seq (.reg false [⟨some 6, none, .off (.t 1) 0⟩, 
    ⟨some 7, none, .off (.t 6) 19⟩, 
    ⟨some 8, none, .ld (.t 7) 1 false⟩, 
    ⟨some 9, none, .len (.t 8)⟩, 
    ⟨some 10, none, .mov (.c (.p (.int .i64 0)))⟩] [1, 3, 8, 9, 10] [1])
  (.block 0 lp200_0))
  (.seq (.reg false [⟨some 26, none, .ld (.t 1) 23 true⟩, 
    ⟨some 27, none, .mov (.t 3)⟩, 
    ⟨some 28, none, .call 238 [(.t 26), (.c (.p (.int .i64 1))), (.t 27)] false⟩, 
    ⟨some 2, none, .mov (.t 28)⟩] [2] [])
  .ret)))),
  [.tmp 2], false⟩
def lp201_0 : IC :=
  (.loop [1, 3, 4, 10, 11, 12, 18, 19, 20] [1] (.seq (.reg false [⟨some 21, none, .bin .lss (.t 20) (.t 19)⟩] [1, 3, 4, 10, 11, 12, 18, 19, 20, 21] [1])
            (.seq (.cond (.t 21)
            .skip
            (.exit 2))
            (.seq (.block 3 (.seq (.reg false [⟨some 22, none, .mov (.t 20)⟩, 
                ⟨some 23, none, .ixs (.t 18) (.t 20) 1⟩, 
                ⟨some 24, none, .ld (.t 23) 1 false⟩, 
                ⟨some 6, none, .mov (.t 22)⟩, 
                ⟨some 7, none, .mov (.t 24)⟩] [1, 3, 4, 6, 7, 10, 11, 12, 18, 19, 20] [1])
              (.reg false [⟨some 25, none, .mov (.t 3)⟩, 
                ⟨some 26, none, .mov (.t 4)⟩, 
                ⟨some 27, none, .mov (.t 6)⟩, 
                ⟨some 28, none, .mov (.t 7)⟩, 
                ⟨some 29, none, .bld [.p (.int .i64 0), .p (.int .i64 0), .p (.int .i64 0), .p (.int .i64 0), .p (.int .i64 0)] [(1, 1, (.t 26)), (2, 1, (.t 27)), (4, 1, (.t 28))]⟩, 
                ⟨some 30, none, .bsl 5 1 [.p (.int .i64 0), .p (.int .i64 0), .p (.int .i64 0), .p (.int .i64 0), .p (.int .i64 0)] [(0, (.t 29))]⟩, 
                ⟨some 31, none, .app (.t 25) (.t 30) 5⟩, 
                ⟨some 3, none, .mov (.t 31)⟩] [1, 3, 4, 10, 11, 12, 18, 19, 20] [1])))
            (.reg false [⟨some 32, none, .bin .add (.t 20) (.c (.p (.int .i64 1)))⟩, 
              ⟨some 20, none, .mov (.t 32)⟩] [1, 3, 4, 10, 11, 12, 18, 19, 20] [1])))))
def lp201_1 : IC :=
  (.loop [1, 3, 10, 11, 12] [1] (.seq (.reg false [⟨some 13, none, .bin .lss (.t 12) (.t 11)⟩] [1, 3, 10, 11, 12, 13] [1])
      (.seq (.cond (.t 13)
      .skip
      (.exit 0))
      (.seq (.block 1 (.seq (.reg false [⟨some 14, none, .mov (.t 12)⟩, 
          ⟨some 15, none, .ixs (.t 10) (.t 12) 2⟩, 
          ⟨some 16, none, .ld (.t 15) 2 true⟩, 
          ⟨some 5, none, .al [.nils, .nils] true⟩, 
          ⟨some 4, none, .mov (.t 14)⟩, 
          ⟨none, none, .st (.t 5) (.t 16) 2⟩] [1, 3, 4, 5, 10, 11, 12] [1, 5])
        (.seq (.reg false [⟨some 17, none, .off (.t 5) 0⟩, 
          ⟨some 18, none, .ld (.t 17) 1 false⟩, 
          ⟨some 19, none, .len (.t 18)⟩, 
          ⟨some 20, none, .mov (.c (.p (.int .i64 0)))⟩] [1, 3, 4, 10, 11, 12, 18, 19, 20] [1])
        (.block 2 lp201_0))))
      (.reg false [⟨some 33, none, .bin .add (.t 12) (.c (.p (.int .i64 1)))⟩, 
        ⟨some 12, none, .mov (.t 33)⟩] [1, 3, 10, 11, 12] [1])))))
def ir201 : IFn :=   -- (tympan/check.asked).lines
⟨(.seq (.reg false [⟨some 1, none, .bx (.t 0) 23 true⟩, 
    ⟨some 2, none, .mov (.c (.p (.int .i64 0)))⟩] [1] [1])
  (.seq (.reg false [⟨some 3, none, .nrow 5⟩] [1, 3] [1])
  (.seq (.seq (.reg false [⟨some 8, none, .off (.t 1) 0⟩, 
    ⟨some 9, none, .off (.t 8) 20⟩, 
    ⟨some 10, none, .ld (.t 9) 1 false⟩, 
    ⟨some 11, none, .len (.t 10)⟩, 
    ⟨some 12, none, .mov (.c (.p (.int .i64 0)))⟩] [1, 3, 10, 11, 12] [1])
  (.block 0 lp201_1))
  (.seq (.reg false [⟨some 34, none, .ld (.t 1) 23 true⟩, 
    ⟨some 35, none, .mov (.t 3)⟩, 
    ⟨some 36, none, .call 238 [(.t 34), (.c (.p (.int .i64 4))), (.t 35)] false⟩, 
    ⟨some 2, none, .mov (.t 36)⟩] [2] [])
  .ret)))),
  [.tmp 2], false⟩
def lp202_0 : IC :=
  (.seq (.reg false [⟨some 4, none, .mov (.t 13)⟩] [1, 2, 3, 4, 14] [])
      (.reg false [⟨some 5, none, .al [.p (.int .i64 0), .p (.int .i64 0), .p (.int .i64 0), .p (.int .i64 0), .p (.int .i64 0)] true⟩, 
        ⟨none, none, .st (.t 5) (.t 14) 5⟩] [1, 2, 3, 4, 5] [5]))
def lp202_1 : IC :=
  (.block 1 (.seq (.reg false [⟨some 16, none, .off (.t 1) 0⟩, 
          ⟨some 17, none, .off (.t 16) 21⟩, 
          ⟨some 18, none, .ld (.t 17) 1 false⟩, 
          ⟨some 19, none, .off (.t 5) 1⟩, 
          ⟨some 20, none, .ld (.t 19) 1 false⟩, 
          ⟨some 21, none, .call 125 [(.t 18), (.t 20)] false⟩, 
          ⟨some 15, none, .mov (.t 21)⟩, 
          ⟨some 22, none, .ext (.t 15) 0⟩, 
          ⟨some 23, none, .ext (.t 15) 1⟩, 
          ⟨some 6, none, .al [.p (.int .i64 0), .p (.int .i64 0), .p (.int .i64 0)] true⟩, 
          ⟨none, none, .st (.t 6) (.t 22) 3⟩, 
          ⟨some 7, none, .mov (.t 23)⟩] [2, 3, 4, 5, 6, 7] [5, 6])
        (.seq (.reg false [⟨some 25, none, .ld (.t 3) 1 false⟩, 
          ⟨some 26, none, .off (.t 5) 1⟩, 
          ⟨some 27, none, .ld (.t 26) 1 false⟩, 
          ⟨some 28, none, .mp (.lk none (.agg []) true) [(.t 25), (.t 27)]⟩, 
          ⟨some 24, none, .mov (.t 28)⟩, 
          ⟨some 29, none, .ext (.t 24) 0⟩, 
          ⟨some 30, none, .ext (.t 24) 1⟩, 
          ⟨some 8, none, .al [] false⟩, 
          ⟨none, none, .st (.t 8) (.t 29) 0⟩, 
          ⟨some 9, none, .mov (.t 30)⟩] [2, 3, 4, 5, 6, 7, 9] [5, 6])
        (.seq (.seq (.reg false [⟨some 31, none, .mov (.t 7)⟩, 
          ⟨some 32, none, .un .not (.t 31)⟩, 
          ⟨some 33, none, .mov (.t 32)⟩, 
          ⟨some 34, (some (33, false)), .mov (.t 9)⟩, 
          ⟨some 35, none, .pick (.t 33) (.c (.p (.bool true))) (.t 34)⟩, 
          ⟨some 36, none, .mov (.t 35)⟩, 
          ⟨some 37, (some (36, false)), .off (.t 5) 2⟩, 
          ⟨some 38, (some (36, false)), .ld (.t 37) 1 false⟩, 
          ⟨some 39, (some (36, false)), .bin .neq (.t 38) (.c (.p (.int .i64 0)))⟩, 
          ⟨some 40, none, .pick (.t 36) (.c (.p (.bool true))) (.t 39)⟩, 
          ⟨some 41, none, .mov (.t 40)⟩, 
          ⟨some 42, (some (41, false)), .off (.t 5) 4⟩, 
          ⟨some 43, (some (41, false)), .ld (.t 42) 1 false⟩, 
          ⟨some 44, (some (41, false)), .off (.t 6) 1⟩, 
          ⟨some 45, (some (41, false)), .ld (.t 44) 1 false⟩, 
          ⟨some 46, (some (41, false)), .bin .neq (.t 43) (.t 45)⟩, 
          ⟨some 47, none, .pick (.t 41) (.c (.p (.bool true))) (.t 46)⟩] [2, 3, 4, 5, 47] [5])
        (.cond (.t 47)
        (.seq (.reg false [⟨some 48, none, .mov (.t 4)⟩, 
            ⟨none, none, .st (.t 2) (.t 48) 1⟩] [2] [])
          .ret)
        .skip))
        (.reg false [⟨some 49, none, .ld (.t 3) 1 false⟩, 
          ⟨some 50, none, .off (.t 5) 1⟩, 
          ⟨some 51, none, .ld (.t 50) 1 false⟩, 
          ⟨some 52, none, .bld [] []⟩, 
          ⟨none, none, .mp (.st none 0) [(.t 49), (.t 51), (.t 52)]⟩] [] [])))))
def ir202 : IFn :=   -- (tympan/check.asked).floats
⟨(.seq (.reg false [⟨some 1, none, .bx (.t 0) 23 false⟩, 
    ⟨some 2, none, .al [.p (.int .i64 0)] false⟩] [1, 2] [])
  (.seq (.reg false [⟨some 10, none, .mp .mkm []⟩, 
    ⟨some 3, none, .al [.p .nilm] false⟩, 
    ⟨none, none, .st (.t 3) (.t 10) 1⟩] [1, 2, 3] [])
  (.seq (.seq (.reg false [⟨some 11, none, .ld (.t 1) 23 true⟩, 
    ⟨some 12, none, .call 239 [(.t 11), (.c (.p (.int .i64 2)))] false⟩] [1, 2, 3, 12] [])
  (.block 0 (.rangeFunc (.t 12) [13, 14] lp202_0 lp202_1)))
  (.seq (.seq (.reg false [⟨some 53, none, .ld (.t 3) 1 false⟩, 
    ⟨some 54, none, .mp .len [(.t 53)]⟩, 
    ⟨some 55, none, .off (.t 1) 0⟩, 
    ⟨some 56, none, .off (.t 55) 21⟩, 
    ⟨some 57, none, .ld (.t 56) 1 false⟩, 
    ⟨some 58, none, .len (.t 57)⟩, 
    ⟨some 59, none, .bin .lss (.t 54) (.t 58)⟩] [1, 2, 59] [])
  (.cond (.t 59)
  (.seq (.reg false [⟨some 60, none, .off (.t 1) 22⟩, 
      ⟨some 61, none, .ld (.t 60) 1 false⟩, 
      ⟨some 62, none, .len (.t 61)⟩, 
      ⟨none, none, .st (.t 2) (.t 62) 1⟩] [2] [])
    .ret)
  .skip))
  (.seq (.reg false [⟨none, none, .st (.t 2) (.c (.p (.int .i64 (-1)))) 1⟩] [2] [])
  .ret))))),
  [.cell 2 1 false], false⟩
def lp203_0 : IC :=
  (.seq (.reg false [⟨some 3, none, .mov (.t 12)⟩] [1, 2, 3, 13] [])
      (.reg false [⟨some 4, none, .al [.p (.int .i64 0), .p (.int .i64 0), .p (.int .i64 0), .p (.int .i64 0), .p (.int .i64 0)] true⟩, 
        ⟨none, none, .st (.t 4) (.t 13) 5⟩] [1, 2, 3, 4] [4]))
def lp203_1 : IC :=
  (.block 1 (.seq (.reg false [⟨some 14, none, .off (.t 4) 3⟩, 
          ⟨some 15, none, .ld (.t 14) 1 false⟩, 
          ⟨some 16, none, .off (.t 4) 4⟩, 
          ⟨some 17, none, .ld (.t 16) 1 false⟩, 
          ⟨some 18, none, .bin .add (.t 15) (.t 17)⟩, 
          ⟨some 19, none, .off (.t 1) 0⟩, 
          ⟨some 20, none, .off (.t 19) 0⟩, 
          ⟨some 21, none, .off (.t 20) 5⟩, 
          ⟨some 22, none, .ld (.t 21) 1 false⟩, 
          ⟨some 23, none, .bin .rem (.t 18) (.t 22)⟩, 
          ⟨some 24, none, .bin .neq (.t 23) (.c (.p (.int .i64 0)))⟩] [2, 3, 24] [])
        (.cond (.t 24)
        (.seq (.reg false [⟨some 25, none, .mov (.t 3)⟩, 
            ⟨none, none, .st (.t 2) (.t 25) 1⟩] [2] [])
          .ret)
        .skip)))
def ir203 : IFn :=   -- (tympan/check.asked).feet
⟨(.seq (.reg false [⟨some 1, none, .bx (.t 0) 23 false⟩, 
    ⟨some 2, none, .al [.p (.int .i64 0)] false⟩] [1, 2] [])
  (.seq (.seq (.reg false [⟨some 5, none, .off (.t 1) 0⟩, 
    ⟨some 6, none, .off (.t 5) 0⟩, 
    ⟨some 7, none, .off (.t 6) 5⟩, 
    ⟨some 8, none, .ld (.t 7) 1 false⟩, 
    ⟨some 9, none, .bin .lss (.t 8) (.c (.p (.int .i64 1)))⟩] [1, 2, 9] [])
  (.cond (.t 9)
  (.seq (.reg false [⟨none, none, .st (.t 2) (.c (.p (.int .i64 (-1)))) 1⟩] [2] [])
    .ret)
  .skip))
  (.seq (.seq (.reg false [⟨some 10, none, .ld (.t 1) 23 true⟩, 
    ⟨some 11, none, .call 239 [(.t 10), (.c (.p (.int .i64 1)))] false⟩] [1, 2, 11] [])
  (.block 0 (.rangeFunc (.t 11) [12, 13] lp203_0 lp203_1)))
  (.seq (.reg false [⟨none, none, .st (.t 2) (.c (.p (.int .i64 (-1)))) 1⟩] [2] [])
  .ret)))),
  [.cell 2 1 false], false⟩
def ir204 : IFn :=   -- (tympan/check.asked).marks
⟨(.seq (.reg false [⟨some 1, none, .bx (.t 0) 23 true⟩, 
    ⟨some 2, none, .mov (.c (.p (.int .i64 0)))⟩] [1] [1])
  (.seq (.reg false [⟨some 3, none, .off (.t 1) 22⟩, 
    ⟨some 4, none, .ld (.t 3) 1 false⟩, 
    ⟨some 5, none, .call 65 [(.t 4)] false⟩, 
    ⟨some 2, none, .mov (.t 5)⟩] [2] [])
  .ret)),
  [.tmp 2], false⟩
def lp220_0 : IC :=
  (.loop [1, 2, 7, 8, 9] [] (.seq (.reg false [⟨some 10, none, .bin .lss (.t 9) (.t 8)⟩] [1, 2, 7, 8, 9, 10] [])
      (.seq (.cond (.t 10)
      .skip
      (.exit 0))
      (.seq (.block 1 (.seq (.reg false [⟨some 11, none, .ixs (.t 7) (.t 9) 1⟩, 
          ⟨some 12, none, .ld (.t 11) 1 false⟩, 
          ⟨some 6, none, .mov (.t 12)⟩] [1, 2, 6, 7, 8, 9] [])
        (.seq (.reg false [⟨some 13, none, .mov (.t 6)⟩, 
          ⟨some 14, none, .ld (.t 1) 1 false⟩, 
          ⟨some 15, none, .bin .lss (.t 13) (.t 14)⟩, 
          ⟨some 16, none, .mov (.t 15)⟩, 
          ⟨some 17, (some (16, false)), .mov (.t 6)⟩, 
          ⟨some 18, (some (16, false)), .ld (.t 2) 1 false⟩, 
          ⟨some 19, (some (16, false)), .bin .gtr (.t 17) (.t 18)⟩, 
          ⟨some 20, none, .pick (.t 16) (.c (.p (.bool true))) (.t 19)⟩] [1, 2, 7, 8, 9, 20] [])
        (.cond (.t 20)
        (.seq (.reg false [⟨some 4, none, .mov (.c (.p (.bool false)))⟩] [4] [])
          .ret)
        .skip))))
      (.reg false [⟨some 21, none, .bin .add (.t 9) (.c (.p (.int .i64 1)))⟩, 
        ⟨some 9, none, .mov (.t 21)⟩] [1, 2, 7, 8, 9] [])))))
def ir220 : IFn :=   -- tympan/geom.within[int]$1
⟨(.seq (.reg false [⟨some 4, none, .mov (.c (.p (.bool false)))⟩] [0, 1, 2] [])
  (.seq (.seq (.reg false [⟨some 7, none, .mov (.t 0)⟩, 
    ⟨some 8, none, .len (.t 7)⟩, 
    ⟨some 9, none, .mov (.c (.p (.int .i64 0)))⟩] [1, 2, 7, 8, 9] [])
  (.block 0 lp220_0))
  (.seq (.reg false [⟨some 4, none, .mov (.c (.p (.bool true)))⟩] [4] [])
  .ret))),
  [.tmp 4], false⟩
def lp221_0 : IC :=
  (.loop [1, 2, 7, 8, 9] [] (.seq (.reg false [⟨some 10, none, .bin .lss (.t 9) (.t 8)⟩] [1, 2, 7, 8, 9, 10] [])
      (.seq (.cond (.t 10)
      .skip
      (.exit 0))
      (.seq (.block 1 (.seq (.reg false [⟨some 11, none, .ixs (.t 7) (.t 9) 1⟩, 
          ⟨some 12, none, .ld (.t 11) 1 false⟩, 
          ⟨some 6, none, .mov (.t 12)⟩] [1, 2, 6, 7, 8, 9] [])
        (.seq (.reg false [⟨some 13, none, .mov (.t 6)⟩, 
          ⟨some 14, none, .ld (.t 1) 1 false⟩, 
          ⟨some 15, none, .bin .lss (.t 13) (.t 14)⟩, 
          ⟨some 16, none, .mov (.t 15)⟩, 
          ⟨some 17, (some (16, false)), .mov (.t 6)⟩, 
          ⟨some 18, (some (16, false)), .ld (.t 2) 1 false⟩, 
          ⟨some 19, (some (16, false)), .bin .gtr (.t 17) (.t 18)⟩, 
          ⟨some 20, none, .pick (.t 16) (.c (.p (.bool true))) (.t 19)⟩] [1, 2, 7, 8, 9, 20] [])
        (.cond (.t 20)
        (.seq (.reg false [⟨some 4, none, .mov (.c (.p (.bool false)))⟩] [4] [])
          .ret)
        .skip))))
      (.reg false [⟨some 21, none, .bin .add (.t 9) (.c (.p (.int .i64 1)))⟩, 
        ⟨some 9, none, .mov (.t 21)⟩] [1, 2, 7, 8, 9] [])))))
def ir221 : IFn :=   -- tympan/geom.within[tympan/api.Sp]$1
⟨(.seq (.reg false [⟨some 4, none, .mov (.c (.p (.bool false)))⟩] [0, 1, 2] [])
  (.seq (.seq (.reg false [⟨some 7, none, .mov (.t 0)⟩, 
    ⟨some 8, none, .len (.t 7)⟩, 
    ⟨some 9, none, .mov (.c (.p (.int .i64 0)))⟩] [1, 2, 7, 8, 9] [])
  (.block 0 lp221_0))
  (.seq (.reg false [⟨some 4, none, .mov (.c (.p (.bool true)))⟩] [4] [])
  .ret))),
  [.tmp 4], false⟩
def ir222 : IFn :=   -- tympan/item.forms$1
⟨(.seq (.reg false [⟨some 1, none, .bx (.t 0) 1 false⟩, 
    ⟨some 2, none, .mov (.c (.p .nilf))⟩] [1] [])
  (.seq (.reg false [⟨some 3, none, .mkf (.func 223) [] [(.t 1)]⟩, 
    ⟨some 2, none, .mov (.t 3)⟩] [2] [])
  .ret)),
  [.tmp 2], false⟩
def ir223 : IFn :=   -- tympan/item.forms$1$1
⟨(.seq (.reg false [⟨some 2, none, .bx (.t 0) 7 true⟩, 
    ⟨some 3, none, .al [.p (.int .i64 0), .p (.int .i64 0), .p (.int .i64 0), .p (.int .i64 0), .p (.int .i64 0), .p (.int .i64 0), .p (.int .i64 0)] true⟩] [1, 2, 3] [2, 3])
  (.seq (.reg false [⟨some 4, none, .ld (.t 1) 1 false⟩, 
    ⟨some 5, none, .off (.t 2) 6⟩, 
    ⟨some 6, none, .ld (.t 5) 1 false⟩, 
    ⟨some 7, none, .callv (.t 4) [(.t 6)] false⟩, 
    ⟨none, none, .st (.t 3) (.t 7) 7⟩] [3] [3])
  .ret)),
  [.cell 3 7 true], false⟩
def ir224 : IFn :=   -- tympan/item.forms$2
⟨(.seq (.reg false [⟨some 1, none, .bx (.t 0) 7 true⟩, 
    ⟨some 2, none, .al [.p (.int .i64 0), .p (.int .i64 0), .p (.int .i64 0), .p (.int .i64 0), .p (.int .i64 0), .p (.int .i64 0), .p (.int .i64 0)] true⟩] [1, 2] [1, 2])
  (.seq (.reg false [⟨some 3, none, .off (.t 1) 1⟩, 
    ⟨some 4, none, .ld (.t 3) 1 false⟩, 
    ⟨some 5, none, .off (.t 1) 2⟩, 
    ⟨some 6, none, .ld (.t 5) 1 false⟩, 
    ⟨some 7, none, .call 225 [(.t 4), (.t 6)] false⟩, 
    ⟨none, none, .st (.t 2) (.t 7) 7⟩] [2] [2])
  .ret)),
  [.cell 2 7 true], false⟩
def ir225 : IFn :=   -- tympan/item.Box
⟨(.seq (.reg false [⟨some 4, none, .al [.p (.int .i64 0), .p (.int .i64 0), .p (.int .i64 0), .p (.int .i64 0), .p (.int .i64 0), .p (.int .i64 0), .p (.int .i64 0)] true⟩] [0, 1, 4] [4])
  (.seq (.reg false [⟨some 5, none, .mov (.t 0)⟩, 
    ⟨some 6, none, .mov (.t 1)⟩, 
    ⟨some 7, none, .bld [.p (.int .i64 0), .p (.int .i64 0), .p (.int .i64 0), .p (.int .i64 0), .p (.int .i64 0), .p (.int .i64 0), .p (.int .i64 0)] [(0, 1, (.c (.p (.int .i64 1)))), (1, 1, (.t 5)), (2, 1, (.t 6))]⟩, 
    ⟨none, none, .st (.t 4) (.t 7) 7⟩] [4] [4])
  .ret)),
  [.cell 4 7 true], false⟩
def ir226 : IFn :=   -- tympan/item.forms$3
⟨(.seq (.reg false [⟨some 1, none, .bx (.t 0) 7 true⟩, 
    ⟨some 2, none, .al [.p (.int .i64 0), .p (.int .i64 0), .p (.int .i64 0), .p (.int .i64 0), .p (.int .i64 0), .p (.int .i64 0), .p (.int .i64 0)] true⟩] [1, 2] [1, 2])
  (.seq (.reg false [⟨some 3, none, .off (.t 1) 1⟩, 
    ⟨some 4, none, .ld (.t 3) 1 false⟩, 
    ⟨some 5, none, .off (.t 1) 3⟩, 
    ⟨some 6, none, .ld (.t 5) 1 false⟩, 
    ⟨some 7, none, .off (.t 1) 4⟩, 
    ⟨some 8, none, .ld (.t 7) 1 false⟩, 
    ⟨some 9, none, .off (.t 1) 5⟩, 
    ⟨some 10, none, .ld (.t 9) 1 false⟩, 
    ⟨some 11, none, .call 227 [(.t 4), (.t 6), (.t 8), (.t 10)] false⟩, 
    ⟨none, none, .st (.t 2) (.t 11) 7⟩] [2] [2])
  .ret)),
  [.cell 2 7 true], false⟩
def ir227 : IFn :=   -- tympan/item.Glue
⟨(.seq (.reg false [⟨some 8, none, .al [.p (.int .i64 0), .p (.int .i64 0), .p (.int .i64 0), .p (.int .i64 0), .p (.int .i64 0), .p (.int .i64 0), .p (.int .i64 0)] true⟩] [0, 1, 2, 3, 8] [8])
  (.seq (.reg false [⟨some 9, none, .mov (.t 0)⟩, 
    ⟨some 10, none, .mov (.t 1)⟩, 
    ⟨some 11, none, .mov (.t 2)⟩, 
    ⟨some 12, none, .mov (.t 3)⟩, 
    ⟨some 13, none, .bld [.p (.int .i64 0), .p (.int .i64 0), .p (.int .i64 0), .p (.int .i64 0), .p (.int .i64 0), .p (.int .i64 0), .p (.int .i64 0)] [(0, 1, (.c (.p (.int .i64 2)))), (1, 1, (.t 9)), (3, 1, (.t 10)), (4, 1, (.t 11)), (5, 1, (.t 12))]⟩, 
    ⟨none, none, .st (.t 8) (.t 13) 7⟩] [8] [8])
  .ret)),
  [.cell 8 7 true], false⟩
def ir228 : IFn :=   -- tympan/item.Pen
⟨(.seq (.reg false [⟨some 2, none, .al [.p (.int .i64 0), .p (.int .i64 0), .p (.int .i64 0), .p (.int .i64 0), .p (.int .i64 0), .p (.int .i64 0), .p (.int .i64 0)] true⟩] [0, 2] [2])
  (.seq (.reg false [⟨some 3, none, .mov (.t 0)⟩, 
    ⟨some 4, none, .bld [.p (.int .i64 0), .p (.int .i64 0), .p (.int .i64 0), .p (.int .i64 0), .p (.int .i64 0), .p (.int .i64 0), .p (.int .i64 0)] [(0, 1, (.c (.p (.int .i64 3)))), (6, 1, (.t 3))]⟩, 
    ⟨none, none, .st (.t 2) (.t 4) 7⟩] [2] [2])
  .ret)),
  [.cell 2 7 true], false⟩
def ir229 : IFn :=   -- tympan/item.forms$4
⟨(.seq (.reg false [⟨some 2, none, .mov (.c (.p (.bool false)))⟩] [0] [])
  (.seq (.reg false [⟨some 3, none, .mov (.t 0)⟩, 
    ⟨some 4, none, .bin .eql (.t 3) (.c (.p (.int .i64 (-10000))))⟩, 
    ⟨some 5, none, .mov (.t 4)⟩, 
    ⟨some 6, (some (5, false)), .call 188 [(.c (.p (.int .i64 10000)))] false⟩, 
    ⟨some 7, (some (5, false)), .mov (.t 0)⟩, 
    ⟨some 8, (some (5, false)), .callv (.t 6) [(.t 7)] false⟩, 
    ⟨some 9, none, .pick (.t 5) (.c (.p (.bool true))) (.t 8)⟩, 
    ⟨some 2, none, .mov (.t 9)⟩] [2] [])
  .ret)),
  [.tmp 2], false⟩
def ir230 : IFn :=   -- tympan/item.Mark
⟨(.seq (.reg false [⟨some 2, none, .al [.p (.int .i64 0), .p (.int .i64 0), .p (.int .i64 0), .p (.int .i64 0), .p (.int .i64 0), .p (.int .i64 0), .p (.int .i64 0)] true⟩] [0, 2] [2])
  (.seq (.reg false [⟨some 3, none, .mov (.t 0)⟩, 
    ⟨some 4, none, .bld [.p (.int .i64 0), .p (.int .i64 0), .p (.int .i64 0), .p (.int .i64 0), .p (.int .i64 0), .p (.int .i64 0), .p (.int .i64 0)] [(0, 1, (.c (.p (.int .i64 4)))), (6, 1, (.t 3))]⟩, 
    ⟨none, none, .st (.t 2) (.t 4) 7⟩] [2] [2])
  .ret)),
  [.cell 2 7 true], false⟩
def ir231 : IFn :=   -- tympan/item.Note
⟨(.seq (.reg false [⟨some 2, none, .al [.p (.int .i64 0), .p (.int .i64 0), .p (.int .i64 0), .p (.int .i64 0), .p (.int .i64 0), .p (.int .i64 0), .p (.int .i64 0)] true⟩] [0, 2] [2])
  (.seq (.reg false [⟨some 3, none, .mov (.t 0)⟩, 
    ⟨some 4, none, .bld [.p (.int .i64 0), .p (.int .i64 0), .p (.int .i64 0), .p (.int .i64 0), .p (.int .i64 0), .p (.int .i64 0), .p (.int .i64 0)] [(0, 1, (.c (.p (.int .i64 5)))), (6, 1, (.t 3))]⟩, 
    ⟨none, none, .st (.t 2) (.t 4) 7⟩] [2] [2])
  .ret)),
  [.cell 2 7 true], false⟩
def ir232 : IFn :=   -- tympan/item.Float
⟨(.seq (.reg false [⟨some 2, none, .al [.p (.int .i64 0), .p (.int .i64 0), .p (.int .i64 0), .p (.int .i64 0), .p (.int .i64 0), .p (.int .i64 0), .p (.int .i64 0)] true⟩] [0, 2] [2])
  (.seq (.reg false [⟨some 3, none, .mov (.t 0)⟩, 
    ⟨some 4, none, .bld [.p (.int .i64 0), .p (.int .i64 0), .p (.int .i64 0), .p (.int .i64 0), .p (.int .i64 0), .p (.int .i64 0), .p (.int .i64 0)] [(0, 1, (.c (.p (.int .i64 6)))), (6, 1, (.t 3))]⟩, 
    ⟨none, none, .st (.t 2) (.t 4) 7⟩] [2] [2])
  .ret)),
  [.cell 2 7 true], false⟩
def ir233 : IFn :=   -- tympan/item.forms$5
⟨(.seq (.reg false [⟨some 1, none, .bx (.t 0) 7 true⟩, 
    ⟨some 2, none, .al [.p (.int .i64 0), .p (.int .i64 0), .p (.int .i64 0), .p (.int .i64 0), .p (.int .i64 0), .p (.int .i64 0), .p (.int .i64 0)] true⟩] [2] [2])
  (.seq (.reg false [⟨some 3, none, .call 234 [] false⟩, 
    ⟨none, none, .st (.t 2) (.t 3) 7⟩] [2] [2])
  .ret)),
  [.cell 2 7 true], false⟩
def ir234 : IFn :=   -- tympan/item.Barrier
⟨(.seq (.reg false [⟨some 0, none, .al [.p (.int .i64 0), .p (.int .i64 0), .p (.int .i64 0), .p (.int .i64 0), .p (.int .i64 0), .p (.int .i64 0), .p (.int .i64 0)] true⟩] [0] [0])
  (.seq (.reg false [⟨some 1, none, .bld [.p (.int .i64 0), .p (.int .i64 0), .p (.int .i64 0), .p (.int .i64 0), .p (.int .i64 0), .p (.int .i64 0), .p (.int .i64 0)] [(0, 1, (.c (.p (.int .i64 7))))]⟩, 
    ⟨none, none, .st (.t 0) (.t 1) 7⟩] [0] [0])
  .ret)),
  [.cell 0 7 true], false⟩
def ir235 : IFn :=   -- tympan/item.upTo$1
⟨(.seq (.reg false [⟨some 3, none, .mov (.c (.p (.bool false)))⟩] [0, 1] [])
  (.seq (.reg false [⟨some 4, none, .mov (.t 0)⟩, 
    ⟨some 5, none, .bin .geq (.t 4) (.c (.p (.int .i64 0)))⟩, 
    ⟨some 6, none, .mov (.t 5)⟩, 
    ⟨some 7, (some (6, true)), .mov (.t 0)⟩, 
    ⟨some 8, (some (6, true)), .ld (.t 1) 1 false⟩, 
    ⟨some 9, (some (6, true)), .bin .leq (.t 7) (.t 8)⟩, 
    ⟨some 10, none, .pick (.t 6) (.t 9) (.c (.p (.bool false)))⟩, 
    ⟨some 3, none, .mov (.t 10)⟩] [3] [])
  .ret)),
  [.tmp 3], false⟩
def ir236 : IFn :=   -- tympan/item.long$1
⟨(.seq (.reg false [⟨some 2, none, .mov (.c (.p (.bool false)))⟩] [0] [])
  (.seq (.reg false [⟨some 3, none, .mov (.t 0)⟩, 
    ⟨some 4, none, .bin .lss (.t 3) (.c (.p (.int .i64 0)))⟩, 
    ⟨some 5, none, .mov (.t 4)⟩, 
    ⟨some 6, (some (5, false)), .mov (.t 0)⟩, 
    ⟨some 7, (some (5, false)), .bin .gtr (.t 6) (.c (.p (.int .i64 1073741823)))⟩, 
    ⟨some 8, none, .pick (.t 5) (.c (.p (.bool true))) (.t 7)⟩, 
    ⟨some 2, none, .mov (.t 8)⟩] [2] [])
  .ret)),
  [.tmp 2], false⟩
def ir237 : IFn :=   -- tympan/geom.X
⟨(.seq (.reg false [⟨some 2, none, .bx (.t 0) 19 true⟩, 
    ⟨some 4, none, .mov (.c (.p (.int .i64 0)))⟩] [1, 2] [2])
  (.seq (.reg false [⟨some 8, none, .ld (.t 2) 19 true⟩, 
    ⟨some 9, none, .mov (.t 1)⟩, 
    ⟨some 10, none, .call 246 [(.t 8), (.t 9)] false⟩, 
    ⟨some 7, none, .mov (.t 10)⟩, 
    ⟨some 11, none, .ext (.t 7) 0⟩, 
    ⟨some 12, none, .ext (.t 7) 1⟩, 
    ⟨some 5, none, .mov (.t 11)⟩, 
    ⟨some 6, none, .mov (.t 12)⟩] [2, 6] [2])
  (.seq (.reg false [⟨some 13, none, .mov (.t 6)⟩, 
    ⟨some 14, none, .off (.t 2) 1⟩, 
    ⟨some 15, none, .ld (.t 14) 1 false⟩, 
    ⟨some 16, none, .off (.t 2) 2⟩, 
    ⟨some 17, none, .ld (.t 16) 1 false⟩, 
    ⟨some 18, none, .bin .add (.t 15) (.t 17)⟩, 
    ⟨some 19, none, .bin .mul (.t 13) (.t 18)⟩, 
    ⟨some 4, none, .mov (.t 19)⟩] [4] [])
  .ret))),
  [.tmp 4], false⟩
def lp238_0 : IC :=
  (.seq (.reg false [⟨some 7, none, .mov (.t 12)⟩] [5, 6, 7, 13] [])
      (.reg false [⟨some 8, none, .al [.p (.int .i64 0), .p (.int .i64 0), .p (.int .i64 0), .p (.int .i64 0), .p (.int .i64 0)] true⟩, 
        ⟨none, none, .st (.t 8) (.t 13) 5⟩] [5, 6, 7, 8] [8]))
def lp238_1 : IC :=
  (.block 1 (.seq (.seq (.reg true [⟨some 14, none, .ld (.t 5) 1 false⟩, 
          ⟨some 15, none, .len (.t 14)⟩, 
          ⟨some 16, none, .bin .eql (.t 15) (.c (.p (.int .i64 0)))⟩, 
          ⟨some 17, none, .mov (.t 16)⟩, 
          ⟨some 18, (some (17, false)), .off (.t 8) 1⟩, 
          ⟨some 19, (some (17, false)), .ldl 8 (.t 18) 1 false⟩, 
          ⟨some 20, (some (17, false)), .ld (.t 5) 1 false⟩, 
          ⟨some 21, (some (17, false)), .ixs (.t 20) (.c (.p (.int .i64 0))) 5⟩, 
          ⟨some 22, (some (17, false)), .off (.t 21) 1⟩, 
          ⟨some 23, (some (17, false)), .ld (.t 22) 1 false⟩, 
          ⟨some 24, (some (17, false)), .bin .neq (.t 19) (.t 23)⟩, 
          ⟨some 25, none, .pick (.t 17) (.c (.p (.bool true))) (.t 24)⟩, 
          ⟨some 26, none, .mov (.t 25)⟩, 
          ⟨some 27, (some (26, false)), .off (.t 8) 2⟩, 
          ⟨some 28, (some (26, false)), .ldl 8 (.t 27) 1 false⟩, 
          ⟨some 29, (some (26, false)), .ld (.t 5) 1 false⟩, 
          ⟨some 30, (some (26, false)), .ixs (.t 29) (.c (.p (.int .i64 0))) 5⟩, 
          ⟨some 31, (some (26, false)), .off (.t 30) 2⟩, 
          ⟨some 32, (some (26, false)), .ld (.t 31) 1 false⟩, 
          ⟨some 33, (some (26, false)), .bin .neq (.t 28) (.t 32)⟩, 
          ⟨some 34, none, .pick (.t 26) (.c (.p (.bool true))) (.t 33)⟩, 
          ⟨some 35, none, .mov (.t 34)⟩, 
          ⟨some 36, (some (35, false)), .off (.t 8) 4⟩, 
          ⟨some 37, (some (35, false)), .ldl 8 (.t 36) 1 false⟩, 
          ⟨some 38, (some (35, false)), .ld (.t 5) 1 false⟩, 
          ⟨some 39, (some (35, false)), .ixs (.t 38) (.c (.p (.int .i64 0))) 5⟩, 
          ⟨some 40, (some (35, false)), .off (.t 39) 4⟩, 
          ⟨some 41, (some (35, false)), .ld (.t 40) 1 false⟩, 
          ⟨some 42, (some (35, false)), .bin .neq (.t 37) (.t 41)⟩, 
          ⟨some 43, none, .pick (.t 35) (.c (.p (.bool true))) (.t 42)⟩] [5, 6, 7, 43] [])
        (.cond (.t 43)
        (.seq (.reg false [⟨some 44, none, .mov (.t 7)⟩, 
            ⟨none, none, .st (.t 6) (.t 44) 1⟩] [6] [])
          .ret)
        .skip))
        (.reg false [⟨some 45, none, .ld (.t 5) 1 false⟩, 
          ⟨some 46, none, .slc (.t 45) (some (.c (.p (.int .i64 1)))) none 5⟩, 
          ⟨none, none, .st (.t 5) (.t 46) 1⟩] [] [])))
def ir238 : IFn :=   -- (tympan/check.asked).row
⟨(.seq (.reg false [⟨some 3, none, .bx (.t 0) 23 true⟩, 
    ⟨some 5, none, .bx (.t 2) 1 false⟩, 
    ⟨some 6, none, .al [.p (.int .i64 0)] false⟩] [1, 3, 5, 6] [3])
  (.seq (.seq (.reg false [⟨some 9, none, .ld (.t 3) 23 true⟩, 
    ⟨some 10, none, .mov (.t 1)⟩, 
    ⟨some 11, none, .call 239 [(.t 9), (.t 10)] false⟩] [3, 5, 6, 11] [3])
  (.block 0 (.rangeFunc (.t 11) [12, 13] lp238_0 lp238_1)))
  (.seq (.seq (.reg false [⟨some 47, none, .ld (.t 5) 1 false⟩, 
    ⟨some 48, none, .len (.t 47)⟩, 
    ⟨some 49, none, .bin .gtr (.t 48) (.c (.p (.int .i64 0)))⟩] [3, 6, 49] [3])
  (.cond (.t 49)
  (.seq (.reg false [⟨some 50, none, .off (.t 3) 22⟩, 
      ⟨some 51, none, .ld (.t 50) 1 false⟩, 
      ⟨some 52, none, .len (.t 51)⟩, 
      ⟨none, none, .st (.t 6) (.t 52) 1⟩] [6] [])
    .ret)
  .skip))
  (.seq (.reg false [⟨none, none, .st (.t 6) (.c (.p (.int .i64 (-1)))) 1⟩] [6] [])
  .ret)))),
  [.cell 6 1 false], false⟩
def ir239 : IFn :=   -- (tympan/check.asked).all
⟨(.seq (.reg false [⟨some 2, none, .bx (.t 0) 23 false⟩, 
    ⟨some 3, none, .bx (.t 1) 1 false⟩, 
    ⟨some 4, none, .mov (.c (.p .nilf))⟩] [2, 3] [])
  (.seq (.reg false [⟨some 5, none, .mkf (.func 247) [] [(.t 2), (.t 3)]⟩, 
    ⟨some 4, none, .mov (.t 5)⟩] [4] [])
  .ret)),
  [.tmp 4], false⟩
def ir246 : IFn :=   -- tympan/geom.Page
⟨(.seq (.reg false [⟨some 2, none, .bx (.t 0) 19 true⟩, 
    ⟨some 4, none, .mov (.c (.p (.int .i64 0)))⟩, 
    ⟨some 5, none, .mov (.c (.p (.int .i64 0)))⟩] [1, 2] [2])
  (.seq (.seq (.reg false [⟨some 6, none, .ld (.t 2) 19 true⟩, 
    ⟨some 7, none, .call 155 [(.t 6)] false⟩, 
    ⟨some 8, none, .bin .neq (.t 7) (.c (.p (.int .i64 0)))⟩] [1, 2, 8] [2])
  (.cond (.t 8)
  (.seq (.reg false [⟨some 4, none, .mov (.c (.p (.int .i64 0)))⟩, 
      ⟨some 5, none, .mov (.c (.p (.int .i64 0)))⟩] [4, 5] [])
    .ret)
  .skip))
  (.seq (.reg false [⟨some 9, none, .mov (.t 1)⟩, 
    ⟨some 10, none, .mnmx true (.t 9) (.c (.p (.int .i64 0)))⟩, 
    ⟨some 1, none, .mov (.t 10)⟩] [1, 2] [2])
  (.seq (.reg true [⟨some 11, none, .mov (.t 1)⟩, 
    ⟨some 12, none, .off (.t 2) 0⟩, 
    ⟨some 13, none, .ldl 2 (.t 12) 1 false⟩, 
    ⟨some 14, none, .bin .quo (.t 11) (.t 13)⟩, 
    ⟨some 15, none, .mov (.t 1)⟩, 
    ⟨some 16, none, .off (.t 2) 0⟩, 
    ⟨some 17, none, .ldl 2 (.t 16) 1 false⟩, 
    ⟨some 18, none, .bin .rem (.t 15) (.t 17)⟩, 
    ⟨some 4, none, .mov (.t 14)⟩, 
    ⟨some 5, none, .mov (.t 18)⟩] [4, 5] [])
  .ret)))),
  [.tmp 4, .tmp 5], false⟩
def lp247_0 : IC :=
  (.loop [0, 2, 4, 11, 12, 13, 19, 20, 21, 26, 27, 28] [] (.seq (.reg false [⟨some 29, none, .bin .lss (.t 28) (.t 27)⟩] [0, 2, 4, 11, 12, 13, 19, 20, 21, 26, 27, 28, 29] [])
                  (.seq (.cond (.t 29)
                  .skip
                  (.exit 4))
                  (.seq (.block 5 (.seq (.reg false [⟨some 30, none, .ixs (.t 26) (.t 28) 5⟩, 
                      ⟨some 31, none, .ld (.t 30) 5 true⟩, 
                      ⟨some 9, none, .al [.p (.int .i64 0), .p (.int .i64 0), .p (.int .i64 0), .p (.int .i64 0), .p (.int .i64 0)] true⟩, 
                      ⟨none, none, .st (.t 9) (.t 31) 5⟩] [0, 2, 4, 9, 11, 12, 13, 19, 20, 21, 26, 27, 28] [9])
                    (.seq (.reg false [⟨some 32, none, .off (.t 9) 0⟩, 
                      ⟨some 33, none, .ld (.t 32) 1 false⟩, 
                      ⟨some 34, none, .ld (.t 2) 1 false⟩, 
                      ⟨some 35, none, .bin .eql (.t 33) (.t 34)⟩, 
                      ⟨some 36, none, .mov (.t 35)⟩, 
                      ⟨some 37, (some (36, true)), .mov (.t 0)⟩, 
                      ⟨some 38, (some (36, true)), .mov (.t 4)⟩, 
                      ⟨some 39, (some (36, true)), .ld (.t 9) 5 true⟩, 
                      ⟨some 40, (some (36, true)), .callv (.t 37) [(.t 38), (.t 39)] false⟩, 
                      ⟨some 41, (some (36, true)), .un .not (.t 40)⟩, 
                      ⟨some 42, none, .pick (.t 36) (.t 41) (.c (.p (.bool false)))⟩] [0, 2, 4, 11, 12, 13, 19, 20, 21, 26, 27, 28, 42] [])
                    (.cond (.t 42)
                    .ret
                    .skip))))
                  (.reg false [⟨some 43, none, .bin .add (.t 28) (.c (.p (.int .i64 1)))⟩, 
                    ⟨some 28, none, .mov (.t 43)⟩] [0, 2, 4, 11, 12, 13, 19, 20, 21, 26, 27, 28] [])))))
def lp247_1 : IC :=
  (.loop [0, 2, 4, 11, 12, 13, 19, 20, 21] [] (.seq (.reg false [⟨some 22, none, .bin .lss (.t 21) (.t 20)⟩] [0, 2, 4, 11, 12, 13, 19, 20, 21, 22] [])
            (.seq (.cond (.t 22)
            .skip
            (.exit 2))
            (.seq (.block 3 (.seq (.reg false [⟨some 23, none, .ixs (.t 19) (.t 21) 2⟩, 
                ⟨some 24, none, .ld (.t 23) 2 true⟩, 
                ⟨some 7, none, .al [.p (.int .i64 0), .nils] true⟩, 
                ⟨none, none, .st (.t 7) (.t 24) 2⟩] [0, 2, 4, 7, 11, 12, 13, 19, 20, 21] [7])
              (.seq (.reg false [⟨some 25, none, .off (.t 7) 1⟩, 
                ⟨some 26, none, .ld (.t 25) 1 false⟩, 
                ⟨some 27, none, .len (.t 26)⟩, 
                ⟨some 28, none, .mov (.c (.p (.int .i64 0)))⟩] [0, 2, 4, 11, 12, 13, 19, 20, 21, 26, 27, 28] [])
              (.block 4 lp247_0))))
            (.reg false [⟨some 44, none, .bin .add (.t 21) (.c (.p (.int .i64 1)))⟩, 
              ⟨some 21, none, .mov (.t 44)⟩] [0, 2, 4, 11, 12, 13, 19, 20, 21] [])))))
def lp247_2 : IC :=
  (.loop [0, 2, 11, 12, 13] [] (.seq (.reg false [⟨some 14, none, .bin .lss (.t 13) (.t 12)⟩] [0, 2, 11, 12, 13, 14] [])
      (.seq (.cond (.t 14)
      .skip
      (.exit 0))
      (.seq (.block 1 (.seq (.reg false [⟨some 15, none, .mov (.t 13)⟩, 
          ⟨some 16, none, .ixs (.t 11) (.t 13) 4⟩, 
          ⟨some 17, none, .ld (.t 16) 4 true⟩, 
          ⟨some 5, none, .al [.nils, .p (.int .i64 0), .p (.int .i64 0), .p (.int .i64 0)] true⟩, 
          ⟨some 4, none, .mov (.t 15)⟩, 
          ⟨none, none, .st (.t 5) (.t 17) 4⟩] [0, 2, 4, 5, 11, 12, 13] [5])
        (.seq (.reg false [⟨some 18, none, .off (.t 5) 0⟩, 
          ⟨some 19, none, .ld (.t 18) 1 false⟩, 
          ⟨some 20, none, .len (.t 19)⟩, 
          ⟨some 21, none, .mov (.c (.p (.int .i64 0)))⟩] [0, 2, 4, 11, 12, 13, 19, 20, 21] [])
        (.block 2 lp247_1))))
      (.reg false [⟨some 45, none, .bin .add (.t 13) (.c (.p (.int .i64 1)))⟩, 
        ⟨some 13, none, .mov (.t 45)⟩] [0, 2, 11, 12, 13] [])))))
def ir247 : IFn :=   -- (tympan/check.asked).all$1
⟨(.seq (.reg false [⟨some 10, none, .off (.t 1) 22⟩, 
    ⟨some 11, none, .ld (.t 10) 1 false⟩, 
    ⟨some 12, none, .len (.t 11)⟩, 
    ⟨some 13, none, .mov (.c (.p (.int .i64 0)))⟩] [0, 2, 11, 12, 13] [])
  (.block 0 lp247_2)),
  [], false⟩
end Go.EnvOf
