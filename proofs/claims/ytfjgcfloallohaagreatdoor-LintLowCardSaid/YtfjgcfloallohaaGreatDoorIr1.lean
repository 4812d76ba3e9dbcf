/- The engine's instructions for the functions, part 1. -/
import Derived.Test.YtfjgcfloallohaaGreatDoorEngAll2
namespace Go.EnvOf
open Go Go.Eng
set_option maxRecDepth 100000
def lp61_0 : IC :=
  (.loop [2, 3, 4, 5, 18, 19, 20] [4, 5] (.seq (.reg false [⟨some 21, none, .bin .lss (.t 20) (.t 19)⟩] [2, 3, 4, 5, 18, 19, 20, 21] [4, 5])
      (.seq (.cond (.t 21)
      .skip
      (.exit 0))
      (.seq (.block 1 (.seq (.reg false [⟨some 22, none, .ixs (.t 18) (.t 20) 1⟩, 
          ⟨some 23, none, .ld (.t 22) 1 false⟩, 
          ⟨some 10, none, .mov (.t 23)⟩] [2, 3, 4, 5, 10, 18, 19, 20] [4, 5])
        (.seq (.reg false [⟨some 25, none, .mov (.t 2)⟩, 
          ⟨some 26, none, .mov (.t 10)⟩, 
          ⟨some 27, none, .call 90 [(.t 25), (.t 26)] false⟩, 
          ⟨some 24, none, .mov (.t 27)⟩, 
          ⟨some 28, none, .ext (.t 24) 0⟩, 
          ⟨some 29, none, .ext (.t 24) 1⟩, 
          ⟨some 11, none, .al [.p (.int .i64 0), .p (.int .i64 0), .p (.int .i64 0)] true⟩, 
          ⟨none, none, .st (.t 11) (.t 28) 3⟩, 
          ⟨some 12, none, .mov (.t 29)⟩] [2, 3, 4, 5, 11, 12, 18, 19, 20] [4, 5, 11])
        (.seq (.reg false [⟨some 30, none, .mov (.t 12)⟩, 
          ⟨some 31, none, .un .not (.t 30)⟩, 
          ⟨some 32, none, .mov (.t 31)⟩, 
          ⟨some 33, (some (32, false)), .off (.t 4) 2⟩, 
          ⟨some 34, (some (32, false)), .ld (.t 33) 1 false⟩, 
          ⟨some 35, (some (32, false)), .ld (.t 11) 3 true⟩, 
          ⟨some 36, (some (32, false)), .callv (.t 34) [(.t 35)] false⟩, 
          ⟨some 37, (some (32, false)), .un .not (.t 36)⟩, 
          ⟨some 38, none, .pick (.t 32) (.c (.p (.bool true))) (.t 37)⟩] [2, 3, 4, 5, 18, 19, 20, 38] [4, 5])
        (.cond (.t 38)
        (.seq (.reg false [⟨some 8, none, .mov (.c (.p (.bool false)))⟩] [8] [])
          .ret)
        .skip)))))
      (.reg false [⟨some 39, none, .bin .add (.t 20) (.c (.p (.int .i64 1)))⟩, 
        ⟨some 20, none, .mov (.t 39)⟩] [2, 3, 4, 5, 18, 19, 20] [4, 5])))))
def ir61 : IFn :=   -- (tympan/area.place).fits
⟨(.seq (.reg false [⟨some 4, none, .bx (.t 0) 3 true⟩, 
    ⟨some 5, none, .bx (.t 1) 19 true⟩, 
    ⟨some 8, none, .mov (.c (.p (.bool false)))⟩] [2, 3, 4, 5] [4, 5])
  (.seq (.seq (.reg false [⟨some 13, none, .mov (.t 3)⟩, 
    ⟨some 14, none, .len (.t 13)⟩, 
    ⟨some 15, none, .off (.t 4) 0⟩, 
    ⟨some 16, none, .ld (.t 15) 1 false⟩, 
    ⟨some 17, none, .bin .gtr (.t 14) (.t 16)⟩] [2, 3, 4, 5, 17] [4, 5])
  (.cond (.t 17)
  (.seq (.reg false [⟨some 8, none, .mov (.c (.p (.bool false)))⟩] [8] [])
    .ret)
  .skip))
  (.seq (.seq (.reg false [⟨some 18, none, .mov (.t 3)⟩, 
    ⟨some 19, none, .len (.t 18)⟩, 
    ⟨some 20, none, .mov (.c (.p (.int .i64 0)))⟩] [2, 3, 4, 5, 18, 19, 20] [4, 5])
  (.block 0 lp61_0))
  (.seq (.reg true [⟨some 40, none, .mov (.t 2)⟩, 
    ⟨some 41, none, .mov (.t 3)⟩, 
    ⟨some 42, none, .off (.t 5) 7⟩, 
    ⟨some 43, none, .ldl 5 (.t 42) 1 false⟩, 
    ⟨some 44, none, .call 91 [(.t 40), (.t 41), (.t 43)] false⟩, 
    ⟨some 45, none, .off (.t 4) 1⟩, 
    ⟨some 46, none, .ldl 4 (.t 45) 1 false⟩, 
    ⟨some 47, none, .bin .leq (.t 44) (.t 46)⟩, 
    ⟨some 8, none, .mov (.t 47)⟩] [8] [])
  .ret)))),
  [.tmp 8], false⟩
def ir62 : IFn :=   -- tympan/area.bottom
⟨(.seq (.reg false [⟨some 1, none, .bx (.t 0) 19 true⟩, 
    ⟨some 2, none, .al [.p (.int .i64 0), .p (.int .i64 0), .p .nilf] true⟩] [1, 2] [1, 2])
  (.seq (.reg false [⟨some 3, none, .off (.t 1) 12⟩, 
    ⟨some 4, none, .ld (.t 3) 1 false⟩, 
    ⟨some 5, none, .off (.t 1) 10⟩, 
    ⟨some 6, none, .ld (.t 5) 1 false⟩, 
    ⟨some 7, none, .bld [.p (.int .i64 0), .p (.int .i64 0), .p .nilf] [(0, 1, (.t 4)), (1, 1, (.t 6)), (2, 1, (.c (.p (.fn 92))))]⟩, 
    ⟨none, none, .st (.t 2) (.t 7) 3⟩] [2] [2])
  .ret)),
  [.cell 2 3 true], false⟩
def ir63 : IFn :=   -- tympan/tympanref14.got
⟨(.seq (.reg false [⟨some 2, none, .bx (.t 0) 2 true⟩, 
    ⟨some 4, none, .mov (.c (.p (.int .i64 0)))⟩] [1, 2] [2])
  (.seq (.seq (.reg false [⟨some 5, none, .off (.t 2) 1⟩, 
    ⟨some 6, none, .ld (.t 5) 1 false⟩] [1, 2, 6] [2])
  (.cond (.t 6)
  (.seq (.reg false [⟨some 7, none, .off (.t 2) 0⟩, 
      ⟨some 8, none, .ld (.t 7) 1 false⟩, 
      ⟨some 4, none, .mov (.t 8)⟩] [4] [])
    .ret)
  .skip))
  (.seq (.reg false [⟨some 9, none, .mov (.t 1)⟩, 
    ⟨some 4, none, .mov (.t 9)⟩] [4] [])
  .ret))),
  [.tmp 4], false⟩
def ir64 : IFn :=   -- tympan/tympanref01.Down
⟨(.seq (.reg false [⟨some 4, none, .al [.p (.int .i64 0), .p (.bool false)] true⟩] [0, 1, 4] [4])
  (.seq (.seq (.reg false [⟨some 6, none, .mov (.t 1)⟩, 
    ⟨some 7, none, .bin .lss (.t 6) (.c (.p (.int .i64 1)))⟩] [0, 1, 4, 7] [4])
  (.cond (.t 7)
  (.seq (.reg false [⟨some 8, none, .bld [.p (.int .i64 0), .p (.bool false)] []⟩, 
      ⟨none, none, .st (.t 4) (.t 8) 2⟩] [4] [4])
    .ret)
  .skip))
  (.seq (.reg false [⟨some 9, none, .mov (.t 0)⟩, 
    ⟨some 10, none, .mov (.t 1)⟩, 
    ⟨some 11, none, .bin .rem (.t 9) (.t 10)⟩, 
    ⟨some 5, none, .mov (.t 11)⟩] [0, 1, 4, 5] [4])
  (.seq (.seq (.reg false [⟨some 12, none, .mov (.t 5)⟩, 
    ⟨some 13, none, .bin .lss (.t 12) (.c (.p (.int .i64 0)))⟩] [0, 1, 4, 5, 13] [4])
  (.cond (.t 13)
  (.reg false [⟨some 14, none, .mov (.t 5)⟩, 
      ⟨some 15, none, .mov (.t 1)⟩, 
      ⟨some 16, none, .bin .add (.t 14) (.t 15)⟩, 
      ⟨some 5, none, .mov (.t 16)⟩] [0, 4, 5] [4])
  .skip))
  (.seq (.reg false [⟨some 17, none, .mov (.t 0)⟩, 
    ⟨some 18, none, .mov (.t 5)⟩, 
    ⟨some 19, none, .call 93 [(.t 17), (.t 18)] false⟩, 
    ⟨none, none, .st (.t 4) (.t 19) 2⟩] [4] [4])
  .ret))))),
  [.cell 4 2 true], false⟩
def ir65 : IFn :=   -- tympan/tympanref01.Up
⟨(.seq (.reg false [⟨some 4, none, .al [.p (.int .i64 0), .p (.bool false)] true⟩] [0, 1, 4] [4])
  (.seq (.seq (.reg false [⟨some 6, none, .mov (.t 1)⟩, 
    ⟨some 7, none, .bin .lss (.t 6) (.c (.p (.int .i64 1)))⟩] [0, 1, 4, 7] [4])
  (.cond (.t 7)
  (.seq (.reg false [⟨some 8, none, .bld [.p (.int .i64 0), .p (.bool false)] []⟩, 
      ⟨none, none, .st (.t 4) (.t 8) 2⟩] [4] [4])
    .ret)
  .skip))
  (.seq (.reg false [⟨some 9, none, .mov (.t 0)⟩, 
    ⟨some 10, none, .mov (.t 1)⟩, 
    ⟨some 11, none, .bin .rem (.t 9) (.t 10)⟩, 
    ⟨some 5, none, .mov (.t 11)⟩] [0, 1, 4, 5] [4])
  (.seq (.seq (.reg false [⟨some 12, none, .mov (.t 5)⟩, 
    ⟨some 13, none, .bin .lss (.t 12) (.c (.p (.int .i64 0)))⟩] [0, 1, 4, 5, 13] [4])
  (.cond (.t 13)
  (.reg false [⟨some 14, none, .mov (.t 5)⟩, 
      ⟨some 15, none, .mov (.t 1)⟩, 
      ⟨some 16, none, .bin .add (.t 14) (.t 15)⟩, 
      ⟨some 5, none, .mov (.t 16)⟩] [0, 1, 4, 5] [4])
  .skip))
  (.seq (.seq (.reg false [⟨some 17, none, .mov (.t 5)⟩, 
    ⟨some 18, none, .bin .eql (.t 17) (.c (.p (.int .i64 0)))⟩] [0, 1, 4, 5, 18] [4])
  (.cond (.t 18)
  (.seq (.reg false [⟨some 19, none, .mov (.t 0)⟩, 
      ⟨some 20, none, .bld [.p (.int .i64 0), .p (.bool false)] [(0, 1, (.t 19)), (1, 1, (.c (.p (.bool true))))]⟩, 
      ⟨none, none, .st (.t 4) (.t 20) 2⟩] [4] [4])
    .ret)
  .skip))
  (.seq (.reg false [⟨some 21, none, .mov (.t 0)⟩, 
    ⟨some 22, none, .mov (.t 1)⟩, 
    ⟨some 23, none, .mov (.t 5)⟩, 
    ⟨some 24, none, .bin .sub (.t 22) (.t 23)⟩, 
    ⟨some 25, none, .call 94 [(.t 21), (.t 24)] false⟩, 
    ⟨none, none, .st (.t 4) (.t 25) 2⟩] [4] [4])
  .ret)))))),
  [.cell 4 2 true], false⟩
def ir66 : IFn :=   -- tympan/tympanref14.Near
⟨(.seq (.reg false [⟨some 4, none, .mov (.c (.p (.int .i64 0)))⟩] [0, 1] [])
  (.seq (.seq (.reg false [⟨some 8, none, .mov (.t 1)⟩, 
    ⟨some 9, none, .bin .lss (.t 8) (.c (.p (.int .i64 1)))⟩] [0, 1, 9] [])
  (.cond (.t 9)
  (.seq (.reg false [⟨some 10, none, .mov (.t 0)⟩, 
      ⟨some 4, none, .mov (.t 10)⟩] [4] [])
    .ret)
  .skip))
  (.seq (.reg false [⟨some 11, none, .mov (.t 0)⟩, 
    ⟨some 12, none, .mov (.t 1)⟩, 
    ⟨some 13, none, .call 64 [(.t 11), (.t 12)] false⟩, 
    ⟨some 14, none, .mov (.t 0)⟩, 
    ⟨some 15, none, .mov (.t 1)⟩, 
    ⟨some 16, none, .call 65 [(.t 14), (.t 15)] false⟩, 
    ⟨some 5, none, .al [.p (.int .i64 0), .p (.bool false)] true⟩, 
    ⟨some 6, none, .al [.p (.int .i64 0), .p (.bool false)] true⟩, 
    ⟨none, none, .st (.t 5) (.t 13) 2⟩, 
    ⟨none, none, .st (.t 6) (.t 16) 2⟩] [0, 1, 5, 6] [5, 6])
  (.seq (.reg false [⟨some 17, none, .mov (.t 0)⟩, 
    ⟨some 18, none, .mov (.t 1)⟩, 
    ⟨some 19, none, .bin .rem (.t 17) (.t 18)⟩, 
    ⟨some 7, none, .mov (.t 19)⟩] [0, 1, 5, 6, 7] [5, 6])
  (.seq (.seq (.reg false [⟨some 20, none, .mov (.t 7)⟩, 
    ⟨some 21, none, .bin .lss (.t 20) (.c (.p (.int .i64 0)))⟩] [0, 1, 5, 6, 7, 21] [5, 6])
  (.cond (.t 21)
  (.reg false [⟨some 22, none, .mov (.t 7)⟩, 
      ⟨some 23, none, .mov (.t 1)⟩, 
      ⟨some 24, none, .bin .add (.t 22) (.t 23)⟩, 
      ⟨some 7, none, .mov (.t 24)⟩] [0, 1, 5, 6, 7] [5, 6])
  .skip))
  (.seq (.seq (.reg false [⟨some 25, none, .mov (.t 7)⟩, 
    ⟨some 26, none, .mov (.t 1)⟩, 
    ⟨some 27, none, .mov (.t 7)⟩, 
    ⟨some 28, none, .bin .sub (.t 26) (.t 27)⟩, 
    ⟨some 29, none, .bin .lss (.t 25) (.t 28)⟩] [0, 5, 6, 7, 29] [5, 6])
  (.cond (.t 29)
  (.seq (.reg false [⟨some 30, none, .ld (.t 5) 2 true⟩, 
      ⟨some 31, none, .mov (.t 0)⟩, 
      ⟨some 32, none, .call 63 [(.t 30), (.t 31)] false⟩, 
      ⟨some 4, none, .mov (.t 32)⟩] [4] [])
    .ret)
  .skip))
  (.seq (.seq (.reg false [⟨some 33, none, .mov (.t 7)⟩, 
    ⟨some 34, none, .bin .eql (.t 33) (.c (.p (.int .i64 0)))⟩] [0, 6, 34] [6])
  (.cond (.t 34)
  (.seq (.reg false [⟨some 35, none, .mov (.t 0)⟩, 
      ⟨some 4, none, .mov (.t 35)⟩] [4] [])
    .ret)
  .skip))
  (.seq (.reg false [⟨some 36, none, .ld (.t 6) 2 true⟩, 
    ⟨some 37, none, .mov (.t 0)⟩, 
    ⟨some 38, none, .call 63 [(.t 36), (.t 37)] false⟩, 
    ⟨some 4, none, .mov (.t 38)⟩] [4] [])
  .ret)))))))),
  [.tmp 4], false⟩
def lp67_0 : IC :=
  (.loop [0, 1, 2, 7, 8] [] (.seq (.seq (.reg false [⟨some 9, none, .mov (.t 8)⟩, 
        ⟨some 10, none, .mov (.t 1)⟩, 
        ⟨some 11, none, .len (.t 10)⟩, 
        ⟨some 12, none, .bin .lss (.t 9) (.t 11)⟩] [0, 1, 2, 7, 8, 12] [])
      (.cond (.t 12)
      .skip
      (.exit 0)))
      (.seq (.block 1 (.seq (.reg false [⟨some 15, none, .mov (.t 1)⟩, 
          ⟨some 16, none, .mov (.t 8)⟩, 
          ⟨some 17, none, .ixs (.t 15) (.t 16) 1⟩, 
          ⟨some 18, none, .ld (.t 17) 1 false⟩, 
          ⟨some 19, none, .bin .geq (.t 18) (.c (.p (.int .i64 0)))⟩, 
          ⟨some 20, none, .mov (.t 19)⟩, 
          ⟨some 21, (some (20, true)), .mov (.t 1)⟩, 
          ⟨some 22, (some (20, true)), .mov (.t 8)⟩, 
          ⟨some 23, (some (20, true)), .ixs (.t 21) (.t 22) 1⟩, 
          ⟨some 24, (some (20, true)), .ld (.t 23) 1 false⟩, 
          ⟨some 25, (some (20, true)), .mov (.t 0)⟩, 
          ⟨some 26, (some (20, true)), .len (.t 25)⟩, 
          ⟨some 27, (some (20, true)), .bin .lss (.t 24) (.t 26)⟩, 
          ⟨some 28, none, .pick (.t 20) (.t 27) (.c (.p (.bool false)))⟩] [0, 1, 2, 7, 8, 28] [])
        (.cond (.t 28)
        (.reg false [⟨some 29, none, .mov (.t 7)⟩, 
            ⟨some 30, none, .mov (.t 0)⟩, 
            ⟨some 31, none, .mov (.t 1)⟩, 
            ⟨some 32, none, .mov (.t 8)⟩, 
            ⟨some 33, none, .ixs (.t 31) (.t 32) 1⟩, 
            ⟨some 34, none, .ld (.t 33) 1 false⟩, 
            ⟨some 35, none, .ixs (.t 30) (.t 34) 3⟩, 
            ⟨some 36, none, .off (.t 35) 1⟩, 
            ⟨some 37, none, .ld (.t 36) 1 false⟩, 
            ⟨some 38, none, .call 95 [(.t 37)] false⟩, 
            ⟨some 39, none, .bin .add (.t 29) (.t 38)⟩, 
            ⟨some 40, none, .mov (.t 2)⟩, 
            ⟨some 41, none, .call 95 [(.t 40)] false⟩, 
            ⟨some 42, none, .bin .add (.t 39) (.t 41)⟩, 
            ⟨some 43, none, .call 95 [(.t 42)] false⟩, 
            ⟨some 7, none, .mov (.t 43)⟩] [0, 1, 2, 7, 8] [])
        .skip)))
      (.reg false [⟨some 13, none, .mov (.t 8)⟩, 
        ⟨some 14, none, .bin .add (.t 13) (.c (.p (.int .i64 1)))⟩, 
        ⟨some 8, none, .mov (.t 14)⟩] [0, 1, 2, 7, 8] []))))
def ir67 : IFn :=   -- tympan/tympanref12.High
⟨(.seq (.reg false [⟨some 6, none, .mov (.c (.p (.int .i64 0)))⟩] [0, 1, 2] [])
  (.seq (.reg false [⟨some 7, none, .mov (.c (.p (.int .i64 0)))⟩] [0, 1, 2, 7] [])
  (.seq (.seq (.reg false [⟨some 8, none, .mov (.c (.p (.int .i64 0)))⟩] [0, 1, 2, 7, 8] [])
  (.block 0 lp67_0))
  (.seq (.reg false [⟨some 44, none, .mov (.t 7)⟩, 
    ⟨some 6, none, .mov (.t 44)⟩] [6] [])
  .ret)))),
  [.tmp 6], false⟩
def ir68 : IFn :=   -- tympan/valid.when
⟨(.seq (.reg false [⟨some 1, none, .bx (.t 0) 1 false⟩, 
    ⟨some 2, none, .mov (.c (.p .nilf))⟩] [1] [])
  (.seq (.reg false [⟨some 3, none, .mkf (.func 96) [] [(.t 1)]⟩, 
    ⟨some 2, none, .mov (.t 3)⟩] [2] [])
  .ret)),
  [.tmp 2], false⟩
def ir69 : IFn :=   -- tympan/valid.clauses$1
⟨(.seq (.reg false [⟨some 1, none, .bx (.t 0) 22 true⟩, 
    ⟨some 2, none, .mov (.c (.p (.bool false)))⟩] [1] [1])
  (.seq (.reg false [⟨some 3, none, .off (.t 1) 19⟩, 
    ⟨some 4, none, .ld (.t 3) 1 false⟩, 
    ⟨some 5, none, .len (.t 4)⟩, 
    ⟨some 6, none, .bin .gtr (.t 5) (.c (.p (.int .i64 4096)))⟩, 
    ⟨some 2, none, .mov (.t 6)⟩] [2] [])
  .ret)),
  [.tmp 2], false⟩
def ir70 : IFn :=   -- tympan/valid.clauses$2
⟨(.seq (.reg false [⟨some 1, none, .bx (.t 0) 22 true⟩, 
    ⟨some 2, none, .mov (.c (.p (.bool false)))⟩] [1] [1])
  (.seq (.reg false [⟨some 3, none, .off (.t 1) 21⟩, 
    ⟨some 4, none, .ld (.t 3) 1 false⟩, 
    ⟨some 5, none, .len (.t 4)⟩, 
    ⟨some 6, none, .bin .gtr (.t 5) (.c (.p (.int .i64 256)))⟩, 
    ⟨some 2, none, .mov (.t 6)⟩] [2] [])
  .ret)),
  [.tmp 2], false⟩
def ir71 : IFn :=   -- tympan/valid.clauses$3
⟨(.seq (.reg false [⟨some 1, none, .bx (.t 0) 22 true⟩, 
    ⟨some 2, none, .mov (.c (.p (.bool false)))⟩] [1] [1])
  (.seq (.reg false [⟨some 3, none, .off (.t 1) 20⟩, 
    ⟨some 4, none, .ld (.t 3) 1 false⟩, 
    ⟨some 5, none, .len (.t 4)⟩, 
    ⟨some 6, none, .bin .gtr (.t 5) (.c (.p (.int .i64 512)))⟩, 
    ⟨some 2, none, .mov (.t 6)⟩] [2] [])
  .ret)),
  [.tmp 2], false⟩
def ir72 : IFn :=   -- tympan/valid.clauses$4
⟨(.seq (.reg false [⟨some 1, none, .bx (.t 0) 22 true⟩, 
    ⟨some 2, none, .mov (.c (.p (.bool false)))⟩] [1] [1])
  (.seq (.reg false [⟨some 3, none, .off (.t 1) 0⟩, 
    ⟨some 4, none, .ld (.t 3) 19 true⟩, 
    ⟨some 5, none, .call 73 [(.t 4)] false⟩, 
    ⟨some 6, none, .bin .eql (.t 5) (.c (.p (.int .i64 6)))⟩, 
    ⟨some 2, none, .mov (.t 6)⟩] [2] [])
  .ret)),
  [.tmp 2], false⟩
def ir73 : IFn :=   -- tympan/geom.Check
⟨(.seq (.reg false [⟨some 1, none, .bx (.t 0) 19 true⟩, 
    ⟨some 2, none, .mov (.c (.p (.int .i64 0)))⟩] [1] [1])
  (.seq (.seq (.reg true [⟨some 8, none, .call 97 [(.c (.p (.int .i64 1))), (.c (.p (.int .i64 8)))] false⟩, 
    ⟨some 9, none, .off (.t 1) 0⟩, 
    ⟨some 10, none, .ldl 1 (.t 9) 1 false⟩, 
    ⟨some 11, none, .bsl 1 1 [.p (.int .i64 0)] [(0, (.t 10))]⟩, 
    ⟨some 12, none, .callv (.t 8) [(.t 11)] false⟩, 
    ⟨some 13, none, .un .not (.t 12)⟩] [1, 13] [1])
  (.cond (.t 13)
  (.seq (.reg false [⟨some 2, none, .mov (.c (.p (.int .i64 6)))⟩] [2] [])
    .ret)
  .skip))
  (.seq (.reg false [⟨some 14, none, .call 98 [(.c (.p (.int .i64 1))), (.c (.p (.int .i64 1073741823)))] false⟩, 
    ⟨some 15, none, .call 98 [(.c (.p (.int .i64 0))), (.c (.p (.int .i64 1073741823)))] false⟩, 
    ⟨some 16, none, .call 98 [(.c (.p (.int .i64 0))), (.c (.p (.int .i64 536870912)))] false⟩, 
    ⟨some 3, none, .mov (.t 14)⟩, 
    ⟨some 4, none, .mov (.t 15)⟩, 
    ⟨some 5, none, .mov (.t 16)⟩] [1, 3, 4, 5] [1])
  (.seq (.reg false [⟨some 17, none, .off (.t 1) 2⟩, 
    ⟨some 18, none, .ld (.t 17) 1 false⟩, 
    ⟨some 19, none, .off (.t 1) 8⟩, 
    ⟨some 20, none, .ld (.t 19) 1 false⟩, 
    ⟨some 21, none, .off (.t 1) 9⟩, 
    ⟨some 22, none, .ld (.t 21) 1 false⟩, 
    ⟨some 23, none, .off (.t 1) 10⟩, 
    ⟨some 24, none, .ld (.t 23) 1 false⟩, 
    ⟨some 25, none, .bld [.p (.int .i64 0), .p (.int .i64 0), .p (.int .i64 0), .p (.int .i64 0)] [(0, 1, (.t 18)), (1, 1, (.t 20)), (2, 1, (.t 22)), (3, 1, (.t 24))]⟩, 
    ⟨some 6, none, .al [.p (.int .i64 0), .p (.int .i64 0), .p (.int .i64 0), .p (.int .i64 0)] false⟩, 
    ⟨none, none, .st (.t 6) (.t 25) 4⟩] [1, 3, 4, 5, 6] [1])
  (.seq (.reg false [⟨some 26, none, .off (.t 1) 13⟩, 
    ⟨some 27, none, .ld (.t 26) 1 false⟩, 
    ⟨some 28, none, .off (.t 1) 14⟩, 
    ⟨some 29, none, .ld (.t 28) 1 false⟩, 
    ⟨some 30, none, .off (.t 1) 15⟩, 
    ⟨some 31, none, .ld (.t 30) 1 false⟩, 
    ⟨some 32, none, .off (.t 1) 16⟩, 
    ⟨some 33, none, .ld (.t 32) 1 false⟩, 
    ⟨some 34, none, .off (.t 1) 17⟩, 
    ⟨some 35, none, .ld (.t 34) 1 false⟩, 
    ⟨some 36, none, .bld [.p (.int .i64 0), .p (.int .i64 0), .p (.int .i64 0), .p (.int .i64 0), .p (.int .i64 0)] [(0, 1, (.t 27)), (1, 1, (.t 29)), (2, 1, (.t 31)), (3, 1, (.t 33)), (4, 1, (.t 35))]⟩, 
    ⟨some 7, none, .al [.p (.int .i64 0), .p (.int .i64 0), .p (.int .i64 0), .p (.int .i64 0), .p (.int .i64 0)] false⟩, 
    ⟨none, none, .st (.t 7) (.t 36) 5⟩] [1, 3, 4, 5, 6, 7] [1])
  (.seq (.block 0 (.seq (.seq (.reg false [⟨some 38, none, .mov (.t 3)⟩, 
      ⟨some 39, none, .off (.t 1) 1⟩, 
      ⟨some 40, none, .ld (.t 39) 1 false⟩, 
      ⟨some 41, none, .off (.t 1) 3⟩, 
      ⟨some 42, none, .ld (.t 41) 1 false⟩, 
      ⟨some 43, none, .bsl 1 2 [.p (.int .i64 0)] [(0, (.t 40)), (1, (.t 42))]⟩, 
      ⟨some 44, none, .callv (.t 38) [(.t 43)] false⟩, 
      ⟨some 45, none, .un .not (.t 44)⟩, 
      ⟨some 37, none, .mov (.t 45)⟩] [1, 4, 5, 6, 7, 37] [1])
    (.cond (.t 37)
    .skip
    (.seq (.reg false [⟨some 46, none, .mov (.t 4)⟩, 
        ⟨some 47, none, .slca (.t 6) none 1 4⟩, 
        ⟨some 48, none, .callv (.t 46) [(.t 47)] false⟩, 
        ⟨some 49, none, .un .not (.t 48)⟩, 
        ⟨some 37, none, .mov (.t 49)⟩] [1, 5, 7, 37] [1])
      (.cond (.t 37)
      .skip
      (.reg false [⟨some 50, none, .mov (.t 5)⟩, 
          ⟨some 51, none, .off (.t 1) 6⟩, 
          ⟨some 52, none, .ld (.t 51) 1 false⟩, 
          ⟨some 53, none, .off (.t 1) 7⟩, 
          ⟨some 54, none, .ld (.t 53) 1 false⟩, 
          ⟨some 55, none, .off (.t 1) 5⟩, 
          ⟨some 56, none, .ld (.t 55) 1 false⟩, 
          ⟨some 57, none, .bsl 1 3 [.p (.int .i64 0)] [(0, (.t 52)), (1, (.t 54)), (2, (.t 56))]⟩, 
          ⟨some 58, none, .callv (.t 50) [(.t 57)] false⟩, 
          ⟨some 59, none, .un .not (.t 58)⟩, 
          ⟨some 37, none, .mov (.t 59)⟩] [1, 7, 37] [1])))))
    (.cond (.t 37)
    (.seq (.reg false [⟨some 2, none, .mov (.c (.p (.int .i64 7)))⟩] [2] [])
      .ret)
    (.seq (.seq (.reg true [⟨some 61, none, .off (.t 1) 3⟩, 
        ⟨some 62, none, .ldl 1 (.t 61) 1 false⟩, 
        ⟨some 63, none, .call 98 [(.c (.p (.int .i64 1))), (.t 62)] false⟩, 
        ⟨some 64, none, .off (.t 1) 4⟩, 
        ⟨some 65, none, .ldl 1 (.t 64) 1 false⟩, 
        ⟨some 66, none, .bsl 1 1 [.p (.int .i64 0)] [(0, (.t 65))]⟩, 
        ⟨some 67, none, .callv (.t 63) [(.t 66)] false⟩, 
        ⟨some 68, none, .un .not (.t 67)⟩, 
        ⟨some 60, none, .mov (.t 68)⟩] [1, 7, 60] [1])
      (.cond (.t 60)
      .skip
      (.reg true [⟨some 69, none, .off (.t 1) 4⟩, 
          ⟨some 70, none, .ldl 1 (.t 69) 1 false⟩, 
          ⟨some 71, none, .call 98 [(.c (.p (.int .i64 0))), (.t 70)] false⟩, 
          ⟨some 72, none, .off (.t 1) 5⟩, 
          ⟨some 73, none, .ldl 1 (.t 72) 1 false⟩, 
          ⟨some 74, none, .bsl 1 1 [.p (.int .i64 0)] [(0, (.t 73))]⟩, 
          ⟨some 75, none, .callv (.t 71) [(.t 74)] false⟩, 
          ⟨some 76, none, .un .not (.t 75)⟩, 
          ⟨some 60, none, .mov (.t 76)⟩] [1, 7, 60] [1])))
      (.cond (.t 60)
      (.seq (.reg false [⟨some 2, none, .mov (.c (.p (.int .i64 7)))⟩] [2] [])
        .ret)
      (.seq (.seq (.reg true [⟨some 78, none, .call 97 [(.c (.p (.int .i64 0))), (.c (.p (.int .i64 4)))] false⟩, 
          ⟨some 79, none, .off (.t 1) 11⟩, 
          ⟨some 80, none, .ldl 1 (.t 79) 1 false⟩, 
          ⟨some 81, none, .off (.t 1) 12⟩, 
          ⟨some 82, none, .ldl 1 (.t 81) 1 false⟩, 
          ⟨some 83, none, .bsl 1 2 [.p (.int .i64 0)] [(0, (.t 80)), (1, (.t 82))]⟩, 
          ⟨some 84, none, .callv (.t 78) [(.t 83)] false⟩, 
          ⟨some 85, none, .un .not (.t 84)⟩, 
          ⟨some 77, none, .mov (.t 85)⟩] [7, 77] [])
        (.cond (.t 77)
        .skip
        (.reg true [⟨some 86, none, .call 97 [(.c (.p (.int .i64 0))), (.c (.p (.int .i64 1048576)))] false⟩, 
            ⟨some 87, none, .slca (.t 7) none 1 5⟩, 
            ⟨some 88, none, .callv (.t 86) [(.t 87)] false⟩, 
            ⟨some 89, none, .un .not (.t 88)⟩, 
            ⟨some 77, none, .mov (.t 89)⟩] [77] [])))
        (.cond (.t 77)
        (.seq (.reg false [⟨some 2, none, .mov (.c (.p (.int .i64 7)))⟩] [2] [])
          .ret)
        .skip)))))))
  (.seq (.reg false [⟨some 2, none, .mov (.c (.p (.int .i64 0)))⟩] [2] [])
  .ret))))))),
  [.tmp 2], false⟩
def ir74 : IFn :=   -- tympan/valid.clauses$5
⟨(.seq (.reg false [⟨some 1, none, .bx (.t 0) 22 true⟩, 
    ⟨some 2, none, .mov (.c (.p (.bool false)))⟩] [1] [1])
  (.seq (.reg false [⟨some 3, none, .off (.t 1) 0⟩, 
    ⟨some 4, none, .ld (.t 3) 19 true⟩, 
    ⟨some 5, none, .call 73 [(.t 4)] false⟩, 
    ⟨some 6, none, .bin .eql (.t 5) (.c (.p (.int .i64 7)))⟩, 
    ⟨some 2, none, .mov (.t 6)⟩] [2] [])
  .ret)),
  [.tmp 2], false⟩
def ir75 : IFn :=   -- tympan/valid.clauses$6
⟨(.seq (.reg false [⟨some 1, none, .bx (.t 0) 22 true⟩, 
    ⟨some 2, none, .mov (.c (.p (.int .i64 0)))⟩] [1] [1])
  (.seq (.reg true [⟨some 3, none, .call 76 [(.c (.p (.fn 77)))] false⟩, 
    ⟨some 4, none, .off (.t 1) 19⟩, 
    ⟨some 5, none, .ldl 1 (.t 4) 1 false⟩, 
    ⟨some 6, none, .callv (.t 3) [(.t 5)] false⟩, 
    ⟨some 2, none, .mov (.t 6)⟩] [2] [])
  .ret)),
  [.tmp 2], false⟩
def ir76 : IFn :=   -- tympan/valid.first[tympan/api.Item]
⟨(.seq (.reg false [⟨some 1, none, .bx (.t 0) 1 false⟩, 
    ⟨some 2, none, .mov (.c (.p .nilf))⟩] [1] [])
  (.seq (.reg false [⟨some 3, none, .mkf (.func 99) [] [(.t 1)]⟩, 
    ⟨some 2, none, .mov (.t 3)⟩] [2] [])
  .ret)),
  [.tmp 2], false⟩
def ir77 : IFn :=   -- tympan/item.Check
⟨(.seq (.reg false [⟨some 1, none, .bx (.t 0) 7 true⟩, 
    ⟨some 2, none, .mov (.c (.p (.int .i64 0)))⟩] [1] [1])
  (.seq (.seq (.reg false [⟨some 5, none, .off (.t 1) 0⟩, 
    ⟨some 6, none, .ld (.t 5) 1 false⟩, 
    ⟨some 7, none, .bin .lss (.t 6) (.c (.p (.int .i64 1)))⟩, 
    ⟨some 8, none, .mov (.t 7)⟩, 
    ⟨some 9, (some (8, false)), .off (.t 1) 0⟩, 
    ⟨some 10, (some (8, false)), .ld (.t 9) 1 false⟩, 
    ⟨some 11, (some (8, false)), .bin .gtr (.t 10) (.c (.p (.int .i64 7)))⟩, 
    ⟨some 12, none, .pick (.t 8) (.c (.p (.bool true))) (.t 11)⟩] [1, 12] [1])
  (.cond (.t 12)
  (.seq (.reg false [⟨some 2, none, .mov (.c (.p (.int .i64 8)))⟩] [2] [])
    .ret)
  .skip))
  (.seq (.prep [3] (.reg true [⟨some 13, none, .call 102 [] false⟩, 
    ⟨some 14, none, .off (.t 1) 0⟩, 
    ⟨some 15, none, .ldl 1 (.t 14) 1 false⟩, 
    ⟨some 16, none, .bin .sub (.t 15) (.c (.p (.int .i64 1)))⟩, 
    ⟨some 17, none, .ixs (.t 13) (.t 16) 2⟩, 
    ⟨some 18, none, .ld (.t 17) 2 true⟩, 
    ⟨some 3, none, .alp [.p .nilf, .p .nilf]⟩, 
    ⟨none, none, .stl 3 (.t 3) (.t 18) 2⟩] [1, 3] [1, 3]))
  (.seq (.reg false [⟨some 19, none, .call 103 [(.c (.p (.int .i64 3)))] false⟩, 
    ⟨some 4, none, .mov (.t 19)⟩] [1, 3, 4] [1, 3])
  (.seq (.seq (.reg true [⟨some 20, none, .off (.t 3) 0⟩, 
    ⟨some 21, none, .ldl 3 (.t 20) 1 false⟩, 
    ⟨some 22, none, .ldl 1 (.t 1) 7 true⟩, 
    ⟨some 23, none, .callv (.t 21) [(.t 22)] false⟩, 
    ⟨some 24, none, .ldl 1 (.t 1) 7 true⟩, 
    ⟨some 25, none, .eqa true [true, true, true, true, true, true, true] (.t 23) (.t 24)⟩, 
    ⟨some 26, none, .mov (.t 25)⟩, 
    ⟨some 27, (some (26, false)), .off (.t 3) 1⟩, 
    ⟨some 28, (some (26, false)), .ldl 3 (.t 27) 1 false⟩, 
    ⟨some 29, (some (26, false)), .off (.t 1) 6⟩, 
    ⟨some 30, (some (26, false)), .ldl 1 (.t 29) 1 false⟩, 
    ⟨some 31, (some (26, false)), .callv (.t 28) [(.t 30)] false⟩, 
    ⟨some 32, (some (26, false)), .un .not (.t 31)⟩, 
    ⟨some 33, none, .pick (.t 26) (.c (.p (.bool true))) (.t 32)⟩, 
    ⟨some 34, none, .mov (.t 33)⟩, 
    ⟨some 35, (some (34, false)), .off (.t 1) 1⟩, 
    ⟨some 36, (some (34, false)), .ldl 1 (.t 35) 1 false⟩, 
    ⟨some 37, (some (34, false)), .off (.t 1) 3⟩, 
    ⟨some 38, (some (34, false)), .ldl 1 (.t 37) 1 false⟩, 
    ⟨some 39, (some (34, false)), .off (.t 1) 5⟩, 
    ⟨some 40, (some (34, false)), .ldl 1 (.t 39) 1 false⟩, 
    ⟨some 41, (some (34, false)), .bsl 1 3 [.p (.int .i64 0)] [(0, (.t 36)), (1, (.t 38)), (2, (.t 40))]⟩, 
    ⟨some 42, (some (34, false)), .call 104 [(.t 41)] false⟩, 
    ⟨some 43, (some (34, false)), .un .not (.t 42)⟩, 
    ⟨some 44, none, .pick (.t 34) (.c (.p (.bool true))) (.t 43)⟩, 
    ⟨some 45, none, .mov (.t 44)⟩, 
    ⟨some 46, (some (45, false)), .mov (.t 4)⟩, 
    ⟨some 47, (some (45, false)), .off (.t 1) 2⟩, 
    ⟨some 48, (some (45, false)), .ldl 1 (.t 47) 1 false⟩, 
    ⟨some 49, (some (45, false)), .callv (.t 46) [(.t 48)] false⟩, 
    ⟨some 50, (some (45, false)), .un .not (.t 49)⟩, 
    ⟨some 51, none, .pick (.t 45) (.c (.p (.bool true))) (.t 50)⟩, 
    ⟨some 52, none, .mov (.t 51)⟩, 
    ⟨some 53, (some (52, false)), .mov (.t 4)⟩, 
    ⟨some 54, (some (52, false)), .off (.t 1) 4⟩, 
    ⟨some 55, (some (52, false)), .ldl 1 (.t 54) 1 false⟩, 
    ⟨some 56, (some (52, false)), .callv (.t 53) [(.t 55)] false⟩, 
    ⟨some 57, (some (52, false)), .un .not (.t 56)⟩, 
    ⟨some 58, none, .pick (.t 52) (.c (.p (.bool true))) (.t 57)⟩, 
    ⟨some 59, none, .mov (.t 58)⟩, 
    ⟨some 60, (some (59, false)), .off (.t 1) 0⟩, 
    ⟨some 61, (some (59, false)), .ldl 1 (.t 60) 1 false⟩, 
    ⟨some 62, (some (59, false)), .bin .eql (.t 61) (.c (.p (.int .i64 2)))⟩, 
    ⟨some 63, (some (59, false)), .mov (.t 62)⟩, 
    ⟨some 64, (some (63, true)), .off (.t 1) 5⟩, 
    ⟨some 65, (some (63, true)), .ldl 1 (.t 64) 1 false⟩, 
    ⟨some 66, (some (63, true)), .off (.t 1) 1⟩, 
    ⟨some 67, (some (63, true)), .ldl 1 (.t 66) 1 false⟩, 
    ⟨some 68, (some (63, true)), .bin .gtr (.t 65) (.t 67)⟩, 
    ⟨some 69, (some (59, false)), .pick (.t 63) (.t 68) (.c (.p (.bool false)))⟩, 
    ⟨some 70, none, .pick (.t 59) (.c (.p (.bool true))) (.t 69)⟩] [70] [])
  (.cond (.t 70)
  (.seq (.reg false [⟨some 2, none, .mov (.c (.p (.int .i64 8)))⟩] [2] [])
    .ret)
  .skip))
  (.seq (.reg false [⟨some 2, none, .mov (.c (.p (.int .i64 0)))⟩] [2] [])
  .ret)))))),
  [.tmp 2], false⟩
def ir78 : IFn :=   -- tympan/valid.clauses$7
⟨(.seq (.reg false [⟨some 1, none, .bx (.t 0) 22 true⟩, 
    ⟨some 2, none, .mov (.c (.p (.int .i64 0)))⟩] [1] [1])
  (.seq (.reg true [⟨some 3, none, .call 79 [(.c (.p (.fn 80)))] false⟩, 
    ⟨some 4, none, .off (.t 1) 20⟩, 
    ⟨some 5, none, .ldl 1 (.t 4) 1 false⟩, 
    ⟨some 6, none, .callv (.t 3) [(.t 5)] false⟩, 
    ⟨some 2, none, .mov (.t 6)⟩] [2] [])
  .ret)),
  [.tmp 2], false⟩
def ir79 : IFn :=   -- tympan/valid.first[tympan/api.Note]
⟨(.seq (.reg false [⟨some 1, none, .bx (.t 0) 1 false⟩, 
    ⟨some 2, none, .mov (.c (.p .nilf))⟩] [1] [])
  (.seq (.reg false [⟨some 3, none, .mkf (.func 105) [] [(.t 1)]⟩, 
    ⟨some 2, none, .mov (.t 3)⟩] [2] [])
  .ret)),
  [.tmp 2], false⟩
def lp80_0 : IC :=
  (.loop [1, 3, 29, 30, 31] [1] (.seq (.reg false [⟨some 32, none, .bin .lss (.t 31) (.t 30)⟩] [1, 3, 29, 30, 31, 32] [1])
      (.seq (.cond (.t 32)
      .skip
      (.exit 0))
      (.seq (.block 1 (.seq (.reg false [⟨some 33, none, .ixs (.t 29) (.t 31) 1⟩, 
          ⟨some 34, none, .ld (.t 33) 1 false⟩, 
          ⟨some 5, none, .mov (.t 34)⟩] [1, 3, 5, 29, 30, 31] [1])
        (.reg false [⟨some 35, none, .mov (.t 3)⟩, 
          ⟨some 36, none, .mov (.t 35)⟩, 
          ⟨some 37, (some (36, false)), .mov (.t 5)⟩, 
          ⟨some 38, (some (36, false)), .bin .lss (.t 37) (.c (.p (.int .i64 1)))⟩, 
          ⟨some 39, none, .pick (.t 36) (.c (.p (.bool true))) (.t 38)⟩, 
          ⟨some 40, none, .mov (.t 39)⟩, 
          ⟨some 41, (some (40, false)), .mov (.t 5)⟩, 
          ⟨some 42, (some (40, false)), .bin .gtr (.t 41) (.c (.p (.int .i64 1073741823)))⟩, 
          ⟨some 43, none, .pick (.t 40) (.c (.p (.bool true))) (.t 42)⟩, 
          ⟨some 3, none, .mov (.t 43)⟩] [1, 3, 29, 30, 31] [1])))
      (.reg false [⟨some 44, none, .bin .add (.t 31) (.c (.p (.int .i64 1)))⟩, 
        ⟨some 31, none, .mov (.t 44)⟩] [1, 3, 29, 30, 31] [1])))))
def lp80_1 : IC :=
  (.loop [3, 46, 47, 48] [] (.seq (.reg false [⟨some 49, none, .bin .lss (.t 48) (.t 47)⟩] [3, 46, 47, 48, 49] [])
      (.seq (.cond (.t 49)
      .skip
      (.exit 2))
      (.seq (.block 3 (.seq (.reg false [⟨some 50, none, .ixs (.t 46) (.t 48) 1⟩, 
          ⟨some 51, none, .ld (.t 50) 1 false⟩, 
          ⟨some 7, none, .mov (.t 51)⟩] [3, 7, 46, 47, 48] [])
        (.reg false [⟨some 52, none, .mov (.t 3)⟩, 
          ⟨some 53, none, .mov (.t 52)⟩, 
          ⟨some 54, (some (53, false)), .mov (.t 7)⟩, 
          ⟨some 55, (some (53, false)), .bin .lss (.t 54) (.c (.p (.int .i64 0)))⟩, 
          ⟨some 56, none, .pick (.t 53) (.c (.p (.bool true))) (.t 55)⟩, 
          ⟨some 57, none, .mov (.t 56)⟩, 
          ⟨some 58, (some (57, false)), .mov (.t 7)⟩, 
          ⟨some 59, (some (57, false)), .bin .gtr (.t 58) (.c (.p (.int .i64 10000)))⟩, 
          ⟨some 60, none, .pick (.t 57) (.c (.p (.bool true))) (.t 59)⟩, 
          ⟨some 3, none, .mov (.t 60)⟩] [3, 46, 47, 48] [])))
      (.reg false [⟨some 61, none, .bin .add (.t 48) (.c (.p (.int .i64 1)))⟩, 
        ⟨some 48, none, .mov (.t 61)⟩] [3, 46, 47, 48] [])))))
def ir80 : IFn :=   -- tympan/note.Check
⟨(.seq (.reg false [⟨some 1, none, .bx (.t 0) 2 true⟩, 
    ⟨some 2, none, .mov (.c (.p (.int .i64 0)))⟩] [1] [1])
  (.seq (.reg false [⟨some 8, none, .off (.t 1) 0⟩, 
    ⟨some 9, none, .ld (.t 8) 1 false⟩, 
    ⟨some 10, none, .len (.t 9)⟩, 
    ⟨some 11, none, .bin .lss (.t 10) (.c (.p (.int .i64 1)))⟩, 
    ⟨some 12, none, .mov (.t 11)⟩, 
    ⟨some 13, (some (12, false)), .off (.t 1) 0⟩, 
    ⟨some 14, (some (12, false)), .ld (.t 13) 1 false⟩, 
    ⟨some 15, (some (12, false)), .len (.t 14)⟩, 
    ⟨some 16, (some (12, false)), .bin .gtr (.t 15) (.c (.p (.int .i64 64)))⟩, 
    ⟨some 17, none, .pick (.t 12) (.c (.p (.bool true))) (.t 16)⟩, 
    ⟨some 18, none, .mov (.t 17)⟩, 
    ⟨some 19, (some (18, false)), .off (.t 1) 1⟩, 
    ⟨some 20, (some (18, false)), .ld (.t 19) 1 false⟩, 
    ⟨some 21, (some (18, false)), .len (.t 20)⟩, 
    ⟨some 22, (some (18, false)), .off (.t 1) 0⟩, 
    ⟨some 23, (some (18, false)), .ld (.t 22) 1 false⟩, 
    ⟨some 24, (some (18, false)), .len (.t 23)⟩, 
    ⟨some 25, (some (18, false)), .bin .sub (.t 24) (.c (.p (.int .i64 1)))⟩, 
    ⟨some 26, (some (18, false)), .bin .neq (.t 21) (.t 25)⟩, 
    ⟨some 27, none, .pick (.t 18) (.c (.p (.bool true))) (.t 26)⟩, 
    ⟨some 3, none, .mov (.t 27)⟩] [1, 3] [1])
  (.seq (.seq (.reg false [⟨some 28, none, .off (.t 1) 0⟩, 
    ⟨some 29, none, .ld (.t 28) 1 false⟩, 
    ⟨some 30, none, .len (.t 29)⟩, 
    ⟨some 31, none, .mov (.c (.p (.int .i64 0)))⟩] [1, 3, 29, 30, 31] [1])
  (.block 0 lp80_0))
  (.seq (.seq (.reg false [⟨some 45, none, .off (.t 1) 1⟩, 
    ⟨some 46, none, .ld (.t 45) 1 false⟩, 
    ⟨some 47, none, .len (.t 46)⟩, 
    ⟨some 48, none, .mov (.c (.p (.int .i64 0)))⟩] [3, 46, 47, 48] [])
  (.block 2 lp80_1))
  (.seq (.seq (.reg false [⟨some 62, none, .mov (.t 3)⟩] [62] [])
  (.cond (.t 62)
  (.seq (.reg false [⟨some 2, none, .mov (.c (.p (.int .i64 9)))⟩] [2] [])
    .ret)
  .skip))
  (.seq (.reg false [⟨some 2, none, .mov (.c (.p (.int .i64 0)))⟩] [2] [])
  .ret)))))),
  [.tmp 2], false⟩
def ir81 : IFn :=   -- tympan/valid.clauses$8
⟨(.seq (.reg false [⟨some 1, none, .bx (.t 0) 22 true⟩, 
    ⟨some 2, none, .mov (.c (.p (.int .i64 0)))⟩] [1] [1])
  (.seq (.reg true [⟨some 3, none, .call 82 [(.c (.p (.fn 83)))] false⟩, 
    ⟨some 4, none, .off (.t 1) 21⟩, 
    ⟨some 5, none, .ldl 1 (.t 4) 1 false⟩, 
    ⟨some 6, none, .callv (.t 3) [(.t 5)] false⟩, 
    ⟨some 2, none, .mov (.t 6)⟩] [2] [])
  .ret)),
  [.tmp 2], false⟩
def ir82 : IFn :=   -- tympan/valid.first[tympan/api.Float]
⟨(.seq (.reg false [⟨some 1, none, .bx (.t 0) 1 false⟩, 
    ⟨some 2, none, .mov (.c (.p .nilf))⟩] [1] [])
  (.seq (.reg false [⟨some 3, none, .mkf (.func 108) [] [(.t 1)]⟩, 
    ⟨some 2, none, .mov (.t 3)⟩] [2] [])
  .ret)),
  [.tmp 2], false⟩
def ir83 : IFn :=   -- tympan/figure.Check
⟨(.seq (.reg false [⟨some 1, none, .bx (.t 0) 3 true⟩, 
    ⟨some 2, none, .mov (.c (.p (.int .i64 0)))⟩] [1] [1])
  (.seq (.seq (.reg false [⟨some 3, none, .off (.t 1) 0⟩, 
    ⟨some 4, none, .ld (.t 3) 1 false⟩, 
    ⟨some 5, none, .bin .lss (.t 4) (.c (.p (.int .i64 0)))⟩, 
    ⟨some 6, none, .mov (.t 5)⟩, 
    ⟨some 7, (some (6, false)), .off (.t 1) 0⟩, 
    ⟨some 8, (some (6, false)), .ld (.t 7) 1 false⟩, 
    ⟨some 9, (some (6, false)), .bin .geq (.t 8) (.c (.p (.int .i64 3)))⟩, 
    ⟨some 10, none, .pick (.t 6) (.c (.p (.bool true))) (.t 9)⟩, 
    ⟨some 11, none, .mov (.t 10)⟩, 
    ⟨some 12, (some (11, false)), .off (.t 1) 1⟩, 
    ⟨some 13, (some (11, false)), .ld (.t 12) 1 false⟩, 
    ⟨some 14, (some (11, false)), .bin .lss (.t 13) (.c (.p (.int .i64 1)))⟩, 
    ⟨some 15, none, .pick (.t 11) (.c (.p (.bool true))) (.t 14)⟩, 
    ⟨some 16, none, .mov (.t 15)⟩, 
    ⟨some 17, (some (16, false)), .off (.t 1) 1⟩, 
    ⟨some 18, (some (16, false)), .ld (.t 17) 1 false⟩, 
    ⟨some 19, (some (16, false)), .bin .gtr (.t 18) (.c (.p (.int .i64 1073741823)))⟩, 
    ⟨some 20, none, .pick (.t 16) (.c (.p (.bool true))) (.t 19)⟩, 
    ⟨some 21, none, .mov (.t 20)⟩, 
    ⟨some 22, (some (21, false)), .off (.t 1) 2⟩, 
    ⟨some 23, (some (21, false)), .ld (.t 22) 1 false⟩, 
    ⟨some 24, (some (21, false)), .bin .lss (.t 23) (.c (.p (.int .i64 0)))⟩, 
    ⟨some 25, none, .pick (.t 21) (.c (.p (.bool true))) (.t 24)⟩, 
    ⟨some 26, none, .mov (.t 25)⟩, 
    ⟨some 27, (some (26, false)), .off (.t 1) 2⟩, 
    ⟨some 28, (some (26, false)), .ld (.t 27) 1 false⟩, 
    ⟨some 29, (some (26, false)), .bin .gtr (.t 28) (.c (.p (.int .i64 3)))⟩, 
    ⟨some 30, none, .pick (.t 26) (.c (.p (.bool true))) (.t 29)⟩] [30] [])
  (.cond (.t 30)
  (.seq (.reg false [⟨some 2, none, .mov (.c (.p (.int .i64 10)))⟩] [2] [])
    .ret)
  .skip))
  (.seq (.reg false [⟨some 2, none, .mov (.c (.p (.int .i64 0)))⟩] [2] [])
  .ret))),
  [.tmp 2], false⟩
def ir84 : IFn :=   -- tympan/valid.loose
⟨(.seq (.reg false [⟨some 1, none, .bx (.t 0) 22 true⟩, 
    ⟨some 2, none, .mov (.c (.p (.int .i64 0)))⟩] [1] [1])
  (.seq (.reg true [⟨some 5, none, .off (.t 1) 19⟩, 
    ⟨some 6, none, .ldl 1 (.t 5) 1 false⟩, 
    ⟨some 7, none, .off (.t 1) 20⟩, 
    ⟨some 8, none, .ldl 1 (.t 7) 1 false⟩, 
    ⟨some 9, none, .len (.t 8)⟩, 
    ⟨some 10, none, .call 111 [(.t 6), (.c (.p (.int .i64 5))), (.t 9)] false⟩, 
    ⟨some 11, none, .off (.t 1) 19⟩, 
    ⟨some 12, none, .ldl 1 (.t 11) 1 false⟩, 
    ⟨some 13, none, .off (.t 1) 21⟩, 
    ⟨some 14, none, .ldl 1 (.t 13) 1 false⟩, 
    ⟨some 15, none, .len (.t 14)⟩, 
    ⟨some 16, none, .call 111 [(.t 12), (.c (.p (.int .i64 6))), (.t 15)] false⟩, 
    ⟨some 3, none, .mov (.t 10)⟩, 
    ⟨some 4, none, .mov (.t 16)⟩] [3, 4] [])
  (.seq (.seq (.reg false [⟨some 17, none, .mov (.t 3)⟩, 
    ⟨some 18, none, .bin .lss (.t 17) (.c (.p (.int .i64 0)))⟩, 
    ⟨some 19, none, .mov (.t 18)⟩, 
    ⟨some 20, (some (19, false)), .mov (.t 4)⟩, 
    ⟨some 21, (some (19, false)), .bin .lss (.t 20) (.c (.p (.int .i64 0)))⟩, 
    ⟨some 22, none, .pick (.t 19) (.c (.p (.bool true))) (.t 21)⟩] [3, 4, 22] [])
  (.cond (.t 22)
  (.seq (.reg false [⟨some 23, none, .mov (.t 3)⟩, 
      ⟨some 24, none, .mov (.t 4)⟩, 
      ⟨some 25, none, .mnmx true (.t 23) (.t 24)⟩, 
      ⟨some 2, none, .mov (.t 25)⟩] [2] [])
    .ret)
  .skip))
  (.seq (.reg false [⟨some 26, none, .mov (.t 3)⟩, 
    ⟨some 27, none, .mov (.t 4)⟩, 
    ⟨some 28, none, .mnmx false (.t 26) (.t 27)⟩, 
    ⟨some 2, none, .mov (.t 28)⟩] [2] [])
  .ret)))),
  [.tmp 2], false⟩
def ir85 : IFn :=   -- tympan/valid.tall
⟨(.seq (.reg false [⟨some 1, none, .bx (.t 0) 22 true⟩, 
    ⟨some 2, none, .mov (.c (.p (.int .i64 0)))⟩] [1] [1])
  (.seq (.reg false [⟨some 4, none, .ld (.t 1) 22 true⟩, 
    ⟨some 5, none, .call 15 [(.t 4)] false⟩, 
    ⟨some 3, none, .al [.p (.int .i64 0), .p (.int .i64 0), .p (.int .i64 0), .p (.int .i64 0), .p (.int .i64 0), .p (.int .i64 0), .p (.int .i64 0), .p (.int .i64 0), .p (.int .i64 0), .p (.int .i64 0), .p (.int .i64 0), .p (.int .i64 0), .p (.int .i64 0), .p (.int .i64 0), .p (.int .i64 0), .p (.int .i64 0), .p (.int .i64 0), .p (.int .i64 0), .p (.bool false), .nils, .nils, .nils] false⟩, 
    ⟨none, none, .st (.t 3) (.t 5) 22⟩] [3] [])
  (.seq (.reg false [⟨some 6, none, .off (.t 3) 21⟩, 
    ⟨some 7, none, .ld (.t 6) 1 false⟩, 
    ⟨some 8, none, .mkf (.func 112) [] [(.t 3)]⟩, 
    ⟨some 9, none, .call 109 [(.t 7), (.t 8)] false⟩, 
    ⟨some 2, none, .mov (.t 9)⟩] [2] [])
  .ret))),
  [.tmp 2], false⟩
def ir86 : IFn :=   -- tympan/sp.Sub
⟨(.seq (.reg false [⟨some 4, none, .mov (.c (.p (.int .i64 0)))⟩, 
    ⟨some 5, none, .mov (.c (.p (.bool false)))⟩] [0, 1] [])
  (.seq (.reg false [⟨some 7, none, .mov (.t 0)⟩, 
    ⟨some 8, none, .mov (.t 1)⟩, 
    ⟨some 9, none, .bin .sub (.t 7) (.t 8)⟩, 
    ⟨some 6, none, .mov (.t 9)⟩] [0, 1, 6] [])
  (.seq (.seq (.reg false [⟨some 10, none, .mov (.t 6)⟩, 
    ⟨some 11, none, .mov (.t 0)⟩, 
    ⟨some 12, none, .bin .lss (.t 10) (.t 11)⟩, 
    ⟨some 13, none, .mov (.t 1)⟩, 
    ⟨some 14, none, .bin .gtr (.t 13) (.c (.p (.int .i64 0)))⟩, 
    ⟨some 15, none, .eqb true (.t 12) (.t 14)⟩, 
    ⟨some 16, none, .mov (.t 15)⟩, 
    ⟨some 17, (some (16, true)), .mov (.t 1)⟩, 
    ⟨some 18, (some (16, true)), .bin .neq (.t 17) (.c (.p (.int .i64 0)))⟩, 
    ⟨some 19, none, .pick (.t 16) (.t 18) (.c (.p (.bool false)))⟩] [6, 19] [])
  (.cond (.t 19)
  (.seq (.reg false [⟨some 4, none, .mov (.c (.p (.int .i64 0)))⟩, 
      ⟨some 5, none, .mov (.c (.p (.bool false)))⟩] [4, 5] [])
    .ret)
  .skip))
  (.seq (.reg false [⟨some 20, none, .mov (.t 6)⟩, 
    ⟨some 4, none, .mov (.t 20)⟩, 
    ⟨some 5, none, .mov (.c (.p (.bool true)))⟩] [4, 5] [])
  .ret)))),
  [.tmp 4, .tmp 5], false⟩
def ir87 : IFn :=   -- tympan/sp.above
⟨(.seq (.reg false [⟨some 4, none, .mov (.c (.p (.int .i64 0)))⟩] [0, 1] [])
  (.seq (.reg false [⟨some 6, none, .mov (.t 0)⟩, 
    ⟨some 7, none, .mov (.t 1)⟩, 
    ⟨some 8, none, .bin .rem (.t 6) (.t 7)⟩, 
    ⟨some 5, none, .mov (.t 8)⟩] [1, 5] [])
  (.seq (.seq (.reg false [⟨some 9, none, .mov (.t 5)⟩, 
    ⟨some 10, none, .bin .lss (.t 9) (.c (.p (.int .i64 0)))⟩] [1, 5, 10] [])
  (.cond (.t 10)
  (.reg false [⟨some 11, none, .mov (.t 5)⟩, 
      ⟨some 12, none, .mov (.t 1)⟩, 
      ⟨some 13, none, .bin .add (.t 11) (.t 12)⟩, 
      ⟨some 5, none, .mov (.t 13)⟩] [5] [])
  .skip))
  (.seq (.reg false [⟨some 14, none, .mov (.t 5)⟩, 
    ⟨some 4, none, .mov (.t 14)⟩] [4] [])
  .ret)))),
  [.tmp 4], false⟩
def ir88 : IFn :=   -- tympan/sp.Add
⟨(.seq (.reg false [⟨some 4, none, .mov (.c (.p (.int .i64 0)))⟩, 
    ⟨some 5, none, .mov (.c (.p (.bool false)))⟩] [0, 1] [])
  (.seq (.reg false [⟨some 7, none, .mov (.t 0)⟩, 
    ⟨some 8, none, .mov (.t 1)⟩, 
    ⟨some 9, none, .bin .add (.t 7) (.t 8)⟩, 
    ⟨some 6, none, .mov (.t 9)⟩] [0, 1, 6] [])
  (.seq (.seq (.reg false [⟨some 10, none, .mov (.t 6)⟩, 
    ⟨some 11, none, .mov (.t 0)⟩, 
    ⟨some 12, none, .bin .gtr (.t 10) (.t 11)⟩, 
    ⟨some 13, none, .mov (.t 1)⟩, 
    ⟨some 14, none, .bin .gtr (.t 13) (.c (.p (.int .i64 0)))⟩, 
    ⟨some 15, none, .eqb true (.t 12) (.t 14)⟩, 
    ⟨some 16, none, .mov (.t 15)⟩, 
    ⟨some 17, (some (16, true)), .mov (.t 1)⟩, 
    ⟨some 18, (some (16, true)), .bin .neq (.t 17) (.c (.p (.int .i64 0)))⟩, 
    ⟨some 19, none, .pick (.t 16) (.t 18) (.c (.p (.bool false)))⟩] [6, 19] [])
  (.cond (.t 19)
  (.seq (.reg false [⟨some 4, none, .mov (.c (.p (.int .i64 0)))⟩, 
      ⟨some 5, none, .mov (.c (.p (.bool false)))⟩] [4, 5] [])
    .ret)
  .skip))
  (.seq (.reg false [⟨some 20, none, .mov (.t 6)⟩, 
    ⟨some 4, none, .mov (.t 20)⟩, 
    ⟨some 5, none, .mov (.c (.p (.bool true)))⟩] [4, 5] [])
  .ret)))),
  [.tmp 4, .tmp 5], false⟩
def ir89 : IFn :=   -- tympan/figure.Top
⟨(.seq (.reg false [⟨some 1, none, .bx (.t 0) 3 true⟩, 
    ⟨some 2, none, .mov (.c (.p (.bool false)))⟩] [1] [1])
  (.seq (.reg false [⟨some 3, none, .ld (.t 1) 3 true⟩, 
    ⟨some 4, none, .call 113 [(.t 3), (.c (.p (.fn 114)))] false⟩, 
    ⟨some 2, none, .mov (.t 4)⟩] [2] [])
  .ret)),
  [.tmp 2], false⟩
def ir90 : IFn :=   -- tympan/figure.At
⟨(.seq (.reg false [⟨some 4, none, .al [.p (.int .i64 0), .p (.int .i64 0), .p (.int .i64 0)] true⟩, 
    ⟨some 5, none, .mov (.c (.p (.bool false)))⟩] [0, 1, 4] [4])
  (.seq (.seq (.reg false [⟨some 6, none, .mov (.t 1)⟩, 
    ⟨some 7, none, .bin .lss (.t 6) (.c (.p (.int .i64 0)))⟩, 
    ⟨some 8, none, .mov (.t 7)⟩, 
    ⟨some 9, (some (8, false)), .mov (.t 1)⟩, 
    ⟨some 10, (some (8, false)), .mov (.t 0)⟩, 
    ⟨some 11, (some (8, false)), .len (.t 10)⟩, 
    ⟨some 12, (some (8, false)), .bin .geq (.t 9) (.t 11)⟩, 
    ⟨some 13, none, .pick (.t 8) (.c (.p (.bool true))) (.t 12)⟩] [0, 1, 4, 13] [4])
  (.cond (.t 13)
  (.seq (.reg false [⟨some 14, none, .bld [.p (.int .i64 0), .p (.int .i64 0), .p (.int .i64 0)] []⟩, 
      ⟨none, none, .st (.t 4) (.t 14) 3⟩, 
      ⟨some 5, none, .mov (.c (.p (.bool false)))⟩] [4, 5] [4])
    .ret)
  .skip))
  (.seq (.reg false [⟨some 15, none, .mov (.t 0)⟩, 
    ⟨some 16, none, .mov (.t 1)⟩, 
    ⟨some 17, none, .ixs (.t 15) (.t 16) 3⟩, 
    ⟨some 18, none, .ld (.t 17) 3 true⟩, 
    ⟨none, none, .st (.t 4) (.t 18) 3⟩, 
    ⟨some 5, none, .mov (.c (.p (.bool true)))⟩] [4, 5] [4])
  .ret))),
  [.cell 4 3 true, .tmp 5], false⟩
def lp91_0 : IC :=
  (.loop [0, 2, 7, 8, 13, 14, 15] [] (.seq (.reg false [⟨some 16, none, .bin .lss (.t 15) (.t 14)⟩] [0, 2, 7, 8, 13, 14, 15, 16] [])
      (.seq (.cond (.t 16)
      .skip
      (.exit 0))
      (.seq (.block 1 (.seq (.reg false [⟨some 17, none, .ixs (.t 13) (.t 15) 1⟩, 
          ⟨some 18, none, .ld (.t 17) 1 false⟩, 
          ⟨some 10, none, .mov (.t 18)⟩] [0, 2, 7, 8, 10, 13, 14, 15] [])
        (.seq (.reg false [⟨some 20, none, .mov (.t 0)⟩, 
          ⟨some 21, none, .mov (.t 10)⟩, 
          ⟨some 22, none, .call 90 [(.t 20), (.t 21)] false⟩, 
          ⟨some 19, none, .mov (.t 22)⟩, 
          ⟨some 23, none, .ext (.t 19) 0⟩, 
          ⟨some 24, none, .ext (.t 19) 1⟩, 
          ⟨some 11, none, .al [.p (.int .i64 0), .p (.int .i64 0), .p (.int .i64 0)] true⟩, 
          ⟨none, none, .st (.t 11) (.t 23) 3⟩, 
          ⟨some 12, none, .mov (.t 24)⟩] [0, 2, 7, 8, 11, 12, 13, 14, 15] [11])
        (.seq (.reg false [⟨some 25, none, .mov (.t 12)⟩] [0, 2, 7, 8, 11, 13, 14, 15, 25] [11])
        (.cond (.t 25)
        (.reg false [⟨some 26, none, .mov (.t 7)⟩, 
            ⟨some 27, none, .mov (.t 8)⟩, 
            ⟨some 28, none, .mov (.t 7)⟩, 
            ⟨some 29, none, .off (.t 11) 1⟩, 
            ⟨some 30, none, .ld (.t 29) 1 false⟩, 
            ⟨some 31, none, .callv (.t 28) [(.t 30)] false⟩, 
            ⟨some 32, none, .bin .add (.t 27) (.t 31)⟩, 
            ⟨some 33, none, .mov (.t 7)⟩, 
            ⟨some 34, none, .mov (.t 2)⟩, 
            ⟨some 35, none, .callv (.t 33) [(.t 34)] false⟩, 
            ⟨some 36, none, .bin .add (.t 32) (.t 35)⟩, 
            ⟨some 37, none, .callv (.t 26) [(.t 36)] false⟩, 
            ⟨some 8, none, .mov (.t 37)⟩] [0, 2, 7, 8, 13, 14, 15] [])
        .skip)))))
      (.reg false [⟨some 38, none, .bin .add (.t 15) (.c (.p (.int .i64 1)))⟩, 
        ⟨some 15, none, .mov (.t 38)⟩] [0, 2, 7, 8, 13, 14, 15] [])))))
def ir91 : IFn :=   -- tympan/figure.High
⟨(.seq (.reg false [⟨some 6, none, .mov (.c (.p (.int .i64 0)))⟩] [0, 1, 2] [])
  (.seq (.reg false [⟨some 7, none, .mov (.c (.p (.fn 115)))⟩] [0, 1, 2, 7] [])
  (.seq (.reg false [⟨some 8, none, .mov (.c (.p (.int .i64 0)))⟩] [0, 1, 2, 7, 8] [])
  (.seq (.seq (.reg false [⟨some 13, none, .mov (.t 1)⟩, 
    ⟨some 14, none, .len (.t 13)⟩, 
    ⟨some 15, none, .mov (.c (.p (.int .i64 0)))⟩] [0, 2, 7, 8, 13, 14, 15] [])
  (.block 0 lp91_0))
  (.seq (.reg false [⟨some 39, none, .mov (.t 8)⟩, 
    ⟨some 6, none, .mov (.t 39)⟩] [6] [])
  .ret))))),
  [.tmp 6], false⟩
def ir92 : IFn :=   -- tympan/figure.Bottom
⟨(.seq (.reg false [⟨some 1, none, .bx (.t 0) 3 true⟩, 
    ⟨some 2, none, .mov (.c (.p (.bool false)))⟩] [1] [1])
  (.seq (.reg false [⟨some 3, none, .ld (.t 1) 3 true⟩, 
    ⟨some 4, none, .call 113 [(.t 3), (.c (.p (.fn 116)))] false⟩, 
    ⟨some 2, none, .mov (.t 4)⟩] [2] [])
  .ret)),
  [.tmp 2], false⟩
def ir93 : IFn :=   -- tympan/tympanref01.Sub
⟨(.seq (.reg false [⟨some 4, none, .al [.p (.int .i64 0), .p (.bool false)] true⟩] [0, 1, 4] [4])
  (.seq (.seq (.reg false [⟨some 5, none, .mov (.t 1)⟩, 
    ⟨some 6, none, .bin .lss (.t 5) (.c (.p (.int .i64 0)))⟩, 
    ⟨some 7, none, .mov (.t 6)⟩, 
    ⟨some 8, (some (7, true)), .mov (.t 0)⟩, 
    ⟨some 9, (some (7, true)), .mov (.t 1)⟩, 
    ⟨some 10, (some (7, true)), .bin .add (.c (.p (.int .i64 9223372036854775807))) (.t 9)⟩, 
    ⟨some 11, (some (7, true)), .bin .gtr (.t 8) (.t 10)⟩, 
    ⟨some 12, none, .pick (.t 7) (.t 11) (.c (.p (.bool false)))⟩, 
    ⟨some 13, none, .mov (.t 12)⟩, 
    ⟨some 14, (some (13, false)), .mov (.t 1)⟩, 
    ⟨some 15, (some (13, false)), .bin .gtr (.t 14) (.c (.p (.int .i64 0)))⟩, 
    ⟨some 16, (some (13, false)), .mov (.t 15)⟩, 
    ⟨some 17, (some (16, true)), .mov (.t 0)⟩, 
    ⟨some 18, (some (16, true)), .mov (.t 1)⟩, 
    ⟨some 19, (some (16, true)), .bin .add (.c (.p (.int .i64 (-9223372036854775808)))) (.t 18)⟩, 
    ⟨some 20, (some (16, true)), .bin .lss (.t 17) (.t 19)⟩, 
    ⟨some 21, (some (13, false)), .pick (.t 16) (.t 20) (.c (.p (.bool false)))⟩, 
    ⟨some 22, none, .pick (.t 13) (.c (.p (.bool true))) (.t 21)⟩] [0, 1, 4, 22] [4])
  (.cond (.t 22)
  (.seq (.reg false [⟨some 23, none, .bld [.p (.int .i64 0), .p (.bool false)] []⟩, 
      ⟨none, none, .st (.t 4) (.t 23) 2⟩] [4] [4])
    .ret)
  .skip))
  (.seq (.reg false [⟨some 24, none, .mov (.t 0)⟩, 
    ⟨some 25, none, .mov (.t 1)⟩, 
    ⟨some 26, none, .bin .sub (.t 24) (.t 25)⟩, 
    ⟨some 27, none, .bld [.p (.int .i64 0), .p (.bool false)] [(0, 1, (.t 26)), (1, 1, (.c (.p (.bool true))))]⟩, 
    ⟨none, none, .st (.t 4) (.t 27) 2⟩] [4] [4])
  .ret))),
  [.cell 4 2 true], false⟩
def ir94 : IFn :=   -- tympan/tympanref01.Add
⟨(.seq (.reg false [⟨some 4, none, .al [.p (.int .i64 0), .p (.bool false)] true⟩] [0, 1, 4] [4])
  (.seq (.seq (.reg false [⟨some 5, none, .mov (.t 1)⟩, 
    ⟨some 6, none, .bin .gtr (.t 5) (.c (.p (.int .i64 0)))⟩, 
    ⟨some 7, none, .mov (.t 6)⟩, 
    ⟨some 8, (some (7, true)), .mov (.t 0)⟩, 
    ⟨some 9, (some (7, true)), .mov (.t 1)⟩, 
    ⟨some 10, (some (7, true)), .bin .sub (.c (.p (.int .i64 9223372036854775807))) (.t 9)⟩, 
    ⟨some 11, (some (7, true)), .bin .gtr (.t 8) (.t 10)⟩, 
    ⟨some 12, none, .pick (.t 7) (.t 11) (.c (.p (.bool false)))⟩, 
    ⟨some 13, none, .mov (.t 12)⟩, 
    ⟨some 14, (some (13, false)), .mov (.t 1)⟩, 
    ⟨some 15, (some (13, false)), .bin .lss (.t 14) (.c (.p (.int .i64 0)))⟩, 
    ⟨some 16, (some (13, false)), .mov (.t 15)⟩, 
    ⟨some 17, (some (16, true)), .mov (.t 0)⟩, 
    ⟨some 18, (some (16, true)), .mov (.t 1)⟩, 
    ⟨some 19, (some (16, true)), .bin .sub (.c (.p (.int .i64 (-9223372036854775808)))) (.t 18)⟩, 
    ⟨some 20, (some (16, true)), .bin .lss (.t 17) (.t 19)⟩, 
    ⟨some 21, (some (13, false)), .pick (.t 16) (.t 20) (.c (.p (.bool false)))⟩, 
    ⟨some 22, none, .pick (.t 13) (.c (.p (.bool true))) (.t 21)⟩] [0, 1, 4, 22] [4])
  (.cond (.t 22)
  (.seq (.reg false [⟨some 23, none, .bld [.p (.int .i64 0), .p (.bool false)] []⟩, 
      ⟨none, none, .st (.t 4) (.t 23) 2⟩] [4] [4])
    .ret)
  .skip))
  (.seq (.reg false [⟨some 24, none, .mov (.t 0)⟩, 
    ⟨some 25, none, .mov (.t 1)⟩, 
    ⟨some 26, none, .bin .add (.t 24) (.t 25)⟩, 
    ⟨some 27, none, .bld [.p (.int .i64 0), .p (.bool false)] [(0, 1, (.t 26)), (1, 1, (.c (.p (.bool true))))]⟩, 
    ⟨none, none, .st (.t 4) (.t 27) 2⟩] [4] [4])
  .ret))),
  [.cell 4 2 true], false⟩
def ir95 : IFn :=   -- tympan/tympanref12.held
⟨(.seq (.reg false [⟨some 2, none, .mov (.c (.p (.int .i64 0)))⟩] [0] [])
  (.seq (.reg false [⟨some 3, none, .mov (.t 0)⟩, 
    ⟨some 4, none, .mnmx false (.t 3) (.c (.p (.int .i64 1125899906842624)))⟩, 
    ⟨some 5, none, .mnmx true (.c (.p (.int .i64 0))) (.t 4)⟩, 
    ⟨some 2, none, .mov (.t 5)⟩] [2] [])
  .ret)),
  [.tmp 2], false⟩
def ir96 : IFn :=   -- tympan/valid.when$1
⟨(.seq (.reg false [⟨some 2, none, .bx (.t 0) 22 true⟩, 
    ⟨some 3, none, .mov (.c (.p (.int .i64 0)))⟩] [1, 2] [2])
  (.seq (.seq (.reg false [⟨some 4, none, .ld (.t 1) 1 false⟩, 
    ⟨some 5, none, .ld (.t 2) 22 true⟩, 
    ⟨some 6, none, .callv (.t 4) [(.t 5)] false⟩] [6] [])
  (.cond (.t 6)
  (.seq (.reg false [⟨some 3, none, .mov (.c (.p (.int .i64 0)))⟩] [3] [])
    .ret)
  .skip))
  (.seq (.reg false [⟨some 3, none, .mov (.c (.p (.int .i64 (-1))))⟩] [3] [])
  .ret))),
  [.tmp 3], false⟩
def ir97 : IFn :=   -- tympan/geom.within[int]
⟨(.seq (.reg false [⟨some 2, none, .bx (.t 0) 1 false⟩, 
    ⟨some 3, none, .bx (.t 1) 1 false⟩, 
    ⟨some 4, none, .mov (.c (.p .nilf))⟩] [2, 3] [])
  (.seq (.reg false [⟨some 5, none, .mkf (.func 117) [] [(.t 2), (.t 3)]⟩, 
    ⟨some 4, none, .mov (.t 5)⟩] [4] [])
  .ret)),
  [.tmp 4], false⟩
def ir98 : IFn :=   -- tympan/geom.within[tympan/api.Sp]
⟨(.seq (.reg false [⟨some 2, none, .bx (.t 0) 1 false⟩, 
    ⟨some 3, none, .bx (.t 1) 1 false⟩, 
    ⟨some 4, none, .mov (.c (.p .nilf))⟩] [2, 3] [])
  (.seq (.reg false [⟨some 5, none, .mkf (.func 118) [] [(.t 2), (.t 3)]⟩, 
    ⟨some 4, none, .mov (.t 5)⟩] [4] [])
  .ret)),
  [.tmp 4], false⟩
def ir99 : IFn :=   -- tympan/valid.first[tympan/api.Item]$1
⟨(.seq (.reg false [⟨some 3, none, .mov (.c (.p (.int .i64 0)))⟩] [0, 1] [])
  (.seq (.reg false [⟨some 4, none, .mov (.t 0)⟩, 
    ⟨some 5, none, .mkf (.func 101) [] [(.t 1)]⟩, 
    ⟨some 6, none, .call 100 [(.t 4), (.t 5)] false⟩, 
    ⟨some 3, none, .mov (.t 6)⟩] [3] [])
  .ret)),
  [.tmp 3], false⟩
def lp100_0 : IC :=
  (.loop [0, 1, 7, 8] [] (.seq (.reg false [⟨some 9, none, .bin .lss (.t 8) (.t 7)⟩] [0, 1, 7, 8, 9] [])
      (.seq (.cond (.t 9)
      .skip
      (.exit 0))
      (.seq (.block 1 (.seq (.reg false [⟨some 10, none, .mov (.t 8)⟩, 
          ⟨some 5, none, .mov (.t 10)⟩] [0, 1, 5, 7, 8] [])
        (.seq (.reg false [⟨some 11, none, .mov (.t 1)⟩, 
          ⟨some 12, none, .mov (.t 0)⟩, 
          ⟨some 13, none, .mov (.t 5)⟩, 
          ⟨some 14, none, .ixs (.t 12) (.t 13) 7⟩, 
          ⟨some 15, none, .ld (.t 14) 7 true⟩, 
          ⟨some 16, none, .callv (.t 11) [(.t 15)] false⟩] [0, 1, 5, 7, 8, 16] [])
        (.cond (.t 16)
        (.seq (.reg false [⟨some 17, none, .mov (.t 5)⟩, 
            ⟨some 4, none, .mov (.t 17)⟩] [4] [])
          .ret)
        .skip))))
      (.reg false [⟨some 18, none, .bin .add (.t 8) (.c (.p (.int .i64 1)))⟩, 
        ⟨some 8, none, .mov (.t 18)⟩] [0, 1, 7, 8] [])))))
def ir100 : IFn :=   -- slices.IndexFunc[[]tympan/api.Item,tympan/api.Item]
⟨(.seq (.reg false [⟨some 4, none, .mov (.c (.p (.int .i64 0)))⟩] [0, 1] [])
  (.seq (.seq (.reg false [⟨some 6, none, .mov (.t 0)⟩, 
    ⟨some 7, none, .len (.t 6)⟩, 
    ⟨some 8, none, .mov (.c (.p (.int .i64 0)))⟩] [0, 1, 7, 8] [])
  (.block 0 lp100_0))
  (.seq (.reg false [⟨some 4, none, .mov (.c (.p (.int .i64 (-1))))⟩] [4] [])
  .ret))),
  [.tmp 4], false⟩
def ir101 : IFn :=   -- tympan/valid.first[tympan/api.Item]$1$1
⟨(.seq (.reg false [⟨some 2, none, .bx (.t 0) 7 true⟩, 
    ⟨some 3, none, .mov (.c (.p (.bool false)))⟩] [1, 2] [2])
  (.seq (.reg false [⟨some 4, none, .ld (.t 1) 1 false⟩, 
    ⟨some 5, none, .ld (.t 2) 7 true⟩, 
    ⟨some 6, none, .callv (.t 4) [(.t 5)] false⟩, 
    ⟨some 7, none, .bin .neq (.t 6) (.c (.p (.int .i64 0)))⟩, 
    ⟨some 3, none, .mov (.t 7)⟩] [3] [])
  .ret)),
  [.tmp 3], false⟩
def ir102 : IFn :=   -- tympan/item.forms
⟨(.seq (.reg false [⟨some 0, none, .mov (.c (.nils))⟩] [] [])
  (.seq (.reg false [⟨some 1, none, .mov (.c (.p (.fn 119)))⟩] [1] [])
  (.seq (.reg false [⟨some 2, none, .call 103 [(.c (.p (.int .i64 0)))] false⟩, 
    ⟨some 3, none, .bld [.p .nilf, .p .nilf] [(0, 1, (.c (.p (.fn 121)))), (1, 1, (.t 2))]⟩, 
    ⟨some 4, none, .call 103 [(.c (.p (.int .i64 0)))] false⟩, 
    ⟨some 5, none, .bld [.p .nilf, .p .nilf] [(0, 1, (.c (.p (.fn 123)))), (1, 1, (.t 4))]⟩, 
    ⟨some 6, none, .mov (.t 1)⟩, 
    ⟨some 7, none, .callv (.t 6) [(.c (.p (.fn 41)))] false⟩, 
    ⟨some 8, none, .bld [.p .nilf, .p .nilf] [(0, 1, (.t 7)), (1, 1, (.c (.p (.fn 125))))]⟩, 
    ⟨some 9, none, .mov (.t 1)⟩, 
    ⟨some 10, none, .callv (.t 9) [(.c (.p (.fn 126)))] false⟩, 
    ⟨some 11, none, .call 103 [(.c (.p (.int .i64 1048576)))] false⟩, 
    ⟨some 12, none, .bld [.p .nilf, .p .nilf] [(0, 1, (.t 10)), (1, 1, (.t 11))]⟩, 
    ⟨some 13, none, .mov (.t 1)⟩, 
    ⟨some 14, none, .callv (.t 13) [(.c (.p (.fn 127)))] false⟩, 
    ⟨some 15, none, .call 103 [(.c (.p (.int .i64 511)))] false⟩, 
    ⟨some 16, none, .bld [.p .nilf, .p .nilf] [(0, 1, (.t 14)), (1, 1, (.t 15))]⟩, 
    ⟨some 17, none, .mov (.t 1)⟩, 
    ⟨some 18, none, .callv (.t 17) [(.c (.p (.fn 128)))] false⟩, 
    ⟨some 19, none, .call 103 [(.c (.p (.int .i64 255)))] false⟩, 
    ⟨some 20, none, .bld [.p .nilf, .p .nilf] [(0, 1, (.t 18)), (1, 1, (.t 19))]⟩, 
    ⟨some 21, none, .call 103 [(.c (.p (.int .i64 0)))] false⟩, 
    ⟨some 22, none, .bld [.p .nilf, .p .nilf] [(0, 1, (.c (.p (.fn 129)))), (1, 1, (.t 21))]⟩, 
    ⟨some 23, none, .bsl 2 7 [.p .nilf, .p .nilf] [(0, (.t 3)), (1, (.t 5)), (2, (.t 8)), (3, (.t 12)), (4, (.t 16)), (5, (.t 20)), (6, (.t 22))]⟩, 
    ⟨some 0, none, .mov (.t 23)⟩] [0] [])
  .ret))),
  [.tmp 0], false⟩
def ir103 : IFn :=   -- tympan/item.upTo
⟨(.seq (.reg false [⟨some 1, none, .bx (.t 0) 1 false⟩, 
    ⟨some 2, none, .mov (.c (.p .nilf))⟩] [1] [])
  (.seq (.reg false [⟨some 3, none, .mkf (.func 131) [] [(.t 1)]⟩, 
    ⟨some 2, none, .mov (.t 3)⟩] [2] [])
  .ret)),
  [.tmp 2], false⟩
def ir104 : IFn :=   -- tympan/item.long
⟨(.seq (.reg false [⟨some 2, none, .mov (.c (.p (.bool false)))⟩] [0] [])
  (.seq (.reg false [⟨some 3, none, .mov (.t 0)⟩, 
    ⟨some 4, none, .call 132 [(.t 3), (.c (.p (.fn 133)))] false⟩, 
    ⟨some 5, none, .un .not (.t 4)⟩, 
    ⟨some 2, none, .mov (.t 5)⟩] [2] [])
  .ret)),
  [.tmp 2], false⟩
def ir105 : IFn :=   -- tympan/valid.first[tympan/api.Note]$1
⟨(.seq (.reg false [⟨some 3, none, .mov (.c (.p (.int .i64 0)))⟩] [0, 1] [])
  (.seq (.reg false [⟨some 4, none, .mov (.t 0)⟩, 
    ⟨some 5, none, .mkf (.func 107) [] [(.t 1)]⟩, 
    ⟨some 6, none, .call 106 [(.t 4), (.t 5)] false⟩, 
    ⟨some 3, none, .mov (.t 6)⟩] [3] [])
  .ret)),
  [.tmp 3], false⟩
def lp106_0 : IC :=
  (.loop [0, 1, 7, 8] [] (.seq (.reg false [⟨some 9, none, .bin .lss (.t 8) (.t 7)⟩] [0, 1, 7, 8, 9] [])
      (.seq (.cond (.t 9)
      .skip
      (.exit 0))
      (.seq (.block 1 (.seq (.reg false [⟨some 10, none, .mov (.t 8)⟩, 
          ⟨some 5, none, .mov (.t 10)⟩] [0, 1, 5, 7, 8] [])
        (.seq (.reg false [⟨some 11, none, .mov (.t 1)⟩, 
          ⟨some 12, none, .mov (.t 0)⟩, 
          ⟨some 13, none, .mov (.t 5)⟩, 
          ⟨some 14, none, .ixs (.t 12) (.t 13) 2⟩, 
          ⟨some 15, none, .ld (.t 14) 2 true⟩, 
          ⟨some 16, none, .callv (.t 11) [(.t 15)] false⟩] [0, 1, 5, 7, 8, 16] [])
        (.cond (.t 16)
        (.seq (.reg false [⟨some 17, none, .mov (.t 5)⟩, 
            ⟨some 4, none, .mov (.t 17)⟩] [4] [])
          .ret)
        .skip))))
      (.reg false [⟨some 18, none, .bin .add (.t 8) (.c (.p (.int .i64 1)))⟩, 
        ⟨some 8, none, .mov (.t 18)⟩] [0, 1, 7, 8] [])))))
def ir106 : IFn :=   -- slices.IndexFunc[[]tympan/api.Note,tympan/api.Note]
⟨(.seq (.reg false [⟨some 4, none, .mov (.c (.p (.int .i64 0)))⟩] [0, 1] [])
  (.seq (.seq (.reg false [⟨some 6, none, .mov (.t 0)⟩, 
    ⟨some 7, none, .len (.t 6)⟩, 
    ⟨some 8, none, .mov (.c (.p (.int .i64 0)))⟩] [0, 1, 7, 8] [])
  (.block 0 lp106_0))
  (.seq (.reg false [⟨some 4, none, .mov (.c (.p (.int .i64 (-1))))⟩] [4] [])
  .ret))),
  [.tmp 4], false⟩
def ir107 : IFn :=   -- tympan/valid.first[tympan/api.Note]$1$1
⟨(.seq (.reg false [⟨some 2, none, .bx (.t 0) 2 true⟩, 
    ⟨some 3, none, .mov (.c (.p (.bool false)))⟩] [1, 2] [2])
  (.seq (.reg false [⟨some 4, none, .ld (.t 1) 1 false⟩, 
    ⟨some 5, none, .ld (.t 2) 2 true⟩, 
    ⟨some 6, none, .callv (.t 4) [(.t 5)] false⟩, 
    ⟨some 7, none, .bin .neq (.t 6) (.c (.p (.int .i64 0)))⟩, 
    ⟨some 3, none, .mov (.t 7)⟩] [3] [])
  .ret)),
  [.tmp 3], false⟩
def ir108 : IFn :=   -- tympan/valid.first[tympan/api.Float]$1
⟨(.seq (.reg false [⟨some 3, none, .mov (.c (.p (.int .i64 0)))⟩] [0, 1] [])
  (.seq (.reg false [⟨some 4, none, .mov (.t 0)⟩, 
    ⟨some 5, none, .mkf (.func 110) [] [(.t 1)]⟩, 
    ⟨some 6, none, .call 109 [(.t 4), (.t 5)] false⟩, 
    ⟨some 3, none, .mov (.t 6)⟩] [3] [])
  .ret)),
  [.tmp 3], false⟩
def lp109_0 : IC :=
  (.loop [0, 1, 7, 8] [] (.seq (.reg false [⟨some 9, none, .bin .lss (.t 8) (.t 7)⟩] [0, 1, 7, 8, 9] [])
      (.seq (.cond (.t 9)
      .skip
      (.exit 0))
      (.seq (.block 1 (.seq (.reg false [⟨some 10, none, .mov (.t 8)⟩, 
          ⟨some 5, none, .mov (.t 10)⟩] [0, 1, 5, 7, 8] [])
        (.seq (.reg false [⟨some 11, none, .mov (.t 1)⟩, 
          ⟨some 12, none, .mov (.t 0)⟩, 
          ⟨some 13, none, .mov (.t 5)⟩, 
          ⟨some 14, none, .ixs (.t 12) (.t 13) 3⟩, 
          ⟨some 15, none, .ld (.t 14) 3 true⟩, 
          ⟨some 16, none, .callv (.t 11) [(.t 15)] false⟩] [0, 1, 5, 7, 8, 16] [])
        (.cond (.t 16)
        (.seq (.reg false [⟨some 17, none, .mov (.t 5)⟩, 
            ⟨some 4, none, .mov (.t 17)⟩] [4] [])
          .ret)
        .skip))))
      (.reg false [⟨some 18, none, .bin .add (.t 8) (.c (.p (.int .i64 1)))⟩, 
        ⟨some 8, none, .mov (.t 18)⟩] [0, 1, 7, 8] [])))))
def ir109 : IFn :=   -- slices.IndexFunc[[]tympan/api.Float,tympan/api.Float]
⟨(.seq (.reg false [⟨some 4, none, .mov (.c (.p (.int .i64 0)))⟩] [0, 1] [])
  (.seq (.seq (.reg false [⟨some 6, none, .mov (.t 0)⟩, 
    ⟨some 7, none, .len (.t 6)⟩, 
    ⟨some 8, none, .mov (.c (.p (.int .i64 0)))⟩] [0, 1, 7, 8] [])
  (.block 0 lp109_0))
  (.seq (.reg false [⟨some 4, none, .mov (.c (.p (.int .i64 (-1))))⟩] [4] [])
  .ret))),
  [.tmp 4], false⟩
def ir110 : IFn :=   -- tympan/valid.first[tympan/api.Float]$1$1
⟨(.seq (.reg false [⟨some 2, none, .bx (.t 0) 3 true⟩, 
    ⟨some 3, none, .mov (.c (.p (.bool false)))⟩] [1, 2] [2])
  (.seq (.reg false [⟨some 4, none, .ld (.t 1) 1 false⟩, 
    ⟨some 5, none, .ld (.t 2) 3 true⟩, 
    ⟨some 6, none, .callv (.t 4) [(.t 5)] false⟩, 
    ⟨some 7, none, .bin .neq (.t 6) (.c (.p (.int .i64 0)))⟩, 
    ⟨some 3, none, .mov (.t 7)⟩] [3] [])
  .ret)),
  [.tmp 3], false⟩
def lp111_0 : IC :=
  (.loop [0, 1, 2, 7, 8, 14, 15, 16] [] (.seq (.reg false [⟨some 17, none, .bin .lss (.t 16) (.t 15)⟩] [0, 1, 2, 7, 8, 14, 15, 16, 17] [])
      (.seq (.cond (.t 17)
      .skip
      (.exit 0))
      (.seq (.block 1 (.seq (.reg false [⟨some 18, none, .mov (.t 16)⟩, 
          ⟨some 19, none, .ixs (.t 14) (.t 16) 7⟩, 
          ⟨some 20, none, .ld (.t 19) 7 true⟩, 
          ⟨some 10, none, .al [.p (.int .i64 0), .p (.int .i64 0), .p (.int .i64 0), .p (.int .i64 0), .p (.int .i64 0), .p (.int .i64 0), .p (.int .i64 0)] true⟩, 
          ⟨some 9, none, .mov (.t 18)⟩, 
          ⟨none, none, .st (.t 10) (.t 20) 7⟩] [0, 1, 2, 7, 8, 9, 10, 14, 15, 16] [10])
        (.seq (.seq (.reg false [⟨some 21, none, .mov (.t 9)⟩, 
          ⟨some 22, none, .mov (.t 7)⟩, 
          ⟨some 23, none, .bin .eql (.t 21) (.t 22)⟩, 
          ⟨some 24, none, .mov (.t 23)⟩, 
          ⟨some 25, (some (24, false)), .off (.t 10) 0⟩, 
          ⟨some 26, (some (24, false)), .ld (.t 25) 1 false⟩, 
          ⟨some 27, (some (24, false)), .mov (.t 1)⟩, 
          ⟨some 28, (some (24, false)), .bin .eql (.t 26) (.t 27)⟩, 
          ⟨some 29, (some (24, false)), .mov (.t 28)⟩, 
          ⟨some 30, (some (29, true)), .mov (.t 8)⟩, 
          ⟨some 31, (some (29, true)), .mov (.t 2)⟩, 
          ⟨some 32, (some (29, true)), .bin .eql (.t 30) (.t 31)⟩, 
          ⟨some 33, (some (24, false)), .pick (.t 29) (.t 32) (.c (.p (.bool false)))⟩, 
          ⟨some 34, none, .pick (.t 24) (.c (.p (.bool true))) (.t 33)⟩] [0, 1, 2, 7, 8, 9, 10, 14, 15, 16, 34] [10])
        (.cond (.t 34)
        (.seq (.reg false [⟨some 35, none, .mov (.t 9)⟩, 
            ⟨some 6, none, .mov (.t 35)⟩] [6] [])
          .ret)
        .skip))
        (.seq (.reg false [⟨some 36, none, .off (.t 10) 0⟩, 
          ⟨some 37, none, .ld (.t 36) 1 false⟩, 
          ⟨some 38, none, .mov (.t 1)⟩, 
          ⟨some 39, none, .bin .eql (.t 37) (.t 38)⟩] [0, 1, 2, 7, 8, 14, 15, 16, 39] [])
        (.cond (.t 39)
        (.reg false [⟨some 40, none, .mov (.t 8)⟩, 
            ⟨some 41, none, .bin .add (.t 40) (.c (.p (.int .i64 1)))⟩, 
            ⟨some 8, none, .mov (.t 41)⟩] [0, 1, 2, 7, 8, 14, 15, 16] [])
        .skip)))))
      (.reg false [⟨some 42, none, .bin .add (.t 16) (.c (.p (.int .i64 1)))⟩, 
        ⟨some 16, none, .mov (.t 42)⟩] [0, 1, 2, 7, 8, 14, 15, 16] [])))))
def ir111 : IFn :=   -- tympan/valid.refs
⟨(.seq (.reg false [⟨some 6, none, .mov (.c (.p (.int .i64 0)))⟩] [0, 1, 2] [])
  (.seq (.reg false [⟨some 11, none, .mov (.t 0)⟩, 
    ⟨some 12, none, .mov (.t 1)⟩, 
    ⟨some 13, none, .call 134 [(.t 11), (.t 12)] false⟩, 
    ⟨some 7, none, .mov (.t 13)⟩] [0, 1, 2, 7] [])
  (.seq (.reg false [⟨some 8, none, .mov (.c (.p (.int .i64 0)))⟩] [0, 1, 2, 7, 8] [])
  (.seq (.seq (.reg false [⟨some 14, none, .mov (.t 0)⟩, 
    ⟨some 15, none, .len (.t 14)⟩, 
    ⟨some 16, none, .mov (.c (.p (.int .i64 0)))⟩] [0, 1, 2, 7, 8, 14, 15, 16] [])
  (.block 0 lp111_0))
  (.seq (.seq (.reg false [⟨some 43, none, .mov (.t 8)⟩, 
    ⟨some 44, none, .mov (.t 2)⟩, 
    ⟨some 45, none, .bin .lss (.t 43) (.t 44)⟩] [0, 45] [])
  (.cond (.t 45)
  (.seq (.reg false [⟨some 46, none, .mov (.t 0)⟩, 
      ⟨some 47, none, .len (.t 46)⟩, 
      ⟨some 6, none, .mov (.t 47)⟩] [6] [])
    .ret)
  .skip))
  (.seq (.reg false [⟨some 6, none, .mov (.c (.p (.int .i64 (-1))))⟩] [6] [])
  .ret)))))),
  [.tmp 6], false⟩
def ir112 : IFn :=   -- tympan/valid.tall$1
⟨(.seq (.reg false [⟨some 2, none, .bx (.t 0) 3 true⟩, 
    ⟨some 3, none, .mov (.c (.p (.bool false)))⟩] [1, 2] [2])
  (.seq (.reg false [⟨some 4, none, .off (.t 2) 1⟩, 
    ⟨some 5, none, .ld (.t 4) 1 false⟩, 
    ⟨some 6, none, .off (.t 1) 0⟩, 
    ⟨some 7, none, .off (.t 6) 4⟩, 
    ⟨some 8, none, .ld (.t 7) 1 false⟩, 
    ⟨some 9, none, .bin .gtr (.t 5) (.t 8)⟩, 
    ⟨some 3, none, .mov (.t 9)⟩] [3] [])
  .ret)),
  [.tmp 3], false⟩
def ir113 : IFn :=   -- tympan/figure.may
⟨(.seq (.reg false [⟨some 2, none, .bx (.t 0) 3 true⟩, 
    ⟨some 4, none, .mov (.c (.p (.bool false)))⟩] [1, 2] [2])
  (.seq (.reg false [⟨some 5, none, .mov (.t 1)⟩, 
    ⟨some 6, none, .off (.t 2) 2⟩, 
    ⟨some 7, none, .ld (.t 6) 1 false⟩, 
    ⟨some 8, none, .callv (.t 5) [(.t 7)] false⟩, 
    ⟨some 4, none, .mov (.t 8)⟩] [4] [])
  .ret)),
  [.tmp 4], false⟩
def ir114 : IFn :=   -- (tympan/figure.bits).top
⟨(.seq (.reg false [⟨some 2, none, .mov (.c (.p (.bool false)))⟩] [0] [])
  (.seq (.reg false [⟨some 3, none, .mov (.t 0)⟩, 
    ⟨some 4, none, .bin .and (.t 3) (.c (.p (.int .i64 1)))⟩, 
    ⟨some 5, none, .bin .neq (.t 4) (.c (.p (.int .i64 0)))⟩, 
    ⟨some 2, none, .mov (.t 5)⟩] [2] [])
  .ret)),
  [.tmp 2], false⟩
def ir115 : IFn :=   -- tympan/figure.High$1
⟨(.seq (.reg false [⟨some 2, none, .mov (.c (.p (.int .i64 0)))⟩] [0] [])
  (.seq (.reg false [⟨some 3, none, .mov (.t 0)⟩, 
    ⟨some 4, none, .mnmx true (.t 3) (.c (.p (.int .i64 0)))⟩, 
    ⟨some 5, none, .mnmx false (.t 4) (.c (.p (.int .i64 1125899906842624)))⟩, 
    ⟨some 2, none, .mov (.t 5)⟩] [2] [])
  .ret)),
  [.tmp 2], false⟩
def ir116 : IFn :=   -- (tympan/figure.bits).bottom
⟨(.seq (.reg false [⟨some 2, none, .mov (.c (.p (.bool false)))⟩] [0] [])
  (.seq (.reg false [⟨some 3, none, .mov (.t 0)⟩, 
    ⟨some 4, none, .bin .and (.t 3) (.c (.p (.int .i64 2)))⟩, 
    ⟨some 5, none, .bin .neq (.t 4) (.c (.p (.int .i64 0)))⟩, 
    ⟨some 2, none, .mov (.t 5)⟩] [2] [])
  .ret)),
  [.tmp 2], false⟩
def lp117_0 : IC :=
  (.loop [1, 2, 7, 8, 9] [] (.seq (.reg false [⟨some 10, none, .bin .lss (.t 9) (.t 8)⟩] [1, 2, 7, 8, 9, 10] [])
      (.seq (.cond (.t 10)
      .skip
      (.exit 0))
      (.seq (.block 1 (.seq (.reg false [⟨some 11, none, .ixs (.t 7) (.t 9) 1⟩, 
          ⟨some 12, none, .ld (.t 11) 1 false⟩, 
          ⟨some 6, none, .mov (.t 12)⟩] [1, 2, 6, 7, 8, 9] [])
        (.seq (.reg false [⟨some 13, none, .mov (.t 6)⟩, 
          ⟨some 14, none, .ld (.t 1) 1 false⟩, 
          ⟨some 15, none, .bin .lss (.t 13) (.t 14)⟩, 
          ⟨some 16, none, .mov (.t 15)⟩, 
          ⟨some 17, (some (16, false)), .mov (.t 6)⟩, 
          ⟨some 18, (some (16, false)), .ld (.t 2) 1 false⟩, 
          ⟨some 19, (some (16, false)), .bin .gtr (.t 17) (.t 18)⟩, 
          ⟨some 20, none, .pick (.t 16) (.c (.p (.bool true))) (.t 19)⟩] [1, 2, 7, 8, 9, 20] [])
        (.cond (.t 20)
        (.seq (.reg false [⟨some 4, none, .mov (.c (.p (.bool false)))⟩] [4] [])
          .ret)
        .skip))))
      (.reg false [⟨some 21, none, .bin .add (.t 9) (.c (.p (.int .i64 1)))⟩, 
        ⟨some 9, none, .mov (.t 21)⟩] [1, 2, 7, 8, 9] [])))))
def ir117 : IFn :=   -- tympan/geom.within[int]$1
⟨(.seq (.reg false [⟨some 4, none, .mov (.c (.p (.bool false)))⟩] [0, 1, 2] [])
  (.seq (.seq (.reg false [⟨some 7, none, .mov (.t 0)⟩, 
    ⟨some 8, none, .len (.t 7)⟩, 
    ⟨some 9, none, .mov (.c (.p (.int .i64 0)))⟩] [1, 2, 7, 8, 9] [])
  (.block 0 lp117_0))
  (.seq (.reg false [⟨some 4, none, .mov (.c (.p (.bool true)))⟩] [4] [])
  .ret))),
  [.tmp 4], false⟩
def lp118_0 : IC :=
  (.loop [1, 2, 7, 8, 9] [] (.seq (.reg false [⟨some 10, none, .bin .lss (.t 9) (.t 8)⟩] [1, 2, 7, 8, 9, 10] [])
      (.seq (.cond (.t 10)
      .skip
      (.exit 0))
      (.seq (.block 1 (.seq (.reg false [⟨some 11, none, .ixs (.t 7) (.t 9) 1⟩, 
          ⟨some 12, none, .ld (.t 11) 1 false⟩, 
          ⟨some 6, none, .mov (.t 12)⟩] [1, 2, 6, 7, 8, 9] [])
        (.seq (.reg false [⟨some 13, none, .mov (.t 6)⟩, 
          ⟨some 14, none, .ld (.t 1) 1 false⟩, 
          ⟨some 15, none, .bin .lss (.t 13) (.t 14)⟩, 
          ⟨some 16, none, .mov (.t 15)⟩, 
          ⟨some 17, (some (16, false)), .mov (.t 6)⟩, 
          ⟨some 18, (some (16, false)), .ld (.t 2) 1 false⟩, 
          ⟨some 19, (some (16, false)), .bin .gtr (.t 17) (.t 18)⟩, 
          ⟨some 20, none, .pick (.t 16) (.c (.p (.bool true))) (.t 19)⟩] [1, 2, 7, 8, 9, 20] [])
        (.cond (.t 20)
        (.seq (.reg false [⟨some 4, none, .mov (.c (.p (.bool false)))⟩] [4] [])
          .ret)
        .skip))))
      (.reg false [⟨some 21, none, .bin .add (.t 9) (.c (.p (.int .i64 1)))⟩, 
        ⟨some 9, none, .mov (.t 21)⟩] [1, 2, 7, 8, 9] [])))))
def ir118 : IFn :=   -- tympan/geom.within[tympan/api.Sp]$1
⟨(.seq (.reg false [⟨some 4, none, .mov (.c (.p (.bool false)))⟩] [0, 1, 2] [])
  (.seq (.seq (.reg false [⟨some 7, none, .mov (.t 0)⟩, 
    ⟨some 8, none, .len (.t 7)⟩, 
    ⟨some 9, none, .mov (.c (.p (.int .i64 0)))⟩] [1, 2, 7, 8, 9] [])
  (.block 0 lp118_0))
  (.seq (.reg false [⟨some 4, none, .mov (.c (.p (.bool true)))⟩] [4] [])
  .ret))),
  [.tmp 4], false⟩
def ir119 : IFn :=   -- tympan/item.forms$1
⟨(.seq (.reg false [⟨some 1, none, .bx (.t 0) 1 false⟩, 
    ⟨some 2, none, .mov (.c (.p .nilf))⟩] [1] [])
  (.seq (.reg false [⟨some 3, none, .mkf (.func 120) [] [(.t 1)]⟩, 
    ⟨some 2, none, .mov (.t 3)⟩] [2] [])
  .ret)),
  [.tmp 2], false⟩
def ir120 : IFn :=   -- tympan/item.forms$1$1
⟨(.seq (.reg false [⟨some 2, none, .bx (.t 0) 7 true⟩, 
    ⟨some 3, none, .al [.p (.int .i64 0), .p (.int .i64 0), .p (.int .i64 0), .p (.int .i64 0), .p (.int .i64 0), .p (.int .i64 0), .p (.int .i64 0)] true⟩] [1, 2, 3] [2, 3])
  (.seq (.reg false [⟨some 4, none, .ld (.t 1) 1 false⟩, 
    ⟨some 5, none, .off (.t 2) 6⟩, 
    ⟨some 6, none, .ld (.t 5) 1 false⟩, 
    ⟨some 7, none, .callv (.t 4) [(.t 6)] false⟩, 
    ⟨none, none, .st (.t 3) (.t 7) 7⟩] [3] [3])
  .ret)),
  [.cell 3 7 true], false⟩
def ir121 : IFn :=   -- tympan/item.forms$2
⟨(.seq (.reg false [⟨some 1, none, .bx (.t 0) 7 true⟩, 
    ⟨some 2, none, .al [.p (.int .i64 0), .p (.int .i64 0), .p (.int .i64 0), .p (.int .i64 0), .p (.int .i64 0), .p (.int .i64 0), .p (.int .i64 0)] true⟩] [1, 2] [1, 2])
  (.seq (.reg false [⟨some 3, none, .off (.t 1) 1⟩, 
    ⟨some 4, none, .ld (.t 3) 1 false⟩, 
    ⟨some 5, none, .off (.t 1) 2⟩, 
    ⟨some 6, none, .ld (.t 5) 1 false⟩, 
    ⟨some 7, none, .call 122 [(.t 4), (.t 6)] false⟩, 
    ⟨none, none, .st (.t 2) (.t 7) 7⟩] [2] [2])
  .ret)),
  [.cell 2 7 true], false⟩
def ir122 : IFn :=   -- tympan/item.Box
⟨(.seq (.reg false [⟨some 4, none, .al [.p (.int .i64 0), .p (.int .i64 0), .p (.int .i64 0), .p (.int .i64 0), .p (.int .i64 0), .p (.int .i64 0), .p (.int .i64 0)] true⟩] [0, 1, 4] [4])
  (.seq (.reg false [⟨some 5, none, .mov (.t 0)⟩, 
    ⟨some 6, none, .mov (.t 1)⟩, 
    ⟨some 7, none, .bld [.p (.int .i64 0), .p (.int .i64 0), .p (.int .i64 0), .p (.int .i64 0), .p (.int .i64 0), .p (.int .i64 0), .p (.int .i64 0)] [(0, 1, (.c (.p (.int .i64 1)))), (1, 1, (.t 5)), (2, 1, (.t 6))]⟩, 
    ⟨none, none, .st (.t 4) (.t 7) 7⟩] [4] [4])
  .ret)),
  [.cell 4 7 true], false⟩
def ir123 : IFn :=   -- tympan/item.forms$3
⟨(.seq (.reg false [⟨some 1, none, .bx (.t 0) 7 true⟩, 
    ⟨some 2, none, .al [.p (.int .i64 0), .p (.int .i64 0), .p (.int .i64 0), .p (.int .i64 0), .p (.int .i64 0), .p (.int .i64 0), .p (.int .i64 0)] true⟩] [1, 2] [1, 2])
  (.seq (.reg false [⟨some 3, none, .off (.t 1) 1⟩, 
    ⟨some 4, none, .ld (.t 3) 1 false⟩, 
    ⟨some 5, none, .off (.t 1) 3⟩, 
    ⟨some 6, none, .ld (.t 5) 1 false⟩, 
    ⟨some 7, none, .off (.t 1) 4⟩, 
    ⟨some 8, none, .ld (.t 7) 1 false⟩, 
    ⟨some 9, none, .off (.t 1) 5⟩, 
    ⟨some 10, none, .ld (.t 9) 1 false⟩, 
    ⟨some 11, none, .call 124 [(.t 4), (.t 6), (.t 8), (.t 10)] false⟩, 
    ⟨none, none, .st (.t 2) (.t 11) 7⟩] [2] [2])
  .ret)),
  [.cell 2 7 true], false⟩
def ir124 : IFn :=   -- tympan/item.Glue
⟨(.seq (.reg false [⟨some 8, none, .al [.p (.int .i64 0), .p (.int .i64 0), .p (.int .i64 0), .p (.int .i64 0), .p (.int .i64 0), .p (.int .i64 0), .p (.int .i64 0)] true⟩] [0, 1, 2, 3, 8] [8])
  (.seq (.reg false [⟨some 9, none, .mov (.t 0)⟩, 
    ⟨some 10, none, .mov (.t 1)⟩, 
    ⟨some 11, none, .mov (.t 2)⟩, 
    ⟨some 12, none, .mov (.t 3)⟩, 
    ⟨some 13, none, .bld [.p (.int .i64 0), .p (.int .i64 0), .p (.int .i64 0), .p (.int .i64 0), .p (.int .i64 0), .p (.int .i64 0), .p (.int .i64 0)] [(0, 1, (.c (.p (.int .i64 2)))), (1, 1, (.t 9)), (3, 1, (.t 10)), (4, 1, (.t 11)), (5, 1, (.t 12))]⟩, 
    ⟨none, none, .st (.t 8) (.t 13) 7⟩] [8] [8])
  .ret)),
  [.cell 8 7 true], false⟩
def ir125 : IFn :=   -- tympan/item.forms$4
⟨(.seq (.reg false [⟨some 2, none, .mov (.c (.p (.bool false)))⟩] [0] [])
  (.seq (.reg false [⟨some 3, none, .mov (.t 0)⟩, 
    ⟨some 4, none, .bin .eql (.t 3) (.c (.p (.int .i64 (-10000))))⟩, 
    ⟨some 5, none, .mov (.t 4)⟩, 
    ⟨some 6, (some (5, false)), .call 103 [(.c (.p (.int .i64 10000)))] false⟩, 
    ⟨some 7, (some (5, false)), .mov (.t 0)⟩, 
    ⟨some 8, (some (5, false)), .callv (.t 6) [(.t 7)] false⟩, 
    ⟨some 9, none, .pick (.t 5) (.c (.p (.bool true))) (.t 8)⟩, 
    ⟨some 2, none, .mov (.t 9)⟩] [2] [])
  .ret)),
  [.tmp 2], false⟩
def ir126 : IFn :=   -- tympan/item.Mark
⟨(.seq (.reg false [⟨some 2, none, .al [.p (.int .i64 0), .p (.int .i64 0), .p (.int .i64 0), .p (.int .i64 0), .p (.int .i64 0), .p (.int .i64 0), .p (.int .i64 0)] true⟩] [0, 2] [2])
  (.seq (.reg false [⟨some 3, none, .mov (.t 0)⟩, 
    ⟨some 4, none, .bld [.p (.int .i64 0), .p (.int .i64 0), .p (.int .i64 0), .p (.int .i64 0), .p (.int .i64 0), .p (.int .i64 0), .p (.int .i64 0)] [(0, 1, (.c (.p (.int .i64 4)))), (6, 1, (.t 3))]⟩, 
    ⟨none, none, .st (.t 2) (.t 4) 7⟩] [2] [2])
  .ret)),
  [.cell 2 7 true], false⟩
def ir127 : IFn :=   -- tympan/item.Note
⟨(.seq (.reg false [⟨some 2, none, .al [.p (.int .i64 0), .p (.int .i64 0), .p (.int .i64 0), .p (.int .i64 0), .p (.int .i64 0), .p (.int .i64 0), .p (.int .i64 0)] true⟩] [0, 2] [2])
  (.seq (.reg false [⟨some 3, none, .mov (.t 0)⟩, 
    ⟨some 4, none, .bld [.p (.int .i64 0), .p (.int .i64 0), .p (.int .i64 0), .p (.int .i64 0), .p (.int .i64 0), .p (.int .i64 0), .p (.int .i64 0)] [(0, 1, (.c (.p (.int .i64 5)))), (6, 1, (.t 3))]⟩, 
    ⟨none, none, .st (.t 2) (.t 4) 7⟩] [2] [2])
  .ret)),
  [.cell 2 7 true], false⟩
def ir128 : IFn :=   -- tympan/item.Float
⟨(.seq (.reg false [⟨some 2, none, .al [.p (.int .i64 0), .p (.int .i64 0), .p (.int .i64 0), .p (.int .i64 0), .p (.int .i64 0), .p (.int .i64 0), .p (.int .i64 0)] true⟩] [0, 2] [2])
  (.seq (.reg false [⟨some 3, none, .mov (.t 0)⟩, 
    ⟨some 4, none, .bld [.p (.int .i64 0), .p (.int .i64 0), .p (.int .i64 0), .p (.int .i64 0), .p (.int .i64 0), .p (.int .i64 0), .p (.int .i64 0)] [(0, 1, (.c (.p (.int .i64 6)))), (6, 1, (.t 3))]⟩, 
    ⟨none, none, .st (.t 2) (.t 4) 7⟩] [2] [2])
  .ret)),
  [.cell 2 7 true], false⟩
def ir129 : IFn :=   -- tympan/item.forms$5
⟨(.seq (.reg false [⟨some 1, none, .bx (.t 0) 7 true⟩, 
    ⟨some 2, none, .al [.p (.int .i64 0), .p (.int .i64 0), .p (.int .i64 0), .p (.int .i64 0), .p (.int .i64 0), .p (.int .i64 0), .p (.int .i64 0)] true⟩] [2] [2])
  (.seq (.reg false [⟨some 3, none, .call 130 [] false⟩, 
    ⟨none, none, .st (.t 2) (.t 3) 7⟩] [2] [2])
  .ret)),
  [.cell 2 7 true], false⟩
def ir130 : IFn :=   -- tympan/item.Barrier
⟨(.seq (.reg false [⟨some 0, none, .al [.p (.int .i64 0), .p (.int .i64 0), .p (.int .i64 0), .p (.int .i64 0), .p (.int .i64 0), .p (.int .i64 0), .p (.int .i64 0)] true⟩] [0] [0])
  (.seq (.reg false [⟨some 1, none, .bld [.p (.int .i64 0), .p (.int .i64 0), .p (.int .i64 0), .p (.int .i64 0), .p (.int .i64 0), .p (.int .i64 0), .p (.int .i64 0)] [(0, 1, (.c (.p (.int .i64 7))))]⟩, 
    ⟨none, none, .st (.t 0) (.t 1) 7⟩] [0] [0])
  .ret)),
  [.cell 0 7 true], false⟩
def ir131 : IFn :=   -- tympan/item.upTo$1
⟨(.seq (.reg false [⟨some 3, none, .mov (.c (.p (.bool false)))⟩] [0, 1] [])
  (.seq (.reg false [⟨some 4, none, .mov (.t 0)⟩, 
    ⟨some 5, none, .bin .geq (.t 4) (.c (.p (.int .i64 0)))⟩, 
    ⟨some 6, none, .mov (.t 5)⟩, 
    ⟨some 7, (some (6, true)), .mov (.t 0)⟩, 
    ⟨some 8, (some (6, true)), .ld (.t 1) 1 false⟩, 
    ⟨some 9, (some (6, true)), .bin .leq (.t 7) (.t 8)⟩, 
    ⟨some 10, none, .pick (.t 6) (.t 9) (.c (.p (.bool false)))⟩, 
    ⟨some 3, none, .mov (.t 10)⟩] [3] [])
  .ret)),
  [.tmp 3], false⟩
def ir132 : IFn :=   -- slices.ContainsFunc[[]tympan/api.Sp,tympan/api.Sp]
⟨(.seq (.reg false [⟨some 4, none, .mov (.c (.p (.bool false)))⟩] [0, 1] [])
  (.seq (.reg false [⟨some 5, none, .mov (.t 0)⟩, 
    ⟨some 6, none, .mov (.t 1)⟩, 
    ⟨some 7, none, .call 135 [(.t 5), (.t 6)] false⟩, 
    ⟨some 8, none, .bin .geq (.t 7) (.c (.p (.int .i64 0)))⟩, 
    ⟨some 4, none, .mov (.t 8)⟩] [4] [])
  .ret)),
  [.tmp 4], false⟩
def ir133 : IFn :=   -- tympan/item.long$1
⟨(.seq (.reg false [⟨some 2, none, .mov (.c (.p (.bool false)))⟩] [0] [])
  (.seq (.reg false [⟨some 3, none, .mov (.t 0)⟩, 
    ⟨some 4, none, .bin .lss (.t 3) (.c (.p (.int .i64 0)))⟩, 
    ⟨some 5, none, .mov (.t 4)⟩, 
    ⟨some 6, (some (5, false)), .mov (.t 0)⟩, 
    ⟨some 7, (some (5, false)), .bin .gtr (.t 6) (.c (.p (.int .i64 1073741823)))⟩, 
    ⟨some 8, none, .pick (.t 5) (.c (.p (.bool true))) (.t 7)⟩, 
    ⟨some 2, none, .mov (.t 8)⟩] [2] [])
  .ret)),
  [.tmp 2], false⟩
def ir134 : IFn :=   -- tympan/valid.Anchors
⟨(.seq (.reg false [⟨some 3, none, .bx (.t 1) 1 false⟩, 
    ⟨some 4, none, .mov (.c (.p (.int .i64 0)))⟩] [0, 3] [])
  (.seq (.reg false [⟨some 5, none, .al [.p (.int .i64 0)] false⟩, 
    ⟨none, none, .st (.t 5) (.c (.p (.int .i64 0))) 1⟩] [0, 3, 5] [])
  (.seq (.reg false [⟨some 6, none, .mov (.t 0)⟩, 
    ⟨some 7, none, .mkf (.func 136) [] [(.t 3), (.t 5)]⟩, 
    ⟨some 8, none, .call 100 [(.t 6), (.t 7)] false⟩, 
    ⟨some 4, none, .mov (.t 8)⟩] [4] [])
  .ret))),
  [.tmp 4], false⟩
def lp135_0 : IC :=
  (.loop [0, 1, 7, 8] [] (.seq (.reg false [⟨some 9, none, .bin .lss (.t 8) (.t 7)⟩] [0, 1, 7, 8, 9] [])
      (.seq (.cond (.t 9)
      .skip
      (.exit 0))
      (.seq (.block 1 (.seq (.reg false [⟨some 10, none, .mov (.t 8)⟩, 
          ⟨some 5, none, .mov (.t 10)⟩] [0, 1, 5, 7, 8] [])
        (.seq (.reg false [⟨some 11, none, .mov (.t 1)⟩, 
          ⟨some 12, none, .mov (.t 0)⟩, 
          ⟨some 13, none, .mov (.t 5)⟩, 
          ⟨some 14, none, .ixs (.t 12) (.t 13) 1⟩, 
          ⟨some 15, none, .ld (.t 14) 1 false⟩, 
          ⟨some 16, none, .callv (.t 11) [(.t 15)] false⟩] [0, 1, 5, 7, 8, 16] [])
        (.cond (.t 16)
        (.seq (.reg false [⟨some 17, none, .mov (.t 5)⟩, 
            ⟨some 4, none, .mov (.t 17)⟩] [4] [])
          .ret)
        .skip))))
      (.reg false [⟨some 18, none, .bin .add (.t 8) (.c (.p (.int .i64 1)))⟩, 
        ⟨some 8, none, .mov (.t 18)⟩] [0, 1, 7, 8] [])))))
def ir135 : IFn :=   -- slices.IndexFunc[[]tympan/api.Sp,tympan/api.Sp]
⟨(.seq (.reg false [⟨some 4, none, .mov (.c (.p (.int .i64 0)))⟩] [0, 1] [])
  (.seq (.seq (.reg false [⟨some 6, none, .mov (.t 0)⟩, 
    ⟨some 7, none, .len (.t 6)⟩, 
    ⟨some 8, none, .mov (.c (.p (.int .i64 0)))⟩] [0, 1, 7, 8] [])
  (.block 0 lp135_0))
  (.seq (.reg false [⟨some 4, none, .mov (.c (.p (.int .i64 (-1))))⟩] [4] [])
  .ret))),
  [.tmp 4], false⟩
def ir136 : IFn :=   -- tympan/valid.Anchors$1
⟨(.seq (.reg false [⟨some 3, none, .bx (.t 0) 7 true⟩, 
    ⟨some 4, none, .mov (.c (.p (.bool false)))⟩] [1, 2, 3] [3])
  (.seq (.seq (.reg false [⟨some 5, none, .off (.t 3) 0⟩, 
    ⟨some 6, none, .ld (.t 5) 1 false⟩, 
    ⟨some 7, none, .ld (.t 1) 1 false⟩, 
    ⟨some 8, none, .bin .neq (.t 6) (.t 7)⟩] [2, 3, 8] [3])
  (.cond (.t 8)
  (.seq (.reg false [⟨some 4, none, .mov (.c (.p (.bool false)))⟩] [4] [])
    .ret)
  .skip))
  (.seq (.reg false [⟨some 9, none, .ld (.t 2) 1 false⟩, 
    ⟨some 10, none, .bin .add (.t 9) (.c (.p (.int .i64 1)))⟩, 
    ⟨none, none, .st (.t 2) (.t 10) 1⟩] [2, 3] [3])
  (.seq (.reg false [⟨some 11, none, .off (.t 3) 6⟩, 
    ⟨some 12, none, .ld (.t 11) 1 false⟩, 
    ⟨some 13, none, .ld (.t 2) 1 false⟩, 
    ⟨some 14, none, .bin .sub (.t 13) (.c (.p (.int .i64 1)))⟩, 
    ⟨some 15, none, .bin .neq (.t 12) (.t 14)⟩, 
    ⟨some 4, none, .mov (.t 15)⟩] [4] [])
  .ret)))),
  [.tmp 4], false⟩
end Go.EnvOf
