/- The engine's instructions for the functions, part 2. -/
import Derived.Test.YtfjgcfloallohaaEng3
namespace Go.EnvOf
open Go Go.Eng
set_option maxRecDepth 100000
def lp170_0 : IC :=
  (.loop [0, 2, 7, 8, 13, 14, 15] [] (.seq (.reg false [⟨some 16, none, .bin .lss (.t 15) (.t 14)⟩] [0, 2, 7, 8, 13, 14, 15, 16] [])
      (.seq (.cond (.t 16)
      .skip
      (.exit 0))
      (.seq (.block 1 (.seq (.reg false [⟨some 17, none, .ixs (.t 13) (.t 15) 1⟩, 
          ⟨some 18, none, .ld (.t 17) 1 false⟩, 
          ⟨some 10, none, .mov (.t 18)⟩] [0, 2, 7, 8, 10, 13, 14, 15] [])
        (.seq (.reg false [⟨some 20, none, .mov (.t 0)⟩, 
          ⟨some 21, none, .mov (.t 10)⟩, 
          ⟨some 22, none, .call 125 [(.t 20), (.t 21)] false⟩, 
          ⟨some 19, none, .mov (.t 22)⟩, 
          ⟨some 23, none, .ext (.t 19) 0⟩, 
          ⟨some 24, none, .ext (.t 19) 1⟩, 
          ⟨some 11, none, .al [.p (.int .i64 0), .p (.int .i64 0), .p (.int .i64 0)] true⟩, 
          ⟨none, none, .st (.t 11) (.t 23) 3⟩, 
          ⟨some 12, none, .mov (.t 24)⟩] [0, 2, 7, 8, 11, 12, 13, 14, 15] [11])
        (.seq (.reg false [⟨some 25, none, .mov (.t 12)⟩] [0, 2, 7, 8, 11, 13, 14, 15, 25] [11])
        (.cond (.t 25)
        (.reg false [⟨some 26, none, .mov (.t 7)⟩, 
            ⟨some 27, none, .mov (.t 8)⟩, 
            ⟨some 28, none, .mov (.t 7)⟩, 
            ⟨some 29, none, .off (.t 11) 1⟩, 
            ⟨some 30, none, .ld (.t 29) 1 false⟩, 
            ⟨some 31, none, .callv (.t 28) [(.t 30)] false⟩, 
            ⟨some 32, none, .bin .add (.t 27) (.t 31)⟩, 
            ⟨some 33, none, .mov (.t 7)⟩, 
            ⟨some 34, none, .mov (.t 2)⟩, 
            ⟨some 35, none, .callv (.t 33) [(.t 34)] false⟩, 
            ⟨some 36, none, .bin .add (.t 32) (.t 35)⟩, 
            ⟨some 37, none, .callv (.t 26) [(.t 36)] false⟩, 
            ⟨some 8, none, .mov (.t 37)⟩] [0, 2, 7, 8, 13, 14, 15] [])
        .skip)))))
      (.reg false [⟨some 38, none, .bin .add (.t 15) (.c (.p (.int .i64 1)))⟩, 
        ⟨some 15, none, .mov (.t 38)⟩] [0, 2, 7, 8, 13, 14, 15] [])))))
def ir170 : IFn :=   -- tympan/figure.High
⟨(.seq (.reg false [⟨some 6, none, .mov (.c (.p (.int .i64 0)))⟩] [0, 1, 2] [])
  (.seq (.reg false [⟨some 7, none, .mov (.c (.p (.fn 216)))⟩] [0, 1, 2, 7] [])
  (.seq (.reg false [⟨some 8, none, .mov (.c (.p (.int .i64 0)))⟩] [0, 1, 2, 7, 8] [])
  (.seq (.seq (.reg false [⟨some 13, none, .mov (.t 1)⟩, 
    ⟨some 14, none, .len (.t 13)⟩, 
    ⟨some 15, none, .mov (.c (.p (.int .i64 0)))⟩] [0, 2, 7, 8, 13, 14, 15] [])
  (.block 0 lp170_0))
  (.seq (.reg false [⟨some 39, none, .mov (.t 8)⟩, 
    ⟨some 6, none, .mov (.t 39)⟩] [6] [])
  .ret))))),
  [.tmp 6], false⟩
def ir171 : IFn :=   -- tympan/figure.Top
⟨(.seq (.reg false [⟨some 1, none, .bx (.t 0) 3 true⟩, 
    ⟨some 2, none, .mov (.c (.p (.bool false)))⟩] [1] [1])
  (.seq (.reg false [⟨some 3, none, .ld (.t 1) 3 true⟩, 
    ⟨some 4, none, .call 217 [(.t 3), (.c (.p (.fn 218)))] false⟩, 
    ⟨some 2, none, .mov (.t 4)⟩] [2] [])
  .ret)),
  [.tmp 2], false⟩
def ir172 : IFn :=   -- tympan/figure.Bottom
⟨(.seq (.reg false [⟨some 1, none, .bx (.t 0) 3 true⟩, 
    ⟨some 2, none, .mov (.c (.p (.bool false)))⟩] [1] [1])
  (.seq (.reg false [⟨some 3, none, .ld (.t 1) 3 true⟩, 
    ⟨some 4, none, .call 217 [(.t 3), (.c (.p (.fn 219)))] false⟩, 
    ⟨some 2, none, .mov (.t 4)⟩] [2] [])
  .ret)),
  [.tmp 2], false⟩
def lp174_0 : IC :=
  (.loop [0, 1, 2, 4, 5, 6, 42, 43, 44] [] (.seq (.reg false [⟨some 45, none, .bin .lss (.t 44) (.t 43)⟩] [0, 1, 2, 4, 5, 6, 42, 43, 44, 45] [])
      (.seq (.cond (.t 45)
      .skip
      (.exit 0))
      (.seq (.block 1 (.seq (.reg false [⟨some 46, none, .mov (.t 44)⟩, 
          ⟨some 47, none, .ixs (.t 42) (.t 44) 2⟩, 
          ⟨some 48, none, .ld (.t 47) 2 true⟩, 
          ⟨some 8, none, .al [.nils, .nils] true⟩, 
          ⟨some 7, none, .mov (.t 46)⟩, 
          ⟨none, none, .st (.t 8) (.t 48) 2⟩] [0, 1, 2, 4, 5, 6, 7, 8, 42, 43, 44] [8])
        (.seq (.reg false [⟨some 49, none, .mov (.t 5)⟩, 
          ⟨some 50, none, .off (.t 1) 0⟩, 
          ⟨some 51, none, .ld (.t 50) 1 false⟩, 
          ⟨some 52, none, .mov (.t 7)⟩, 
          ⟨some 53, none, .bin .add (.t 51) (.t 52)⟩, 
          ⟨some 54, none, .mov (.t 6)⟩, 
          ⟨some 55, none, .off (.t 8) 0⟩, 
          ⟨some 56, none, .ld (.t 55) 1 false⟩, 
          ⟨some 57, none, .len (.t 56)⟩, 
          ⟨some 58, none, .bld [.p (.int .i64 0), .p (.int .i64 0), .p (.int .i64 0)] [(0, 1, (.t 53)), (1, 1, (.t 54)), (2, 1, (.t 57))]⟩, 
          ⟨some 59, none, .bsl 3 1 [.p (.int .i64 0), .p (.int .i64 0), .p (.int .i64 0)] [(0, (.t 58))]⟩, 
          ⟨some 60, none, .app (.t 49) (.t 59) 3⟩, 
          ⟨some 5, none, .mov (.t 60)⟩] [0, 1, 2, 4, 5, 42, 43, 44] [])
        (.reg false [⟨some 6, none, .mov (.c (.p (.int .i64 0)))⟩] [0, 1, 2, 4, 5, 6, 42, 43, 44] []))))
      (.reg false [⟨some 61, none, .bin .add (.t 44) (.c (.p (.int .i64 1)))⟩, 
        ⟨some 44, none, .mov (.t 61)⟩] [0, 1, 2, 4, 5, 6, 42, 43, 44] [])))))
def lp174_1 : IC :=
  (.loop [0, 5, 6, 9, 72, 73, 74] [] (.seq (.reg false [⟨some 75, none, .bin .lss (.t 74) (.t 73)⟩] [0, 5, 6, 9, 72, 73, 74, 75] [])
      (.seq (.cond (.t 75)
      .skip
      (.exit 2))
      (.seq (.block 3 (.seq (.reg false [⟨some 76, none, .ixs (.t 72) (.t 74) 1⟩, 
          ⟨some 77, none, .ld (.t 76) 1 false⟩, 
          ⟨some 11, none, .mov (.t 77)⟩] [0, 5, 6, 9, 11, 72, 73, 74] [])
        (.seq (.reg false [⟨some 78, none, .mov (.t 5)⟩, 
          ⟨some 79, none, .call 176 [(.t 78)] false⟩, 
          ⟨some 80, none, .mov (.t 9)⟩, 
          ⟨some 81, none, .mov (.t 6)⟩, 
          ⟨some 82, none, .mov (.t 11)⟩, 
          ⟨some 83, none, .bld [.p (.int .i64 0), .p (.int .i64 0), .p (.int .i64 0)] [(0, 1, (.t 80)), (1, 1, (.t 81)), (2, 1, (.t 82))]⟩, 
          ⟨some 84, none, .bsl 3 1 [.p (.int .i64 0), .p (.int .i64 0), .p (.int .i64 0)] [(0, (.t 83))]⟩, 
          ⟨some 85, none, .app (.t 79) (.t 84) 3⟩, 
          ⟨some 12, none, .mov (.t 85)⟩] [0, 5, 6, 9, 12, 72, 73, 74] [])
        (.seq (.reg false [⟨some 86, none, .mov (.t 0)⟩, 
          ⟨some 87, none, .mov (.t 12)⟩, 
          ⟨some 88, none, .callv (.t 86) [(.t 87)] false⟩, 
          ⟨some 89, none, .un .not (.t 88)⟩] [0, 5, 6, 9, 72, 73, 74, 89] [])
        (.cond (.t 89)
        .ret
        .skip)))))
      (.reg false [⟨some 90, none, .bin .add (.t 74) (.c (.p (.int .i64 1)))⟩, 
        ⟨some 74, none, .mov (.t 90)⟩] [0, 5, 6, 9, 72, 73, 74] [])))))
def ir174 : IFn :=   -- tympan/split.all$1
⟨(.seq (.reg false [⟨some 13, none, .ld (.t 1) 4 true⟩, 
    ⟨some 14, none, .ld (.t 2) 1 false⟩, 
    ⟨some 15, none, .call 175 [(.t 13), (.t 14)] false⟩, 
    ⟨some 4, none, .mov (.t 15)⟩] [0, 1, 2, 4] [])
  (.seq (.seq (.reg false [⟨some 16, none, .mov (.t 4)⟩, 
    ⟨some 17, none, .bin .eql (.t 16) (.c (.p (.int .i64 0)))⟩, 
    ⟨some 18, none, .mov (.t 17)⟩, 
    ⟨some 19, (some (18, false)), .off (.t 1) 3⟩, 
    ⟨some 20, (some (18, false)), .ld (.t 19) 1 false⟩, 
    ⟨some 21, (some (18, false)), .un .not (.t 20)⟩, 
    ⟨some 22, none, .pick (.t 18) (.c (.p (.bool true))) (.t 21)⟩, 
    ⟨some 23, none, .mov (.t 22)⟩, 
    ⟨some 24, (some (23, true)), .mov (.t 0)⟩, 
    ⟨some 25, (some (23, true)), .callv (.t 24) [(.c (.nils))] false⟩, 
    ⟨some 26, (some (23, true)), .un .not (.t 25)⟩, 
    ⟨some 27, none, .pick (.t 23) (.t 26) (.c (.p (.bool false)))⟩, 
    ⟨some 28, none, .mov (.t 27)⟩, 
    ⟨some 29, (some (28, false)), .mov (.t 4)⟩, 
    ⟨some 30, (some (28, false)), .bin .eql (.t 29) (.c (.p (.int .i64 0)))⟩, 
    ⟨some 31, none, .pick (.t 28) (.c (.p (.bool true))) (.t 30)⟩] [0, 1, 2, 4, 31] [])
  (.cond (.t 31)
  .ret
  .skip))
  (.seq (.reg false [⟨some 5, none, .nrow 3⟩] [0, 1, 2, 4, 5] [])
  (.seq (.reg false [⟨some 32, none, .off (.t 1) 1⟩, 
    ⟨some 33, none, .ld (.t 32) 1 false⟩, 
    ⟨some 6, none, .mov (.t 33)⟩] [0, 1, 2, 4, 5, 6] [])
  (.seq (.seq (.reg false [⟨some 34, none, .ld (.t 2) 1 false⟩, 
    ⟨some 35, none, .off (.t 1) 0⟩, 
    ⟨some 36, none, .ld (.t 35) 1 false⟩, 
    ⟨some 37, none, .off (.t 1) 0⟩, 
    ⟨some 38, none, .ld (.t 37) 1 false⟩, 
    ⟨some 39, none, .mov (.t 4)⟩, 
    ⟨some 40, none, .bin .add (.t 38) (.t 39)⟩, 
    ⟨some 41, none, .bin .sub (.t 40) (.c (.p (.int .i64 1)))⟩, 
    ⟨some 42, none, .slc (.t 34) (some (.t 36)) (some (.t 41)) 2⟩, 
    ⟨some 43, none, .len (.t 42)⟩, 
    ⟨some 44, none, .mov (.c (.p (.int .i64 0)))⟩] [0, 1, 2, 4, 5, 6, 42, 43, 44] [])
  (.block 0 lp174_0))
  (.seq (.reg false [⟨some 62, none, .off (.t 1) 0⟩, 
    ⟨some 63, none, .ld (.t 62) 1 false⟩, 
    ⟨some 64, none, .mov (.t 4)⟩, 
    ⟨some 65, none, .bin .add (.t 63) (.t 64)⟩, 
    ⟨some 66, none, .bin .sub (.t 65) (.c (.p (.int .i64 1)))⟩, 
    ⟨some 9, none, .mov (.t 66)⟩] [0, 2, 5, 6, 9] [])
  (.seq (.reg false [⟨some 67, none, .ld (.t 2) 1 false⟩, 
    ⟨some 68, none, .mov (.t 9)⟩, 
    ⟨some 69, none, .ixs (.t 67) (.t 68) 2⟩, 
    ⟨some 70, none, .ld (.t 69) 2 true⟩, 
    ⟨some 71, none, .mov (.t 6)⟩, 
    ⟨some 72, none, .call 25 [(.t 70), (.t 71)] false⟩, 
    ⟨some 73, none, .len (.t 72)⟩, 
    ⟨some 74, none, .mov (.c (.p (.int .i64 0)))⟩] [0, 5, 6, 9, 72, 73, 74] [])
  (.block 2 lp174_1)))))))),
  [], false⟩
def ir175 : IFn :=   -- (tympan/split.Spot).open
⟨(.seq (.reg false [⟨some 2, none, .bx (.t 0) 4 true⟩, 
    ⟨some 4, none, .mov (.c (.p (.int .i64 0)))⟩] [1, 2] [2])
  (.seq (.seq (.reg false [⟨some 5, none, .off (.t 2) 0⟩, 
    ⟨some 6, none, .ld (.t 5) 1 false⟩, 
    ⟨some 7, none, .bin .lss (.t 6) (.c (.p (.int .i64 0)))⟩, 
    ⟨some 8, none, .mov (.t 7)⟩, 
    ⟨some 9, (some (8, false)), .off (.t 2) 1⟩, 
    ⟨some 10, (some (8, false)), .ld (.t 9) 1 false⟩, 
    ⟨some 11, (some (8, false)), .bin .lss (.t 10) (.c (.p (.int .i64 0)))⟩, 
    ⟨some 12, none, .pick (.t 8) (.c (.p (.bool true))) (.t 11)⟩] [1, 2, 12] [2])
  (.cond (.t 12)
  (.seq (.reg false [⟨some 4, none, .mov (.c (.p (.int .i64 0)))⟩] [4] [])
    .ret)
  .skip))
  (.seq (.reg false [⟨some 13, none, .off (.t 2) 2⟩, 
    ⟨some 14, none, .ld (.t 13) 1 false⟩, 
    ⟨some 15, none, .mov (.t 1)⟩, 
    ⟨some 16, none, .len (.t 15)⟩, 
    ⟨some 17, none, .mnmx false (.t 14) (.t 16)⟩, 
    ⟨some 18, none, .mnmx true (.t 17) (.c (.p (.int .i64 0)))⟩, 
    ⟨some 19, none, .off (.t 2) 0⟩, 
    ⟨some 20, none, .ld (.t 19) 1 false⟩, 
    ⟨some 21, none, .bin .sub (.t 18) (.t 20)⟩, 
    ⟨some 22, none, .mnmx true (.t 21) (.c (.p (.int .i64 0)))⟩, 
    ⟨some 4, none, .mov (.t 22)⟩] [4] [])
  .ret))),
  [.tmp 4], false⟩
def ir176 : IFn :=   -- slices.Clone[[]tympan/api.Piece,tympan/api.Piece]
⟨(.seq (.reg false [⟨some 2, none, .mov (.c (.nils))⟩] [0] [])
  (.seq (.seq (.reg false [⟨some 3, none, .mov (.t 0)⟩, 
    ⟨some 4, none, .eqn .sl false (.t 3)⟩] [0, 4] [])
  (.cond (.t 4)
  (.seq (.reg false [⟨some 2, none, .mov (.c (.nils))⟩] [2] [])
    .ret)
  .skip))
  (.seq (.reg false [⟨some 5, none, .bsl 3 0 [.p (.int .i64 0), .p (.int .i64 0), .p (.int .i64 0)] []⟩, 
    ⟨some 6, none, .mov (.t 0)⟩, 
    ⟨some 7, none, .app (.t 5) (.t 6) 3⟩, 
    ⟨some 2, none, .mov (.t 7)⟩] [2] [])
  .ret))),
  [.tmp 2], false⟩
def ir177 : IFn :=   -- tympan/sp.Sub
⟨(.seq (.reg false [⟨some 4, none, .mov (.c (.p (.int .i64 0)))⟩, 
    ⟨some 5, none, .mov (.c (.p (.bool false)))⟩] [0, 1] [])
  (.seq (.reg false [⟨some 7, none, .mov (.t 0)⟩, 
    ⟨some 8, none, .mov (.t 1)⟩, 
    ⟨some 9, none, .bin .sub (.t 7) (.t 8)⟩, 
    ⟨some 6, none, .mov (.t 9)⟩] [0, 1, 6] [])
  (.seq (.seq (.reg false [⟨some 10, none, .mov (.t 6)⟩, 
    ⟨some 11, none, .mov (.t 0)⟩, 
    ⟨some 12, none, .bin .lss (.t 10) (.t 11)⟩, 
    ⟨some 13, none, .mov (.t 1)⟩, 
    ⟨some 14, none, .bin .gtr (.t 13) (.c (.p (.int .i64 0)))⟩, 
    ⟨some 15, none, .eqb true (.t 12) (.t 14)⟩, 
    ⟨some 16, none, .mov (.t 15)⟩, 
    ⟨some 17, (some (16, true)), .mov (.t 1)⟩, 
    ⟨some 18, (some (16, true)), .bin .neq (.t 17) (.c (.p (.int .i64 0)))⟩, 
    ⟨some 19, none, .pick (.t 16) (.t 18) (.c (.p (.bool false)))⟩] [6, 19] [])
  (.cond (.t 19)
  (.seq (.reg false [⟨some 4, none, .mov (.c (.p (.int .i64 0)))⟩, 
      ⟨some 5, none, .mov (.c (.p (.bool false)))⟩] [4, 5] [])
    .ret)
  .skip))
  (.seq (.reg false [⟨some 20, none, .mov (.t 6)⟩, 
    ⟨some 4, none, .mov (.t 20)⟩, 
    ⟨some 5, none, .mov (.c (.p (.bool true)))⟩] [4, 5] [])
  .ret)))),
  [.tmp 4, .tmp 5], false⟩
def ir178 : IFn :=   -- tympan/sp.above
⟨(.seq (.reg false [⟨some 4, none, .mov (.c (.p (.int .i64 0)))⟩] [0, 1] [])
  (.seq (.reg false [⟨some 6, none, .mov (.t 0)⟩, 
    ⟨some 7, none, .mov (.t 1)⟩, 
    ⟨some 8, none, .bin .rem (.t 6) (.t 7)⟩, 
    ⟨some 5, none, .mov (.t 8)⟩] [1, 5] [])
  (.seq (.seq (.reg false [⟨some 9, none, .mov (.t 5)⟩, 
    ⟨some 10, none, .bin .lss (.t 9) (.c (.p (.int .i64 0)))⟩] [1, 5, 10] [])
  (.cond (.t 10)
  (.reg false [⟨some 11, none, .mov (.t 5)⟩, 
      ⟨some 12, none, .mov (.t 1)⟩, 
      ⟨some 13, none, .bin .add (.t 11) (.t 12)⟩, 
      ⟨some 5, none, .mov (.t 13)⟩] [5] [])
  .skip))
  (.seq (.reg false [⟨some 14, none, .mov (.t 5)⟩, 
    ⟨some 4, none, .mov (.t 14)⟩] [4] [])
  .ret)))),
  [.tmp 4], false⟩
def ir179 : IFn :=   -- tympan/sp.Add
⟨(.seq (.reg false [⟨some 4, none, .mov (.c (.p (.int .i64 0)))⟩, 
    ⟨some 5, none, .mov (.c (.p (.bool false)))⟩] [0, 1] [])
  (.seq (.reg false [⟨some 7, none, .mov (.t 0)⟩, 
    ⟨some 8, none, .mov (.t 1)⟩, 
    ⟨some 9, none, .bin .add (.t 7) (.t 8)⟩, 
    ⟨some 6, none, .mov (.t 9)⟩] [0, 1, 6] [])
  (.seq (.seq (.reg false [⟨some 10, none, .mov (.t 6)⟩, 
    ⟨some 11, none, .mov (.t 0)⟩, 
    ⟨some 12, none, .bin .gtr (.t 10) (.t 11)⟩, 
    ⟨some 13, none, .mov (.t 1)⟩, 
    ⟨some 14, none, .bin .gtr (.t 13) (.c (.p (.int .i64 0)))⟩, 
    ⟨some 15, none, .eqb true (.t 12) (.t 14)⟩, 
    ⟨some 16, none, .mov (.t 15)⟩, 
    ⟨some 17, (some (16, true)), .mov (.t 1)⟩, 
    ⟨some 18, (some (16, true)), .bin .neq (.t 17) (.c (.p (.int .i64 0)))⟩, 
    ⟨some 19, none, .pick (.t 16) (.t 18) (.c (.p (.bool false)))⟩] [6, 19] [])
  (.cond (.t 19)
  (.seq (.reg false [⟨some 4, none, .mov (.c (.p (.int .i64 0)))⟩, 
      ⟨some 5, none, .mov (.c (.p (.bool false)))⟩] [4, 5] [])
    .ret)
  .skip))
  (.seq (.reg false [⟨some 20, none, .mov (.t 6)⟩, 
    ⟨some 4, none, .mov (.t 20)⟩, 
    ⟨some 5, none, .mov (.c (.p (.bool true)))⟩] [4, 5] [])
  .ret)))),
  [.tmp 4, .tmp 5], false⟩
def ir180 : IFn :=   -- tympan/tympanref01.Sub
⟨(.seq (.reg false [⟨some 4, none, .al [.p (.int .i64 0), .p (.bool false)] true⟩] [0, 1, 4] [4])
  (.seq (.seq (.reg false [⟨some 5, none, .mov (.t 1)⟩, 
    ⟨some 6, none, .bin .lss (.t 5) (.c (.p (.int .i64 0)))⟩, 
    ⟨some 7, none, .mov (.t 6)⟩, 
    ⟨some 8, (some (7, true)), .mov (.t 0)⟩, 
    ⟨some 9, (some (7, true)), .mov (.t 1)⟩, 
    ⟨some 10, (some (7, true)), .bin .add (.c (.p (.int .i64 9223372036854775807))) (.t 9)⟩, 
    ⟨some 11, (some (7, true)), .bin .gtr (.t 8) (.t 10)⟩, 
    ⟨some 12, none, .pick (.t 7) (.t 11) (.c (.p (.bool false)))⟩, 
    ⟨some 13, none, .mov (.t 12)⟩, 
    ⟨some 14, (some (13, false)), .mov (.t 1)⟩, 
    ⟨some 15, (some (13, false)), .bin .gtr (.t 14) (.c (.p (.int .i64 0)))⟩, 
    ⟨some 16, (some (13, false)), .mov (.t 15)⟩, 
    ⟨some 17, (some (16, true)), .mov (.t 0)⟩, 
    ⟨some 18, (some (16, true)), .mov (.t 1)⟩, 
    ⟨some 19, (some (16, true)), .bin .add (.c (.p (.int .i64 (-9223372036854775808)))) (.t 18)⟩, 
    ⟨some 20, (some (16, true)), .bin .lss (.t 17) (.t 19)⟩, 
    ⟨some 21, (some (13, false)), .pick (.t 16) (.t 20) (.c (.p (.bool false)))⟩, 
    ⟨some 22, none, .pick (.t 13) (.c (.p (.bool true))) (.t 21)⟩] [0, 1, 4, 22] [4])
  (.cond (.t 22)
  (.seq (.reg false [⟨some 23, none, .bld [.p (.int .i64 0), .p (.bool false)] []⟩, 
      ⟨none, none, .st (.t 4) (.t 23) 2⟩] [4] [4])
    .ret)
  .skip))
  (.seq (.reg false [⟨some 24, none, .mov (.t 0)⟩, 
    ⟨some 25, none, .mov (.t 1)⟩, 
    ⟨some 26, none, .bin .sub (.t 24) (.t 25)⟩, 
    ⟨some 27, none, .bld [.p (.int .i64 0), .p (.bool false)] [(0, 1, (.t 26)), (1, 1, (.c (.p (.bool true))))]⟩, 
    ⟨none, none, .st (.t 4) (.t 27) 2⟩] [4] [4])
  .ret))),
  [.cell 4 2 true], false⟩
def ir181 : IFn :=   -- tympan/tympanref01.Add
⟨(.seq (.reg false [⟨some 4, none, .al [.p (.int .i64 0), .p (.bool false)] true⟩] [0, 1, 4] [4])
  (.seq (.seq (.reg false [⟨some 5, none, .mov (.t 1)⟩, 
    ⟨some 6, none, .bin .gtr (.t 5) (.c (.p (.int .i64 0)))⟩, 
    ⟨some 7, none, .mov (.t 6)⟩, 
    ⟨some 8, (some (7, true)), .mov (.t 0)⟩, 
    ⟨some 9, (some (7, true)), .mov (.t 1)⟩, 
    ⟨some 10, (some (7, true)), .bin .sub (.c (.p (.int .i64 9223372036854775807))) (.t 9)⟩, 
    ⟨some 11, (some (7, true)), .bin .gtr (.t 8) (.t 10)⟩, 
    ⟨some 12, none, .pick (.t 7) (.t 11) (.c (.p (.bool false)))⟩, 
    ⟨some 13, none, .mov (.t 12)⟩, 
    ⟨some 14, (some (13, false)), .mov (.t 1)⟩, 
    ⟨some 15, (some (13, false)), .bin .lss (.t 14) (.c (.p (.int .i64 0)))⟩, 
    ⟨some 16, (some (13, false)), .mov (.t 15)⟩, 
    ⟨some 17, (some (16, true)), .mov (.t 0)⟩, 
    ⟨some 18, (some (16, true)), .mov (.t 1)⟩, 
    ⟨some 19, (some (16, true)), .bin .sub (.c (.p (.int .i64 (-9223372036854775808)))) (.t 18)⟩, 
    ⟨some 20, (some (16, true)), .bin .lss (.t 17) (.t 19)⟩, 
    ⟨some 21, (some (13, false)), .pick (.t 16) (.t 20) (.c (.p (.bool false)))⟩, 
    ⟨some 22, none, .pick (.t 13) (.c (.p (.bool true))) (.t 21)⟩] [0, 1, 4, 22] [4])
  (.cond (.t 22)
  (.seq (.reg false [⟨some 23, none, .bld [.p (.int .i64 0), .p (.bool false)] []⟩, 
      ⟨none, none, .st (.t 4) (.t 23) 2⟩] [4] [4])
    .ret)
  .skip))
  (.seq (.reg false [⟨some 24, none, .mov (.t 0)⟩, 
    ⟨some 25, none, .mov (.t 1)⟩, 
    ⟨some 26, none, .bin .add (.t 24) (.t 25)⟩, 
    ⟨some 27, none, .bld [.p (.int .i64 0), .p (.bool false)] [(0, 1, (.t 26)), (1, 1, (.c (.p (.bool true))))]⟩, 
    ⟨none, none, .st (.t 4) (.t 27) 2⟩] [4] [4])
  .ret))),
  [.cell 4 2 true], false⟩
def ir182 : IFn :=   -- tympan/valid.when$1
⟨(.seq (.reg false [⟨some 2, none, .bx (.t 0) 22 true⟩, 
    ⟨some 3, none, .mov (.c (.p (.int .i64 0)))⟩] [1, 2] [2])
  (.seq (.seq (.reg false [⟨some 4, none, .ld (.t 1) 1 false⟩, 
    ⟨some 5, none, .ld (.t 2) 22 true⟩, 
    ⟨some 6, none, .callv (.t 4) [(.t 5)] false⟩] [6] [])
  (.cond (.t 6)
  (.seq (.reg false [⟨some 3, none, .mov (.c (.p (.int .i64 0)))⟩] [3] [])
    .ret)
  .skip))
  (.seq (.reg false [⟨some 3, none, .mov (.c (.p (.int .i64 (-1))))⟩] [3] [])
  .ret))),
  [.tmp 3], false⟩
def ir183 : IFn :=   -- tympan/geom.within[int]
⟨(.seq (.reg false [⟨some 2, none, .bx (.t 0) 1 false⟩, 
    ⟨some 3, none, .bx (.t 1) 1 false⟩, 
    ⟨some 4, none, .mov (.c (.p .nilf))⟩] [2, 3] [])
  (.seq (.reg false [⟨some 5, none, .mkf (.func 220) [] [(.t 2), (.t 3)]⟩, 
    ⟨some 4, none, .mov (.t 5)⟩] [4] [])
  .ret)),
  [.tmp 4], false⟩
def ir184 : IFn :=   -- tympan/geom.within[tympan/api.Sp]
⟨(.seq (.reg false [⟨some 2, none, .bx (.t 0) 1 false⟩, 
    ⟨some 3, none, .bx (.t 1) 1 false⟩, 
    ⟨some 4, none, .mov (.c (.p .nilf))⟩] [2, 3] [])
  (.seq (.reg false [⟨some 5, none, .mkf (.func 221) [] [(.t 2), (.t 3)]⟩, 
    ⟨some 4, none, .mov (.t 5)⟩] [4] [])
  .ret)),
  [.tmp 4], false⟩
def ir185 : IFn :=   -- tympan/valid.first[tympan/api.Item]$1
⟨(.seq (.reg false [⟨some 3, none, .mov (.c (.p (.int .i64 0)))⟩] [0, 1] [])
  (.seq (.reg false [⟨some 4, none, .mov (.t 0)⟩, 
    ⟨some 5, none, .mkf (.func 186) [] [(.t 1)]⟩, 
    ⟨some 6, none, .call 117 [(.t 4), (.t 5)] false⟩, 
    ⟨some 3, none, .mov (.t 6)⟩] [3] [])
  .ret)),
  [.tmp 3], false⟩
def ir186 : IFn :=   -- tympan/valid.first[tympan/api.Item]$1$1
⟨(.seq (.reg false [⟨some 2, none, .bx (.t 0) 7 true⟩, 
    ⟨some 3, none, .mov (.c (.p (.bool false)))⟩] [1, 2] [2])
  (.seq (.reg false [⟨some 4, none, .ld (.t 1) 1 false⟩, 
    ⟨some 5, none, .ld (.t 2) 7 true⟩, 
    ⟨some 6, none, .callv (.t 4) [(.t 5)] false⟩, 
    ⟨some 7, none, .bin .neq (.t 6) (.c (.p (.int .i64 0)))⟩, 
    ⟨some 3, none, .mov (.t 7)⟩] [3] [])
  .ret)),
  [.tmp 3], false⟩
def ir187 : IFn :=   -- tympan/item.forms
⟨(.seq (.reg false [⟨some 0, none, .mov (.c (.nils))⟩] [] [])
  (.seq (.reg false [⟨some 1, none, .mov (.c (.p (.fn 222)))⟩] [1] [])
  (.seq (.reg false [⟨some 2, none, .call 188 [(.c (.p (.int .i64 0)))] false⟩, 
    ⟨some 3, none, .bld [.p .nilf, .p .nilf] [(0, 1, (.c (.p (.fn 224)))), (1, 1, (.t 2))]⟩, 
    ⟨some 4, none, .call 188 [(.c (.p (.int .i64 0)))] false⟩, 
    ⟨some 5, none, .bld [.p .nilf, .p .nilf] [(0, 1, (.c (.p (.fn 226)))), (1, 1, (.t 4))]⟩, 
    ⟨some 6, none, .mov (.t 1)⟩, 
    ⟨some 7, none, .callv (.t 6) [(.c (.p (.fn 228)))] false⟩, 
    ⟨some 8, none, .bld [.p .nilf, .p .nilf] [(0, 1, (.t 7)), (1, 1, (.c (.p (.fn 229))))]⟩, 
    ⟨some 9, none, .mov (.t 1)⟩, 
    ⟨some 10, none, .callv (.t 9) [(.c (.p (.fn 230)))] false⟩, 
    ⟨some 11, none, .call 188 [(.c (.p (.int .i64 1048576)))] false⟩, 
    ⟨some 12, none, .bld [.p .nilf, .p .nilf] [(0, 1, (.t 10)), (1, 1, (.t 11))]⟩, 
    ⟨some 13, none, .mov (.t 1)⟩, 
    ⟨some 14, none, .callv (.t 13) [(.c (.p (.fn 231)))] false⟩, 
    ⟨some 15, none, .call 188 [(.c (.p (.int .i64 511)))] false⟩, 
    ⟨some 16, none, .bld [.p .nilf, .p .nilf] [(0, 1, (.t 14)), (1, 1, (.t 15))]⟩, 
    ⟨some 17, none, .mov (.t 1)⟩, 
    ⟨some 18, none, .callv (.t 17) [(.c (.p (.fn 232)))] false⟩, 
    ⟨some 19, none, .call 188 [(.c (.p (.int .i64 255)))] false⟩, 
    ⟨some 20, none, .bld [.p .nilf, .p .nilf] [(0, 1, (.t 18)), (1, 1, (.t 19))]⟩, 
    ⟨some 21, none, .call 188 [(.c (.p (.int .i64 0)))] false⟩, 
    ⟨some 22, none, .bld [.p .nilf, .p .nilf] [(0, 1, (.c (.p (.fn 233)))), (1, 1, (.t 21))]⟩, 
    ⟨some 23, none, .bsl 2 7 [.p .nilf, .p .nilf] [(0, (.t 3)), (1, (.t 5)), (2, (.t 8)), (3, (.t 12)), (4, (.t 16)), (5, (.t 20)), (6, (.t 22))]⟩, 
    ⟨some 0, none, .mov (.t 23)⟩] [0] [])
  .ret))),
  [.tmp 0], false⟩
def ir188 : IFn :=   -- tympan/item.upTo
⟨(.seq (.reg false [⟨some 1, none, .bx (.t 0) 1 false⟩, 
    ⟨some 2, none, .mov (.c (.p .nilf))⟩] [1] [])
  (.seq (.reg false [⟨some 3, none, .mkf (.func 235) [] [(.t 1)]⟩, 
    ⟨some 2, none, .mov (.t 3)⟩] [2] [])
  .ret)),
  [.tmp 2], false⟩
def ir189 : IFn :=   -- tympan/item.long
⟨(.seq (.reg false [⟨some 2, none, .mov (.c (.p (.bool false)))⟩] [0] [])
  (.seq (.reg false [⟨some 3, none, .mov (.t 0)⟩, 
    ⟨some 4, none, .call 102 [(.t 3), (.c (.p (.fn 236)))] false⟩, 
    ⟨some 5, none, .un .not (.t 4)⟩, 
    ⟨some 2, none, .mov (.t 5)⟩] [2] [])
  .ret)),
  [.tmp 2], false⟩
def ir190 : IFn :=   -- tympan/valid.first[tympan/api.Note]$1
⟨(.seq (.reg false [⟨some 3, none, .mov (.c (.p (.int .i64 0)))⟩] [0, 1] [])
  (.seq (.reg false [⟨some 4, none, .mov (.t 0)⟩, 
    ⟨some 5, none, .mkf (.func 192) [] [(.t 1)]⟩, 
    ⟨some 6, none, .call 191 [(.t 4), (.t 5)] false⟩, 
    ⟨some 3, none, .mov (.t 6)⟩] [3] [])
  .ret)),
  [.tmp 3], false⟩
def lp191_0 : IC :=
  (.loop [0, 1, 7, 8] [] (.seq (.reg false [⟨some 9, none, .bin .lss (.t 8) (.t 7)⟩] [0, 1, 7, 8, 9] [])
      (.seq (.cond (.t 9)
      .skip
      (.exit 0))
      (.seq (.block 1 (.seq (.reg false [⟨some 10, none, .mov (.t 8)⟩, 
          ⟨some 5, none, .mov (.t 10)⟩] [0, 1, 5, 7, 8] [])
        (.seq (.reg false [⟨some 11, none, .mov (.t 1)⟩, 
          ⟨some 12, none, .mov (.t 0)⟩, 
          ⟨some 13, none, .mov (.t 5)⟩, 
          ⟨some 14, none, .ixs (.t 12) (.t 13) 2⟩, 
          ⟨some 15, none, .ld (.t 14) 2 true⟩, 
          ⟨some 16, none, .callv (.t 11) [(.t 15)] false⟩] [0, 1, 5, 7, 8, 16] [])
        (.cond (.t 16)
        (.seq (.reg false [⟨some 17, none, .mov (.t 5)⟩, 
            ⟨some 4, none, .mov (.t 17)⟩] [4] [])
          .ret)
        .skip))))
      (.reg false [⟨some 18, none, .bin .add (.t 8) (.c (.p (.int .i64 1)))⟩, 
        ⟨some 8, none, .mov (.t 18)⟩] [0, 1, 7, 8] [])))))
def ir191 : IFn :=   -- slices.IndexFunc[[]tympan/api.Note,tympan/api.Note]
⟨(.seq (.reg false [⟨some 4, none, .mov (.c (.p (.int .i64 0)))⟩] [0, 1] [])
  (.seq (.seq (.reg false [⟨some 6, none, .mov (.t 0)⟩, 
    ⟨some 7, none, .len (.t 6)⟩, 
    ⟨some 8, none, .mov (.c (.p (.int .i64 0)))⟩] [0, 1, 7, 8] [])
  (.block 0 lp191_0))
  (.seq (.reg false [⟨some 4, none, .mov (.c (.p (.int .i64 (-1))))⟩] [4] [])
  .ret))),
  [.tmp 4], false⟩
def ir192 : IFn :=   -- tympan/valid.first[tympan/api.Note]$1$1
⟨(.seq (.reg false [⟨some 2, none, .bx (.t 0) 2 true⟩, 
    ⟨some 3, none, .mov (.c (.p (.bool false)))⟩] [1, 2] [2])
  (.seq (.reg false [⟨some 4, none, .ld (.t 1) 1 false⟩, 
    ⟨some 5, none, .ld (.t 2) 2 true⟩, 
    ⟨some 6, none, .callv (.t 4) [(.t 5)] false⟩, 
    ⟨some 7, none, .bin .neq (.t 6) (.c (.p (.int .i64 0)))⟩, 
    ⟨some 3, none, .mov (.t 7)⟩] [3] [])
  .ret)),
  [.tmp 3], false⟩
def ir193 : IFn :=   -- tympan/valid.first[tympan/api.Float]$1
⟨(.seq (.reg false [⟨some 3, none, .mov (.c (.p (.int .i64 0)))⟩] [0, 1] [])
  (.seq (.reg false [⟨some 4, none, .mov (.t 0)⟩, 
    ⟨some 5, none, .mkf (.func 195) [] [(.t 1)]⟩, 
    ⟨some 6, none, .call 194 [(.t 4), (.t 5)] false⟩, 
    ⟨some 3, none, .mov (.t 6)⟩] [3] [])
  .ret)),
  [.tmp 3], false⟩
def lp194_0 : IC :=
  (.loop [0, 1, 7, 8] [] (.seq (.reg false [⟨some 9, none, .bin .lss (.t 8) (.t 7)⟩] [0, 1, 7, 8, 9] [])
      (.seq (.cond (.t 9)
      .skip
      (.exit 0))
      (.seq (.block 1 (.seq (.reg false [⟨some 10, none, .mov (.t 8)⟩, 
          ⟨some 5, none, .mov (.t 10)⟩] [0, 1, 5, 7, 8] [])
        (.seq (.reg false [⟨some 11, none, .mov (.t 1)⟩, 
          ⟨some 12, none, .mov (.t 0)⟩, 
          ⟨some 13, none, .mov (.t 5)⟩, 
          ⟨some 14, none, .ixs (.t 12) (.t 13) 3⟩, 
          ⟨some 15, none, .ld (.t 14) 3 true⟩, 
          ⟨some 16, none, .callv (.t 11) [(.t 15)] false⟩] [0, 1, 5, 7, 8, 16] [])
        (.cond (.t 16)
        (.seq (.reg false [⟨some 17, none, .mov (.t 5)⟩, 
            ⟨some 4, none, .mov (.t 17)⟩] [4] [])
          .ret)
        .skip))))
      (.reg false [⟨some 18, none, .bin .add (.t 8) (.c (.p (.int .i64 1)))⟩, 
        ⟨some 8, none, .mov (.t 18)⟩] [0, 1, 7, 8] [])))))
def ir194 : IFn :=   -- slices.IndexFunc[[]tympan/api.Float,tympan/api.Float]
⟨(.seq (.reg false [⟨some 4, none, .mov (.c (.p (.int .i64 0)))⟩] [0, 1] [])
  (.seq (.seq (.reg false [⟨some 6, none, .mov (.t 0)⟩, 
    ⟨some 7, none, .len (.t 6)⟩, 
    ⟨some 8, none, .mov (.c (.p (.int .i64 0)))⟩] [0, 1, 7, 8] [])
  (.block 0 lp194_0))
  (.seq (.reg false [⟨some 4, none, .mov (.c (.p (.int .i64 (-1))))⟩] [4] [])
  .ret))),
  [.tmp 4], false⟩
def ir195 : IFn :=   -- tympan/valid.first[tympan/api.Float]$1$1
⟨(.seq (.reg false [⟨some 2, none, .bx (.t 0) 3 true⟩, 
    ⟨some 3, none, .mov (.c (.p (.bool false)))⟩] [1, 2] [2])
  (.seq (.reg false [⟨some 4, none, .ld (.t 1) 1 false⟩, 
    ⟨some 5, none, .ld (.t 2) 3 true⟩, 
    ⟨some 6, none, .callv (.t 4) [(.t 5)] false⟩, 
    ⟨some 7, none, .bin .neq (.t 6) (.c (.p (.int .i64 0)))⟩, 
    ⟨some 3, none, .mov (.t 7)⟩] [3] [])
  .ret)),
  [.tmp 3], false⟩
def lp196_0 : IC :=
  (.loop [0, 1, 2, 7, 8, 14, 15, 16] [] (.seq (.reg false [⟨some 17, none, .bin .lss (.t 16) (.t 15)⟩] [0, 1, 2, 7, 8, 14, 15, 16, 17] [])
      (.seq (.cond (.t 17)
      .skip
      (.exit 0))
      (.seq (.block 1 (.seq (.reg false [⟨some 18, none, .mov (.t 16)⟩, 
          ⟨some 19, none, .ixs (.t 14) (.t 16) 7⟩, 
          ⟨some 20, none, .ld (.t 19) 7 true⟩, 
          ⟨some 10, none, .al [.p (.int .i64 0), .p (.int .i64 0), .p (.int .i64 0), .p (.int .i64 0), .p (.int .i64 0), .p (.int .i64 0), .p (.int .i64 0)] true⟩, 
          ⟨some 9, none, .mov (.t 18)⟩, 
          ⟨none, none, .st (.t 10) (.t 20) 7⟩] [0, 1, 2, 7, 8, 9, 10, 14, 15, 16] [10])
        (.seq (.seq (.reg false [⟨some 21, none, .mov (.t 9)⟩, 
          ⟨some 22, none, .mov (.t 7)⟩, 
          ⟨some 23, none, .bin .eql (.t 21) (.t 22)⟩, 
          ⟨some 24, none, .mov (.t 23)⟩, 
          ⟨some 25, (some (24, false)), .off (.t 10) 0⟩, 
          ⟨some 26, (some (24, false)), .ld (.t 25) 1 false⟩, 
          ⟨some 27, (some (24, false)), .mov (.t 1)⟩, 
          ⟨some 28, (some (24, false)), .bin .eql (.t 26) (.t 27)⟩, 
          ⟨some 29, (some (24, false)), .mov (.t 28)⟩, 
          ⟨some 30, (some (29, true)), .mov (.t 8)⟩, 
          ⟨some 31, (some (29, true)), .mov (.t 2)⟩, 
          ⟨some 32, (some (29, true)), .bin .eql (.t 30) (.t 31)⟩, 
          ⟨some 33, (some (24, false)), .pick (.t 29) (.t 32) (.c (.p (.bool false)))⟩, 
          ⟨some 34, none, .pick (.t 24) (.c (.p (.bool true))) (.t 33)⟩] [0, 1, 2, 7, 8, 9, 10, 14, 15, 16, 34] [10])
        (.cond (.t 34)
        (.seq (.reg false [⟨some 35, none, .mov (.t 9)⟩, 
            ⟨some 6, none, .mov (.t 35)⟩] [6] [])
          .ret)
        .skip))
        (.seq (.reg false [⟨some 36, none, .off (.t 10) 0⟩, 
          ⟨some 37, none, .ld (.t 36) 1 false⟩, 
          ⟨some 38, none, .mov (.t 1)⟩, 
          ⟨some 39, none, .bin .eql (.t 37) (.t 38)⟩] [0, 1, 2, 7, 8, 14, 15, 16, 39] [])
        (.cond (.t 39)
        (.reg false [⟨some 40, none, .mov (.t 8)⟩, 
            ⟨some 41, none, .bin .add (.t 40) (.c (.p (.int .i64 1)))⟩, 
            ⟨some 8, none, .mov (.t 41)⟩] [0, 1, 2, 7, 8, 14, 15, 16] [])
        .skip)))))
      (.reg false [⟨some 42, none, .bin .add (.t 16) (.c (.p (.int .i64 1)))⟩, 
        ⟨some 16, none, .mov (.t 42)⟩] [0, 1, 2, 7, 8, 14, 15, 16] [])))))
def ir196 : IFn :=   -- tympan/valid.refs
⟨(.seq (.reg false [⟨some 6, none, .mov (.c (.p (.int .i64 0)))⟩] [0, 1, 2] [])
  (.seq (.reg false [⟨some 11, none, .mov (.t 0)⟩, 
    ⟨some 12, none, .mov (.t 1)⟩, 
    ⟨some 13, none, .call 59 [(.t 11), (.t 12)] false⟩, 
    ⟨some 7, none, .mov (.t 13)⟩] [0, 1, 2, 7] [])
  (.seq (.reg false [⟨some 8, none, .mov (.c (.p (.int .i64 0)))⟩] [0, 1, 2, 7, 8] [])
  (.seq (.seq (.reg false [⟨some 14, none, .mov (.t 0)⟩, 
    ⟨some 15, none, .len (.t 14)⟩, 
    ⟨some 16, none, .mov (.c (.p (.int .i64 0)))⟩] [0, 1, 2, 7, 8, 14, 15, 16] [])
  (.block 0 lp196_0))
  (.seq (.seq (.reg false [⟨some 43, none, .mov (.t 8)⟩, 
    ⟨some 44, none, .mov (.t 2)⟩, 
    ⟨some 45, none, .bin .lss (.t 43) (.t 44)⟩] [0, 45] [])
  (.cond (.t 45)
  (.seq (.reg false [⟨some 46, none, .mov (.t 0)⟩, 
      ⟨some 47, none, .len (.t 46)⟩, 
      ⟨some 6, none, .mov (.t 47)⟩] [6] [])
    .ret)
  .skip))
  (.seq (.reg false [⟨some 6, none, .mov (.c (.p (.int .i64 (-1))))⟩] [6] [])
  .ret)))))),
  [.tmp 6], false⟩
def ir197 : IFn :=   -- tympan/valid.tall$1
⟨(.seq (.reg false [⟨some 2, none, .bx (.t 0) 3 true⟩, 
    ⟨some 3, none, .mov (.c (.p (.bool false)))⟩] [1, 2] [2])
  (.seq (.reg false [⟨some 4, none, .off (.t 2) 1⟩, 
    ⟨some 5, none, .ld (.t 4) 1 false⟩, 
    ⟨some 6, none, .off (.t 1) 0⟩, 
    ⟨some 7, none, .off (.t 6) 4⟩, 
    ⟨some 8, none, .ld (.t 7) 1 false⟩, 
    ⟨some 9, none, .bin .gtr (.t 5) (.t 8)⟩, 
    ⟨some 3, none, .mov (.t 9)⟩] [3] [])
  .ret)),
  [.tmp 3], false⟩
def lp198_0 : IC :=
  (.loop [1, 3, 9, 10, 11, 47, 48, 49] [1] (.seq (.reg false [⟨some 50, none, .bin .lss (.t 49) (.t 48)⟩] [1, 3, 9, 10, 11, 47, 48, 49, 50] [1])
            (.seq (.cond (.t 50)
            .skip
            (.exit 2))
            (.seq (.block 3 (.seq (.reg false [⟨some 51, none, .mov (.t 49)⟩, 
                ⟨some 52, none, .ixs (.t 47) (.t 49) 2⟩, 
                ⟨some 53, none, .ld (.t 52) 2 true⟩, 
                ⟨some 7, none, .al [.p (.int .i64 0), .nils] true⟩, 
                ⟨some 6, none, .mov (.t 51)⟩, 
                ⟨none, none, .st (.t 7) (.t 53) 2⟩] [1, 3, 6, 7, 9, 10, 11, 47, 48, 49] [1, 7])
              (.seq (.reg true [⟨some 54, none, .off (.t 7) 0⟩, 
                ⟨some 55, none, .ld (.t 54) 1 false⟩, 
                ⟨some 56, none, .off (.t 1) 0⟩, 
                ⟨some 57, none, .off (.t 56) 0⟩, 
                ⟨some 58, none, .ld (.t 57) 19 true⟩, 
                ⟨some 59, none, .mov (.t 6)⟩, 
                ⟨some 60, none, .call 237 [(.t 58), (.t 59)] true⟩, 
                ⟨some 61, none, .bin .neq (.t 55) (.t 60)⟩] [1, 3, 9, 10, 11, 47, 48, 49, 61] [1])
              (.cond (.t 61)
              (.seq (.reg false [⟨some 62, none, .mov (.t 3)⟩, 
                  ⟨some 2, none, .mov (.t 62)⟩] [2] [])
                .ret)
              .skip))))
            (.reg false [⟨some 63, none, .bin .add (.t 49) (.c (.p (.int .i64 1)))⟩, 
              ⟨some 49, none, .mov (.t 63)⟩] [1, 3, 9, 10, 11, 47, 48, 49] [1])))))
def lp198_1 : IC :=
  (.loop [1, 9, 10, 11] [1] (.seq (.reg false [⟨some 12, none, .bin .lss (.t 11) (.t 10)⟩] [1, 9, 10, 11, 12] [1])
      (.seq (.cond (.t 12)
      .skip
      (.exit 0))
      (.seq (.block 1 (.seq (.reg false [⟨some 13, none, .mov (.t 11)⟩, 
          ⟨some 14, none, .ixs (.t 9) (.t 11) 4⟩, 
          ⟨some 15, none, .ld (.t 14) 4 true⟩, 
          ⟨some 4, none, .al [.nils, .p (.int .i64 0), .p (.int .i64 0), .p (.int .i64 0)] true⟩, 
          ⟨some 3, none, .mov (.t 13)⟩, 
          ⟨none, none, .st (.t 4) (.t 15) 4⟩] [1, 3, 4, 9, 10, 11] [1, 4])
        (.seq (.reg false [⟨some 16, none, .off (.t 4) 0⟩, 
          ⟨some 17, none, .ld (.t 16) 1 false⟩, 
          ⟨some 18, none, .len (.t 17)⟩, 
          ⟨some 5, none, .mov (.t 18)⟩] [1, 3, 4, 5, 9, 10, 11] [1, 4])
        (.seq (.seq (.reg false [⟨some 19, none, .mov (.t 5)⟩, 
          ⟨some 20, none, .bin .lss (.t 19) (.c (.p (.int .i64 1)))⟩, 
          ⟨some 21, none, .mov (.t 20)⟩, 
          ⟨some 22, (some (21, false)), .mov (.t 5)⟩, 
          ⟨some 23, (some (21, false)), .off (.t 1) 0⟩, 
          ⟨some 24, (some (21, false)), .off (.t 23) 0⟩, 
          ⟨some 25, (some (21, false)), .off (.t 24) 0⟩, 
          ⟨some 26, (some (21, false)), .ld (.t 25) 1 false⟩, 
          ⟨some 27, (some (21, false)), .bin .gtr (.t 22) (.t 26)⟩, 
          ⟨some 28, none, .pick (.t 21) (.c (.p (.bool true))) (.t 27)⟩, 
          ⟨some 29, none, .mov (.t 28)⟩, 
          ⟨some 30, (some (29, false)), .mov (.t 5)⟩, 
          ⟨some 31, (some (29, false)), .off (.t 1) 0⟩, 
          ⟨some 32, (some (29, false)), .off (.t 31) 0⟩, 
          ⟨some 33, (some (29, false)), .off (.t 32) 0⟩, 
          ⟨some 34, (some (29, false)), .ld (.t 33) 1 false⟩, 
          ⟨some 35, (some (29, false)), .bin .lss (.t 30) (.t 34)⟩, 
          ⟨some 36, (some (29, false)), .mov (.t 35)⟩, 
          ⟨some 37, (some (36, true)), .mov (.t 3)⟩, 
          ⟨some 38, (some (36, true)), .off (.t 1) 22⟩, 
          ⟨some 39, (some (36, true)), .ld (.t 38) 1 false⟩, 
          ⟨some 40, (some (36, true)), .len (.t 39)⟩, 
          ⟨some 41, (some (36, true)), .bin .sub (.t 40) (.c (.p (.int .i64 1)))⟩, 
          ⟨some 42, (some (36, true)), .bin .lss (.t 37) (.t 41)⟩, 
          ⟨some 43, (some (29, false)), .pick (.t 36) (.t 42) (.c (.p (.bool false)))⟩, 
          ⟨some 44, none, .pick (.t 29) (.c (.p (.bool true))) (.t 43)⟩] [1, 3, 4, 9, 10, 11, 44] [1, 4])
        (.cond (.t 44)
        (.seq (.reg false [⟨some 45, none, .mov (.t 3)⟩, 
            ⟨some 2, none, .mov (.t 45)⟩] [2] [])
          .ret)
        .skip))
        (.seq (.reg false [⟨some 46, none, .off (.t 4) 0⟩, 
          ⟨some 47, none, .ld (.t 46) 1 false⟩, 
          ⟨some 48, none, .len (.t 47)⟩, 
          ⟨some 49, none, .mov (.c (.p (.int .i64 0)))⟩] [1, 3, 9, 10, 11, 47, 48, 49] [1])
        (.block 2 lp198_0))))))
      (.reg false [⟨some 64, none, .bin .add (.t 11) (.c (.p (.int .i64 1)))⟩, 
        ⟨some 11, none, .mov (.t 64)⟩] [1, 9, 10, 11] [1])))))
def ir198 : IFn :=   -- (tympan/check.asked).cols
⟨(.seq (.reg false [⟨some 1, none, .bx (.t 0) 23 true⟩, 
    ⟨some 2, none, .mov (.c (.p (.int .i64 0)))⟩] [1] [1])
  (.seq (.seq (.reg false [⟨some 8, none, .off (.t 1) 22⟩, 
    ⟨some 9, none, .ld (.t 8) 1 false⟩, 
    ⟨some 10, none, .len (.t 9)⟩, 
    ⟨some 11, none, .mov (.c (.p (.int .i64 0)))⟩] [1, 9, 10, 11] [1])
  (.block 0 lp198_1))
  (.seq (.reg false [⟨some 2, none, .mov (.c (.p (.int .i64 (-1))))⟩] [2] [])
  .ret))),
  [.tmp 2], false⟩
def lp199_0 : IC :=
  (.loop [3, 8, 9, 10, 16, 17, 18] [] (.seq (.reg false [⟨some 19, none, .bin .lss (.t 18) (.t 17)⟩] [3, 8, 9, 10, 16, 17, 18, 19] [])
            (.seq (.cond (.t 19)
            .skip
            (.exit 2))
            (.seq (.block 3 (.seq (.reg false [⟨some 20, none, .ixs (.t 16) (.t 18) 2⟩, 
                ⟨some 21, none, .ld (.t 20) 2 true⟩, 
                ⟨some 6, none, .al [.p (.int .i64 0), .nils] true⟩, 
                ⟨none, none, .st (.t 6) (.t 21) 2⟩] [3, 6, 8, 9, 10, 16, 17, 18] [6])
              (.seq (.reg false [⟨some 22, none, .ld (.t 6) 2 true⟩, 
                ⟨some 23, none, .call 63 [(.t 22)] false⟩, 
                ⟨some 24, none, .un .not (.t 23)⟩] [3, 8, 9, 10, 16, 17, 18, 24] [])
              (.cond (.t 24)
              (.seq (.reg false [⟨some 25, none, .mov (.t 3)⟩, 
                  ⟨some 2, none, .mov (.t 25)⟩] [2] [])
                .ret)
              .skip))))
            (.reg false [⟨some 26, none, .bin .add (.t 18) (.c (.p (.int .i64 1)))⟩, 
              ⟨some 18, none, .mov (.t 26)⟩] [3, 8, 9, 10, 16, 17, 18] [])))))
def lp199_1 : IC :=
  (.loop [8, 9, 10] [] (.seq (.reg false [⟨some 11, none, .bin .lss (.t 10) (.t 9)⟩] [8, 9, 10, 11] [])
      (.seq (.cond (.t 11)
      .skip
      (.exit 0))
      (.seq (.block 1 (.seq (.reg false [⟨some 12, none, .mov (.t 10)⟩, 
          ⟨some 13, none, .ixs (.t 8) (.t 10) 4⟩, 
          ⟨some 14, none, .ld (.t 13) 4 true⟩, 
          ⟨some 4, none, .al [.nils, .p (.int .i64 0), .p (.int .i64 0), .p (.int .i64 0)] true⟩, 
          ⟨some 3, none, .mov (.t 12)⟩, 
          ⟨none, none, .st (.t 4) (.t 14) 4⟩] [3, 4, 8, 9, 10] [4])
        (.seq (.reg false [⟨some 15, none, .off (.t 4) 0⟩, 
          ⟨some 16, none, .ld (.t 15) 1 false⟩, 
          ⟨some 17, none, .len (.t 16)⟩, 
          ⟨some 18, none, .mov (.c (.p (.int .i64 0)))⟩] [3, 8, 9, 10, 16, 17, 18] [])
        (.block 2 lp199_0))))
      (.reg false [⟨some 27, none, .bin .add (.t 10) (.c (.p (.int .i64 1)))⟩, 
        ⟨some 10, none, .mov (.t 27)⟩] [8, 9, 10] [])))))
def ir199 : IFn :=   -- (tympan/check.asked).stands
⟨(.seq (.reg false [⟨some 1, none, .bx (.t 0) 23 true⟩, 
    ⟨some 2, none, .mov (.c (.p (.int .i64 0)))⟩] [1] [1])
  (.seq (.seq (.reg false [⟨some 7, none, .off (.t 1) 22⟩, 
    ⟨some 8, none, .ld (.t 7) 1 false⟩, 
    ⟨some 9, none, .len (.t 8)⟩, 
    ⟨some 10, none, .mov (.c (.p (.int .i64 0)))⟩] [8, 9, 10] [])
  (.block 0 lp199_1))
  (.seq (.reg false [⟨some 2, none, .mov (.c (.p (.int .i64 (-1))))⟩] [2] [])
  .ret))),
  [.tmp 2], false⟩
def lp200_0 : IC :=
  (.loop [1, 3, 8, 9, 10] [1] (.seq (.reg false [⟨some 11, none, .bin .lss (.t 10) (.t 9)⟩] [1, 3, 8, 9, 10, 11] [1])
      (.seq (.cond (.t 11)
      .skip
      (.exit 0))
      (.seq (.block 1 (.seq (.reg false [⟨some 12, none, .mov (.t 10)⟩, 
          ⟨some 13, none, .ixs (.t 8) (.t 10) 7⟩, 
          ⟨some 14, none, .ld (.t 13) 7 true⟩, 
          ⟨some 5, none, .al [.p (.int .i64 0), .p (.int .i64 0), .p (.int .i64 0), .p (.int .i64 0), .p (.int .i64 0), .p (.int .i64 0), .p (.int .i64 0)] true⟩, 
          ⟨some 4, none, .mov (.t 12)⟩, 
          ⟨none, none, .st (.t 5) (.t 14) 7⟩] [1, 3, 4, 5, 8, 9, 10] [1, 5])
        (.seq (.reg false [⟨some 15, none, .off (.t 5) 0⟩, 
          ⟨some 16, none, .ld (.t 15) 1 false⟩, 
          ⟨some 17, none, .bin .eql (.t 16) (.c (.p (.int .i64 1)))⟩] [1, 3, 4, 5, 8, 9, 10, 17] [1, 5])
        (.cond (.t 17)
        (.reg false [⟨some 18, none, .mov (.t 3)⟩, 
            ⟨some 19, none, .mov (.t 4)⟩, 
            ⟨some 20, none, .off (.t 5) 1⟩, 
            ⟨some 21, none, .ld (.t 20) 1 false⟩, 
            ⟨some 22, none, .bld [.p (.int .i64 0), .p (.int .i64 0), .p (.int .i64 0), .p (.int .i64 0), .p (.int .i64 0)] [(1, 1, (.t 19)), (4, 1, (.t 21))]⟩, 
            ⟨some 23, none, .bsl 5 1 [.p (.int .i64 0), .p (.int .i64 0), .p (.int .i64 0), .p (.int .i64 0), .p (.int .i64 0)] [(0, (.t 22))]⟩, 
            ⟨some 24, none, .app (.t 18) (.t 23) 5⟩, 
            ⟨some 3, none, .mov (.t 24)⟩] [1, 3, 8, 9, 10] [1])
        .skip))))
      (.reg false [⟨some 25, none, .bin .add (.t 10) (.c (.p (.int .i64 1)))⟩, 
        ⟨some 10, none, .mov (.t 25)⟩] [1, 3, 8, 9, 10] [1])))))
def ir200 : IFn :=   -- (tympan/check.asked).boxes
⟨(.seq (.reg false [⟨some 1, none, .bx (.t 0) 23 true⟩, 
    ⟨some 2, none, .mov (.c (.p (.int .i64 0)))⟩] [1] [1])
  (.seq (.reg false [⟨some 3, none, .nrow 5⟩] [1, 3] [1])
  (.seq (.seq (.reg false [⟨some 6, none, .off (.t 1) 0⟩, 
    ⟨some 7, none, .off (.t 6) 19⟩, 
    ⟨some 8, none, .ld (.t 7) 1 false⟩, 
    ⟨some 9, none, .len (.t 8)⟩, 
    ⟨some 10, none, .mov (.c (.p (.int .i64 0)))⟩] [1, 3, 8, 9, 10] [1])
  (.block 0 lp200_0))
  (.seq (.reg false [⟨some 26, none, .ld (.t 1) 23 true⟩, 
    ⟨some 27, none, .mov (.t 3)⟩, 
    ⟨some 28, none, .call 238 [(.t 26), (.c (.p (.int .i64 1))), (.t 27)] false⟩, 
    ⟨some 2, none, .mov (.t 28)⟩] [2] [])
  .ret)))),
  [.tmp 2], false⟩
def lp201_0 : IC :=
  (.loop [1, 3, 4, 10, 11, 12, 18, 19, 20] [1] (.seq (.reg false [⟨some 21, none, .bin .lss (.t 20) (.t 19)⟩] [1, 3, 4, 10, 11, 12, 18, 19, 20, 21] [1])
            (.seq (.cond (.t 21)
            .skip
            (.exit 2))
            (.seq (.block 3 (.seq (.reg false [⟨some 22, none, .mov (.t 20)⟩, 
                ⟨some 23, none, .ixs (.t 18) (.t 20) 1⟩, 
                ⟨some 24, none, .ld (.t 23) 1 false⟩, 
                ⟨some 6, none, .mov (.t 22)⟩, 
                ⟨some 7, none, .mov (.t 24)⟩] [1, 3, 4, 6, 7, 10, 11, 12, 18, 19, 20] [1])
              (.reg false [⟨some 25, none, .mov (.t 3)⟩, 
                ⟨some 26, none, .mov (.t 4)⟩, 
                ⟨some 27, none, .mov (.t 6)⟩, 
                ⟨some 28, none, .mov (.t 7)⟩, 
                ⟨some 29, none, .bld [.p (.int .i64 0), .p (.int .i64 0), .p (.int .i64 0), .p (.int .i64 0), .p (.int .i64 0)] [(1, 1, (.t 26)), (2, 1, (.t 27)), (4, 1, (.t 28))]⟩, 
                ⟨some 30, none, .bsl 5 1 [.p (.int .i64 0), .p (.int .i64 0), .p (.int .i64 0), .p (.int .i64 0), .p (.int .i64 0)] [(0, (.t 29))]⟩, 
                ⟨some 31, none, .app (.t 25) (.t 30) 5⟩, 
                ⟨some 3, none, .mov (.t 31)⟩] [1, 3, 4, 10, 11, 12, 18, 19, 20] [1])))
            (.reg false [⟨some 32, none, .bin .add (.t 20) (.c (.p (.int .i64 1)))⟩, 
              ⟨some 20, none, .mov (.t 32)⟩] [1, 3, 4, 10, 11, 12, 18, 19, 20] [1])))))
def lp201_1 : IC :=
  (.loop [1, 3, 10, 11, 12] [1] (.seq (.reg false [⟨some 13, none, .bin .lss (.t 12) (.t 11)⟩] [1, 3, 10, 11, 12, 13] [1])
      (.seq (.cond (.t 13)
      .skip
      (.exit 0))
      (.seq (.block 1 (.seq (.reg false [⟨some 14, none, .mov (.t 12)⟩, 
          ⟨some 15, none, .ixs (.t 10) (.t 12) 2⟩, 
          ⟨some 16, none, .ld (.t 15) 2 true⟩, 
          ⟨some 5, none, .al [.nils, .nils] true⟩, 
          ⟨some 4, none, .mov (.t 14)⟩, 
          ⟨none, none, .st (.t 5) (.t 16) 2⟩] [1, 3, 4, 5, 10, 11, 12] [1, 5])
        (.seq (.reg false [⟨some 17, none, .off (.t 5) 0⟩, 
          ⟨some 18, none, .ld (.t 17) 1 false⟩, 
          ⟨some 19, none, .len (.t 18)⟩, 
          ⟨some 20, none, .mov (.c (.p (.int .i64 0)))⟩] [1, 3, 4, 10, 11, 12, 18, 19, 20] [1])
        (.block 2 lp201_0))))
      (.reg false [⟨some 33, none, .bin .add (.t 12) (.c (.p (.int .i64 1)))⟩, 
        ⟨some 12, none, .mov (.t 33)⟩] [1, 3, 10, 11, 12] [1])))))
def ir201 : IFn :=   -- (tympan/check.asked).lines
⟨(.seq (.reg false [⟨some 1, none, .bx (.t 0) 23 true⟩, 
    ⟨some 2, none, .mov (.c (.p (.int .i64 0)))⟩] [1] [1])
  (.seq (.reg false [⟨some 3, none, .nrow 5⟩] [1, 3] [1])
  (.seq (.seq (.reg false [⟨some 8, none, .off (.t 1) 0⟩, 
    ⟨some 9, none, .off (.t 8) 20⟩, 
    ⟨some 10, none, .ld (.t 9) 1 false⟩, 
    ⟨some 11, none, .len (.t 10)⟩, 
    ⟨some 12, none, .mov (.c (.p (.int .i64 0)))⟩] [1, 3, 10, 11, 12] [1])
  (.block 0 lp201_1))
  (.seq (.reg false [⟨some 34, none, .ld (.t 1) 23 true⟩, 
    ⟨some 35, none, .mov (.t 3)⟩, 
    ⟨some 36, none, .call 238 [(.t 34), (.c (.p (.int .i64 4))), (.t 35)] false⟩, 
    ⟨some 2, none, .mov (.t 36)⟩] [2] [])
  .ret)))),
  [.tmp 2], false⟩
def ir204 : IFn :=   -- (tympan/check.asked).marks
⟨(.seq (.reg false [⟨some 1, none, .bx (.t 0) 23 true⟩, 
    ⟨some 2, none, .mov (.c (.p (.int .i64 0)))⟩] [1] [1])
  (.seq (.reg false [⟨some 3, none, .off (.t 1) 22⟩, 
    ⟨some 4, none, .ld (.t 3) 1 false⟩, 
    ⟨some 5, none, .call 65 [(.t 4)] false⟩, 
    ⟨some 2, none, .mov (.t 5)⟩] [2] [])
  .ret)),
  [.tmp 2], false⟩
def lp205_0 : IC :=
  (.loop [0, 1, 2, 6, 7] [] (.seq (.seq (.reg true [⟨some 16, none, .mov (.t 7)⟩, 
              ⟨some 17, none, .mov (.t 1)⟩, 
              ⟨some 18, none, .bin .gtr (.t 16) (.t 17)⟩, 
              ⟨some 19, none, .mov (.t 18)⟩, 
              ⟨some 20, (some (19, true)), .mov (.t 0)⟩, 
              ⟨some 21, (some (19, true)), .mov (.t 7)⟩, 
              ⟨some 22, (some (19, true)), .ixs (.t 20) (.t 21) 1⟩, 
              ⟨some 23, (some (19, true)), .ld (.t 22) 1 false⟩, 
              ⟨some 24, (some (19, true)), .mov (.t 0)⟩, 
              ⟨some 25, (some (19, true)), .mov (.t 7)⟩, 
              ⟨some 26, (some (19, true)), .bin .sub (.t 25) (.c (.p (.int .i64 1)))⟩, 
              ⟨some 27, (some (19, true)), .ixs (.t 24) (.t 26) 1⟩, 
              ⟨some 28, (some (19, true)), .ld (.t 27) 1 false⟩, 
              ⟨some 29, (some (19, true)), .call 211 [(.t 23), (.t 28)] true⟩, 
              ⟨some 30, none, .pick (.t 19) (.t 29) (.c (.p (.bool false)))⟩] [0, 1, 2, 6, 7, 30] [])
            (.cond (.t 30)
            .skip
            (.exit 2)))
            (.seq (.block 3 (.reg true [⟨some 33, none, .mov (.t 0)⟩, 
                ⟨some 34, none, .mov (.t 7)⟩, 
                ⟨some 35, none, .mov (.t 0)⟩, 
                ⟨some 36, none, .mov (.t 7)⟩, 
                ⟨some 37, none, .bin .sub (.t 36) (.c (.p (.int .i64 1)))⟩, 
                ⟨some 38, none, .mov (.t 0)⟩, 
                ⟨some 39, none, .mov (.t 7)⟩, 
                ⟨some 40, none, .bin .sub (.t 39) (.c (.p (.int .i64 1)))⟩, 
                ⟨some 41, none, .ixs (.t 38) (.t 40) 1⟩, 
                ⟨some 42, none, .ld (.t 41) 1 false⟩, 
                ⟨some 43, none, .mov (.t 0)⟩, 
                ⟨some 44, none, .mov (.t 7)⟩, 
                ⟨some 45, none, .ixs (.t 43) (.t 44) 1⟩, 
                ⟨some 46, none, .ld (.t 45) 1 false⟩, 
                ⟨some 47, none, .ixs (.t 33) (.t 34) 1⟩, 
                ⟨none, none, .st (.t 47) (.t 42) 1⟩, 
                ⟨some 48, none, .ixs (.t 35) (.t 37) 1⟩, 
                ⟨none, none, .st (.t 48) (.t 46) 1⟩] [0, 1, 2, 6, 7] []))
            (.reg false [⟨some 31, none, .mov (.t 7)⟩, 
              ⟨some 32, none, .bin .sub (.t 31) (.c (.p (.int .i64 1)))⟩, 
              ⟨some 7, none, .mov (.t 32)⟩] [0, 1, 2, 6, 7] []))))
def lp205_1 : IC :=
  (.loop [0, 1, 2, 6] [] (.seq (.seq (.reg false [⟨some 10, none, .mov (.t 6)⟩, 
        ⟨some 11, none, .mov (.t 2)⟩, 
        ⟨some 12, none, .bin .lss (.t 10) (.t 11)⟩] [0, 1, 2, 6, 12] [])
      (.cond (.t 12)
      .skip
      (.exit 0)))
      (.seq (.block 1 (.seq (.reg false [⟨some 15, none, .mov (.t 6)⟩, 
          ⟨some 7, none, .mov (.t 15)⟩] [0, 1, 2, 6, 7] [])
        (.block 2 lp205_0)))
      (.reg false [⟨some 13, none, .mov (.t 6)⟩, 
        ⟨some 14, none, .bin .add (.t 13) (.c (.p (.int .i64 1)))⟩, 
        ⟨some 6, none, .mov (.t 14)⟩] [0, 1, 2, 6] []))))
def ir205 : IFn :=   -- slices.insertionSortOrdered[int]
⟨(.seq (.reg false [⟨some 8, none, .mov (.t 1)⟩, 
    ⟨some 9, none, .bin .add (.t 8) (.c (.p (.int .i64 1)))⟩, 
    ⟨some 6, none, .mov (.t 9)⟩] [0, 1, 2, 6] [])
  (.block 0 lp205_1)),
  [], false⟩
def lp206_0 : IC :=
  (.loop [0, 6, 7, 8, 9] [] (.seq (.seq (.reg false [⟨some 18, none, .mov (.t 9)⟩, 
        ⟨some 19, none, .bin .geq (.t 18) (.c (.p (.int .i64 0)))⟩] [0, 6, 7, 8, 9, 19] [])
      (.cond (.t 19)
      .skip
      (.exit 0)))
      (.seq (.block 1 (.reg false [⟨some 22, none, .mov (.t 0)⟩, 
          ⟨some 23, none, .mov (.t 9)⟩, 
          ⟨some 24, none, .mov (.t 8)⟩, 
          ⟨some 25, none, .mov (.t 6)⟩, 
          ⟨some 26, none, .call 240 [(.t 22), (.t 23), (.t 24), (.t 25)] false⟩] [0, 6, 7, 8, 9] []))
      (.reg false [⟨some 20, none, .mov (.t 9)⟩, 
        ⟨some 21, none, .bin .sub (.t 20) (.c (.p (.int .i64 1)))⟩, 
        ⟨some 9, none, .mov (.t 21)⟩] [0, 6, 7, 8, 9] []))))
def lp206_1 : IC :=
  (.loop [0, 6, 7, 10] [] (.seq (.seq (.reg false [⟨some 29, none, .mov (.t 10)⟩, 
        ⟨some 30, none, .bin .geq (.t 29) (.c (.p (.int .i64 0)))⟩] [0, 6, 7, 10, 30] [])
      (.cond (.t 30)
      .skip
      (.exit 2)))
      (.seq (.block 3 (.seq (.reg true [⟨some 33, none, .mov (.t 0)⟩, 
          ⟨some 34, none, .mov (.t 6)⟩, 
          ⟨some 35, none, .mov (.t 0)⟩, 
          ⟨some 36, none, .mov (.t 6)⟩, 
          ⟨some 37, none, .mov (.t 10)⟩, 
          ⟨some 38, none, .bin .add (.t 36) (.t 37)⟩, 
          ⟨some 39, none, .mov (.t 0)⟩, 
          ⟨some 40, none, .mov (.t 6)⟩, 
          ⟨some 41, none, .mov (.t 10)⟩, 
          ⟨some 42, none, .bin .add (.t 40) (.t 41)⟩, 
          ⟨some 43, none, .ixs (.t 39) (.t 42) 1⟩, 
          ⟨some 44, none, .ld (.t 43) 1 false⟩, 
          ⟨some 45, none, .mov (.t 0)⟩, 
          ⟨some 46, none, .mov (.t 6)⟩, 
          ⟨some 47, none, .ixs (.t 45) (.t 46) 1⟩, 
          ⟨some 48, none, .ld (.t 47) 1 false⟩, 
          ⟨some 49, none, .ixs (.t 33) (.t 34) 1⟩, 
          ⟨none, none, .st (.t 49) (.t 44) 1⟩, 
          ⟨some 50, none, .ixs (.t 35) (.t 38) 1⟩, 
          ⟨none, none, .st (.t 50) (.t 48) 1⟩] [0, 6, 7, 10] [])
        (.reg false [⟨some 51, none, .mov (.t 0)⟩, 
          ⟨some 52, none, .mov (.t 7)⟩, 
          ⟨some 53, none, .mov (.t 10)⟩, 
          ⟨some 54, none, .mov (.t 6)⟩, 
          ⟨some 55, none, .call 240 [(.t 51), (.t 52), (.t 53), (.t 54)] false⟩] [0, 6, 7, 10] [])))
      (.reg false [⟨some 31, none, .mov (.t 10)⟩, 
        ⟨some 32, none, .bin .sub (.t 31) (.c (.p (.int .i64 1)))⟩, 
        ⟨some 10, none, .mov (.t 32)⟩] [0, 6, 7, 10] []))))
def ir206 : IFn :=   -- slices.heapSortOrdered[int]
⟨(.seq (.reg false [⟨some 11, none, .mov (.t 1)⟩, 
    ⟨some 6, none, .mov (.t 11)⟩] [0, 1, 2, 6] [])
  (.seq (.reg false [⟨some 7, none, .mov (.c (.p (.int .i64 0)))⟩] [0, 1, 2, 6, 7] [])
  (.seq (.reg false [⟨some 12, none, .mov (.t 2)⟩, 
    ⟨some 13, none, .mov (.t 1)⟩, 
    ⟨some 14, none, .bin .sub (.t 12) (.t 13)⟩, 
    ⟨some 8, none, .mov (.t 14)⟩] [0, 6, 7, 8] [])
  (.seq (.seq (.reg false [⟨some 15, none, .mov (.t 8)⟩, 
    ⟨some 16, none, .bin .sub (.t 15) (.c (.p (.int .i64 1)))⟩, 
    ⟨some 17, none, .bin .quo (.t 16) (.c (.p (.int .i64 2)))⟩, 
    ⟨some 9, none, .mov (.t 17)⟩] [0, 6, 7, 8, 9] [])
  (.block 0 lp206_0))
  (.seq (.reg false [⟨some 27, none, .mov (.t 8)⟩, 
    ⟨some 28, none, .bin .sub (.t 27) (.c (.p (.int .i64 1)))⟩, 
    ⟨some 10, none, .mov (.t 28)⟩] [0, 6, 7, 10] [])
  (.block 2 lp206_1)))))),
  [], false⟩
def lp207_0 : IC :=
  (.loop [0, 1, 6, 7, 8, 9] [] (.seq (.seq (.reg false [⟨some 26, none, .mov (.t 9)⟩, 
          ⟨some 27, none, .mov (.t 1)⟩, 
          ⟨some 28, none, .mov (.t 6)⟩, 
          ⟨some 29, none, .bin .quo (.t 28) (.c (.p (.int .i64 4)))⟩, 
          ⟨some 30, none, .bin .mul (.t 29) (.c (.p (.int .i64 2)))⟩, 
          ⟨some 31, none, .bin .add (.t 27) (.t 30)⟩, 
          ⟨some 32, none, .bin .add (.t 31) (.c (.p (.int .i64 1)))⟩, 
          ⟨some 33, none, .bin .leq (.t 26) (.t 32)⟩] [0, 1, 6, 7, 8, 9, 33] [])
        (.cond (.t 33)
        .skip
        (.exit 0)))
        (.seq (.block 1 (.seq (.reg false [⟨some 36, none, .call 242 [(.t 7)] false⟩, 
            ⟨some 37, none, .mov (.t 8)⟩, 
            ⟨some 38, none, .bin .sub (.t 37) (.c (.p (.int .u64 1)))⟩, 
            ⟨some 39, none, .bin .and (.t 36) (.t 38)⟩, 
            ⟨some 40, none, .conv .i64 (.t 39)⟩, 
            ⟨some 10, none, .mov (.t 40)⟩] [0, 1, 6, 7, 8, 9, 10] [])
          (.seq (.seq (.reg false [⟨some 41, none, .mov (.t 10)⟩, 
            ⟨some 42, none, .mov (.t 6)⟩, 
            ⟨some 43, none, .bin .geq (.t 41) (.t 42)⟩] [0, 1, 6, 7, 8, 9, 10, 43] [])
          (.cond (.t 43)
          (.reg false [⟨some 44, none, .mov (.t 10)⟩, 
              ⟨some 45, none, .mov (.t 6)⟩, 
              ⟨some 46, none, .bin .sub (.t 44) (.t 45)⟩, 
              ⟨some 10, none, .mov (.t 46)⟩] [0, 1, 6, 7, 8, 9, 10] [])
          .skip))
          (.reg true [⟨some 47, none, .mov (.t 0)⟩, 
            ⟨some 48, none, .mov (.t 9)⟩, 
            ⟨some 49, none, .mov (.t 0)⟩, 
            ⟨some 50, none, .mov (.t 1)⟩, 
            ⟨some 51, none, .mov (.t 10)⟩, 
            ⟨some 52, none, .bin .add (.t 50) (.t 51)⟩, 
            ⟨some 53, none, .mov (.t 0)⟩, 
            ⟨some 54, none, .mov (.t 1)⟩, 
            ⟨some 55, none, .mov (.t 10)⟩, 
            ⟨some 56, none, .bin .add (.t 54) (.t 55)⟩, 
            ⟨some 57, none, .ixs (.t 53) (.t 56) 1⟩, 
            ⟨some 58, none, .ld (.t 57) 1 false⟩, 
            ⟨some 59, none, .mov (.t 0)⟩, 
            ⟨some 60, none, .mov (.t 9)⟩, 
            ⟨some 61, none, .ixs (.t 59) (.t 60) 1⟩, 
            ⟨some 62, none, .ld (.t 61) 1 false⟩, 
            ⟨some 63, none, .ixs (.t 47) (.t 48) 1⟩, 
            ⟨none, none, .st (.t 63) (.t 58) 1⟩, 
            ⟨some 64, none, .ixs (.t 49) (.t 52) 1⟩, 
            ⟨none, none, .st (.t 64) (.t 62) 1⟩] [0, 1, 6, 7, 8, 9] []))))
        (.reg false [⟨some 34, none, .mov (.t 9)⟩, 
          ⟨some 35, none, .bin .add (.t 34) (.c (.p (.int .i64 1)))⟩, 
          ⟨some 9, none, .mov (.t 35)⟩] [0, 1, 6, 7, 8, 9] []))))
def ir207 : IFn :=   -- slices.breakPatternsOrdered[int]
⟨(.seq (.reg false [⟨some 11, none, .mov (.t 2)⟩, 
    ⟨some 12, none, .mov (.t 1)⟩, 
    ⟨some 13, none, .bin .sub (.t 11) (.t 12)⟩, 
    ⟨some 6, none, .mov (.t 13)⟩] [0, 1, 6] [])
  (.seq (.reg false [⟨some 14, none, .mov (.t 6)⟩, 
    ⟨some 15, none, .bin .geq (.t 14) (.c (.p (.int .i64 8)))⟩] [0, 1, 6, 15] [])
  (.cond (.t 15)
  (.seq (.reg false [⟨some 16, none, .mov (.t 6)⟩, 
      ⟨some 17, none, .conv .u64 (.t 16)⟩, 
      ⟨some 7, none, .al [.p (.int .u64 0)] false⟩, 
      ⟨none, none, .st (.t 7) (.t 17) 1⟩] [0, 1, 6, 7] [])
    (.seq (.reg false [⟨some 18, none, .mov (.t 6)⟩, 
      ⟨some 19, none, .call 241 [(.t 18)] false⟩, 
      ⟨some 8, none, .mov (.t 19)⟩] [0, 1, 6, 7, 8] [])
    (.seq (.reg false [⟨some 20, none, .mov (.t 1)⟩, 
      ⟨some 21, none, .mov (.t 6)⟩, 
      ⟨some 22, none, .bin .quo (.t 21) (.c (.p (.int .i64 4)))⟩, 
      ⟨some 23, none, .bin .mul (.t 22) (.c (.p (.int .i64 2)))⟩, 
      ⟨some 24, none, .bin .add (.t 20) (.t 23)⟩, 
      ⟨some 25, none, .bin .sub (.t 24) (.c (.p (.int .i64 1)))⟩, 
      ⟨some 9, none, .mov (.t 25)⟩] [0, 1, 6, 7, 8, 9] [])
    (.block 0 lp207_0))))
  .skip))),
  [], false⟩
def ir208 : IFn :=   -- slices.choosePivotOrdered[int]
⟨(.seq (.reg false [⟨some 6, none, .mov (.c (.p (.int .i64 0)))⟩, 
    ⟨some 7, none, .mov (.c (.p (.int .i64 0)))⟩] [0, 1, 2] [])
  (.seq (.reg false [⟨some 13, none, .mov (.t 2)⟩, 
    ⟨some 14, none, .mov (.t 1)⟩, 
    ⟨some 15, none, .bin .sub (.t 13) (.t 14)⟩, 
    ⟨some 8, none, .mov (.t 15)⟩] [0, 1, 8] [])
  (.seq (.reg false [⟨some 9, none, .al [.p (.int .i64 0)] false⟩] [0, 1, 8, 9] [])
  (.seq (.reg false [⟨some 16, none, .mov (.t 1)⟩, 
    ⟨some 17, none, .mov (.t 8)⟩, 
    ⟨some 18, none, .bin .quo (.t 17) (.c (.p (.int .i64 4)))⟩, 
    ⟨some 19, none, .bin .mul (.t 18) (.c (.p (.int .i64 1)))⟩, 
    ⟨some 20, none, .bin .add (.t 16) (.t 19)⟩, 
    ⟨some 10, none, .mov (.t 20)⟩] [0, 1, 8, 9, 10] [])
  (.seq (.reg false [⟨some 21, none, .mov (.t 1)⟩, 
    ⟨some 22, none, .mov (.t 8)⟩, 
    ⟨some 23, none, .bin .quo (.t 22) (.c (.p (.int .i64 4)))⟩, 
    ⟨some 24, none, .bin .mul (.t 23) (.c (.p (.int .i64 2)))⟩, 
    ⟨some 25, none, .bin .add (.t 21) (.t 24)⟩, 
    ⟨some 11, none, .mov (.t 25)⟩] [0, 1, 8, 9, 10, 11] [])
  (.seq (.reg false [⟨some 26, none, .mov (.t 1)⟩, 
    ⟨some 27, none, .mov (.t 8)⟩, 
    ⟨some 28, none, .bin .quo (.t 27) (.c (.p (.int .i64 4)))⟩, 
    ⟨some 29, none, .bin .mul (.t 28) (.c (.p (.int .i64 3)))⟩, 
    ⟨some 30, none, .bin .add (.t 26) (.t 29)⟩, 
    ⟨some 12, none, .mov (.t 30)⟩] [0, 8, 9, 10, 11, 12] [])
  (.seq (.seq (.reg false [⟨some 31, none, .mov (.t 8)⟩, 
    ⟨some 32, none, .bin .geq (.t 31) (.c (.p (.int .i64 8)))⟩] [0, 8, 9, 10, 11, 12, 32] [])
  (.cond (.t 32)
  (.seq (.seq (.reg false [⟨some 33, none, .mov (.t 8)⟩, 
      ⟨some 34, none, .bin .geq (.t 33) (.c (.p (.int .i64 50)))⟩] [0, 9, 10, 11, 12, 34] [])
    (.cond (.t 34)
    (.seq (.reg false [⟨some 35, none, .mov (.t 0)⟩, 
        ⟨some 36, none, .mov (.t 10)⟩, 
        ⟨some 37, none, .call 243 [(.t 35), (.t 36), (.t 9)] false⟩, 
        ⟨some 10, none, .mov (.t 37)⟩] [0, 9, 10, 11, 12] [])
      (.seq (.reg false [⟨some 38, none, .mov (.t 0)⟩, 
        ⟨some 39, none, .mov (.t 11)⟩, 
        ⟨some 40, none, .call 243 [(.t 38), (.t 39), (.t 9)] false⟩, 
        ⟨some 11, none, .mov (.t 40)⟩] [0, 9, 10, 11, 12] [])
      (.reg false [⟨some 41, none, .mov (.t 0)⟩, 
        ⟨some 42, none, .mov (.t 12)⟩, 
        ⟨some 43, none, .call 243 [(.t 41), (.t 42), (.t 9)] false⟩, 
        ⟨some 12, none, .mov (.t 43)⟩] [0, 9, 10, 11, 12] [])))
    .skip))
    (.reg false [⟨some 44, none, .mov (.t 0)⟩, 
      ⟨some 45, none, .mov (.t 10)⟩, 
      ⟨some 46, none, .mov (.t 11)⟩, 
      ⟨some 47, none, .mov (.t 12)⟩, 
      ⟨some 48, none, .call 244 [(.t 44), (.t 45), (.t 46), (.t 47), (.t 9)] false⟩, 
      ⟨some 11, none, .mov (.t 48)⟩] [9, 11] []))
  .skip))
  (.seq (.reg false [⟨some 49, none, .ld (.t 9) 1 false⟩] [11, 49] [])
  (.block 0 (.seq (.reg false [⟨some 52, none, .bin .eql (.t 49) (.c (.p (.int .i64 0)))⟩, 
      ⟨some 51, none, .mov (.t 52)⟩] [11, 49, 51] [])
    (.cond (.t 51)
    (.seq (.reg false [⟨some 53, none, .mov (.t 11)⟩, 
        ⟨some 6, none, .mov (.t 53)⟩, 
        ⟨some 7, none, .mov (.c (.p (.int .i64 1)))⟩] [6, 7] [])
      .ret)
    (.seq (.reg false [⟨some 55, none, .bin .eql (.t 49) (.c (.p (.int .i64 12)))⟩, 
        ⟨some 54, none, .mov (.t 55)⟩] [11, 54] [])
      (.cond (.t 54)
      (.seq (.reg false [⟨some 56, none, .mov (.t 11)⟩, 
          ⟨some 6, none, .mov (.t 56)⟩, 
          ⟨some 7, none, .mov (.c (.p (.int .i64 2)))⟩] [6, 7] [])
        .ret)
      (.seq (.reg false [⟨some 50, none, .mov (.t 11)⟩, 
          ⟨some 6, none, .mov (.t 50)⟩, 
          ⟨some 7, none, .mov (.c (.p (.int .i64 0)))⟩] [6, 7] [])
        .ret)))))))))))))),
  [.tmp 6, .tmp 7], false⟩
def lp209_0 : IC :=
  (.loop [0, 6, 7] [] (.seq (.seq (.reg false [⟨some 11, none, .mov (.t 6)⟩, 
        ⟨some 12, none, .mov (.t 7)⟩, 
        ⟨some 13, none, .bin .lss (.t 11) (.t 12)⟩] [0, 6, 7, 13] [])
      (.cond (.t 13)
      .skip
      (.exit 0)))
      (.block 1 (.seq (.reg true [⟨some 14, none, .mov (.t 0)⟩, 
          ⟨some 15, none, .mov (.t 6)⟩, 
          ⟨some 16, none, .mov (.t 0)⟩, 
          ⟨some 17, none, .mov (.t 7)⟩, 
          ⟨some 18, none, .mov (.t 0)⟩, 
          ⟨some 19, none, .mov (.t 7)⟩, 
          ⟨some 20, none, .ixs (.t 18) (.t 19) 1⟩, 
          ⟨some 21, none, .ld (.t 20) 1 false⟩, 
          ⟨some 22, none, .mov (.t 0)⟩, 
          ⟨some 23, none, .mov (.t 6)⟩, 
          ⟨some 24, none, .ixs (.t 22) (.t 23) 1⟩, 
          ⟨some 25, none, .ld (.t 24) 1 false⟩, 
          ⟨some 26, none, .ixs (.t 14) (.t 15) 1⟩, 
          ⟨none, none, .st (.t 26) (.t 21) 1⟩, 
          ⟨some 27, none, .ixs (.t 16) (.t 17) 1⟩, 
          ⟨none, none, .st (.t 27) (.t 25) 1⟩] [0, 6, 7] [])
        (.seq (.reg false [⟨some 28, none, .mov (.t 6)⟩, 
          ⟨some 29, none, .bin .add (.t 28) (.c (.p (.int .i64 1)))⟩, 
          ⟨some 6, none, .mov (.t 29)⟩] [0, 6, 7] [])
        (.reg false [⟨some 30, none, .mov (.t 7)⟩, 
          ⟨some 31, none, .bin .sub (.t 30) (.c (.p (.int .i64 1)))⟩, 
          ⟨some 7, none, .mov (.t 31)⟩] [0, 6, 7] []))))))
def ir209 : IFn :=   -- slices.reverseRangeOrdered[int]
⟨(.seq (.reg false [⟨some 8, none, .mov (.t 1)⟩, 
    ⟨some 6, none, .mov (.t 8)⟩] [0, 2, 6] [])
  (.seq (.reg false [⟨some 9, none, .mov (.t 2)⟩, 
    ⟨some 10, none, .bin .sub (.t 9) (.c (.p (.int .i64 1)))⟩, 
    ⟨some 7, none, .mov (.t 10)⟩] [0, 6, 7] [])
  (.block 0 lp209_0))),
  [], false⟩
def lp210_0 : IC :=
  (.loop [0, 1, 2, 7, 8] [] (.seq (.seq (.reg true [⟨some 17, none, .mov (.t 7)⟩, 
              ⟨some 18, none, .mov (.t 2)⟩, 
              ⟨some 19, none, .bin .lss (.t 17) (.t 18)⟩, 
              ⟨some 20, none, .mov (.t 19)⟩, 
              ⟨some 21, (some (20, true)), .mov (.t 0)⟩, 
              ⟨some 22, (some (20, true)), .mov (.t 7)⟩, 
              ⟨some 23, (some (20, true)), .ixs (.t 21) (.t 22) 1⟩, 
              ⟨some 24, (some (20, true)), .ld (.t 23) 1 false⟩, 
              ⟨some 25, (some (20, true)), .mov (.t 0)⟩, 
              ⟨some 26, (some (20, true)), .mov (.t 7)⟩, 
              ⟨some 27, (some (20, true)), .bin .sub (.t 26) (.c (.p (.int .i64 1)))⟩, 
              ⟨some 28, (some (20, true)), .ixs (.t 25) (.t 27) 1⟩, 
              ⟨some 29, (some (20, true)), .ld (.t 28) 1 false⟩, 
              ⟨some 30, (some (20, true)), .call 211 [(.t 24), (.t 29)] true⟩, 
              ⟨some 31, (some (20, true)), .un .not (.t 30)⟩, 
              ⟨some 32, none, .pick (.t 20) (.t 31) (.c (.p (.bool false)))⟩] [0, 1, 2, 7, 8, 32] [])
            (.cond (.t 32)
            .skip
            (.exit 2)))
            (.block 3 (.reg false [⟨some 33, none, .mov (.t 7)⟩, 
                ⟨some 34, none, .bin .add (.t 33) (.c (.p (.int .i64 1)))⟩, 
                ⟨some 7, none, .mov (.t 34)⟩] [0, 1, 2, 7, 8] []))))
def lp210_1 : IC :=
  (.loop [0, 1, 2, 7, 8, 9] [] (.seq (.seq (.reg false [⟨some 64, none, .mov (.t 9)⟩, 
                ⟨some 65, none, .bin .geq (.t 64) (.c (.p (.int .i64 1)))⟩] [0, 1, 2, 7, 8, 9, 65] [])
              (.cond (.t 65)
              .skip
              (.exit 4)))
              (.seq (.block 5 (.seq (.seq (.reg true [⟨some 68, none, .mov (.t 0)⟩, 
                  ⟨some 69, none, .mov (.t 9)⟩, 
                  ⟨some 70, none, .ixs (.t 68) (.t 69) 1⟩, 
                  ⟨some 71, none, .ld (.t 70) 1 false⟩, 
                  ⟨some 72, none, .mov (.t 0)⟩, 
                  ⟨some 73, none, .mov (.t 9)⟩, 
                  ⟨some 74, none, .bin .sub (.t 73) (.c (.p (.int .i64 1)))⟩, 
                  ⟨some 75, none, .ixs (.t 72) (.t 74) 1⟩, 
                  ⟨some 76, none, .ld (.t 75) 1 false⟩, 
                  ⟨some 77, none, .call 211 [(.t 71), (.t 76)] true⟩, 
                  ⟨some 78, none, .un .not (.t 77)⟩] [0, 1, 2, 7, 8, 9, 78] [])
                (.cond (.t 78)
                (.exit 4)
                .skip))
                (.reg true [⟨some 79, none, .mov (.t 0)⟩, 
                  ⟨some 80, none, .mov (.t 9)⟩, 
                  ⟨some 81, none, .mov (.t 0)⟩, 
                  ⟨some 82, none, .mov (.t 9)⟩, 
                  ⟨some 83, none, .bin .sub (.t 82) (.c (.p (.int .i64 1)))⟩, 
                  ⟨some 84, none, .mov (.t 0)⟩, 
                  ⟨some 85, none, .mov (.t 9)⟩, 
                  ⟨some 86, none, .bin .sub (.t 85) (.c (.p (.int .i64 1)))⟩, 
                  ⟨some 87, none, .ixs (.t 84) (.t 86) 1⟩, 
                  ⟨some 88, none, .ld (.t 87) 1 false⟩, 
                  ⟨some 89, none, .mov (.t 0)⟩, 
                  ⟨some 90, none, .mov (.t 9)⟩, 
                  ⟨some 91, none, .ixs (.t 89) (.t 90) 1⟩, 
                  ⟨some 92, none, .ld (.t 91) 1 false⟩, 
                  ⟨some 93, none, .ixs (.t 79) (.t 80) 1⟩, 
                  ⟨none, none, .st (.t 93) (.t 88) 1⟩, 
                  ⟨some 94, none, .ixs (.t 81) (.t 83) 1⟩, 
                  ⟨none, none, .st (.t 94) (.t 92) 1⟩] [0, 1, 2, 7, 8, 9] [])))
              (.reg false [⟨some 66, none, .mov (.t 9)⟩, 
                ⟨some 67, none, .bin .sub (.t 66) (.c (.p (.int .i64 1)))⟩, 
                ⟨some 9, none, .mov (.t 67)⟩] [0, 1, 2, 7, 8, 9] []))))
def lp210_2 : IC :=
  (.loop [0, 1, 2, 7, 8, 10] [] (.seq (.seq (.reg false [⟨some 101, none, .mov (.t 10)⟩, 
                ⟨some 102, none, .mov (.t 2)⟩, 
                ⟨some 103, none, .bin .lss (.t 101) (.t 102)⟩] [0, 1, 2, 7, 8, 10, 103] [])
              (.cond (.t 103)
              .skip
              (.exit 6)))
              (.seq (.block 7 (.seq (.seq (.reg true [⟨some 106, none, .mov (.t 0)⟩, 
                  ⟨some 107, none, .mov (.t 10)⟩, 
                  ⟨some 108, none, .ixs (.t 106) (.t 107) 1⟩, 
                  ⟨some 109, none, .ld (.t 108) 1 false⟩, 
                  ⟨some 110, none, .mov (.t 0)⟩, 
                  ⟨some 111, none, .mov (.t 10)⟩, 
                  ⟨some 112, none, .bin .sub (.t 111) (.c (.p (.int .i64 1)))⟩, 
                  ⟨some 113, none, .ixs (.t 110) (.t 112) 1⟩, 
                  ⟨some 114, none, .ld (.t 113) 1 false⟩, 
                  ⟨some 115, none, .call 211 [(.t 109), (.t 114)] true⟩, 
                  ⟨some 116, none, .un .not (.t 115)⟩] [0, 1, 2, 7, 8, 10, 116] [])
                (.cond (.t 116)
                (.exit 6)
                .skip))
                (.reg true [⟨some 117, none, .mov (.t 0)⟩, 
                  ⟨some 118, none, .mov (.t 10)⟩, 
                  ⟨some 119, none, .mov (.t 0)⟩, 
                  ⟨some 120, none, .mov (.t 10)⟩, 
                  ⟨some 121, none, .bin .sub (.t 120) (.c (.p (.int .i64 1)))⟩, 
                  ⟨some 122, none, .mov (.t 0)⟩, 
                  ⟨some 123, none, .mov (.t 10)⟩, 
                  ⟨some 124, none, .bin .sub (.t 123) (.c (.p (.int .i64 1)))⟩, 
                  ⟨some 125, none, .ixs (.t 122) (.t 124) 1⟩, 
                  ⟨some 126, none, .ld (.t 125) 1 false⟩, 
                  ⟨some 127, none, .mov (.t 0)⟩, 
                  ⟨some 128, none, .mov (.t 10)⟩, 
                  ⟨some 129, none, .ixs (.t 127) (.t 128) 1⟩, 
                  ⟨some 130, none, .ld (.t 129) 1 false⟩, 
                  ⟨some 131, none, .ixs (.t 117) (.t 118) 1⟩, 
                  ⟨none, none, .st (.t 131) (.t 126) 1⟩, 
                  ⟨some 132, none, .ixs (.t 119) (.t 121) 1⟩, 
                  ⟨none, none, .st (.t 132) (.t 130) 1⟩] [0, 1, 2, 7, 8, 10] [])))
              (.reg false [⟨some 104, none, .mov (.t 10)⟩, 
                ⟨some 105, none, .bin .add (.t 104) (.c (.p (.int .i64 1)))⟩, 
                ⟨some 10, none, .mov (.t 105)⟩] [0, 1, 2, 7, 8, 10] []))))
def lp210_3 : IC :=
  (.loop [0, 1, 2, 7, 8] [] (.seq (.seq (.reg false [⟨some 13, none, .mov (.t 8)⟩, 
        ⟨some 14, none, .bin .lss (.t 13) (.c (.p (.int .i64 5)))⟩] [0, 1, 2, 7, 8, 14] [])
      (.cond (.t 14)
      .skip
      (.exit 0)))
      (.seq (.block 1 (.seq (.block 2 lp210_0)
        (.seq (.seq (.reg false [⟨some 35, none, .mov (.t 7)⟩, 
          ⟨some 36, none, .mov (.t 2)⟩, 
          ⟨some 37, none, .bin .eql (.t 35) (.t 36)⟩] [0, 1, 2, 7, 8, 37] [])
        (.cond (.t 37)
        (.seq (.reg false [⟨some 6, none, .mov (.c (.p (.bool true)))⟩] [6] [])
          .ret)
        .skip))
        (.seq (.seq (.reg false [⟨some 38, none, .mov (.t 2)⟩, 
          ⟨some 39, none, .mov (.t 1)⟩, 
          ⟨some 40, none, .bin .sub (.t 38) (.t 39)⟩, 
          ⟨some 41, none, .bin .lss (.t 40) (.c (.p (.int .i64 50)))⟩] [0, 1, 2, 7, 8, 41] [])
        (.cond (.t 41)
        (.seq (.reg false [⟨some 6, none, .mov (.c (.p (.bool false)))⟩] [6] [])
          .ret)
        .skip))
        (.seq (.reg true [⟨some 42, none, .mov (.t 0)⟩, 
          ⟨some 43, none, .mov (.t 7)⟩, 
          ⟨some 44, none, .mov (.t 0)⟩, 
          ⟨some 45, none, .mov (.t 7)⟩, 
          ⟨some 46, none, .bin .sub (.t 45) (.c (.p (.int .i64 1)))⟩, 
          ⟨some 47, none, .mov (.t 0)⟩, 
          ⟨some 48, none, .mov (.t 7)⟩, 
          ⟨some 49, none, .bin .sub (.t 48) (.c (.p (.int .i64 1)))⟩, 
          ⟨some 50, none, .ixs (.t 47) (.t 49) 1⟩, 
          ⟨some 51, none, .ld (.t 50) 1 false⟩, 
          ⟨some 52, none, .mov (.t 0)⟩, 
          ⟨some 53, none, .mov (.t 7)⟩, 
          ⟨some 54, none, .ixs (.t 52) (.t 53) 1⟩, 
          ⟨some 55, none, .ld (.t 54) 1 false⟩, 
          ⟨some 56, none, .ixs (.t 42) (.t 43) 1⟩, 
          ⟨none, none, .st (.t 56) (.t 51) 1⟩, 
          ⟨some 57, none, .ixs (.t 44) (.t 46) 1⟩, 
          ⟨none, none, .st (.t 57) (.t 55) 1⟩] [0, 1, 2, 7, 8] [])
        (.seq (.seq (.reg false [⟨some 58, none, .mov (.t 7)⟩, 
          ⟨some 59, none, .mov (.t 1)⟩, 
          ⟨some 60, none, .bin .sub (.t 58) (.t 59)⟩, 
          ⟨some 61, none, .bin .geq (.t 60) (.c (.p (.int .i64 2)))⟩] [0, 1, 2, 7, 8, 61] [])
        (.cond (.t 61)
        (.seq (.reg false [⟨some 62, none, .mov (.t 7)⟩, 
            ⟨some 63, none, .bin .sub (.t 62) (.c (.p (.int .i64 1)))⟩, 
            ⟨some 9, none, .mov (.t 63)⟩] [0, 1, 2, 7, 8, 9] [])
          (.block 4 lp210_1))
        .skip))
        (.seq (.reg false [⟨some 95, none, .mov (.t 2)⟩, 
          ⟨some 96, none, .mov (.t 7)⟩, 
          ⟨some 97, none, .bin .sub (.t 95) (.t 96)⟩, 
          ⟨some 98, none, .bin .geq (.t 97) (.c (.p (.int .i64 2)))⟩] [0, 1, 2, 7, 8, 98] [])
        (.cond (.t 98)
        (.seq (.reg false [⟨some 99, none, .mov (.t 7)⟩, 
            ⟨some 100, none, .bin .add (.t 99) (.c (.p (.int .i64 1)))⟩, 
            ⟨some 10, none, .mov (.t 100)⟩] [0, 1, 2, 7, 8, 10] [])
          (.block 6 lp210_2))
        .skip))))))))
      (.reg false [⟨some 15, none, .mov (.t 8)⟩, 
        ⟨some 16, none, .bin .add (.t 15) (.c (.p (.int .i64 1)))⟩, 
        ⟨some 8, none, .mov (.t 16)⟩] [0, 1, 2, 7, 8] []))))
def ir210 : IFn :=   -- slices.partialInsertionSortOrdered[int]
⟨(.seq (.reg false [⟨some 6, none, .mov (.c (.p (.bool false)))⟩] [0, 1, 2] [])
  (.seq (.reg false [⟨some 11, none, .mov (.t 1)⟩, 
    ⟨some 12, none, .bin .add (.t 11) (.c (.p (.int .i64 1)))⟩, 
    ⟨some 7, none, .mov (.t 12)⟩] [0, 1, 2, 7] [])
  (.seq (.seq (.reg false [⟨some 8, none, .mov (.c (.p (.int .i64 0)))⟩] [0, 1, 2, 7, 8] [])
  (.block 0 lp210_3))
  (.seq (.reg false [⟨some 6, none, .mov (.c (.p (.bool false)))⟩] [6] [])
  .ret)))),
  [.tmp 6], false⟩
def ir211 : IFn :=   -- cmp.Less[int]
⟨(.seq (.reg false [⟨some 4, none, .mov (.c (.p (.bool false)))⟩] [0, 1] [])
  (.seq (.reg false [⟨some 5, none, .mov (.t 0)⟩, 
    ⟨some 6, none, .call 245 [(.t 5)] false⟩, 
    ⟨some 7, none, .mov (.t 6)⟩, 
    ⟨some 8, (some (7, true)), .mov (.t 1)⟩, 
    ⟨some 9, (some (7, true)), .call 245 [(.t 8)] false⟩, 
    ⟨some 10, (some (7, true)), .un .not (.t 9)⟩, 
    ⟨some 11, none, .pick (.t 7) (.t 10) (.c (.p (.bool false)))⟩, 
    ⟨some 12, none, .mov (.t 11)⟩, 
    ⟨some 13, (some (12, false)), .mov (.t 0)⟩, 
    ⟨some 14, (some (12, false)), .mov (.t 1)⟩, 
    ⟨some 15, (some (12, false)), .bin .lss (.t 13) (.t 14)⟩, 
    ⟨some 16, none, .pick (.t 12) (.c (.p (.bool true))) (.t 15)⟩, 
    ⟨some 4, none, .mov (.t 16)⟩] [4] [])
  .ret)),
  [.tmp 4], false⟩
def lp212_0 : IC :=
  (.loop [0, 1, 9, 10] [] (.seq (.seq (.reg true [⟨some 29, none, .mov (.t 9)⟩, 
              ⟨some 30, none, .mov (.t 10)⟩, 
              ⟨some 31, none, .bin .leq (.t 29) (.t 30)⟩, 
              ⟨some 32, none, .mov (.t 31)⟩, 
              ⟨some 33, (some (32, true)), .mov (.t 0)⟩, 
              ⟨some 34, (some (32, true)), .mov (.t 1)⟩, 
              ⟨some 35, (some (32, true)), .ixs (.t 33) (.t 34) 1⟩, 
              ⟨some 36, (some (32, true)), .ld (.t 35) 1 false⟩, 
              ⟨some 37, (some (32, true)), .mov (.t 0)⟩, 
              ⟨some 38, (some (32, true)), .mov (.t 9)⟩, 
              ⟨some 39, (some (32, true)), .ixs (.t 37) (.t 38) 1⟩, 
              ⟨some 40, (some (32, true)), .ld (.t 39) 1 false⟩, 
              ⟨some 41, (some (32, true)), .call 211 [(.t 36), (.t 40)] true⟩, 
              ⟨some 42, (some (32, true)), .un .not (.t 41)⟩, 
              ⟨some 43, none, .pick (.t 32) (.t 42) (.c (.p (.bool false)))⟩] [0, 1, 9, 10, 43] [])
            (.cond (.t 43)
            .skip
            (.exit 2)))
            (.block 3 (.reg false [⟨some 44, none, .mov (.t 9)⟩, 
                ⟨some 45, none, .bin .add (.t 44) (.c (.p (.int .i64 1)))⟩, 
                ⟨some 9, none, .mov (.t 45)⟩] [0, 1, 9, 10] []))))
def lp212_1 : IC :=
  (.loop [0, 1, 9, 10] [] (.seq (.seq (.reg true [⟨some 46, none, .mov (.t 9)⟩, 
              ⟨some 47, none, .mov (.t 10)⟩, 
              ⟨some 48, none, .bin .leq (.t 46) (.t 47)⟩, 
              ⟨some 49, none, .mov (.t 48)⟩, 
              ⟨some 50, (some (49, true)), .mov (.t 0)⟩, 
              ⟨some 51, (some (49, true)), .mov (.t 1)⟩, 
              ⟨some 52, (some (49, true)), .ixs (.t 50) (.t 51) 1⟩, 
              ⟨some 53, (some (49, true)), .ld (.t 52) 1 false⟩, 
              ⟨some 54, (some (49, true)), .mov (.t 0)⟩, 
              ⟨some 55, (some (49, true)), .mov (.t 10)⟩, 
              ⟨some 56, (some (49, true)), .ixs (.t 54) (.t 55) 1⟩, 
              ⟨some 57, (some (49, true)), .ld (.t 56) 1 false⟩, 
              ⟨some 58, (some (49, true)), .call 211 [(.t 53), (.t 57)] true⟩, 
              ⟨some 59, none, .pick (.t 49) (.t 58) (.c (.p (.bool false)))⟩] [0, 1, 9, 10, 59] [])
            (.cond (.t 59)
            .skip
            (.exit 4)))
            (.block 5 (.reg false [⟨some 60, none, .mov (.t 10)⟩, 
                ⟨some 61, none, .bin .sub (.t 60) (.c (.p (.int .i64 1)))⟩, 
                ⟨some 10, none, .mov (.t 61)⟩] [0, 1, 9, 10] []))))
def lp212_2 : IC :=
  (.loop [0, 1, 9, 10] [] (.block 1 (.seq (.block 2 lp212_0)
        (.seq (.block 4 lp212_1)
        (.seq (.seq (.reg false [⟨some 62, none, .mov (.t 9)⟩, 
          ⟨some 63, none, .mov (.t 10)⟩, 
          ⟨some 64, none, .bin .gtr (.t 62) (.t 63)⟩] [0, 1, 9, 10, 64] [])
        (.cond (.t 64)
        (.exit 0)
        .skip))
        (.seq (.reg true [⟨some 65, none, .mov (.t 0)⟩, 
          ⟨some 66, none, .mov (.t 9)⟩, 
          ⟨some 67, none, .mov (.t 0)⟩, 
          ⟨some 68, none, .mov (.t 10)⟩, 
          ⟨some 69, none, .mov (.t 0)⟩, 
          ⟨some 70, none, .mov (.t 10)⟩, 
          ⟨some 71, none, .ixs (.t 69) (.t 70) 1⟩, 
          ⟨some 72, none, .ld (.t 71) 1 false⟩, 
          ⟨some 73, none, .mov (.t 0)⟩, 
          ⟨some 74, none, .mov (.t 9)⟩, 
          ⟨some 75, none, .ixs (.t 73) (.t 74) 1⟩, 
          ⟨some 76, none, .ld (.t 75) 1 false⟩, 
          ⟨some 77, none, .ixs (.t 65) (.t 66) 1⟩, 
          ⟨none, none, .st (.t 77) (.t 72) 1⟩, 
          ⟨some 78, none, .ixs (.t 67) (.t 68) 1⟩, 
          ⟨none, none, .st (.t 78) (.t 76) 1⟩] [0, 1, 9, 10] [])
        (.seq (.reg false [⟨some 79, none, .mov (.t 9)⟩, 
          ⟨some 80, none, .bin .add (.t 79) (.c (.p (.int .i64 1)))⟩, 
          ⟨some 9, none, .mov (.t 80)⟩] [0, 1, 9, 10] [])
        (.reg false [⟨some 81, none, .mov (.t 10)⟩, 
          ⟨some 82, none, .bin .sub (.t 81) (.c (.p (.int .i64 1)))⟩, 
          ⟨some 10, none, .mov (.t 82)⟩] [0, 1, 9, 10] []))))))))
def ir212 : IFn :=   -- slices.partitionEqualOrdered[int]
⟨(.seq (.reg false [⟨some 8, none, .mov (.c (.p (.int .i64 0)))⟩] [0, 1, 2, 3] [])
  (.seq (.reg true [⟨some 11, none, .mov (.t 0)⟩, 
    ⟨some 12, none, .mov (.t 1)⟩, 
    ⟨some 13, none, .mov (.t 0)⟩, 
    ⟨some 14, none, .mov (.t 3)⟩, 
    ⟨some 15, none, .mov (.t 0)⟩, 
    ⟨some 16, none, .mov (.t 3)⟩, 
    ⟨some 17, none, .ixs (.t 15) (.t 16) 1⟩, 
    ⟨some 18, none, .ld (.t 17) 1 false⟩, 
    ⟨some 19, none, .mov (.t 0)⟩, 
    ⟨some 20, none, .mov (.t 1)⟩, 
    ⟨some 21, none, .ixs (.t 19) (.t 20) 1⟩, 
    ⟨some 22, none, .ld (.t 21) 1 false⟩, 
    ⟨some 23, none, .ixs (.t 11) (.t 12) 1⟩, 
    ⟨none, none, .st (.t 23) (.t 18) 1⟩, 
    ⟨some 24, none, .ixs (.t 13) (.t 14) 1⟩, 
    ⟨none, none, .st (.t 24) (.t 22) 1⟩] [0, 1, 2] [])
  (.seq (.reg false [⟨some 25, none, .mov (.t 1)⟩, 
    ⟨some 26, none, .bin .add (.t 25) (.c (.p (.int .i64 1)))⟩, 
    ⟨some 27, none, .mov (.t 2)⟩, 
    ⟨some 28, none, .bin .sub (.t 27) (.c (.p (.int .i64 1)))⟩, 
    ⟨some 9, none, .mov (.t 26)⟩, 
    ⟨some 10, none, .mov (.t 28)⟩] [0, 1, 9, 10] [])
  (.seq (.block 0 lp212_2)
  (.seq (.reg false [⟨some 83, none, .mov (.t 9)⟩, 
    ⟨some 8, none, .mov (.t 83)⟩] [8] [])
  .ret))))),
  [.tmp 8], false⟩
def lp213_0 : IC :=
  (.loop [0, 1, 10, 11] [] (.seq (.seq (.reg true [⟨some 30, none, .mov (.t 10)⟩, 
        ⟨some 31, none, .mov (.t 11)⟩, 
        ⟨some 32, none, .bin .leq (.t 30) (.t 31)⟩, 
        ⟨some 33, none, .mov (.t 32)⟩, 
        ⟨some 34, (some (33, true)), .mov (.t 0)⟩, 
        ⟨some 35, (some (33, true)), .mov (.t 10)⟩, 
        ⟨some 36, (some (33, true)), .ixs (.t 34) (.t 35) 1⟩, 
        ⟨some 37, (some (33, true)), .ld (.t 36) 1 false⟩, 
        ⟨some 38, (some (33, true)), .mov (.t 0)⟩, 
        ⟨some 39, (some (33, true)), .mov (.t 1)⟩, 
        ⟨some 40, (some (33, true)), .ixs (.t 38) (.t 39) 1⟩, 
        ⟨some 41, (some (33, true)), .ld (.t 40) 1 false⟩, 
        ⟨some 42, (some (33, true)), .call 211 [(.t 37), (.t 41)] true⟩, 
        ⟨some 43, none, .pick (.t 33) (.t 42) (.c (.p (.bool false)))⟩] [0, 1, 10, 11, 43] [])
      (.cond (.t 43)
      .skip
      (.exit 0)))
      (.block 1 (.reg false [⟨some 44, none, .mov (.t 10)⟩, 
          ⟨some 45, none, .bin .add (.t 44) (.c (.p (.int .i64 1)))⟩, 
          ⟨some 10, none, .mov (.t 45)⟩] [0, 1, 10, 11] []))))
def lp213_1 : IC :=
  (.loop [0, 1, 10, 11] [] (.seq (.seq (.reg true [⟨some 46, none, .mov (.t 10)⟩, 
        ⟨some 47, none, .mov (.t 11)⟩, 
        ⟨some 48, none, .bin .leq (.t 46) (.t 47)⟩, 
        ⟨some 49, none, .mov (.t 48)⟩, 
        ⟨some 50, (some (49, true)), .mov (.t 0)⟩, 
        ⟨some 51, (some (49, true)), .mov (.t 11)⟩, 
        ⟨some 52, (some (49, true)), .ixs (.t 50) (.t 51) 1⟩, 
        ⟨some 53, (some (49, true)), .ld (.t 52) 1 false⟩, 
        ⟨some 54, (some (49, true)), .mov (.t 0)⟩, 
        ⟨some 55, (some (49, true)), .mov (.t 1)⟩, 
        ⟨some 56, (some (49, true)), .ixs (.t 54) (.t 55) 1⟩, 
        ⟨some 57, (some (49, true)), .ld (.t 56) 1 false⟩, 
        ⟨some 58, (some (49, true)), .call 211 [(.t 53), (.t 57)] true⟩, 
        ⟨some 59, (some (49, true)), .un .not (.t 58)⟩, 
        ⟨some 60, none, .pick (.t 49) (.t 59) (.c (.p (.bool false)))⟩] [0, 1, 10, 11, 60] [])
      (.cond (.t 60)
      .skip
      (.exit 2)))
      (.block 3 (.reg false [⟨some 61, none, .mov (.t 11)⟩, 
          ⟨some 62, none, .bin .sub (.t 61) (.c (.p (.int .i64 1)))⟩, 
          ⟨some 11, none, .mov (.t 62)⟩] [0, 1, 10, 11] []))))
def lp213_2 : IC :=
  (.loop [0, 1, 10, 11] [] (.seq (.seq (.reg true [⟨some 99, none, .mov (.t 10)⟩, 
              ⟨some 100, none, .mov (.t 11)⟩, 
              ⟨some 101, none, .bin .leq (.t 99) (.t 100)⟩, 
              ⟨some 102, none, .mov (.t 101)⟩, 
              ⟨some 103, (some (102, true)), .mov (.t 0)⟩, 
              ⟨some 104, (some (102, true)), .mov (.t 10)⟩, 
              ⟨some 105, (some (102, true)), .ixs (.t 103) (.t 104) 1⟩, 
              ⟨some 106, (some (102, true)), .ld (.t 105) 1 false⟩, 
              ⟨some 107, (some (102, true)), .mov (.t 0)⟩, 
              ⟨some 108, (some (102, true)), .mov (.t 1)⟩, 
              ⟨some 109, (some (102, true)), .ixs (.t 107) (.t 108) 1⟩, 
              ⟨some 110, (some (102, true)), .ld (.t 109) 1 false⟩, 
              ⟨some 111, (some (102, true)), .call 211 [(.t 106), (.t 110)] true⟩, 
              ⟨some 112, none, .pick (.t 102) (.t 111) (.c (.p (.bool false)))⟩] [0, 1, 10, 11, 112] [])
            (.cond (.t 112)
            .skip
            (.exit 6)))
            (.block 7 (.reg false [⟨some 113, none, .mov (.t 10)⟩, 
                ⟨some 114, none, .bin .add (.t 113) (.c (.p (.int .i64 1)))⟩, 
                ⟨some 10, none, .mov (.t 114)⟩] [0, 1, 10, 11] []))))
def lp213_3 : IC :=
  (.loop [0, 1, 10, 11] [] (.seq (.seq (.reg true [⟨some 115, none, .mov (.t 10)⟩, 
              ⟨some 116, none, .mov (.t 11)⟩, 
              ⟨some 117, none, .bin .leq (.t 115) (.t 116)⟩, 
              ⟨some 118, none, .mov (.t 117)⟩, 
              ⟨some 119, (some (118, true)), .mov (.t 0)⟩, 
              ⟨some 120, (some (118, true)), .mov (.t 11)⟩, 
              ⟨some 121, (some (118, true)), .ixs (.t 119) (.t 120) 1⟩, 
              ⟨some 122, (some (118, true)), .ld (.t 121) 1 false⟩, 
              ⟨some 123, (some (118, true)), .mov (.t 0)⟩, 
              ⟨some 124, (some (118, true)), .mov (.t 1)⟩, 
              ⟨some 125, (some (118, true)), .ixs (.t 123) (.t 124) 1⟩, 
              ⟨some 126, (some (118, true)), .ld (.t 125) 1 false⟩, 
              ⟨some 127, (some (118, true)), .call 211 [(.t 122), (.t 126)] true⟩, 
              ⟨some 128, (some (118, true)), .un .not (.t 127)⟩, 
              ⟨some 129, none, .pick (.t 118) (.t 128) (.c (.p (.bool false)))⟩] [0, 1, 10, 11, 129] [])
            (.cond (.t 129)
            .skip
            (.exit 8)))
            (.block 9 (.reg false [⟨some 130, none, .mov (.t 11)⟩, 
                ⟨some 131, none, .bin .sub (.t 130) (.c (.p (.int .i64 1)))⟩, 
                ⟨some 11, none, .mov (.t 131)⟩] [0, 1, 10, 11] []))))
def lp213_4 : IC :=
  (.loop [0, 1, 10, 11] [] (.block 5 (.seq (.block 6 lp213_2)
        (.seq (.block 8 lp213_3)
        (.seq (.seq (.reg false [⟨some 132, none, .mov (.t 10)⟩, 
          ⟨some 133, none, .mov (.t 11)⟩, 
          ⟨some 134, none, .bin .gtr (.t 132) (.t 133)⟩] [0, 1, 10, 11, 134] [])
        (.cond (.t 134)
        (.exit 4)
        .skip))
        (.seq (.reg true [⟨some 135, none, .mov (.t 0)⟩, 
          ⟨some 136, none, .mov (.t 10)⟩, 
          ⟨some 137, none, .mov (.t 0)⟩, 
          ⟨some 138, none, .mov (.t 11)⟩, 
          ⟨some 139, none, .mov (.t 0)⟩, 
          ⟨some 140, none, .mov (.t 11)⟩, 
          ⟨some 141, none, .ixs (.t 139) (.t 140) 1⟩, 
          ⟨some 142, none, .ld (.t 141) 1 false⟩, 
          ⟨some 143, none, .mov (.t 0)⟩, 
          ⟨some 144, none, .mov (.t 10)⟩, 
          ⟨some 145, none, .ixs (.t 143) (.t 144) 1⟩, 
          ⟨some 146, none, .ld (.t 145) 1 false⟩, 
          ⟨some 147, none, .ixs (.t 135) (.t 136) 1⟩, 
          ⟨none, none, .st (.t 147) (.t 142) 1⟩, 
          ⟨some 148, none, .ixs (.t 137) (.t 138) 1⟩, 
          ⟨none, none, .st (.t 148) (.t 146) 1⟩] [0, 1, 10, 11] [])
        (.seq (.reg false [⟨some 149, none, .mov (.t 10)⟩, 
          ⟨some 150, none, .bin .add (.t 149) (.c (.p (.int .i64 1)))⟩, 
          ⟨some 10, none, .mov (.t 150)⟩] [0, 1, 10, 11] [])
        (.reg false [⟨some 151, none, .mov (.t 11)⟩, 
          ⟨some 152, none, .bin .sub (.t 151) (.c (.p (.int .i64 1)))⟩, 
          ⟨some 11, none, .mov (.t 152)⟩] [0, 1, 10, 11] []))))))))
def ir213 : IFn :=   -- slices.partitionOrdered[int]
⟨(.seq (.reg false [⟨some 8, none, .mov (.c (.p (.int .i64 0)))⟩, 
    ⟨some 9, none, .mov (.c (.p (.bool false)))⟩] [0, 1, 2, 3] [])
  (.seq (.reg true [⟨some 12, none, .mov (.t 0)⟩, 
    ⟨some 13, none, .mov (.t 1)⟩, 
    ⟨some 14, none, .mov (.t 0)⟩, 
    ⟨some 15, none, .mov (.t 3)⟩, 
    ⟨some 16, none, .mov (.t 0)⟩, 
    ⟨some 17, none, .mov (.t 3)⟩, 
    ⟨some 18, none, .ixs (.t 16) (.t 17) 1⟩, 
    ⟨some 19, none, .ld (.t 18) 1 false⟩, 
    ⟨some 20, none, .mov (.t 0)⟩, 
    ⟨some 21, none, .mov (.t 1)⟩, 
    ⟨some 22, none, .ixs (.t 20) (.t 21) 1⟩, 
    ⟨some 23, none, .ld (.t 22) 1 false⟩, 
    ⟨some 24, none, .ixs (.t 12) (.t 13) 1⟩, 
    ⟨none, none, .st (.t 24) (.t 19) 1⟩, 
    ⟨some 25, none, .ixs (.t 14) (.t 15) 1⟩, 
    ⟨none, none, .st (.t 25) (.t 23) 1⟩] [0, 1, 2] [])
  (.seq (.reg false [⟨some 26, none, .mov (.t 1)⟩, 
    ⟨some 27, none, .bin .add (.t 26) (.c (.p (.int .i64 1)))⟩, 
    ⟨some 28, none, .mov (.t 2)⟩, 
    ⟨some 29, none, .bin .sub (.t 28) (.c (.p (.int .i64 1)))⟩, 
    ⟨some 10, none, .mov (.t 27)⟩, 
    ⟨some 11, none, .mov (.t 29)⟩] [0, 1, 10, 11] [])
  (.seq (.block 0 lp213_0)
  (.seq (.block 2 lp213_1)
  (.seq (.seq (.reg false [⟨some 63, none, .mov (.t 10)⟩, 
    ⟨some 64, none, .mov (.t 11)⟩, 
    ⟨some 65, none, .bin .gtr (.t 63) (.t 64)⟩] [0, 1, 10, 11, 65] [])
  (.cond (.t 65)
  (.seq (.reg true [⟨some 66, none, .mov (.t 0)⟩, 
      ⟨some 67, none, .mov (.t 11)⟩, 
      ⟨some 68, none, .mov (.t 0)⟩, 
      ⟨some 69, none, .mov (.t 1)⟩, 
      ⟨some 70, none, .mov (.t 0)⟩, 
      ⟨some 71, none, .mov (.t 1)⟩, 
      ⟨some 72, none, .ixs (.t 70) (.t 71) 1⟩, 
      ⟨some 73, none, .ld (.t 72) 1 false⟩, 
      ⟨some 74, none, .mov (.t 0)⟩, 
      ⟨some 75, none, .mov (.t 11)⟩, 
      ⟨some 76, none, .ixs (.t 74) (.t 75) 1⟩, 
      ⟨some 77, none, .ld (.t 76) 1 false⟩, 
      ⟨some 78, none, .ixs (.t 66) (.t 67) 1⟩, 
      ⟨none, none, .st (.t 78) (.t 73) 1⟩, 
      ⟨some 79, none, .ixs (.t 68) (.t 69) 1⟩, 
      ⟨none, none, .st (.t 79) (.t 77) 1⟩] [11] [])
    (.seq (.reg false [⟨some 80, none, .mov (.t 11)⟩, 
      ⟨some 8, none, .mov (.t 80)⟩, 
      ⟨some 9, none, .mov (.c (.p (.bool true)))⟩] [8, 9] [])
    .ret))
  .skip))
  (.seq (.reg true [⟨some 81, none, .mov (.t 0)⟩, 
    ⟨some 82, none, .mov (.t 10)⟩, 
    ⟨some 83, none, .mov (.t 0)⟩, 
    ⟨some 84, none, .mov (.t 11)⟩, 
    ⟨some 85, none, .mov (.t 0)⟩, 
    ⟨some 86, none, .mov (.t 11)⟩, 
    ⟨some 87, none, .ixs (.t 85) (.t 86) 1⟩, 
    ⟨some 88, none, .ld (.t 87) 1 false⟩, 
    ⟨some 89, none, .mov (.t 0)⟩, 
    ⟨some 90, none, .mov (.t 10)⟩, 
    ⟨some 91, none, .ixs (.t 89) (.t 90) 1⟩, 
    ⟨some 92, none, .ld (.t 91) 1 false⟩, 
    ⟨some 93, none, .ixs (.t 81) (.t 82) 1⟩, 
    ⟨none, none, .st (.t 93) (.t 88) 1⟩, 
    ⟨some 94, none, .ixs (.t 83) (.t 84) 1⟩, 
    ⟨none, none, .st (.t 94) (.t 92) 1⟩] [0, 1, 10, 11] [])
  (.seq (.reg false [⟨some 95, none, .mov (.t 10)⟩, 
    ⟨some 96, none, .bin .add (.t 95) (.c (.p (.int .i64 1)))⟩, 
    ⟨some 10, none, .mov (.t 96)⟩] [0, 1, 10, 11] [])
  (.seq (.reg false [⟨some 97, none, .mov (.t 11)⟩, 
    ⟨some 98, none, .bin .sub (.t 97) (.c (.p (.int .i64 1)))⟩, 
    ⟨some 11, none, .mov (.t 98)⟩] [0, 1, 10, 11] [])
  (.seq (.block 4 lp213_4)
  (.seq (.reg true [⟨some 153, none, .mov (.t 0)⟩, 
    ⟨some 154, none, .mov (.t 11)⟩, 
    ⟨some 155, none, .mov (.t 0)⟩, 
    ⟨some 156, none, .mov (.t 1)⟩, 
    ⟨some 157, none, .mov (.t 0)⟩, 
    ⟨some 158, none, .mov (.t 1)⟩, 
    ⟨some 159, none, .ixs (.t 157) (.t 158) 1⟩, 
    ⟨some 160, none, .ld (.t 159) 1 false⟩, 
    ⟨some 161, none, .mov (.t 0)⟩, 
    ⟨some 162, none, .mov (.t 11)⟩, 
    ⟨some 163, none, .ixs (.t 161) (.t 162) 1⟩, 
    ⟨some 164, none, .ld (.t 163) 1 false⟩, 
    ⟨some 165, none, .ixs (.t 153) (.t 154) 1⟩, 
    ⟨none, none, .st (.t 165) (.t 160) 1⟩, 
    ⟨some 166, none, .ixs (.t 155) (.t 156) 1⟩, 
    ⟨none, none, .st (.t 166) (.t 164) 1⟩] [11] [])
  (.seq (.reg false [⟨some 167, none, .mov (.t 11)⟩, 
    ⟨some 8, none, .mov (.t 167)⟩, 
    ⟨some 9, none, .mov (.c (.p (.bool false)))⟩] [8, 9] [])
  .ret)))))))))))),
  [.tmp 8, .tmp 9], false⟩
def ir216 : IFn :=   -- tympan/figure.High$1
⟨(.seq (.reg false [⟨some 2, none, .mov (.c (.p (.int .i64 0)))⟩] [0] [])
  (.seq (.reg false [⟨some 3, none, .mov (.t 0)⟩, 
    ⟨some 4, none, .mnmx true (.t 3) (.c (.p (.int .i64 0)))⟩, 
    ⟨some 5, none, .mnmx false (.t 4) (.c (.p (.int .i64 1125899906842624)))⟩, 
    ⟨some 2, none, .mov (.t 5)⟩] [2] [])
  .ret)),
  [.tmp 2], false⟩
def ir217 : IFn :=   -- tympan/figure.may
⟨(.seq (.reg false [⟨some 2, none, .bx (.t 0) 3 true⟩, 
    ⟨some 4, none, .mov (.c (.p (.bool false)))⟩] [1, 2] [2])
  (.seq (.reg false [⟨some 5, none, .mov (.t 1)⟩, 
    ⟨some 6, none, .off (.t 2) 2⟩, 
    ⟨some 7, none, .ld (.t 6) 1 false⟩, 
    ⟨some 8, none, .callv (.t 5) [(.t 7)] false⟩, 
    ⟨some 4, none, .mov (.t 8)⟩] [4] [])
  .ret)),
  [.tmp 4], false⟩
def ir218 : IFn :=   -- (tympan/figure.bits).top
⟨(.seq (.reg false [⟨some 2, none, .mov (.c (.p (.bool false)))⟩] [0] [])
  (.seq (.reg false [⟨some 3, none, .mov (.t 0)⟩, 
    ⟨some 4, none, .bin .and (.t 3) (.c (.p (.int .i64 1)))⟩, 
    ⟨some 5, none, .bin .neq (.t 4) (.c (.p (.int .i64 0)))⟩, 
    ⟨some 2, none, .mov (.t 5)⟩] [2] [])
  .ret)),
  [.tmp 2], false⟩
def ir219 : IFn :=   -- (tympan/figure.bits).bottom
⟨(.seq (.reg false [⟨some 2, none, .mov (.c (.p (.bool false)))⟩] [0] [])
  (.seq (.reg false [⟨some 3, none, .mov (.t 0)⟩, 
    ⟨some 4, none, .bin .and (.t 3) (.c (.p (.int .i64 2)))⟩, 
    ⟨some 5, none, .bin .neq (.t 4) (.c (.p (.int .i64 0)))⟩, 
    ⟨some 2, none, .mov (.t 5)⟩] [2] [])
  .ret)),
  [.tmp 2], false⟩
def lp220_0 : IC :=
  (.loop [1, 2, 7, 8, 9] [] (.seq (.reg false [⟨some 10, none, .bin .lss (.t 9) (.t 8)⟩] [1, 2, 7, 8, 9, 10] [])
      (.seq (.cond (.t 10)
      .skip
      (.exit 0))
      (.seq (.block 1 (.seq (.reg false [⟨some 11, none, .ixs (.t 7) (.t 9) 1⟩, 
          ⟨some 12, none, .ld (.t 11) 1 false⟩, 
          ⟨some 6, none, .mov (.t 12)⟩] [1, 2, 6, 7, 8, 9] [])
        (.seq (.reg false [⟨some 13, none, .mov (.t 6)⟩, 
          ⟨some 14, none, .ld (.t 1) 1 false⟩, 
          ⟨some 15, none, .bin .lss (.t 13) (.t 14)⟩, 
          ⟨some 16, none, .mov (.t 15)⟩, 
          ⟨some 17, (some (16, false)), .mov (.t 6)⟩, 
          ⟨some 18, (some (16, false)), .ld (.t 2) 1 false⟩, 
          ⟨some 19, (some (16, false)), .bin .gtr (.t 17) (.t 18)⟩, 
          ⟨some 20, none, .pick (.t 16) (.c (.p (.bool true))) (.t 19)⟩] [1, 2, 7, 8, 9, 20] [])
        (.cond (.t 20)
        (.seq (.reg false [⟨some 4, none, .mov (.c (.p (.bool false)))⟩] [4] [])
          .ret)
        .skip))))
      (.reg false [⟨some 21, none, .bin .add (.t 9) (.c (.p (.int .i64 1)))⟩, 
        ⟨some 9, none, .mov (.t 21)⟩] [1, 2, 7, 8, 9] [])))))
def ir220 : IFn :=   -- tympan/geom.within[int]$1
⟨(.seq (.reg false [⟨some 4, none, .mov (.c (.p (.bool false)))⟩] [0, 1, 2] [])
  (.seq (.seq (.reg false [⟨some 7, none, .mov (.t 0)⟩, 
    ⟨some 8, none, .len (.t 7)⟩, 
    ⟨some 9, none, .mov (.c (.p (.int .i64 0)))⟩] [1, 2, 7, 8, 9] [])
  (.block 0 lp220_0))
  (.seq (.reg false [⟨some 4, none, .mov (.c (.p (.bool true)))⟩] [4] [])
  .ret))),
  [.tmp 4], false⟩
def lp221_0 : IC :=
  (.loop [1, 2, 7, 8, 9] [] (.seq (.reg false [⟨some 10, none, .bin .lss (.t 9) (.t 8)⟩] [1, 2, 7, 8, 9, 10] [])
      (.seq (.cond (.t 10)
      .skip
      (.exit 0))
      (.seq (.block 1 (.seq (.reg false [⟨some 11, none, .ixs (.t 7) (.t 9) 1⟩, 
          ⟨some 12, none, .ld (.t 11) 1 false⟩, 
          ⟨some 6, none, .mov (.t 12)⟩] [1, 2, 6, 7, 8, 9] [])
        (.seq (.reg false [⟨some 13, none, .mov (.t 6)⟩, 
          ⟨some 14, none, .ld (.t 1) 1 false⟩, 
          ⟨some 15, none, .bin .lss (.t 13) (.t 14)⟩, 
          ⟨some 16, none, .mov (.t 15)⟩, 
          ⟨some 17, (some (16, false)), .mov (.t 6)⟩, 
          ⟨some 18, (some (16, false)), .ld (.t 2) 1 false⟩, 
          ⟨some 19, (some (16, false)), .bin .gtr (.t 17) (.t 18)⟩, 
          ⟨some 20, none, .pick (.t 16) (.c (.p (.bool true))) (.t 19)⟩] [1, 2, 7, 8, 9, 20] [])
        (.cond (.t 20)
        (.seq (.reg false [⟨some 4, none, .mov (.c (.p (.bool false)))⟩] [4] [])
          .ret)
        .skip))))
      (.reg false [⟨some 21, none, .bin .add (.t 9) (.c (.p (.int .i64 1)))⟩, 
        ⟨some 9, none, .mov (.t 21)⟩] [1, 2, 7, 8, 9] [])))))
def ir221 : IFn :=   -- tympan/geom.within[tympan/api.Sp]$1
⟨(.seq (.reg false [⟨some 4, none, .mov (.c (.p (.bool false)))⟩] [0, 1, 2] [])
  (.seq (.seq (.reg false [⟨some 7, none, .mov (.t 0)⟩, 
    ⟨some 8, none, .len (.t 7)⟩, 
    ⟨some 9, none, .mov (.c (.p (.int .i64 0)))⟩] [1, 2, 7, 8, 9] [])
  (.block 0 lp221_0))
  (.seq (.reg false [⟨some 4, none, .mov (.c (.p (.bool true)))⟩] [4] [])
  .ret))),
  [.tmp 4], false⟩
def ir222 : IFn :=   -- tympan/item.forms$1
⟨(.seq (.reg false [⟨some 1, none, .bx (.t 0) 1 false⟩, 
    ⟨some 2, none, .mov (.c (.p .nilf))⟩] [1] [])
  (.seq (.reg false [⟨some 3, none, .mkf (.func 223) [] [(.t 1)]⟩, 
    ⟨some 2, none, .mov (.t 3)⟩] [2] [])
  .ret)),
  [.tmp 2], false⟩
def ir223 : IFn :=   -- tympan/item.forms$1$1
⟨(.seq (.reg false [⟨some 2, none, .bx (.t 0) 7 true⟩, 
    ⟨some 3, none, .al [.p (.int .i64 0), .p (.int .i64 0), .p (.int .i64 0), .p (.int .i64 0), .p (.int .i64 0), .p (.int .i64 0), .p (.int .i64 0)] true⟩] [1, 2, 3] [2, 3])
  (.seq (.reg false [⟨some 4, none, .ld (.t 1) 1 false⟩, 
    ⟨some 5, none, .off (.t 2) 6⟩, 
    ⟨some 6, none, .ld (.t 5) 1 false⟩, 
    ⟨some 7, none, .callv (.t 4) [(.t 6)] false⟩, 
    ⟨none, none, .st (.t 3) (.t 7) 7⟩] [3] [3])
  .ret)),
  [.cell 3 7 true], false⟩
def ir224 : IFn :=   -- tympan/item.forms$2
⟨(.seq (.reg false [⟨some 1, none, .bx (.t 0) 7 true⟩, 
    ⟨some 2, none, .al [.p (.int .i64 0), .p (.int .i64 0), .p (.int .i64 0), .p (.int .i64 0), .p (.int .i64 0), .p (.int .i64 0), .p (.int .i64 0)] true⟩] [1, 2] [1, 2])
  (.seq (.reg false [⟨some 3, none, .off (.t 1) 1⟩, 
    ⟨some 4, none, .ld (.t 3) 1 false⟩, 
    ⟨some 5, none, .off (.t 1) 2⟩, 
    ⟨some 6, none, .ld (.t 5) 1 false⟩, 
    ⟨some 7, none, .call 225 [(.t 4), (.t 6)] false⟩, 
    ⟨none, none, .st (.t 2) (.t 7) 7⟩] [2] [2])
  .ret)),
  [.cell 2 7 true], false⟩
def ir225 : IFn :=   -- tympan/item.Box
⟨(.seq (.reg false [⟨some 4, none, .al [.p (.int .i64 0), .p (.int .i64 0), .p (.int .i64 0), .p (.int .i64 0), .p (.int .i64 0), .p (.int .i64 0), .p (.int .i64 0)] true⟩] [0, 1, 4] [4])
  (.seq (.reg false [⟨some 5, none, .mov (.t 0)⟩, 
    ⟨some 6, none, .mov (.t 1)⟩, 
    ⟨some 7, none, .bld [.p (.int .i64 0), .p (.int .i64 0), .p (.int .i64 0), .p (.int .i64 0), .p (.int .i64 0), .p (.int .i64 0), .p (.int .i64 0)] [(0, 1, (.c (.p (.int .i64 1)))), (1, 1, (.t 5)), (2, 1, (.t 6))]⟩, 
    ⟨none, none, .st (.t 4) (.t 7) 7⟩] [4] [4])
  .ret)),
  [.cell 4 7 true], false⟩
def ir226 : IFn :=   -- tympan/item.forms$3
⟨(.seq (.reg false [⟨some 1, none, .bx (.t 0) 7 true⟩, 
    ⟨some 2, none, .al [.p (.int .i64 0), .p (.int .i64 0), .p (.int .i64 0), .p (.int .i64 0), .p (.int .i64 0), .p (.int .i64 0), .p (.int .i64 0)] true⟩] [1, 2] [1, 2])
  (.seq (.reg false [⟨some 3, none, .off (.t 1) 1⟩, 
    ⟨some 4, none, .ld (.t 3) 1 false⟩, 
    ⟨some 5, none, .off (.t 1) 3⟩, 
    ⟨some 6, none, .ld (.t 5) 1 false⟩, 
    ⟨some 7, none, .off (.t 1) 4⟩, 
    ⟨some 8, none, .ld (.t 7) 1 false⟩, 
    ⟨some 9, none, .off (.t 1) 5⟩, 
    ⟨some 10, none, .ld (.t 9) 1 false⟩, 
    ⟨some 11, none, .call 227 [(.t 4), (.t 6), (.t 8), (.t 10)] false⟩, 
    ⟨none, none, .st (.t 2) (.t 11) 7⟩] [2] [2])
  .ret)),
  [.cell 2 7 true], false⟩
def ir227 : IFn :=   -- tympan/item.Glue
⟨(.seq (.reg false [⟨some 8, none, .al [.p (.int .i64 0), .p (.int .i64 0), .p (.int .i64 0), .p (.int .i64 0), .p (.int .i64 0), .p (.int .i64 0), .p (.int .i64 0)] true⟩] [0, 1, 2, 3, 8] [8])
  (.seq (.reg false [⟨some 9, none, .mov (.t 0)⟩, 
    ⟨some 10, none, .mov (.t 1)⟩, 
    ⟨some 11, none, .mov (.t 2)⟩, 
    ⟨some 12, none, .mov (.t 3)⟩, 
    ⟨some 13, none, .bld [.p (.int .i64 0), .p (.int .i64 0), .p (.int .i64 0), .p (.int .i64 0), .p (.int .i64 0), .p (.int .i64 0), .p (.int .i64 0)] [(0, 1, (.c (.p (.int .i64 2)))), (1, 1, (.t 9)), (3, 1, (.t 10)), (4, 1, (.t 11)), (5, 1, (.t 12))]⟩, 
    ⟨none, none, .st (.t 8) (.t 13) 7⟩] [8] [8])
  .ret)),
  [.cell 8 7 true], false⟩
def ir228 : IFn :=   -- tympan/item.Pen
⟨(.seq (.reg false [⟨some 2, none, .al [.p (.int .i64 0), .p (.int .i64 0), .p (.int .i64 0), .p (.int .i64 0), .p (.int .i64 0), .p (.int .i64 0), .p (.int .i64 0)] true⟩] [0, 2] [2])
  (.seq (.reg false [⟨some 3, none, .mov (.t 0)⟩, 
    ⟨some 4, none, .bld [.p (.int .i64 0), .p (.int .i64 0), .p (.int .i64 0), .p (.int .i64 0), .p (.int .i64 0), .p (.int .i64 0), .p (.int .i64 0)] [(0, 1, (.c (.p (.int .i64 3)))), (6, 1, (.t 3))]⟩, 
    ⟨none, none, .st (.t 2) (.t 4) 7⟩] [2] [2])
  .ret)),
  [.cell 2 7 true], false⟩
def ir229 : IFn :=   -- tympan/item.forms$4
⟨(.seq (.reg false [⟨some 2, none, .mov (.c (.p (.bool false)))⟩] [0] [])
  (.seq (.reg false [⟨some 3, none, .mov (.t 0)⟩, 
    ⟨some 4, none, .bin .eql (.t 3) (.c (.p (.int .i64 (-10000))))⟩, 
    ⟨some 5, none, .mov (.t 4)⟩, 
    ⟨some 6, (some (5, false)), .call 188 [(.c (.p (.int .i64 10000)))] false⟩, 
    ⟨some 7, (some (5, false)), .mov (.t 0)⟩, 
    ⟨some 8, (some (5, false)), .callv (.t 6) [(.t 7)] false⟩, 
    ⟨some 9, none, .pick (.t 5) (.c (.p (.bool true))) (.t 8)⟩, 
    ⟨some 2, none, .mov (.t 9)⟩] [2] [])
  .ret)),
  [.tmp 2], false⟩
def ir230 : IFn :=   -- tympan/item.Mark
⟨(.seq (.reg false [⟨some 2, none, .al [.p (.int .i64 0), .p (.int .i64 0), .p (.int .i64 0), .p (.int .i64 0), .p (.int .i64 0), .p (.int .i64 0), .p (.int .i64 0)] true⟩] [0, 2] [2])
  (.seq (.reg false [⟨some 3, none, .mov (.t 0)⟩, 
    ⟨some 4, none, .bld [.p (.int .i64 0), .p (.int .i64 0), .p (.int .i64 0), .p (.int .i64 0), .p (.int .i64 0), .p (.int .i64 0), .p (.int .i64 0)] [(0, 1, (.c (.p (.int .i64 4)))), (6, 1, (.t 3))]⟩, 
    ⟨none, none, .st (.t 2) (.t 4) 7⟩] [2] [2])
  .ret)),
  [.cell 2 7 true], false⟩
def ir231 : IFn :=   -- tympan/item.Note
⟨(.seq (.reg false [⟨some 2, none, .al [.p (.int .i64 0), .p (.int .i64 0), .p (.int .i64 0), .p (.int .i64 0), .p (.int .i64 0), .p (.int .i64 0), .p (.int .i64 0)] true⟩] [0, 2] [2])
  (.seq (.reg false [⟨some 3, none, .mov (.t 0)⟩, 
    ⟨some 4, none, .bld [.p (.int .i64 0), .p (.int .i64 0), .p (.int .i64 0), .p (.int .i64 0), .p (.int .i64 0), .p (.int .i64 0), .p (.int .i64 0)] [(0, 1, (.c (.p (.int .i64 5)))), (6, 1, (.t 3))]⟩, 
    ⟨none, none, .st (.t 2) (.t 4) 7⟩] [2] [2])
  .ret)),
  [.cell 2 7 true], false⟩
def ir232 : IFn :=   -- tympan/item.Float
⟨(.seq (.reg false [⟨some 2, none, .al [.p (.int .i64 0), .p (.int .i64 0), .p (.int .i64 0), .p (.int .i64 0), .p (.int .i64 0), .p (.int .i64 0), .p (.int .i64 0)] true⟩] [0, 2] [2])
  (.seq (.reg false [⟨some 3, none, .mov (.t 0)⟩, 
    ⟨some 4, none, .bld [.p (.int .i64 0), .p (.int .i64 0), .p (.int .i64 0), .p (.int .i64 0), .p (.int .i64 0), .p (.int .i64 0), .p (.int .i64 0)] [(0, 1, (.c (.p (.int .i64 6)))), (6, 1, (.t 3))]⟩, 
    ⟨none, none, .st (.t 2) (.t 4) 7⟩] [2] [2])
  .ret)),
  [.cell 2 7 true], false⟩
def ir233 : IFn :=   -- tympan/item.forms$5
⟨(.seq (.reg false [⟨some 1, none, .bx (.t 0) 7 true⟩, 
    ⟨some 2, none, .al [.p (.int .i64 0), .p (.int .i64 0), .p (.int .i64 0), .p (.int .i64 0), .p (.int .i64 0), .p (.int .i64 0), .p (.int .i64 0)] true⟩] [2] [2])
  (.seq (.reg false [⟨some 3, none, .call 234 [] false⟩, 
    ⟨none, none, .st (.t 2) (.t 3) 7⟩] [2] [2])
  .ret)),
  [.cell 2 7 true], false⟩
def ir234 : IFn :=   -- tympan/item.Barrier
⟨(.seq (.reg false [⟨some 0, none, .al [.p (.int .i64 0), .p (.int .i64 0), .p (.int .i64 0), .p (.int .i64 0), .p (.int .i64 0), .p (.int .i64 0), .p (.int .i64 0)] true⟩] [0] [0])
  (.seq (.reg false [⟨some 1, none, .bld [.p (.int .i64 0), .p (.int .i64 0), .p (.int .i64 0), .p (.int .i64 0), .p (.int .i64 0), .p (.int .i64 0), .p (.int .i64 0)] [(0, 1, (.c (.p (.int .i64 7))))]⟩, 
    ⟨none, none, .st (.t 0) (.t 1) 7⟩] [0] [0])
  .ret)),
  [.cell 0 7 true], false⟩
def ir235 : IFn :=   -- tympan/item.upTo$1
⟨(.seq (.reg false [⟨some 3, none, .mov (.c (.p (.bool false)))⟩] [0, 1] [])
  (.seq (.reg false [⟨some 4, none, .mov (.t 0)⟩, 
    ⟨some 5, none, .bin .geq (.t 4) (.c (.p (.int .i64 0)))⟩, 
    ⟨some 6, none, .mov (.t 5)⟩, 
    ⟨some 7, (some (6, true)), .mov (.t 0)⟩, 
    ⟨some 8, (some (6, true)), .ld (.t 1) 1 false⟩, 
    ⟨some 9, (some (6, true)), .bin .leq (.t 7) (.t 8)⟩, 
    ⟨some 10, none, .pick (.t 6) (.t 9) (.c (.p (.bool false)))⟩, 
    ⟨some 3, none, .mov (.t 10)⟩] [3] [])
  .ret)),
  [.tmp 3], false⟩
def ir236 : IFn :=   -- tympan/item.long$1
⟨(.seq (.reg false [⟨some 2, none, .mov (.c (.p (.bool false)))⟩] [0] [])
  (.seq (.reg false [⟨some 3, none, .mov (.t 0)⟩, 
    ⟨some 4, none, .bin .lss (.t 3) (.c (.p (.int .i64 0)))⟩, 
    ⟨some 5, none, .mov (.t 4)⟩, 
    ⟨some 6, (some (5, false)), .mov (.t 0)⟩, 
    ⟨some 7, (some (5, false)), .bin .gtr (.t 6) (.c (.p (.int .i64 1073741823)))⟩, 
    ⟨some 8, none, .pick (.t 5) (.c (.p (.bool true))) (.t 7)⟩, 
    ⟨some 2, none, .mov (.t 8)⟩] [2] [])
  .ret)),
  [.tmp 2], false⟩
def ir237 : IFn :=   -- tympan/geom.X
⟨(.seq (.reg false [⟨some 2, none, .bx (.t 0) 19 true⟩, 
    ⟨some 4, none, .mov (.c (.p (.int .i64 0)))⟩] [1, 2] [2])
  (.seq (.reg false [⟨some 8, none, .ld (.t 2) 19 true⟩, 
    ⟨some 9, none, .mov (.t 1)⟩, 
    ⟨some 10, none, .call 246 [(.t 8), (.t 9)] false⟩, 
    ⟨some 7, none, .mov (.t 10)⟩, 
    ⟨some 11, none, .ext (.t 7) 0⟩, 
    ⟨some 12, none, .ext (.t 7) 1⟩, 
    ⟨some 5, none, .mov (.t 11)⟩, 
    ⟨some 6, none, .mov (.t 12)⟩] [2, 6] [2])
  (.seq (.reg false [⟨some 13, none, .mov (.t 6)⟩, 
    ⟨some 14, none, .off (.t 2) 1⟩, 
    ⟨some 15, none, .ld (.t 14) 1 false⟩, 
    ⟨some 16, none, .off (.t 2) 2⟩, 
    ⟨some 17, none, .ld (.t 16) 1 false⟩, 
    ⟨some 18, none, .bin .add (.t 15) (.t 17)⟩, 
    ⟨some 19, none, .bin .mul (.t 13) (.t 18)⟩, 
    ⟨some 4, none, .mov (.t 19)⟩] [4] [])
  .ret))),
  [.tmp 4], false⟩
def ir239 : IFn :=   -- (tympan/check.asked).all
⟨(.seq (.reg false [⟨some 2, none, .bx (.t 0) 23 false⟩, 
    ⟨some 3, none, .bx (.t 1) 1 false⟩, 
    ⟨some 4, none, .mov (.c (.p .nilf))⟩] [2, 3] [])
  (.seq (.reg false [⟨some 5, none, .mkf (.func 247) [] [(.t 2), (.t 3)]⟩, 
    ⟨some 4, none, .mov (.t 5)⟩] [4] [])
  .ret)),
  [.tmp 4], false⟩
def lp240_0 : IC :=
  (.loop [0, 2, 3, 8] [] (.block 1 (.seq (.reg false [⟨some 11, none, .mov (.t 8)⟩, 
          ⟨some 12, none, .bin .mul (.c (.p (.int .i64 2))) (.t 11)⟩, 
          ⟨some 13, none, .bin .add (.t 12) (.c (.p (.int .i64 1)))⟩, 
          ⟨some 9, none, .mov (.t 13)⟩] [0, 2, 3, 8, 9] [])
        (.seq (.seq (.reg false [⟨some 14, none, .mov (.t 9)⟩, 
          ⟨some 15, none, .mov (.t 2)⟩, 
          ⟨some 16, none, .bin .geq (.t 14) (.t 15)⟩] [0, 2, 3, 8, 9, 16] [])
        (.cond (.t 16)
        (.exit 0)
        .skip))
        (.seq (.seq (.reg true [⟨some 17, none, .mov (.t 9)⟩, 
          ⟨some 18, none, .bin .add (.t 17) (.c (.p (.int .i64 1)))⟩, 
          ⟨some 19, none, .mov (.t 2)⟩, 
          ⟨some 20, none, .bin .lss (.t 18) (.t 19)⟩, 
          ⟨some 21, none, .mov (.t 20)⟩, 
          ⟨some 22, (some (21, true)), .mov (.t 0)⟩, 
          ⟨some 23, (some (21, true)), .mov (.t 3)⟩, 
          ⟨some 24, (some (21, true)), .mov (.t 9)⟩, 
          ⟨some 25, (some (21, true)), .bin .add (.t 23) (.t 24)⟩, 
          ⟨some 26, (some (21, true)), .ixs (.t 22) (.t 25) 1⟩, 
          ⟨some 27, (some (21, true)), .ld (.t 26) 1 false⟩, 
          ⟨some 28, (some (21, true)), .mov (.t 0)⟩, 
          ⟨some 29, (some (21, true)), .mov (.t 3)⟩, 
          ⟨some 30, (some (21, true)), .mov (.t 9)⟩, 
          ⟨some 31, (some (21, true)), .bin .add (.t 29) (.t 30)⟩, 
          ⟨some 32, (some (21, true)), .bin .add (.t 31) (.c (.p (.int .i64 1)))⟩, 
          ⟨some 33, (some (21, true)), .ixs (.t 28) (.t 32) 1⟩, 
          ⟨some 34, (some (21, true)), .ld (.t 33) 1 false⟩, 
          ⟨some 35, (some (21, true)), .call 211 [(.t 27), (.t 34)] true⟩, 
          ⟨some 36, none, .pick (.t 21) (.t 35) (.c (.p (.bool false)))⟩] [0, 2, 3, 8, 9, 36] [])
        (.cond (.t 36)
        (.reg false [⟨some 37, none, .mov (.t 9)⟩, 
            ⟨some 38, none, .bin .add (.t 37) (.c (.p (.int .i64 1)))⟩, 
            ⟨some 9, none, .mov (.t 38)⟩] [0, 2, 3, 8, 9] [])
        .skip))
        (.seq (.seq (.reg true [⟨some 39, none, .mov (.t 0)⟩, 
          ⟨some 40, none, .mov (.t 3)⟩, 
          ⟨some 41, none, .mov (.t 8)⟩, 
          ⟨some 42, none, .bin .add (.t 40) (.t 41)⟩, 
          ⟨some 43, none, .ixs (.t 39) (.t 42) 1⟩, 
          ⟨some 44, none, .ld (.t 43) 1 false⟩, 
          ⟨some 45, none, .mov (.t 0)⟩, 
          ⟨some 46, none, .mov (.t 3)⟩, 
          ⟨some 47, none, .mov (.t 9)⟩, 
          ⟨some 48, none, .bin .add (.t 46) (.t 47)⟩, 
          ⟨some 49, none, .ixs (.t 45) (.t 48) 1⟩, 
          ⟨some 50, none, .ld (.t 49) 1 false⟩, 
          ⟨some 51, none, .call 211 [(.t 44), (.t 50)] true⟩, 
          ⟨some 52, none, .un .not (.t 51)⟩] [0, 2, 3, 8, 9, 52] [])
        (.cond (.t 52)
        .ret
        .skip))
        (.seq (.reg true [⟨some 53, none, .mov (.t 0)⟩, 
          ⟨some 54, none, .mov (.t 3)⟩, 
          ⟨some 55, none, .mov (.t 8)⟩, 
          ⟨some 56, none, .bin .add (.t 54) (.t 55)⟩, 
          ⟨some 57, none, .mov (.t 0)⟩, 
          ⟨some 58, none, .mov (.t 3)⟩, 
          ⟨some 59, none, .mov (.t 9)⟩, 
          ⟨some 60, none, .bin .add (.t 58) (.t 59)⟩, 
          ⟨some 61, none, .mov (.t 0)⟩, 
          ⟨some 62, none, .mov (.t 3)⟩, 
          ⟨some 63, none, .mov (.t 9)⟩, 
          ⟨some 64, none, .bin .add (.t 62) (.t 63)⟩, 
          ⟨some 65, none, .ixs (.t 61) (.t 64) 1⟩, 
          ⟨some 66, none, .ld (.t 65) 1 false⟩, 
          ⟨some 67, none, .mov (.t 0)⟩, 
          ⟨some 68, none, .mov (.t 3)⟩, 
          ⟨some 69, none, .mov (.t 8)⟩, 
          ⟨some 70, none, .bin .add (.t 68) (.t 69)⟩, 
          ⟨some 71, none, .ixs (.t 67) (.t 70) 1⟩, 
          ⟨some 72, none, .ld (.t 71) 1 false⟩, 
          ⟨some 73, none, .ixs (.t 53) (.t 56) 1⟩, 
          ⟨none, none, .st (.t 73) (.t 66) 1⟩, 
          ⟨some 74, none, .ixs (.t 57) (.t 60) 1⟩, 
          ⟨none, none, .st (.t 74) (.t 72) 1⟩] [0, 2, 3, 9] [])
        (.reg false [⟨some 75, none, .mov (.t 9)⟩, 
          ⟨some 8, none, .mov (.t 75)⟩] [0, 2, 3, 8] []))))))))
def ir240 : IFn :=   -- slices.siftDownOrdered[int]
⟨(.seq (.reg false [⟨some 10, none, .mov (.t 1)⟩, 
    ⟨some 8, none, .mov (.t 10)⟩] [0, 2, 3, 8] [])
  (.block 0 lp240_0)),
  [], false⟩
def ir241 : IFn :=   -- slices.nextPowerOfTwo
⟨(.seq (.reg false [⟨some 2, none, .mov (.c (.p (.int .u64 0)))⟩] [0] [])
  (.seq (.reg false [⟨some 3, none, .mov (.t 0)⟩, 
    ⟨some 4, none, .conv .u64 (.t 3)⟩, 
    ⟨some 5, none, .call 169 [(.t 4)] false⟩, 
    ⟨some 6, none, .bin .shl (.c (.p (.int .u64 1))) (.t 5)⟩, 
    ⟨some 2, none, .mov (.t 6)⟩] [2] [])
  .ret)),
  [.tmp 2], false⟩
def ir242 : IFn :=   -- (*slices.xorshift).Next
⟨(.seq (.reg false [⟨some 2, none, .mov (.c (.p (.int .u64 0)))⟩] [0] [])
  (.seq (.reg true [⟨some 3, none, .mov (.t 0)⟩, 
    ⟨some 4, none, .nck (.t 3)⟩, 
    ⟨some 5, none, .ld (.t 4) 1 false⟩, 
    ⟨some 6, none, .mov (.t 0)⟩, 
    ⟨some 7, none, .nck (.t 6)⟩, 
    ⟨some 8, none, .ld (.t 7) 1 false⟩, 
    ⟨some 9, none, .bin .shl (.t 8) (.c (.p (.int .u64 13)))⟩, 
    ⟨some 10, none, .bin .xor (.t 5) (.t 9)⟩, 
    ⟨some 11, none, .nck (.t 3)⟩, 
    ⟨none, none, .st (.t 11) (.t 10) 1⟩] [0] [])
  (.seq (.reg true [⟨some 12, none, .mov (.t 0)⟩, 
    ⟨some 13, none, .nck (.t 12)⟩, 
    ⟨some 14, none, .ld (.t 13) 1 false⟩, 
    ⟨some 15, none, .mov (.t 0)⟩, 
    ⟨some 16, none, .nck (.t 15)⟩, 
    ⟨some 17, none, .ld (.t 16) 1 false⟩, 
    ⟨some 18, none, .bin .shr (.t 17) (.c (.p (.int .u64 7)))⟩, 
    ⟨some 19, none, .bin .xor (.t 14) (.t 18)⟩, 
    ⟨some 20, none, .nck (.t 12)⟩, 
    ⟨none, none, .st (.t 20) (.t 19) 1⟩] [0] [])
  (.seq (.reg true [⟨some 21, none, .mov (.t 0)⟩, 
    ⟨some 22, none, .nck (.t 21)⟩, 
    ⟨some 23, none, .ld (.t 22) 1 false⟩, 
    ⟨some 24, none, .mov (.t 0)⟩, 
    ⟨some 25, none, .nck (.t 24)⟩, 
    ⟨some 26, none, .ld (.t 25) 1 false⟩, 
    ⟨some 27, none, .bin .shl (.t 26) (.c (.p (.int .u64 17)))⟩, 
    ⟨some 28, none, .bin .xor (.t 23) (.t 27)⟩, 
    ⟨some 29, none, .nck (.t 21)⟩, 
    ⟨none, none, .st (.t 29) (.t 28) 1⟩] [0] [])
  (.seq (.reg false [⟨some 30, none, .mov (.t 0)⟩, 
    ⟨some 31, none, .nck (.t 30)⟩, 
    ⟨some 32, none, .ld (.t 31) 1 false⟩, 
    ⟨some 2, none, .mov (.t 32)⟩] [2] [])
  .ret))))),
  [.tmp 2], false⟩
def ir243 : IFn :=   -- slices.medianAdjacentOrdered[int]
⟨(.seq (.reg false [⟨some 6, none, .mov (.c (.p (.int .i64 0)))⟩] [0, 1, 2] [])
  (.seq (.reg false [⟨some 7, none, .mov (.t 0)⟩, 
    ⟨some 8, none, .mov (.t 1)⟩, 
    ⟨some 9, none, .bin .sub (.t 8) (.c (.p (.int .i64 1)))⟩, 
    ⟨some 10, none, .mov (.t 1)⟩, 
    ⟨some 11, none, .mov (.t 1)⟩, 
    ⟨some 12, none, .bin .add (.t 11) (.c (.p (.int .i64 1)))⟩, 
    ⟨some 13, none, .mov (.t 2)⟩, 
    ⟨some 14, none, .call 244 [(.t 7), (.t 9), (.t 10), (.t 12), (.t 13)] false⟩, 
    ⟨some 6, none, .mov (.t 14)⟩] [6] [])
  .ret)),
  [.tmp 6], false⟩
def ir244 : IFn :=   -- slices.medianOrdered[int]
⟨(.seq (.reg false [⟨some 10, none, .mov (.c (.p (.int .i64 0)))⟩] [0, 1, 2, 3, 4] [])
  (.seq (.reg false [⟨some 12, none, .mov (.t 0)⟩, 
    ⟨some 13, none, .mov (.t 1)⟩, 
    ⟨some 14, none, .mov (.t 2)⟩, 
    ⟨some 15, none, .mov (.t 4)⟩, 
    ⟨some 16, none, .call 248 [(.t 12), (.t 13), (.t 14), (.t 15)] false⟩, 
    ⟨some 11, none, .mov (.t 16)⟩, 
    ⟨some 17, none, .ext (.t 11) 0⟩, 
    ⟨some 18, none, .ext (.t 11) 1⟩, 
    ⟨some 1, none, .mov (.t 17)⟩, 
    ⟨some 2, none, .mov (.t 18)⟩] [0, 1, 2, 3, 4] [])
  (.seq (.reg false [⟨some 20, none, .mov (.t 0)⟩, 
    ⟨some 21, none, .mov (.t 2)⟩, 
    ⟨some 22, none, .mov (.t 3)⟩, 
    ⟨some 23, none, .mov (.t 4)⟩, 
    ⟨some 24, none, .call 248 [(.t 20), (.t 21), (.t 22), (.t 23)] false⟩, 
    ⟨some 19, none, .mov (.t 24)⟩, 
    ⟨some 25, none, .ext (.t 19) 0⟩, 
    ⟨some 26, none, .ext (.t 19) 1⟩, 
    ⟨some 2, none, .mov (.t 25)⟩, 
    ⟨some 3, none, .mov (.t 26)⟩] [0, 1, 2, 4] [])
  (.seq (.reg false [⟨some 28, none, .mov (.t 0)⟩, 
    ⟨some 29, none, .mov (.t 1)⟩, 
    ⟨some 30, none, .mov (.t 2)⟩, 
    ⟨some 31, none, .mov (.t 4)⟩, 
    ⟨some 32, none, .call 248 [(.t 28), (.t 29), (.t 30), (.t 31)] false⟩, 
    ⟨some 27, none, .mov (.t 32)⟩, 
    ⟨some 33, none, .ext (.t 27) 0⟩, 
    ⟨some 34, none, .ext (.t 27) 1⟩, 
    ⟨some 1, none, .mov (.t 33)⟩, 
    ⟨some 2, none, .mov (.t 34)⟩] [2] [])
  (.seq (.reg false [⟨some 35, none, .mov (.t 2)⟩, 
    ⟨some 10, none, .mov (.t 35)⟩] [10] [])
  .ret))))),
  [.tmp 10], false⟩
def ir245 : IFn :=   -- cmp.isNaN[int]
⟨(.seq (.reg false [⟨some 2, none, .mov (.c (.p (.bool false)))⟩] [0] [])
  (.seq (.reg false [⟨some 3, none, .mov (.t 0)⟩, 
    ⟨some 4, none, .mov (.t 0)⟩, 
    ⟨some 5, none, .bin .neq (.t 3) (.t 4)⟩, 
    ⟨some 2, none, .mov (.t 5)⟩] [2] [])
  .ret)),
  [.tmp 2], false⟩
def ir246 : IFn :=   -- tympan/geom.Page
⟨(.seq (.reg false [⟨some 2, none, .bx (.t 0) 19 true⟩, 
    ⟨some 4, none, .mov (.c (.p (.int .i64 0)))⟩, 
    ⟨some 5, none, .mov (.c (.p (.int .i64 0)))⟩] [1, 2] [2])
  (.seq (.seq (.reg false [⟨some 6, none, .ld (.t 2) 19 true⟩, 
    ⟨some 7, none, .call 155 [(.t 6)] false⟩, 
    ⟨some 8, none, .bin .neq (.t 7) (.c (.p (.int .i64 0)))⟩] [1, 2, 8] [2])
  (.cond (.t 8)
  (.seq (.reg false [⟨some 4, none, .mov (.c (.p (.int .i64 0)))⟩, 
      ⟨some 5, none, .mov (.c (.p (.int .i64 0)))⟩] [4, 5] [])
    .ret)
  .skip))
  (.seq (.reg false [⟨some 9, none, .mov (.t 1)⟩, 
    ⟨some 10, none, .mnmx true (.t 9) (.c (.p (.int .i64 0)))⟩, 
    ⟨some 1, none, .mov (.t 10)⟩] [1, 2] [2])
  (.seq (.reg true [⟨some 11, none, .mov (.t 1)⟩, 
    ⟨some 12, none, .off (.t 2) 0⟩, 
    ⟨some 13, none, .ld (.t 12) 1 false⟩, 
    ⟨some 14, none, .bin .quo (.t 11) (.t 13)⟩, 
    ⟨some 15, none, .mov (.t 1)⟩, 
    ⟨some 16, none, .off (.t 2) 0⟩, 
    ⟨some 17, none, .ld (.t 16) 1 false⟩, 
    ⟨some 18, none, .bin .rem (.t 15) (.t 17)⟩, 
    ⟨some 4, none, .mov (.t 14)⟩, 
    ⟨some 5, none, .mov (.t 18)⟩] [4, 5] [])
  .ret)))),
  [.tmp 4, .tmp 5], false⟩
def lp247_0 : IC :=
  (.loop [0, 2, 4, 11, 12, 13, 19, 20, 21, 26, 27, 28] [] (.seq (.reg false [⟨some 29, none, .bin .lss (.t 28) (.t 27)⟩] [0, 2, 4, 11, 12, 13, 19, 20, 21, 26, 27, 28, 29] [])
                  (.seq (.cond (.t 29)
                  .skip
                  (.exit 4))
                  (.seq (.block 5 (.seq (.reg false [⟨some 30, none, .ixs (.t 26) (.t 28) 5⟩, 
                      ⟨some 31, none, .ld (.t 30) 5 true⟩, 
                      ⟨some 9, none, .al [.p (.int .i64 0), .p (.int .i64 0), .p (.int .i64 0), .p (.int .i64 0), .p (.int .i64 0)] true⟩, 
                      ⟨none, none, .st (.t 9) (.t 31) 5⟩] [0, 2, 4, 9, 11, 12, 13, 19, 20, 21, 26, 27, 28] [9])
                    (.seq (.reg false [⟨some 32, none, .off (.t 9) 0⟩, 
                      ⟨some 33, none, .ld (.t 32) 1 false⟩, 
                      ⟨some 34, none, .ld (.t 2) 1 false⟩, 
                      ⟨some 35, none, .bin .eql (.t 33) (.t 34)⟩, 
                      ⟨some 36, none, .mov (.t 35)⟩, 
                      ⟨some 37, (some (36, true)), .mov (.t 0)⟩, 
                      ⟨some 38, (some (36, true)), .mov (.t 4)⟩, 
                      ⟨some 39, (some (36, true)), .ld (.t 9) 5 true⟩, 
                      ⟨some 40, (some (36, true)), .callv (.t 37) [(.t 38), (.t 39)] false⟩, 
                      ⟨some 41, (some (36, true)), .un .not (.t 40)⟩, 
                      ⟨some 42, none, .pick (.t 36) (.t 41) (.c (.p (.bool false)))⟩] [0, 2, 4, 11, 12, 13, 19, 20, 21, 26, 27, 28, 42] [])
                    (.cond (.t 42)
                    .ret
                    .skip))))
                  (.reg false [⟨some 43, none, .bin .add (.t 28) (.c (.p (.int .i64 1)))⟩, 
                    ⟨some 28, none, .mov (.t 43)⟩] [0, 2, 4, 11, 12, 13, 19, 20, 21, 26, 27, 28] [])))))
def lp247_1 : IC :=
  (.loop [0, 2, 4, 11, 12, 13, 19, 20, 21] [] (.seq (.reg false [⟨some 22, none, .bin .lss (.t 21) (.t 20)⟩] [0, 2, 4, 11, 12, 13, 19, 20, 21, 22] [])
            (.seq (.cond (.t 22)
            .skip
            (.exit 2))
            (.seq (.block 3 (.seq (.reg false [⟨some 23, none, .ixs (.t 19) (.t 21) 2⟩, 
                ⟨some 24, none, .ld (.t 23) 2 true⟩, 
                ⟨some 7, none, .al [.p (.int .i64 0), .nils] true⟩, 
                ⟨none, none, .st (.t 7) (.t 24) 2⟩] [0, 2, 4, 7, 11, 12, 13, 19, 20, 21] [7])
              (.seq (.reg false [⟨some 25, none, .off (.t 7) 1⟩, 
                ⟨some 26, none, .ld (.t 25) 1 false⟩, 
                ⟨some 27, none, .len (.t 26)⟩, 
                ⟨some 28, none, .mov (.c (.p (.int .i64 0)))⟩] [0, 2, 4, 11, 12, 13, 19, 20, 21, 26, 27, 28] [])
              (.block 4 lp247_0))))
            (.reg false [⟨some 44, none, .bin .add (.t 21) (.c (.p (.int .i64 1)))⟩, 
              ⟨some 21, none, .mov (.t 44)⟩] [0, 2, 4, 11, 12, 13, 19, 20, 21] [])))))
def lp247_2 : IC :=
  (.loop [0, 2, 11, 12, 13] [] (.seq (.reg false [⟨some 14, none, .bin .lss (.t 13) (.t 12)⟩] [0, 2, 11, 12, 13, 14] [])
      (.seq (.cond (.t 14)
      .skip
      (.exit 0))
      (.seq (.block 1 (.seq (.reg false [⟨some 15, none, .mov (.t 13)⟩, 
          ⟨some 16, none, .ixs (.t 11) (.t 13) 4⟩, 
          ⟨some 17, none, .ld (.t 16) 4 true⟩, 
          ⟨some 5, none, .al [.nils, .p (.int .i64 0), .p (.int .i64 0), .p (.int .i64 0)] true⟩, 
          ⟨some 4, none, .mov (.t 15)⟩, 
          ⟨none, none, .st (.t 5) (.t 17) 4⟩] [0, 2, 4, 5, 11, 12, 13] [5])
        (.seq (.reg false [⟨some 18, none, .off (.t 5) 0⟩, 
          ⟨some 19, none, .ld (.t 18) 1 false⟩, 
          ⟨some 20, none, .len (.t 19)⟩, 
          ⟨some 21, none, .mov (.c (.p (.int .i64 0)))⟩] [0, 2, 4, 11, 12, 13, 19, 20, 21] [])
        (.block 2 lp247_1))))
      (.reg false [⟨some 45, none, .bin .add (.t 13) (.c (.p (.int .i64 1)))⟩, 
        ⟨some 13, none, .mov (.t 45)⟩] [0, 2, 11, 12, 13] [])))))
def ir247 : IFn :=   -- (tympan/check.asked).all$1
⟨(.seq (.reg false [⟨some 10, none, .off (.t 1) 22⟩, 
    ⟨some 11, none, .ld (.t 10) 1 false⟩, 
    ⟨some 12, none, .len (.t 11)⟩, 
    ⟨some 13, none, .mov (.c (.p (.int .i64 0)))⟩] [0, 2, 11, 12, 13] [])
  (.block 0 lp247_2)),
  [], false⟩
def ir248 : IFn :=   -- slices.order2Ordered[int]
⟨(.seq (.reg false [⟨some 8, none, .mov (.c (.p (.int .i64 0)))⟩, 
    ⟨some 9, none, .mov (.c (.p (.int .i64 0)))⟩] [0, 1, 2, 3] [])
  (.seq (.seq (.reg true [⟨some 10, none, .mov (.t 0)⟩, 
    ⟨some 11, none, .mov (.t 2)⟩, 
    ⟨some 12, none, .ixs (.t 10) (.t 11) 1⟩, 
    ⟨some 13, none, .ld (.t 12) 1 false⟩, 
    ⟨some 14, none, .mov (.t 0)⟩, 
    ⟨some 15, none, .mov (.t 1)⟩, 
    ⟨some 16, none, .ixs (.t 14) (.t 15) 1⟩, 
    ⟨some 17, none, .ld (.t 16) 1 false⟩, 
    ⟨some 18, none, .call 211 [(.t 13), (.t 17)] true⟩] [1, 2, 3, 18] [])
  (.cond (.t 18)
  (.seq (.reg false [⟨some 19, none, .mov (.t 3)⟩, 
      ⟨some 20, none, .nck (.t 19)⟩, 
      ⟨some 21, none, .ld (.t 20) 1 false⟩, 
      ⟨some 22, none, .bin .add (.t 21) (.c (.p (.int .i64 1)))⟩, 
      ⟨some 23, none, .nck (.t 19)⟩, 
      ⟨none, none, .st (.t 23) (.t 22) 1⟩] [1, 2] [])
    (.seq (.reg false [⟨some 24, none, .mov (.t 2)⟩, 
      ⟨some 25, none, .mov (.t 1)⟩, 
      ⟨some 8, none, .mov (.t 24)⟩, 
      ⟨some 9, none, .mov (.t 25)⟩] [8, 9] [])
    .ret))
  .skip))
  (.seq (.reg false [⟨some 26, none, .mov (.t 1)⟩, 
    ⟨some 27, none, .mov (.t 2)⟩, 
    ⟨some 8, none, .mov (.t 26)⟩, 
    ⟨some 9, none, .mov (.t 27)⟩] [8, 9] [])
  .ret))),
  [.tmp 8, .tmp 9], false⟩
end Go.EnvOf
