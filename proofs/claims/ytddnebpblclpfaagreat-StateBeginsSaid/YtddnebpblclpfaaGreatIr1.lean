/- The engine's instructions for the functions, part 1. -/
import Derived.Test.YtddnebpblclpfaaGreatEngAll2
namespace Go.EnvOf
open Go Go.Eng
set_option maxRecDepth 100000
def lp89_0 : IC :=
 (.loop [1, 3, 4] [1, 3] (.seq (.seq (.reg false [⟨some 24, none, .mov (.t 4)⟩,
 ⟨some 25, none, .bin .lss (.t 24) (.c (.p (.int .i64 3)))⟩] [1, 3, 4, 25] [1, 3])
 (.cond (.t 25)
 .skip
 (.exit 0)))
 (.seq (.block 1 (.seq (.reg false [⟨some 28, none, .mov (.t 4)⟩,
 ⟨some 29, none, .ixa (.t 3) (.t 28) 1 3⟩,
 ⟨some 30, none, .ld (.t 29) 1 false⟩,
 ⟨some 31, none, .bin .lss (.t 30) (.c (.p (.int .i64 1)))⟩,
 ⟨some 32, none, .mov (.t 31)⟩,
 ⟨some 33, (some (32, false)), .mov (.t 4)⟩,
 ⟨some 34, (some (32, false)), .ixa (.t 3) (.t 33) 1 3⟩,
 ⟨some 35, (some (32, false)), .ld (.t 34) 1 false⟩,
 ⟨some 36, (some (32, false)), .bin .gtr (.t 35) (.c (.p (.int .i64 1073741823)))⟩,
 ⟨some 37, none, .pick (.t 32) (.c (.p (.bool true))) (.t 36)⟩] [1, 3, 4, 37] [1, 3])
 (.cond (.t 37)
 (.seq (.reg false [⟨some 2, none, .mov (.c (.p (.int .i64 7)))⟩] [2] [])
 .ret)
 .skip)))
 (.reg false [⟨some 26, none, .mov (.t 4)⟩,
 ⟨some 27, none, .bin .add (.t 26) (.c (.p (.int .i64 1)))⟩,
 ⟨some 4, none, .mov (.t 27)⟩] [1, 3, 4] [1, 3]))))
def lp89_1 : IC :=
 (.loop [1, 5, 6] [1, 5] (.seq (.seq (.reg false [⟨some 53, none, .mov (.t 6)⟩,
 ⟨some 54, none, .bin .lss (.t 53) (.c (.p (.int .i64 7)))⟩] [1, 5, 6, 54] [1, 5])
 (.cond (.t 54)
 .skip
 (.exit 2)))
 (.seq (.block 3 (.seq (.reg false [⟨some 57, none, .mov (.t 6)⟩,
 ⟨some 58, none, .ixa (.t 5) (.t 57) 1 7⟩,
 ⟨some 59, none, .ld (.t 58) 1 false⟩,
 ⟨some 60, none, .bin .lss (.t 59) (.c (.p (.int .i64 0)))⟩,
 ⟨some 61, none, .mov (.t 60)⟩,
 ⟨some 62, (some (61, false)), .mov (.t 6)⟩,
 ⟨some 63, (some (61, false)), .ixa (.t 5) (.t 62) 1 7⟩,
 ⟨some 64, (some (61, false)), .ld (.t 63) 1 false⟩,
 ⟨some 65, (some (61, false)), .bin .gtr (.t 64) (.c (.p (.int .i64 1073741823)))⟩,
 ⟨some 66, none, .pick (.t 61) (.c (.p (.bool true))) (.t 65)⟩] [1, 5, 6, 66] [1, 5])
 (.cond (.t 66)
 (.seq (.reg false [⟨some 2, none, .mov (.c (.p (.int .i64 7)))⟩] [2] [])
 .ret)
 .skip)))
 (.reg false [⟨some 55, none, .mov (.t 6)⟩,
 ⟨some 56, none, .bin .add (.t 55) (.c (.p (.int .i64 1)))⟩,
 ⟨some 6, none, .mov (.t 56)⟩] [1, 5, 6] [1, 5]))))
def lp89_2 : IC :=
 (.loop [1, 7, 8] [1, 7] (.seq (.seq (.reg false [⟨some 82, none, .mov (.t 8)⟩,
 ⟨some 83, none, .bin .lss (.t 82) (.c (.p (.int .i64 7)))⟩] [1, 7, 8, 83] [1, 7])
 (.cond (.t 83)
 .skip
 (.exit 4)))
 (.seq (.block 5 (.seq (.reg false [⟨some 86, none, .mov (.t 8)⟩,
 ⟨some 87, none, .ixa (.t 7) (.t 86) 1 7⟩,
 ⟨some 88, none, .ld (.t 87) 1 false⟩,
 ⟨some 89, none, .bin .lss (.t 88) (.c (.p (.int .i64 0)))⟩,
 ⟨some 90, none, .mov (.t 89)⟩,
 ⟨some 91, (some (90, false)), .mov (.t 8)⟩,
 ⟨some 92, (some (90, false)), .ixa (.t 7) (.t 91) 1 7⟩,
 ⟨some 93, (some (90, false)), .ld (.t 92) 1 false⟩,
 ⟨some 94, (some (90, false)), .bin .gtr (.t 93) (.c (.p (.int .i64 1048576)))⟩,
 ⟨some 95, none, .pick (.t 90) (.c (.p (.bool true))) (.t 94)⟩,
 ⟨some 96, none, .mov (.t 95)⟩,
 ⟨some 97, (some (96, false)), .mov (.t 8)⟩,
 ⟨some 98, (some (96, false)), .bin .lss (.t 97) (.c (.p (.int .i64 2)))⟩,
 ⟨some 99, (some (96, false)), .mov (.t 98)⟩,
 ⟨some 100, (some (99, true)), .mov (.t 8)⟩,
 ⟨some 101, (some (99, true)), .ixa (.t 7) (.t 100) 1 7⟩,
 ⟨some 102, (some (99, true)), .ld (.t 101) 1 false⟩,
 ⟨some 103, (some (99, true)), .bin .gtr (.t 102) (.c (.p (.int .i64 4)))⟩,
 ⟨some 104, (some (96, false)), .pick (.t 99) (.t 103) (.c (.p (.bool false)))⟩,
 ⟨some 105, none, .pick (.t 96) (.c (.p (.bool true))) (.t 104)⟩] [1, 7, 8, 105] [1, 7])
 (.cond (.t 105)
 (.seq (.reg false [⟨some 2, none, .mov (.c (.p (.int .i64 7)))⟩] [2] [])
 .ret)
 .skip)))
 (.reg false [⟨some 84, none, .mov (.t 8)⟩,
 ⟨some 85, none, .bin .add (.t 84) (.c (.p (.int .i64 1)))⟩,
 ⟨some 8, none, .mov (.t 85)⟩] [1, 7, 8] [1, 7]))))
def ir89 : IFn :=   -- tympan/tympanref13.Check
⟨(.seq (.reg false [⟨some 1, none, .bx (.t 0) 19 true⟩,
 ⟨some 2, none, .mov (.c (.p (.int .i64 0)))⟩] [1] [1])
 (.seq (.seq (.reg false [⟨some 9, none, .off (.t 1) 0⟩,
 ⟨some 10, none, .ld (.t 9) 1 false⟩,
 ⟨some 11, none, .bin .lss (.t 10) (.c (.p (.int .i64 1)))⟩,
 ⟨some 12, none, .mov (.t 11)⟩,
 ⟨some 13, (some (12, false)), .off (.t 1) 0⟩,
 ⟨some 14, (some (12, false)), .ld (.t 13) 1 false⟩,
 ⟨some 15, (some (12, false)), .bin .gtr (.t 14) (.c (.p (.int .i64 8)))⟩,
 ⟨some 16, none, .pick (.t 12) (.c (.p (.bool true))) (.t 15)⟩] [1, 16] [1])
 (.cond (.t 16)
 (.seq (.reg false [⟨some 2, none, .mov (.c (.p (.int .i64 6)))⟩] [2] [])
 .ret)
 .skip))
 (.seq (.reg false [⟨some 17, none, .off (.t 1) 1⟩,
 ⟨some 18, none, .ld (.t 17) 1 false⟩,
 ⟨some 19, none, .off (.t 1) 3⟩,
 ⟨some 20, none, .ld (.t 19) 1 false⟩,
 ⟨some 21, none, .off (.t 1) 4⟩,
 ⟨some 22, none, .ld (.t 21) 1 false⟩,
 ⟨some 23, none, .bld [.p (.int .i64 0), .p (.int .i64 0), .p (.int .i64 0)] [(0, 1, (.t 18)), (1, 1, (.t 20)), (2, 1, (.t 22))]⟩,
 ⟨some 3, none, .al [.p (.int .i64 0), .p (.int .i64 0), .p (.int .i64 0)] true⟩,
 ⟨none, none, .st (.t 3) (.t 23) 3⟩] [1, 3] [1, 3])
 (.seq (.seq (.reg false [⟨some 4, none, .mov (.c (.p (.int .i64 0)))⟩] [1, 3, 4] [1, 3])
 (.block 0 lp89_0))
 (.seq (.reg false [⟨some 38, none, .off (.t 1) 2⟩,
 ⟨some 39, none, .ld (.t 38) 1 false⟩,
 ⟨some 40, none, .off (.t 1) 6⟩,
 ⟨some 41, none, .ld (.t 40) 1 false⟩,
 ⟨some 42, none, .off (.t 1) 7⟩,
 ⟨some 43, none, .ld (.t 42) 1 false⟩,
 ⟨some 44, none, .off (.t 1) 8⟩,
 ⟨some 45, none, .ld (.t 44) 1 false⟩,
 ⟨some 46, none, .off (.t 1) 9⟩,
 ⟨some 47, none, .ld (.t 46) 1 false⟩,
 ⟨some 48, none, .off (.t 1) 10⟩,
 ⟨some 49, none, .ld (.t 48) 1 false⟩,
 ⟨some 50, none, .off (.t 1) 5⟩,
 ⟨some 51, none, .ld (.t 50) 1 false⟩,
 ⟨some 52, none, .bld [.p (.int .i64 0), .p (.int .i64 0), .p (.int .i64 0), .p (.int .i64 0), .p (.int .i64 0), .p (.int .i64 0), .p (.int .i64 0)] [(0, 1, (.t 39)), (1, 1, (.t 41)), (2, 1, (.t 43)), (3, 1, (.t 45)), (4, 1, (.t 47)), (5, 1, (.t 49)), (6, 1, (.t 51))]⟩,
 ⟨some 5, none, .al [.p (.int .i64 0), .p (.int .i64 0), .p (.int .i64 0), .p (.int .i64 0), .p (.int .i64 0), .p (.int .i64 0), .p (.int .i64 0)] true⟩,
 ⟨none, none, .st (.t 5) (.t 52) 7⟩] [1, 5] [1, 5])
 (.seq (.seq (.reg false [⟨some 6, none, .mov (.c (.p (.int .i64 0)))⟩] [1, 5, 6] [1, 5])
 (.block 2 lp89_1))
 (.seq (.reg false [⟨some 67, none, .off (.t 1) 11⟩,
 ⟨some 68, none, .ld (.t 67) 1 false⟩,
 ⟨some 69, none, .off (.t 1) 12⟩,
 ⟨some 70, none, .ld (.t 69) 1 false⟩,
 ⟨some 71, none, .off (.t 1) 13⟩,
 ⟨some 72, none, .ld (.t 71) 1 false⟩,
 ⟨some 73, none, .off (.t 1) 14⟩,
 ⟨some 74, none, .ld (.t 73) 1 false⟩,
 ⟨some 75, none, .off (.t 1) 15⟩,
 ⟨some 76, none, .ld (.t 75) 1 false⟩,
 ⟨some 77, none, .off (.t 1) 16⟩,
 ⟨some 78, none, .ld (.t 77) 1 false⟩,
 ⟨some 79, none, .off (.t 1) 17⟩,
 ⟨some 80, none, .ld (.t 79) 1 false⟩,
 ⟨some 81, none, .bld [.p (.int .i64 0), .p (.int .i64 0), .p (.int .i64 0), .p (.int .i64 0), .p (.int .i64 0), .p (.int .i64 0), .p (.int .i64 0)] [(0, 1, (.t 68)), (1, 1, (.t 70)), (2, 1, (.t 72)), (3, 1, (.t 74)), (4, 1, (.t 76)), (5, 1, (.t 78)), (6, 1, (.t 80))]⟩,
 ⟨some 7, none, .al [.p (.int .i64 0), .p (.int .i64 0), .p (.int .i64 0), .p (.int .i64 0), .p (.int .i64 0), .p (.int .i64 0), .p (.int .i64 0)] true⟩,
 ⟨none, none, .st (.t 7) (.t 81) 7⟩] [1, 7] [1, 7])
 (.seq (.seq (.reg false [⟨some 8, none, .mov (.c (.p (.int .i64 0)))⟩] [1, 7, 8] [1, 7])
 (.block 4 lp89_2))
 (.seq (.seq (.reg false [⟨some 106, none, .off (.t 1) 4⟩,
 ⟨some 107, none, .ld (.t 106) 1 false⟩,
 ⟨some 108, none, .off (.t 1) 3⟩,
 ⟨some 109, none, .ld (.t 108) 1 false⟩,
 ⟨some 110, none, .bin .gtr (.t 107) (.t 109)⟩,
 ⟨some 111, none, .mov (.t 110)⟩,
 ⟨some 112, (some (111, false)), .off (.t 1) 5⟩,
 ⟨some 113, (some (111, false)), .ld (.t 112) 1 false⟩,
 ⟨some 114, (some (111, false)), .off (.t 1) 4⟩,
 ⟨some 115, (some (111, false)), .ld (.t 114) 1 false⟩,
 ⟨some 116, (some (111, false)), .bin .gtr (.t 113) (.t 115)⟩,
 ⟨some 117, none, .pick (.t 111) (.c (.p (.bool true))) (.t 116)⟩,
 ⟨some 118, none, .mov (.t 117)⟩,
 ⟨some 119, (some (118, false)), .off (.t 1) 5⟩,
 ⟨some 120, (some (118, false)), .ld (.t 119) 1 false⟩,
 ⟨some 121, (some (118, false)), .bin .gtr (.t 120) (.c (.p (.int .i64 536870912)))⟩,
 ⟨some 122, none, .pick (.t 118) (.c (.p (.bool true))) (.t 121)⟩,
 ⟨some 123, none, .mov (.t 122)⟩,
 ⟨some 124, (some (123, false)), .off (.t 1) 6⟩,
 ⟨some 125, (some (123, false)), .ld (.t 124) 1 false⟩,
 ⟨some 126, (some (123, false)), .bin .gtr (.t 125) (.c (.p (.int .i64 536870912)))⟩,
 ⟨some 127, none, .pick (.t 123) (.c (.p (.bool true))) (.t 126)⟩,
 ⟨some 128, none, .mov (.t 127)⟩,
 ⟨some 129, (some (128, false)), .off (.t 1) 7⟩,
 ⟨some 130, (some (128, false)), .ld (.t 129) 1 false⟩,
 ⟨some 131, (some (128, false)), .bin .gtr (.t 130) (.c (.p (.int .i64 536870912)))⟩,
 ⟨some 132, none, .pick (.t 128) (.c (.p (.bool true))) (.t 131)⟩] [132] [])
 (.cond (.t 132)
 (.seq (.reg false [⟨some 2, none, .mov (.c (.p (.int .i64 7)))⟩] [2] [])
 .ret)
 .skip))
 (.seq (.reg false [⟨some 2, none, .mov (.c (.p (.int .i64 0)))⟩] [2] [])
 .ret)))))))))),
 [.tmp 2], false⟩
def ir90 : IFn :=   -- tympan/tympanref10.Right
⟨(.seq (.reg false [⟨some 1, none, .bx (.t 0) 7 true⟩,
 ⟨some 2, none, .mov (.c (.p (.bool false)))⟩] [1] [1])
 (.seq (.reg false [⟨some 4, none, .off (.t 1) 0⟩,
 ⟨some 5, none, .ld (.t 4) 1 false⟩,
 ⟨some 6, none, .bld [.p (.int .i64 0), .p (.int .i64 0), .p (.int .i64 0), .p (.int .i64 0), .p (.int .i64 0), .p (.int .i64 0), .p (.int .i64 0)] [(0, 1, (.t 5))]⟩,
 ⟨some 3, none, .al [.p (.int .i64 0), .p (.int .i64 0), .p (.int .i64 0), .p (.int .i64 0), .p (.int .i64 0), .p (.int .i64 0), .p (.int .i64 0)] true⟩,
 ⟨none, none, .st (.t 3) (.t 6) 7⟩] [1, 3] [1, 3])
 (.seq (.seq (.reg false [⟨some 7, none, .off (.t 1) 0⟩,
 ⟨some 8, none, .ld (.t 7) 1 false⟩] [1, 3, 8] [1, 3])
 (.block 0 (.seq (.reg false [⟨some 10, none, .bin .eql (.t 8) (.c (.p (.int .i64 1)))⟩,
 ⟨some 9, none, .mov (.t 10)⟩] [1, 3, 8, 9] [1, 3])
 (.cond (.t 9)
 (.seq (.reg false [⟨some 11, none, .off (.t 1) 1⟩,
 ⟨some 12, none, .ld (.t 11) 1 false⟩,
 ⟨some 13, none, .off (.t 3) 1⟩,
 ⟨none, none, .st (.t 13) (.t 12) 1⟩] [1, 3] [1, 3])
 (.reg false [⟨some 14, none, .off (.t 1) 2⟩,
 ⟨some 15, none, .ld (.t 14) 1 false⟩,
 ⟨some 16, none, .off (.t 3) 2⟩,
 ⟨none, none, .st (.t 16) (.t 15) 1⟩] [1, 3] [1, 3]))
 (.seq (.reg false [⟨some 18, none, .bin .eql (.t 8) (.c (.p (.int .i64 2)))⟩,
 ⟨some 17, none, .mov (.t 18)⟩] [1, 3, 8, 17] [1, 3])
 (.cond (.t 17)
 (.seq (.reg false [⟨some 19, none, .off (.t 1) 1⟩,
 ⟨some 20, none, .ld (.t 19) 1 false⟩,
 ⟨some 21, none, .off (.t 3) 1⟩,
 ⟨none, none, .st (.t 21) (.t 20) 1⟩] [1, 3] [1, 3])
 (.seq (.reg false [⟨some 22, none, .off (.t 1) 3⟩,
 ⟨some 23, none, .ld (.t 22) 1 false⟩,
 ⟨some 24, none, .off (.t 3) 3⟩,
 ⟨none, none, .st (.t 24) (.t 23) 1⟩] [1, 3] [1, 3])
 (.seq (.reg false [⟨some 25, none, .off (.t 1) 4⟩,
 ⟨some 26, none, .ld (.t 25) 1 false⟩,
 ⟨some 27, none, .off (.t 3) 4⟩,
 ⟨none, none, .st (.t 27) (.t 26) 1⟩] [1, 3] [1, 3])
 (.reg false [⟨some 28, none, .off (.t 1) 5⟩,
 ⟨some 29, none, .ld (.t 28) 1 false⟩,
 ⟨some 30, none, .off (.t 3) 5⟩,
 ⟨none, none, .st (.t 30) (.t 29) 1⟩] [1, 3] [1, 3]))))
 (.seq (.reg false [⟨some 32, none, .bin .eql (.t 8) (.c (.p (.int .i64 3)))⟩,
 ⟨some 31, none, .mov (.t 32)⟩] [1, 3, 8, 31] [1, 3])
 (.cond (.t 31)
 (.seq (.reg false [⟨some 33, none, .off (.t 1) 6⟩,
 ⟨some 34, none, .ld (.t 33) 1 false⟩,
 ⟨some 35, none, .off (.t 3) 6⟩,
 ⟨none, none, .st (.t 35) (.t 34) 1⟩] [1, 3] [1, 3])
 (.seq (.reg false [⟨some 36, none, .off (.t 1) 6⟩,
 ⟨some 37, none, .ld (.t 36) 1 false⟩,
 ⟨some 38, none, .bin .neq (.t 37) (.c (.p (.int .i64 (-10000))))⟩,
 ⟨some 39, none, .mov (.t 38)⟩,
 ⟨some 40, (some (39, true)), .off (.t 1) 6⟩,
 ⟨some 41, (some (39, true)), .ld (.t 40) 1 false⟩,
 ⟨some 42, (some (39, true)), .bin .lss (.t 41) (.c (.p (.int .i64 0)))⟩,
 ⟨some 43, (some (39, true)), .mov (.t 42)⟩,
 ⟨some 44, (some (43, false)), .off (.t 1) 6⟩,
 ⟨some 45, (some (43, false)), .ld (.t 44) 1 false⟩,
 ⟨some 46, (some (43, false)), .bin .gtr (.t 45) (.c (.p (.int .i64 10000)))⟩,
 ⟨some 47, (some (39, true)), .pick (.t 43) (.c (.p (.bool true))) (.t 46)⟩,
 ⟨some 48, none, .pick (.t 39) (.t 47) (.c (.p (.bool false)))⟩] [1, 3, 48] [1, 3])
 (.cond (.t 48)
 (.seq (.reg false [⟨some 2, none, .mov (.c (.p (.bool false)))⟩] [2] [])
 .ret)
 .skip)))
 (.seq (.reg false [⟨some 50, none, .bin .eql (.t 8) (.c (.p (.int .i64 4)))⟩,
 ⟨some 49, none, .mov (.t 50)⟩] [1, 3, 8, 49] [1, 3])
 (.cond (.t 49)
 (.seq (.reg false [⟨some 51, none, .off (.t 1) 6⟩,
 ⟨some 52, none, .ld (.t 51) 1 false⟩,
 ⟨some 53, none, .off (.t 3) 6⟩,
 ⟨none, none, .st (.t 53) (.t 52) 1⟩] [1, 3] [1, 3])
 (.seq (.reg false [⟨some 54, none, .off (.t 1) 6⟩,
 ⟨some 55, none, .ld (.t 54) 1 false⟩,
 ⟨some 56, none, .bin .lss (.t 55) (.c (.p (.int .i64 0)))⟩,
 ⟨some 57, none, .mov (.t 56)⟩,
 ⟨some 58, (some (57, false)), .off (.t 1) 6⟩,
 ⟨some 59, (some (57, false)), .ld (.t 58) 1 false⟩,
 ⟨some 60, (some (57, false)), .bin .gtr (.t 59) (.c (.p (.int .i64 1048576)))⟩,
 ⟨some 61, none, .pick (.t 57) (.c (.p (.bool true))) (.t 60)⟩] [1, 3, 61] [1, 3])
 (.cond (.t 61)
 (.seq (.reg false [⟨some 2, none, .mov (.c (.p (.bool false)))⟩] [2] [])
 .ret)
 .skip)))
 (.seq (.reg false [⟨some 63, none, .bin .eql (.t 8) (.c (.p (.int .i64 5)))⟩,
 ⟨some 62, none, .mov (.t 63)⟩] [1, 3, 8, 62] [1, 3])
 (.cond (.t 62)
 (.seq (.reg false [⟨some 64, none, .off (.t 1) 6⟩,
 ⟨some 65, none, .ld (.t 64) 1 false⟩,
 ⟨some 66, none, .off (.t 3) 6⟩,
 ⟨none, none, .st (.t 66) (.t 65) 1⟩] [1, 3] [1, 3])
 (.seq (.reg false [⟨some 67, none, .off (.t 1) 6⟩,
 ⟨some 68, none, .ld (.t 67) 1 false⟩,
 ⟨some 69, none, .bin .lss (.t 68) (.c (.p (.int .i64 0)))⟩,
 ⟨some 70, none, .mov (.t 69)⟩,
 ⟨some 71, (some (70, false)), .off (.t 1) 6⟩,
 ⟨some 72, (some (70, false)), .ld (.t 71) 1 false⟩,
 ⟨some 73, (some (70, false)), .bin .gtr (.t 72) (.c (.p (.int .i64 511)))⟩,
 ⟨some 74, none, .pick (.t 70) (.c (.p (.bool true))) (.t 73)⟩] [1, 3, 74] [1, 3])
 (.cond (.t 74)
 (.seq (.reg false [⟨some 2, none, .mov (.c (.p (.bool false)))⟩] [2] [])
 .ret)
 .skip)))
 (.seq (.reg false [⟨some 76, none, .bin .eql (.t 8) (.c (.p (.int .i64 6)))⟩,
 ⟨some 75, none, .mov (.t 76)⟩] [1, 3, 8, 75] [1, 3])
 (.cond (.t 75)
 (.seq (.reg false [⟨some 77, none, .off (.t 1) 6⟩,
 ⟨some 78, none, .ld (.t 77) 1 false⟩,
 ⟨some 79, none, .off (.t 3) 6⟩,
 ⟨none, none, .st (.t 79) (.t 78) 1⟩] [1, 3] [1, 3])
 (.seq (.reg false [⟨some 80, none, .off (.t 1) 6⟩,
 ⟨some 81, none, .ld (.t 80) 1 false⟩,
 ⟨some 82, none, .bin .lss (.t 81) (.c (.p (.int .i64 0)))⟩,
 ⟨some 83, none, .mov (.t 82)⟩,
 ⟨some 84, (some (83, false)), .off (.t 1) 6⟩,
 ⟨some 85, (some (83, false)), .ld (.t 84) 1 false⟩,
 ⟨some 86, (some (83, false)), .bin .gtr (.t 85) (.c (.p (.int .i64 255)))⟩,
 ⟨some 87, none, .pick (.t 83) (.c (.p (.bool true))) (.t 86)⟩] [1, 3, 87] [1, 3])
 (.cond (.t 87)
 (.seq (.reg false [⟨some 2, none, .mov (.c (.p (.bool false)))⟩] [2] [])
 .ret)
 .skip)))
 (.seq (.reg false [⟨some 89, none, .bin .eql (.t 8) (.c (.p (.int .i64 7)))⟩,
 ⟨some 88, none, .mov (.t 89)⟩] [1, 3, 88] [1, 3])
 (.cond (.t 88)
 .skip
 (.seq (.reg false [⟨some 2, none, .mov (.c (.p (.bool false)))⟩] [2] [])
 .ret)))))))))))))))))
 (.seq (.reg false [⟨some 90, none, .ld (.t 1) 7 true⟩,
 ⟨some 91, none, .ld (.t 3) 7 true⟩,
 ⟨some 92, none, .eqa false [true, true, true, true, true, true, true] (.t 90) (.t 91)⟩,
 ⟨some 93, none, .mov (.t 92)⟩,
 ⟨some 94, (some (93, true)), .off (.t 1) 1⟩,
 ⟨some 95, (some (93, true)), .ld (.t 94) 1 false⟩,
 ⟨some 96, (some (93, true)), .call 174 [(.t 95)] false⟩,
 ⟨some 97, none, .pick (.t 93) (.t 96) (.c (.p (.bool false)))⟩,
 ⟨some 98, none, .mov (.t 97)⟩,
 ⟨some 99, (some (98, true)), .off (.t 1) 3⟩,
 ⟨some 100, (some (98, true)), .ld (.t 99) 1 false⟩,
 ⟨some 101, (some (98, true)), .call 174 [(.t 100)] false⟩,
 ⟨some 102, none, .pick (.t 98) (.t 101) (.c (.p (.bool false)))⟩,
 ⟨some 103, none, .mov (.t 102)⟩,
 ⟨some 104, (some (103, true)), .off (.t 1) 5⟩,
 ⟨some 105, (some (103, true)), .ld (.t 104) 1 false⟩,
 ⟨some 106, (some (103, true)), .call 174 [(.t 105)] false⟩,
 ⟨some 107, none, .pick (.t 103) (.t 106) (.c (.p (.bool false)))⟩,
 ⟨some 108, none, .mov (.t 107)⟩,
 ⟨some 109, (some (108, true)), .off (.t 1) 2⟩,
 ⟨some 110, (some (108, true)), .ld (.t 109) 1 false⟩,
 ⟨some 111, (some (108, true)), .bin .geq (.t 110) (.c (.p (.int .i64 0)))⟩,
 ⟨some 112, none, .pick (.t 108) (.t 111) (.c (.p (.bool false)))⟩,
 ⟨some 113, none, .mov (.t 112)⟩,
 ⟨some 114, (some (113, true)), .off (.t 1) 2⟩,
 ⟨some 115, (some (113, true)), .ld (.t 114) 1 false⟩,
 ⟨some 116, (some (113, true)), .bin .leq (.t 115) (.c (.p (.int .i64 3)))⟩,
 ⟨some 117, none, .pick (.t 113) (.t 116) (.c (.p (.bool false)))⟩,
 ⟨some 118, none, .mov (.t 117)⟩,
 ⟨some 119, (some (118, true)), .off (.t 1) 4⟩,
 ⟨some 120, (some (118, true)), .ld (.t 119) 1 false⟩,
 ⟨some 121, (some (118, true)), .bin .geq (.t 120) (.c (.p (.int .i64 0)))⟩,
 ⟨some 122, none, .pick (.t 118) (.t 121) (.c (.p (.bool false)))⟩,
 ⟨some 123, none, .mov (.t 122)⟩,
 ⟨some 124, (some (123, true)), .off (.t 1) 4⟩,
 ⟨some 125, (some (123, true)), .ld (.t 124) 1 false⟩,
 ⟨some 126, (some (123, true)), .bin .leq (.t 125) (.c (.p (.int .i64 3)))⟩,
 ⟨some 127, none, .pick (.t 123) (.t 126) (.c (.p (.bool false)))⟩,
 ⟨some 128, none, .mov (.t 127)⟩,
 ⟨some 129, (some (128, true)), .off (.t 1) 0⟩,
 ⟨some 130, (some (128, true)), .ld (.t 129) 1 false⟩,
 ⟨some 131, (some (128, true)), .bin .neq (.t 130) (.c (.p (.int .i64 2)))⟩,
 ⟨some 132, (some (128, true)), .mov (.t 131)⟩,
 ⟨some 133, (some (132, false)), .off (.t 1) 5⟩,
 ⟨some 134, (some (132, false)), .ld (.t 133) 1 false⟩,
 ⟨some 135, (some (132, false)), .off (.t 1) 1⟩,
 ⟨some 136, (some (132, false)), .ld (.t 135) 1 false⟩,
 ⟨some 137, (some (132, false)), .bin .leq (.t 134) (.t 136)⟩,
 ⟨some 138, (some (128, true)), .pick (.t 132) (.c (.p (.bool true))) (.t 137)⟩,
 ⟨some 139, none, .pick (.t 128) (.t 138) (.c (.p (.bool false)))⟩,
 ⟨some 2, none, .mov (.t 139)⟩] [2] [])
 .ret)))),
 [.tmp 2], false⟩
def lp91_0 : IC :=
 (.loop [1, 3] [1] (.seq (.seq (.reg false [⟨some 25, none, .mov (.t 3)⟩,
 ⟨some 26, none, .off (.t 1) 0⟩,
 ⟨some 27, none, .ld (.t 26) 1 false⟩,
 ⟨some 28, none, .len (.t 27)⟩,
 ⟨some 29, none, .bin .lss (.t 25) (.t 28)⟩] [1, 3, 29] [1])
 (.cond (.t 29)
 .skip
 (.exit 0)))
 (.seq (.block 1 (.seq (.reg false [⟨some 32, none, .off (.t 1) 0⟩,
 ⟨some 33, none, .ld (.t 32) 1 false⟩,
 ⟨some 34, none, .mov (.t 3)⟩,
 ⟨some 35, none, .ixs (.t 33) (.t 34) 1⟩,
 ⟨some 36, none, .ld (.t 35) 1 false⟩,
 ⟨some 37, none, .bin .lss (.t 36) (.c (.p (.int .i64 1)))⟩,
 ⟨some 38, none, .mov (.t 37)⟩,
 ⟨some 39, (some (38, false)), .off (.t 1) 0⟩,
 ⟨some 40, (some (38, false)), .ld (.t 39) 1 false⟩,
 ⟨some 41, (some (38, false)), .mov (.t 3)⟩,
 ⟨some 42, (some (38, false)), .ixs (.t 40) (.t 41) 1⟩,
 ⟨some 43, (some (38, false)), .ld (.t 42) 1 false⟩,
 ⟨some 44, (some (38, false)), .bin .gtr (.t 43) (.c (.p (.int .i64 1073741823)))⟩,
 ⟨some 45, none, .pick (.t 38) (.c (.p (.bool true))) (.t 44)⟩] [1, 3, 45] [1])
 (.cond (.t 45)
 (.seq (.reg false [⟨some 2, none, .mov (.c (.p (.bool false)))⟩] [2] [])
 .ret)
 .skip)))
 (.reg false [⟨some 30, none, .mov (.t 3)⟩,
 ⟨some 31, none, .bin .add (.t 30) (.c (.p (.int .i64 1)))⟩,
 ⟨some 3, none, .mov (.t 31)⟩] [1, 3] [1]))))
def lp91_1 : IC :=
 (.loop [1, 4] [1] (.seq (.seq (.reg false [⟨some 46, none, .mov (.t 4)⟩,
 ⟨some 47, none, .off (.t 1) 1⟩,
 ⟨some 48, none, .ld (.t 47) 1 false⟩,
 ⟨some 49, none, .len (.t 48)⟩,
 ⟨some 50, none, .bin .lss (.t 46) (.t 49)⟩] [1, 4, 50] [1])
 (.cond (.t 50)
 .skip
 (.exit 2)))
 (.seq (.block 3 (.seq (.reg false [⟨some 53, none, .off (.t 1) 1⟩,
 ⟨some 54, none, .ld (.t 53) 1 false⟩,
 ⟨some 55, none, .mov (.t 4)⟩,
 ⟨some 56, none, .ixs (.t 54) (.t 55) 1⟩,
 ⟨some 57, none, .ld (.t 56) 1 false⟩,
 ⟨some 58, none, .bin .lss (.t 57) (.c (.p (.int .i64 0)))⟩,
 ⟨some 59, none, .mov (.t 58)⟩,
 ⟨some 60, (some (59, false)), .off (.t 1) 1⟩,
 ⟨some 61, (some (59, false)), .ld (.t 60) 1 false⟩,
 ⟨some 62, (some (59, false)), .mov (.t 4)⟩,
 ⟨some 63, (some (59, false)), .ixs (.t 61) (.t 62) 1⟩,
 ⟨some 64, (some (59, false)), .ld (.t 63) 1 false⟩,
 ⟨some 65, (some (59, false)), .bin .gtr (.t 64) (.c (.p (.int .i64 10000)))⟩,
 ⟨some 66, none, .pick (.t 59) (.c (.p (.bool true))) (.t 65)⟩] [1, 4, 66] [1])
 (.cond (.t 66)
 (.seq (.reg false [⟨some 2, none, .mov (.c (.p (.bool false)))⟩] [2] [])
 .ret)
 .skip)))
 (.reg false [⟨some 51, none, .mov (.t 4)⟩,
 ⟨some 52, none, .bin .add (.t 51) (.c (.p (.int .i64 1)))⟩,
 ⟨some 4, none, .mov (.t 52)⟩] [1, 4] [1]))))
def ir91 : IFn :=   -- tympan/tympanref11.Check
⟨(.seq (.reg false [⟨some 1, none, .bx (.t 0) 2 true⟩,
 ⟨some 2, none, .mov (.c (.p (.bool false)))⟩] [1] [1])
 (.seq (.seq (.reg false [⟨some 5, none, .off (.t 1) 0⟩,
 ⟨some 6, none, .ld (.t 5) 1 false⟩,
 ⟨some 7, none, .len (.t 6)⟩,
 ⟨some 8, none, .bin .lss (.t 7) (.c (.p (.int .i64 1)))⟩,
 ⟨some 9, none, .mov (.t 8)⟩,
 ⟨some 10, (some (9, false)), .off (.t 1) 0⟩,
 ⟨some 11, (some (9, false)), .ld (.t 10) 1 false⟩,
 ⟨some 12, (some (9, false)), .len (.t 11)⟩,
 ⟨some 13, (some (9, false)), .bin .gtr (.t 12) (.c (.p (.int .i64 64)))⟩,
 ⟨some 14, none, .pick (.t 9) (.c (.p (.bool true))) (.t 13)⟩,
 ⟨some 15, none, .mov (.t 14)⟩,
 ⟨some 16, (some (15, false)), .off (.t 1) 1⟩,
 ⟨some 17, (some (15, false)), .ld (.t 16) 1 false⟩,
 ⟨some 18, (some (15, false)), .len (.t 17)⟩,
 ⟨some 19, (some (15, false)), .off (.t 1) 0⟩,
 ⟨some 20, (some (15, false)), .ld (.t 19) 1 false⟩,
 ⟨some 21, (some (15, false)), .len (.t 20)⟩,
 ⟨some 22, (some (15, false)), .bin .sub (.t 21) (.c (.p (.int .i64 1)))⟩,
 ⟨some 23, (some (15, false)), .bin .neq (.t 18) (.t 22)⟩,
 ⟨some 24, none, .pick (.t 15) (.c (.p (.bool true))) (.t 23)⟩] [1, 24] [1])
 (.cond (.t 24)
 (.seq (.reg false [⟨some 2, none, .mov (.c (.p (.bool false)))⟩] [2] [])
 .ret)
 .skip))
 (.seq (.seq (.reg false [⟨some 3, none, .mov (.c (.p (.int .i64 0)))⟩] [1, 3] [1])
 (.block 0 lp91_0))
 (.seq (.seq (.reg false [⟨some 4, none, .mov (.c (.p (.int .i64 0)))⟩] [1, 4] [1])
 (.block 2 lp91_1))
 (.seq (.reg false [⟨some 2, none, .mov (.c (.p (.bool true)))⟩] [2] [])
 .ret))))),
 [.tmp 2], false⟩
def ir92 : IFn :=   -- tympan/tympanref12.Right
⟨(.seq (.reg false [⟨some 1, none, .bx (.t 0) 3 true⟩,
 ⟨some 2, none, .mov (.c (.p (.bool false)))⟩] [1] [1])
 (.seq (.reg false [⟨some 3, none, .off (.t 1) 0⟩,
 ⟨some 4, none, .ld (.t 3) 1 false⟩,
 ⟨some 5, none, .bin .geq (.t 4) (.c (.p (.int .i64 0)))⟩,
 ⟨some 6, none, .mov (.t 5)⟩,
 ⟨some 7, (some (6, true)), .off (.t 1) 0⟩,
 ⟨some 8, (some (6, true)), .ld (.t 7) 1 false⟩,
 ⟨some 9, (some (6, true)), .bin .leq (.t 8) (.c (.p (.int .i64 2)))⟩,
 ⟨some 10, none, .pick (.t 6) (.t 9) (.c (.p (.bool false)))⟩,
 ⟨some 11, none, .mov (.t 10)⟩,
 ⟨some 12, (some (11, true)), .off (.t 1) 1⟩,
 ⟨some 13, (some (11, true)), .ld (.t 12) 1 false⟩,
 ⟨some 14, (some (11, true)), .bin .geq (.t 13) (.c (.p (.int .i64 1)))⟩,
 ⟨some 15, none, .pick (.t 11) (.t 14) (.c (.p (.bool false)))⟩,
 ⟨some 16, none, .mov (.t 15)⟩,
 ⟨some 17, (some (16, true)), .off (.t 1) 1⟩,
 ⟨some 18, (some (16, true)), .ld (.t 17) 1 false⟩,
 ⟨some 19, (some (16, true)), .bin .leq (.t 18) (.c (.p (.int .i64 1073741823)))⟩,
 ⟨some 20, none, .pick (.t 16) (.t 19) (.c (.p (.bool false)))⟩,
 ⟨some 21, none, .mov (.t 20)⟩,
 ⟨some 22, (some (21, true)), .off (.t 1) 2⟩,
 ⟨some 23, (some (21, true)), .ld (.t 22) 1 false⟩,
 ⟨some 24, (some (21, true)), .bin .geq (.t 23) (.c (.p (.int .i64 0)))⟩,
 ⟨some 25, none, .pick (.t 21) (.t 24) (.c (.p (.bool false)))⟩,
 ⟨some 26, none, .mov (.t 25)⟩,
 ⟨some 27, (some (26, true)), .off (.t 1) 2⟩,
 ⟨some 28, (some (26, true)), .ld (.t 27) 1 false⟩,
 ⟨some 29, (some (26, true)), .bin .leq (.t 28) (.c (.p (.int .i64 3)))⟩,
 ⟨some 30, none, .pick (.t 26) (.t 29) (.c (.p (.bool false)))⟩,
 ⟨some 2, none, .mov (.t 30)⟩] [2] [])
 .ret)),
 [.tmp 2], false⟩
def lp93_0 : IC :=
 (.loop [0, 1, 2, 7, 8] [] (.seq (.seq (.reg false [⟨some 9, none, .mov (.t 8)⟩,
 ⟨some 10, none, .mov (.t 0)⟩,
 ⟨some 11, none, .len (.t 10)⟩,
 ⟨some 12, none, .bin .lss (.t 9) (.t 11)⟩] [0, 1, 2, 7, 8, 12] [])
 (.cond (.t 12)
 .skip
 (.exit 0)))
 (.seq (.block 1 (.seq (.reg false [⟨some 15, none, .mov (.t 0)⟩,
 ⟨some 16, none, .mov (.t 8)⟩,
 ⟨some 17, none, .ixs (.t 15) (.t 16) 7⟩,
 ⟨some 18, none, .off (.t 17) 0⟩,
 ⟨some 19, none, .ld (.t 18) 1 false⟩,
 ⟨some 20, none, .mov (.t 1)⟩,
 ⟨some 21, none, .bin .eql (.t 19) (.t 20)⟩] [0, 1, 2, 7, 8, 21] [])
 (.cond (.t 21)
 (.seq (.seq (.reg false [⟨some 22, none, .mov (.t 0)⟩,
 ⟨some 23, none, .mov (.t 8)⟩,
 ⟨some 24, none, .ixs (.t 22) (.t 23) 7⟩,
 ⟨some 25, none, .off (.t 24) 6⟩,
 ⟨some 26, none, .ld (.t 25) 1 false⟩,
 ⟨some 27, none, .mov (.t 7)⟩,
 ⟨some 28, none, .bin .neq (.t 26) (.t 27)⟩,
 ⟨some 29, none, .mov (.t 28)⟩,
 ⟨some 30, (some (29, false)), .mov (.t 7)⟩,
 ⟨some 31, (some (29, false)), .mov (.t 2)⟩,
 ⟨some 32, (some (29, false)), .bin .geq (.t 30) (.t 31)⟩,
 ⟨some 33, none, .pick (.t 29) (.c (.p (.bool true))) (.t 32)⟩] [0, 1, 2, 7, 8, 33] [])
 (.cond (.t 33)
 (.seq (.reg false [⟨some 34, none, .mov (.t 8)⟩,
 ⟨some 6, none, .mov (.t 34)⟩] [6] [])
 .ret)
 .skip))
 (.reg false [⟨some 35, none, .mov (.t 7)⟩,
 ⟨some 36, none, .bin .add (.t 35) (.c (.p (.int .i64 1)))⟩,
 ⟨some 7, none, .mov (.t 36)⟩] [0, 1, 2, 7, 8] []))
 .skip)))
 (.reg false [⟨some 13, none, .mov (.t 8)⟩,
 ⟨some 14, none, .bin .add (.t 13) (.c (.p (.int .i64 1)))⟩,
 ⟨some 8, none, .mov (.t 14)⟩] [0, 1, 2, 7, 8] []))))
def ir93 : IFn :=   -- tympan/tympanref15.anchors
⟨(.seq (.reg false [⟨some 6, none, .mov (.c (.p (.int .i64 0)))⟩] [0, 1, 2] [])
 (.seq (.reg false [⟨some 7, none, .mov (.c (.p (.int .i64 0)))⟩] [0, 1, 2, 7] [])
 (.seq (.seq (.reg false [⟨some 8, none, .mov (.c (.p (.int .i64 0)))⟩] [0, 1, 2, 7, 8] [])
 (.block 0 lp93_0))
 (.seq (.seq (.reg false [⟨some 37, none, .mov (.t 7)⟩,
 ⟨some 38, none, .mov (.t 2)⟩,
 ⟨some 39, none, .bin .lss (.t 37) (.t 38)⟩] [0, 39] [])
 (.cond (.t 39)
 (.seq (.reg false [⟨some 40, none, .mov (.t 0)⟩,
 ⟨some 41, none, .len (.t 40)⟩,
 ⟨some 6, none, .mov (.t 41)⟩] [6] [])
 .ret)
 .skip))
 (.seq (.reg false [⟨some 6, none, .mov (.c (.p (.int .i64 (-1))))⟩] [6] [])
 .ret))))),
 [.tmp 6], false⟩
def lp118_0 : IC :=
 (.loop [0, 7, 16, 17, 18] [] (.seq (.reg false [⟨some 19, none, .bin .lss (.t 18) (.t 17)⟩] [0, 7, 16, 17, 18, 19] [])
 (.seq (.cond (.t 19)
 .skip
 (.exit 0))
 (.seq (.block 1 (.seq (.reg false [⟨some 20, none, .ixs (.t 16) (.t 18) 3⟩,
 ⟨some 21, none, .ld (.t 20) 3 true⟩,
 ⟨some 9, none, .al [.p (.int .i64 0), .p (.int .i64 0), .p (.int .i64 0)] true⟩,
 ⟨none, none, .st (.t 9) (.t 21) 3⟩] [0, 7, 9, 16, 17, 18] [9])
 (.seq (.reg false [⟨some 22, none, .off (.t 9) 0⟩,
 ⟨some 23, none, .ld (.t 22) 1 false⟩,
 ⟨some 24, none, .bin .geq (.t 23) (.c (.p (.int .i64 0)))⟩,
 ⟨some 25, none, .mov (.t 24)⟩,
 ⟨some 26, (some (25, true)), .off (.t 9) 0⟩,
 ⟨some 27, (some (25, true)), .ld (.t 26) 1 false⟩,
 ⟨some 28, (some (25, true)), .mov (.t 0)⟩,
 ⟨some 29, (some (25, true)), .len (.t 28)⟩,
 ⟨some 30, (some (25, true)), .bin .lss (.t 27) (.t 29)⟩,
 ⟨some 31, none, .pick (.t 25) (.t 30) (.c (.p (.bool false)))⟩] [0, 7, 9, 16, 17, 18, 31] [9])
 (.cond (.t 31)
 (.reg true [⟨some 32, none, .mov (.t 7)⟩,
 ⟨some 33, none, .mov (.t 0)⟩,
 ⟨some 34, none, .off (.t 9) 0⟩,
 ⟨some 35, none, .ldl 9 (.t 34) 1 false⟩,
 ⟨some 36, none, .ixs (.t 33) (.t 35) 2⟩,
 ⟨some 37, none, .ld (.t 36) 2 true⟩,
 ⟨some 38, none, .off (.t 9) 1⟩,
 ⟨some 39, none, .ldl 9 (.t 38) 1 false⟩,
 ⟨some 40, none, .off (.t 9) 2⟩,
 ⟨some 41, none, .ldl 9 (.t 40) 1 false⟩,
 ⟨some 42, none, .call 201 [(.t 37), (.t 39), (.t 41)] false⟩,
 ⟨some 43, none, .bin .add (.t 32) (.t 42)⟩,
 ⟨some 44, none, .mnmx false (.t 43) (.c (.p (.int .i64 1125899906842624)))⟩,
 ⟨some 7, none, .mov (.t 44)⟩] [0, 7, 16, 17, 18] [])
 .skip))))
 (.reg false [⟨some 45, none, .bin .add (.t 18) (.c (.p (.int .i64 1)))⟩,
 ⟨some 18, none, .mov (.t 45)⟩] [0, 7, 16, 17, 18] [])))))
def ir118 : IFn :=   -- tympan/split.High
⟨(.seq (.reg false [⟨some 6, none, .mov (.c (.p (.int .i64 0)))⟩] [0, 1, 2] [])
 (.seq (.seq (.reg false [⟨some 10, none, .mov (.t 1)⟩,
 ⟨some 11, none, .len (.t 10)⟩,
 ⟨some 12, none, .bin .eql (.t 11) (.c (.p (.int .i64 0)))⟩] [0, 1, 2, 12] [])
 (.cond (.t 12)
 (.seq (.reg false [⟨some 6, none, .mov (.c (.p (.int .i64 0)))⟩] [6] [])
 .ret)
 .skip))
 (.seq (.reg false [⟨some 13, none, .mov (.t 2)⟩,
 ⟨some 14, none, .mnmx true (.t 13) (.c (.p (.int .i64 0)))⟩,
 ⟨some 15, none, .mnmx false (.t 14) (.c (.p (.int .i64 1125899906842624)))⟩,
 ⟨some 7, none, .mov (.t 15)⟩] [0, 1, 7] [])
 (.seq (.seq (.reg false [⟨some 16, none, .mov (.t 1)⟩,
 ⟨some 17, none, .len (.t 16)⟩,
 ⟨some 18, none, .mov (.c (.p (.int .i64 0)))⟩] [0, 7, 16, 17, 18] [])
 (.block 0 lp118_0))
 (.seq (.reg false [⟨some 46, none, .mov (.t 7)⟩,
 ⟨some 6, none, .mov (.t 46)⟩] [6] [])
 .ret))))),
 [.tmp 6], false⟩
def lp136_0 : IC :=
 (.loop [3, 6, 7, 8] [] (.seq (.reg false [⟨some 9, none, .bin .lss (.t 8) (.t 7)⟩] [3, 6, 7, 8, 9] [])
 (.seq (.cond (.t 9)
 .skip
 (.exit 0))
 (.seq (.block 1 (.seq (.reg false [⟨some 10, none, .ixs (.t 6) (.t 8) 3⟩,
 ⟨some 11, none, .ld (.t 10) 3 true⟩,
 ⟨some 5, none, .al [.p (.int .i64 0), .p (.int .i64 0), .p (.int .i64 0)] true⟩,
 ⟨none, none, .st (.t 5) (.t 11) 3⟩] [3, 5, 6, 7, 8] [5])
 (.reg false [⟨some 12, none, .mov (.t 3)⟩,
 ⟨some 13, none, .off (.t 5) 2⟩,
 ⟨some 14, none, .ld (.t 13) 1 false⟩,
 ⟨some 15, none, .off (.t 5) 1⟩,
 ⟨some 16, none, .ld (.t 15) 1 false⟩,
 ⟨some 17, none, .bin .sub (.t 14) (.t 16)⟩,
 ⟨some 18, none, .mnmx true (.t 17) (.c (.p (.int .i64 0)))⟩,
 ⟨some 19, none, .bin .add (.t 12) (.t 18)⟩,
 ⟨some 3, none, .mov (.t 19)⟩] [3, 6, 7, 8] [])))
 (.reg false [⟨some 20, none, .bin .add (.t 8) (.c (.p (.int .i64 1)))⟩,
 ⟨some 8, none, .mov (.t 20)⟩] [3, 6, 7, 8] [])))))
def ir136 : IFn :=   -- tympan/split.Lines
⟨(.seq (.reg false [⟨some 2, none, .mov (.c (.p (.int .i64 0)))⟩] [0] [])
 (.seq (.reg false [⟨some 3, none, .mov (.c (.p (.int .i64 0)))⟩] [0, 3] [])
 (.seq (.seq (.reg false [⟨some 6, none, .mov (.t 0)⟩,
 ⟨some 7, none, .len (.t 6)⟩,
 ⟨some 8, none, .mov (.c (.p (.int .i64 0)))⟩] [3, 6, 7, 8] [])
 (.block 0 lp136_0))
 (.seq (.reg false [⟨some 21, none, .mov (.t 3)⟩,
 ⟨some 2, none, .mov (.t 21)⟩] [2] [])
 .ret)))),
 [.tmp 2], false⟩
def ir138 : IFn :=   -- tympan/split.Same
⟨(.seq (.reg false [⟨some 4, none, .mov (.c (.p (.bool false)))⟩] [0, 1] [])
 (.seq (.reg false [⟨some 5, none, .mov (.t 0)⟩,
 ⟨some 6, none, .mov (.t 1)⟩,
 ⟨some 7, none, .call 220 [(.t 5), (.t 6)] false⟩,
 ⟨some 4, none, .mov (.t 7)⟩] [4] [])
 .ret)),
 [.tmp 4], false⟩
def lp139_0 : IC :=
 (.loop [0, 1, 12, 13] [] (.seq (.reg false [⟨some 14, none, .bin .lss (.t 13) (.t 12)⟩] [0, 1, 12, 13, 14] [])
 (.seq (.cond (.t 14)
 .skip
 (.exit 0))
 (.seq (.block 1 (.seq (.reg false [⟨some 15, none, .mov (.t 13)⟩,
 ⟨some 5, none, .mov (.t 15)⟩] [0, 1, 5, 12, 13] [])
 (.seq (.reg true [⟨some 16, none, .mov (.t 0)⟩,
 ⟨some 17, none, .mov (.t 5)⟩,
 ⟨some 18, none, .ixs (.t 16) (.t 17) 1⟩,
 ⟨some 19, none, .ld (.t 18) 1 false⟩,
 ⟨some 20, none, .mov (.t 1)⟩,
 ⟨some 21, none, .mov (.t 5)⟩,
 ⟨some 22, none, .ixs (.t 20) (.t 21) 1⟩,
 ⟨some 23, none, .ld (.t 22) 1 false⟩,
 ⟨some 24, none, .bin .neq (.t 19) (.t 23)⟩] [0, 1, 12, 13, 24] [])
 (.cond (.t 24)
 (.seq (.reg false [⟨some 4, none, .mov (.c (.p (.bool false)))⟩] [4] [])
 .ret)
 .skip))))
 (.reg false [⟨some 25, none, .bin .add (.t 13) (.c (.p (.int .i64 1)))⟩,
 ⟨some 13, none, .mov (.t 25)⟩] [0, 1, 12, 13] [])))))
def ir139 : IFn :=   -- slices.Equal[[]int,int]
⟨(.seq (.reg false [⟨some 4, none, .mov (.c (.p (.bool false)))⟩] [0, 1] [])
 (.seq (.seq (.reg false [⟨some 6, none, .mov (.t 0)⟩,
 ⟨some 7, none, .len (.t 6)⟩,
 ⟨some 8, none, .mov (.t 1)⟩,
 ⟨some 9, none, .len (.t 8)⟩,
 ⟨some 10, none, .bin .neq (.t 7) (.t 9)⟩] [0, 1, 10] [])
 (.cond (.t 10)
 (.seq (.reg false [⟨some 4, none, .mov (.c (.p (.bool false)))⟩] [4] [])
 .ret)
 .skip))
 (.seq (.seq (.reg false [⟨some 11, none, .mov (.t 0)⟩,
 ⟨some 12, none, .len (.t 11)⟩,
 ⟨some 13, none, .mov (.c (.p (.int .i64 0)))⟩] [0, 1, 12, 13] [])
 (.block 0 lp139_0))
 (.seq (.reg false [⟨some 4, none, .mov (.c (.p (.bool true)))⟩] [4] [])
 .ret)))),
 [.tmp 4], false⟩
def lp141_0 : IC :=
 (.loop [0, 1, 5] [] (.seq (.seq (.reg false [⟨some 11, none, .mov (.t 5)⟩,
 ⟨some 12, none, .mov (.t 0)⟩,
 ⟨some 13, none, .len (.t 12)⟩,
 ⟨some 14, none, .bin .lss (.t 11) (.t 13)⟩] [0, 1, 5, 14] [])
 (.cond (.t 14)
 .skip
 (.exit 0)))
 (.seq (.block 1 (.seq (.reg true [⟨some 17, none, .mov (.t 0)⟩,
 ⟨some 18, none, .mov (.t 5)⟩,
 ⟨some 19, none, .ixs (.t 17) (.t 18) 1⟩,
 ⟨some 20, none, .ld (.t 19) 1 false⟩,
 ⟨some 21, none, .mov (.t 1)⟩,
 ⟨some 22, none, .mov (.t 5)⟩,
 ⟨some 23, none, .ixs (.t 21) (.t 22) 1⟩,
 ⟨some 24, none, .ld (.t 23) 1 false⟩,
 ⟨some 25, none, .bin .neq (.t 20) (.t 24)⟩] [0, 1, 5, 25] [])
 (.cond (.t 25)
 (.seq (.reg false [⟨some 4, none, .mov (.c (.p (.bool false)))⟩] [4] [])
 .ret)
 .skip)))
 (.reg false [⟨some 15, none, .mov (.t 5)⟩,
 ⟨some 16, none, .bin .add (.t 15) (.c (.p (.int .i64 1)))⟩,
 ⟨some 5, none, .mov (.t 16)⟩] [0, 1, 5] []))))
def ir141 : IFn :=   -- tympan/tympanref11.Ints
⟨(.seq (.reg false [⟨some 4, none, .mov (.c (.p (.bool false)))⟩] [0, 1] [])
 (.seq (.seq (.reg false [⟨some 6, none, .mov (.t 0)⟩,
 ⟨some 7, none, .len (.t 6)⟩,
 ⟨some 8, none, .mov (.t 1)⟩,
 ⟨some 9, none, .len (.t 8)⟩,
 ⟨some 10, none, .bin .neq (.t 7) (.t 9)⟩] [0, 1, 10] [])
 (.cond (.t 10)
 (.seq (.reg false [⟨some 4, none, .mov (.c (.p (.bool false)))⟩] [4] [])
 .ret)
 .skip))
 (.seq (.seq (.reg false [⟨some 5, none, .mov (.c (.p (.int .i64 0)))⟩] [0, 1, 5] [])
 (.block 0 lp141_0))
 (.seq (.reg false [⟨some 4, none, .mov (.c (.p (.bool true)))⟩] [4] [])
 .ret)))),
 [.tmp 4], false⟩
def lp142_0 : IC :=
 (.loop [1, 7, 8, 9] [1] (.seq (.reg false [⟨some 10, none, .bin .lss (.t 9) (.t 8)⟩] [1, 7, 8, 9, 10] [1])
 (.seq (.cond (.t 10)
 .skip
 (.exit 0))
 (.seq (.block 1 (.seq (.reg false [⟨some 11, none, .ixs (.t 7) (.t 9) 2⟩,
 ⟨some 12, none, .ld (.t 11) 2 true⟩,
 ⟨some 5, none, .al [.p (.int .i64 0), .p .nilf] true⟩,
 ⟨none, none, .st (.t 5) (.t 12) 2⟩] [1, 5, 7, 8, 9] [1, 5])
 (.seq (.reg false [⟨some 13, none, .off (.t 5) 1⟩,
 ⟨some 14, none, .ld (.t 13) 1 false⟩,
 ⟨some 15, none, .ld (.t 1) 22 true⟩,
 ⟨some 16, none, .callv (.t 14) [(.t 15)] false⟩,
 ⟨some 6, none, .mov (.t 16)⟩] [1, 5, 6, 7, 8, 9] [1, 5])
 (.seq (.reg false [⟨some 17, none, .mov (.t 6)⟩,
 ⟨some 18, none, .bin .geq (.t 17) (.c (.p (.int .i64 0)))⟩] [1, 5, 6, 7, 8, 9, 18] [1, 5])
 (.cond (.t 18)
 (.seq (.reg false [⟨some 19, none, .off (.t 5) 0⟩,
 ⟨some 20, none, .ld (.t 19) 1 false⟩,
 ⟨some 21, none, .mov (.t 6)⟩,
 ⟨some 2, none, .mov (.t 20)⟩,
 ⟨some 3, none, .mov (.t 21)⟩] [2, 3] [])
 .ret)
 .skip)))))
 (.reg false [⟨some 22, none, .bin .add (.t 9) (.c (.p (.int .i64 1)))⟩,
 ⟨some 9, none, .mov (.t 22)⟩] [1, 7, 8, 9] [1])))))
def ir142 : IFn :=   -- tympan/valid.Check
⟨(.seq (.reg false [⟨some 1, none, .bx (.t 0) 22 true⟩,
 ⟨some 2, none, .mov (.c (.p (.int .i64 0)))⟩,
 ⟨some 3, none, .mov (.c (.p (.int .i64 0)))⟩] [1] [1])
 (.seq (.seq (.reg false [⟨some 7, none, .call 221 [] false⟩,
 ⟨some 8, none, .len (.t 7)⟩,
 ⟨some 9, none, .mov (.c (.p (.int .i64 0)))⟩] [1, 7, 8, 9] [1])
 (.block 0 lp142_0))
 (.seq (.reg false [⟨some 2, none, .mov (.c (.p (.int .i64 0)))⟩,
 ⟨some 3, none, .mov (.c (.p (.int .i64 0)))⟩] [2, 3] [])
 .ret))),
 [.tmp 2, .tmp 3], false⟩
def ir143 : IFn :=   -- slices.Clone[[]tympan/api.Item,tympan/api.Item]
⟨(.seq (.reg false [⟨some 2, none, .mov (.c (.nils))⟩] [0] [])
 (.seq (.seq (.reg false [⟨some 3, none, .mov (.t 0)⟩,
 ⟨some 4, none, .eqn .sl false (.t 3)⟩] [0, 4] [])
 (.cond (.t 4)
 (.seq (.reg false [⟨some 2, none, .mov (.c (.nils))⟩] [2] [])
 .ret)
 .skip))
 (.seq (.reg false [⟨some 5, none, .bsl 7 0 [.p (.int .i64 0), .p (.int .i64 0), .p (.int .i64 0), .p (.int .i64 0), .p (.int .i64 0), .p (.int .i64 0), .p (.int .i64 0)] []⟩,
 ⟨some 6, none, .mov (.t 0)⟩,
 ⟨some 7, none, .app (.t 5) (.t 6) 7⟩,
 ⟨some 2, none, .mov (.t 7)⟩] [2] [])
 .ret))),
 [.tmp 2], true⟩
def ir144 : IFn :=   -- slices.Clone[[]tympan/api.Float,tympan/api.Float]
⟨(.seq (.reg false [⟨some 2, none, .mov (.c (.nils))⟩] [0] [])
 (.seq (.seq (.reg false [⟨some 3, none, .mov (.t 0)⟩,
 ⟨some 4, none, .eqn .sl false (.t 3)⟩] [0, 4] [])
 (.cond (.t 4)
 (.seq (.reg false [⟨some 2, none, .mov (.c (.nils))⟩] [2] [])
 .ret)
 .skip))
 (.seq (.reg false [⟨some 5, none, .bsl 3 0 [.p (.int .i64 0), .p (.int .i64 0), .p (.int .i64 0)] []⟩,
 ⟨some 6, none, .mov (.t 0)⟩,
 ⟨some 7, none, .app (.t 5) (.t 6) 3⟩,
 ⟨some 2, none, .mov (.t 7)⟩] [2] [])
 .ret))),
 [.tmp 2], true⟩
def ir145 : IFn :=   -- slices.Clone[[]tympan/api.Sp,tympan/api.Sp]
⟨(.seq (.reg false [⟨some 2, none, .mov (.c (.nils))⟩] [0] [])
 (.seq (.seq (.reg false [⟨some 3, none, .mov (.t 0)⟩,
 ⟨some 4, none, .eqn .sl false (.t 3)⟩] [0, 4] [])
 (.cond (.t 4)
 (.seq (.reg false [⟨some 2, none, .mov (.c (.nils))⟩] [2] [])
 .ret)
 .skip))
 (.seq (.reg false [⟨some 5, none, .bsl 1 0 [.p (.int .i64 0)] []⟩,
 ⟨some 6, none, .mov (.t 0)⟩,
 ⟨some 7, none, .app (.t 5) (.t 6) 1⟩,
 ⟨some 2, none, .mov (.t 7)⟩] [2] [])
 .ret))),
 [.tmp 2], true⟩
def ir146 : IFn :=   -- slices.Clone[[]int,int]
⟨(.seq (.reg false [⟨some 2, none, .mov (.c (.nils))⟩] [0] [])
 (.seq (.seq (.reg false [⟨some 3, none, .mov (.t 0)⟩,
 ⟨some 4, none, .eqn .sl false (.t 3)⟩] [0, 4] [])
 (.cond (.t 4)
 (.seq (.reg false [⟨some 2, none, .mov (.c (.nils))⟩] [2] [])
 .ret)
 .skip))
 (.seq (.reg false [⟨some 5, none, .bsl 1 0 [.p (.int .i64 0)] []⟩,
 ⟨some 6, none, .mov (.t 0)⟩,
 ⟨some 7, none, .app (.t 5) (.t 6) 1⟩,
 ⟨some 2, none, .mov (.t 7)⟩] [2] [])
 .ret))),
 [.tmp 2], true⟩
def lp147_0 : IC :=
 (.loop [2, 5, 11, 12] [2] (.seq (.reg false [⟨some 13, none, .bin .lss (.t 12) (.t 11)⟩] [2, 5, 11, 12, 13] [2])
 (.seq (.cond (.t 13)
 .skip
 (.exit 0))
 (.seq (.block 1 (.seq (.reg false [⟨some 14, none, .mov (.t 12)⟩,
 ⟨some 6, none, .mov (.t 14)⟩] [2, 5, 6, 11, 12] [2])
 (.seq (.reg false [⟨some 15, none, .mov (.t 5)⟩,
 ⟨some 16, none, .mov (.t 6)⟩,
 ⟨some 17, none, .ixs (.t 15) (.t 16) 7⟩,
 ⟨some 7, none, .mov (.t 17)⟩] [2, 5, 7, 11, 12] [2])
 (.seq (.reg false [⟨some 18, none, .mov (.t 7)⟩,
 ⟨some 19, none, .nck (.t 18)⟩,
 ⟨some 20, none, .off (.t 19) 0⟩,
 ⟨some 21, none, .ld (.t 20) 1 false⟩] [2, 5, 7, 11, 12, 21] [2])
 (.block 2 (.seq (.reg false [⟨some 23, none, .bin .eql (.t 21) (.c (.p (.int .i64 1)))⟩,
 ⟨some 22, none, .mov (.t 23)⟩] [2, 5, 7, 11, 12, 21, 22] [2])
 (.cond (.t 22)
 (.reg true [⟨some 24, none, .ldl 2 (.t 2) 1 true⟩,
 ⟨some 25, none, .mov (.t 7)⟩,
 ⟨some 26, none, .nck (.t 25)⟩,
 ⟨some 27, none, .off (.t 26) 1⟩,
 ⟨some 28, none, .bsl 1 1 [.p .nilp] [(0, (.t 27))]⟩,
 ⟨some 29, none, .call 149 [(.t 24), (.c (.p (.fn 151))), (.t 28)] false⟩] [2, 5, 11, 12] [2])
 (.seq (.reg false [⟨some 31, none, .bin .eql (.t 21) (.c (.p (.int .i64 2)))⟩,
 ⟨some 30, none, .mov (.t 31)⟩] [2, 5, 7, 11, 12, 30] [2])
 (.cond (.t 30)
 (.seq (.reg true [⟨some 32, none, .ldl 2 (.t 2) 1 true⟩,
 ⟨some 33, none, .mov (.t 7)⟩,
 ⟨some 34, none, .nck (.t 33)⟩,
 ⟨some 35, none, .off (.t 34) 1⟩,
 ⟨some 36, none, .bsl 1 1 [.p .nilp] [(0, (.t 35))]⟩,
 ⟨some 37, none, .call 149 [(.t 32), (.c (.p (.fn 222))), (.t 36)] false⟩] [2, 5, 7, 11, 12] [2])
 (.reg false [⟨some 38, none, .mov (.t 7)⟩,
 ⟨some 39, none, .mov (.t 7)⟩,
 ⟨some 40, none, .mov (.t 7)⟩,
 ⟨some 41, none, .nck (.t 38)⟩,
 ⟨some 42, none, .off (.t 41) 3⟩,
 ⟨none, none, .st (.t 42) (.c (.p (.int .i64 0))) 1⟩,
 ⟨some 43, none, .nck (.t 39)⟩,
 ⟨some 44, none, .off (.t 43) 4⟩,
 ⟨none, none, .st (.t 44) (.c (.p (.int .i64 0))) 1⟩,
 ⟨some 45, none, .nck (.t 40)⟩,
 ⟨some 46, none, .off (.t 45) 5⟩,
 ⟨none, none, .st (.t 46) (.c (.p (.int .i64 0))) 1⟩] [2, 5, 11, 12] [2]))
 .skip)))))))))
 (.reg false [⟨some 47, none, .bin .add (.t 12) (.c (.p (.int .i64 1)))⟩,
 ⟨some 12, none, .mov (.t 47)⟩] [2, 5, 11, 12] [2])))))
def ir147 : IFn :=   -- (tympan/grid.snapper).items
⟨(.seq (.reg false [⟨some 2, none, .bx (.t 0) 1 true⟩,
 ⟨some 4, none, .mov (.c (.nils))⟩] [1, 2] [2])
 (.seq (.reg false [⟨some 8, none, .mov (.t 1)⟩,
 ⟨some 9, none, .call 143 [(.t 8)] false⟩,
 ⟨some 5, none, .mov (.t 9)⟩] [2, 5] [2])
 (.seq (.seq (.reg false [⟨some 10, none, .mov (.t 5)⟩,
 ⟨some 11, none, .len (.t 10)⟩,
 ⟨some 12, none, .mov (.c (.p (.int .i64 0)))⟩] [2, 5, 11, 12] [2])
 (.block 0 lp147_0))
 (.seq (.reg false [⟨some 48, none, .mov (.t 5)⟩,
 ⟨some 4, none, .mov (.t 48)⟩] [4] [])
 .ret)))),
 [.tmp 4], false⟩
def lp148_0 : IC :=
 (.loop [2, 5, 6, 12, 13, 14, 34, 35] [2] (.seq (.reg false [⟨some 36, none, .bin .lss (.t 35) (.t 34)⟩] [2, 5, 6, 12, 13, 14, 34, 35, 36] [2])
 (.seq (.cond (.t 36)
 .skip
 (.exit 2))
 (.seq (.block 3 (.seq (.reg false [⟨some 37, none, .mov (.t 35)⟩,
 ⟨some 8, none, .mov (.t 37)⟩] [2, 5, 6, 8, 12, 13, 14, 34, 35] [2])
 (.reg true [⟨some 38, none, .ldl 2 (.t 2) 1 true⟩,
 ⟨some 39, none, .mov (.t 5)⟩,
 ⟨some 40, none, .mov (.t 6)⟩,
 ⟨some 41, none, .ixs (.t 39) (.t 40) 2⟩,
 ⟨some 42, none, .off (.t 41) 0⟩,
 ⟨some 43, none, .ld (.t 42) 1 false⟩,
 ⟨some 44, none, .mov (.t 8)⟩,
 ⟨some 45, none, .ixs (.t 43) (.t 44) 1⟩,
 ⟨some 46, none, .bsl 1 1 [.p .nilp] [(0, (.t 45))]⟩,
 ⟨some 47, none, .call 149 [(.t 38), (.c (.p (.fn 151))), (.t 46)] false⟩] [2, 5, 6, 12, 13, 14, 34, 35] [2])))
 (.reg false [⟨some 48, none, .bin .add (.t 35) (.c (.p (.int .i64 1)))⟩,
 ⟨some 35, none, .mov (.t 48)⟩] [2, 5, 6, 12, 13, 14, 34, 35] [2])))))
def lp148_1 : IC :=
 (.loop [2, 5, 12, 13, 14] [2] (.seq (.reg false [⟨some 15, none, .bin .lss (.t 14) (.t 13)⟩] [2, 5, 12, 13, 14, 15] [2])
 (.seq (.cond (.t 15)
 .skip
 (.exit 0))
 (.seq (.block 1 (.seq (.reg false [⟨some 16, none, .mov (.t 14)⟩,
 ⟨some 17, none, .ixs (.t 12) (.t 14) 2⟩,
 ⟨some 18, none, .ld (.t 17) 2 true⟩,
 ⟨some 7, none, .al [.nils, .nils] true⟩,
 ⟨some 6, none, .mov (.t 16)⟩,
 ⟨none, none, .st (.t 7) (.t 18) 2⟩] [2, 5, 6, 7, 12, 13, 14] [2, 7])
 (.seq (.reg true [⟨some 19, none, .mov (.t 5)⟩,
 ⟨some 20, none, .mov (.t 6)⟩,
 ⟨some 21, none, .off (.t 7) 0⟩,
 ⟨some 22, none, .ldl 7 (.t 21) 1 false⟩,
 ⟨some 23, none, .call 145 [(.t 22)] false⟩,
 ⟨some 24, none, .off (.t 7) 1⟩,
 ⟨some 25, none, .ldl 7 (.t 24) 1 false⟩,
 ⟨some 26, none, .call 146 [(.t 25)] false⟩,
 ⟨some 27, none, .bld [.nils, .nils] [(0, 1, (.t 23)), (1, 1, (.t 26))]⟩,
 ⟨some 28, none, .ixs (.t 19) (.t 20) 2⟩,
 ⟨none, none, .st (.t 28) (.t 27) 2⟩] [2, 5, 6, 12, 13, 14] [2])
 (.seq (.reg false [⟨some 29, none, .mov (.t 5)⟩,
 ⟨some 30, none, .mov (.t 6)⟩,
 ⟨some 31, none, .ixs (.t 29) (.t 30) 2⟩,
 ⟨some 32, none, .off (.t 31) 0⟩,
 ⟨some 33, none, .ld (.t 32) 1 false⟩,
 ⟨some 34, none, .len (.t 33)⟩,
 ⟨some 35, none, .mov (.c (.p (.int .i64 0)))⟩] [2, 5, 6, 12, 13, 14, 34, 35] [2])
 (.block 2 lp148_0)))))
 (.reg false [⟨some 49, none, .bin .add (.t 14) (.c (.p (.int .i64 1)))⟩,
 ⟨some 14, none, .mov (.t 49)⟩] [2, 5, 12, 13, 14] [2])))))
def ir148 : IFn :=   -- (tympan/grid.snapper).notes
⟨(.seq (.reg false [⟨some 2, none, .bx (.t 0) 1 true⟩,
 ⟨some 4, none, .mov (.c (.nils))⟩] [1, 2] [2])
 (.seq (.reg false [⟨some 9, none, .mov (.t 1)⟩,
 ⟨some 10, none, .len (.t 9)⟩,
 ⟨some 11, none, .mks 2 [.nils, .nils] (.t 10)⟩,
 ⟨some 5, none, .mov (.t 11)⟩] [1, 2, 5] [2])
 (.seq (.seq (.reg false [⟨some 12, none, .mov (.t 1)⟩,
 ⟨some 13, none, .len (.t 12)⟩,
 ⟨some 14, none, .mov (.c (.p (.int .i64 0)))⟩] [2, 5, 12, 13, 14] [2])
 (.block 0 lp148_1))
 (.seq (.reg false [⟨some 50, none, .mov (.t 5)⟩,
 ⟨some 4, none, .mov (.t 50)⟩] [4] [])
 .ret)))),
 [.tmp 4], false⟩
def lp149_0 : IC :=
 (.loop [1, 3, 8, 9, 10] [3] (.seq (.reg false [⟨some 11, none, .bin .lss (.t 10) (.t 9)⟩] [1, 3, 8, 9, 10, 11] [3])
 (.seq (.cond (.t 11)
 .skip
 (.exit 0))
 (.seq (.block 1 (.seq (.reg false [⟨some 12, none, .ixs (.t 8) (.t 10) 1⟩,
 ⟨some 13, none, .ld (.t 12) 1 false⟩,
 ⟨some 7, none, .mov (.t 13)⟩] [1, 3, 7, 8, 9, 10] [3])
 (.reg true [⟨some 14, none, .mov (.t 7)⟩,
 ⟨some 15, none, .mov (.t 1)⟩,
 ⟨some 16, none, .mov (.t 7)⟩,
 ⟨some 17, none, .nck (.t 16)⟩,
 ⟨some 18, none, .ld (.t 17) 1 false⟩,
 ⟨some 19, none, .off (.t 3) 0⟩,
 ⟨some 20, none, .ldl 3 (.t 19) 1 false⟩,
 ⟨some 21, none, .callv (.t 15) [(.t 18), (.t 20)] false⟩,
 ⟨some 22, none, .nck (.t 14)⟩,
 ⟨none, none, .st (.t 22) (.t 21) 1⟩] [1, 3, 8, 9, 10] [3])))
 (.reg false [⟨some 23, none, .bin .add (.t 10) (.c (.p (.int .i64 1)))⟩,
 ⟨some 10, none, .mov (.t 23)⟩] [1, 3, 8, 9, 10] [3])))))
def ir149 : IFn :=   -- (tympan/grid.snapper).turn
⟨(.seq (.reg false [⟨some 3, none, .bx (.t 0) 1 true⟩] [1, 2, 3] [3])
 (.seq (.reg false [⟨some 8, none, .mov (.t 2)⟩,
 ⟨some 9, none, .len (.t 8)⟩,
 ⟨some 10, none, .mov (.c (.p (.int .i64 0)))⟩] [1, 3, 8, 9, 10] [3])
 (.block 0 lp149_0))),
 [], false⟩
def ir150 : IFn :=   -- tympan/grid.Down
⟨(.seq (.reg false [⟨some 4, none, .mov (.c (.p (.int .i64 0)))⟩] [0, 1] [])
 (.seq (.reg false [⟨some 5, none, .mov (.t 0)⟩,
 ⟨some 6, none, .mov (.t 1)⟩,
 ⟨some 7, none, .call 223 [(.t 5), (.t 6), (.c (.p (.fn 224)))] false⟩,
 ⟨some 4, none, .mov (.t 7)⟩] [4] [])
 .ret)),
 [.tmp 4], false⟩
def ir151 : IFn :=   -- tympan/grid.Up
⟨(.seq (.reg false [⟨some 4, none, .mov (.c (.p (.int .i64 0)))⟩] [0, 1] [])
 (.seq (.reg false [⟨some 5, none, .mov (.t 0)⟩,
 ⟨some 6, none, .mov (.t 1)⟩,
 ⟨some 7, none, .call 223 [(.t 5), (.t 6), (.c (.p (.fn 225)))] false⟩,
 ⟨some 4, none, .mov (.t 7)⟩] [4] [])
 .ret)),
 [.tmp 4], false⟩
def ir152 : IFn :=   -- tympan/item.Total
⟨(.seq (.reg false [⟨some 1, none, .bx (.t 0) 7 true⟩,
 ⟨some 2, none, .al [.p (.int .i64 0), .p (.int .i64 0), .p (.int .i64 0), .p (.int .i64 0), .p (.int .i64 0), .p (.int .i64 0)] true⟩] [1, 2] [1, 2])
 (.seq (.seq (.reg false [⟨some 3, none, .off (.t 1) 0⟩,
 ⟨some 4, none, .ld (.t 3) 1 false⟩] [1, 2, 4] [1, 2])
 (.block 0 (.seq (.reg false [⟨some 6, none, .bin .eql (.t 4) (.c (.p (.int .i64 1)))⟩,
 ⟨some 5, none, .mov (.t 6)⟩] [1, 2, 4, 5] [1, 2])
 (.cond (.t 5)
 (.seq (.reg false [⟨some 7, none, .off (.t 1) 1⟩,
 ⟨some 8, none, .ld (.t 7) 1 false⟩,
 ⟨some 9, none, .call 226 [(.t 8)] false⟩,
 ⟨none, none, .st (.t 2) (.t 9) 6⟩] [2] [2])
 .ret)
 (.seq (.reg false [⟨some 11, none, .bin .eql (.t 4) (.c (.p (.int .i64 2)))⟩,
 ⟨some 10, none, .mov (.t 11)⟩] [1, 2, 10] [1, 2])
 (.cond (.t 10)
 (.seq (.reg false [⟨some 12, none, .off (.t 1) 1⟩,
 ⟨some 13, none, .ld (.t 12) 1 false⟩,
 ⟨some 14, none, .off (.t 1) 3⟩,
 ⟨some 15, none, .ld (.t 14) 1 false⟩,
 ⟨some 16, none, .off (.t 1) 4⟩,
 ⟨some 17, none, .ld (.t 16) 1 false⟩,
 ⟨some 18, none, .off (.t 1) 5⟩,
 ⟨some 19, none, .ld (.t 18) 1 false⟩,
 ⟨some 20, none, .call 227 [(.t 13), (.t 15), (.t 17), (.t 19)] false⟩,
 ⟨none, none, .st (.t 2) (.t 20) 6⟩] [2] [2])
 .ret)
 .skip))))))
 (.seq (.reg false [⟨some 21, none, .bld [.p (.int .i64 0), .p (.int .i64 0), .p (.int .i64 0), .p (.int .i64 0), .p (.int .i64 0), .p (.int .i64 0)] []⟩,
 ⟨none, none, .st (.t 2) (.t 21) 6⟩] [2] [2])
 .ret))),
 [.cell 2 6 true], false⟩
def lp153_0 : IC :=
 (.loop [1, 3, 5] [1] (.seq (.reg false [⟨some 6, none, .bin .lss (.t 5) (.c (.p (.int .i64 4)))⟩] [1, 3, 5, 6] [1])
 (.seq (.cond (.t 6)
 .skip
 (.exit 0))
 (.seq (.block 1 (.seq (.reg false [⟨some 7, none, .mov (.t 5)⟩,
 ⟨some 4, none, .mov (.t 7)⟩] [1, 3, 4, 5] [1])
 (.seq (.reg false [⟨some 8, none, .mov (.t 3)⟩,
 ⟨some 9, none, .mov (.t 4)⟩,
 ⟨some 10, none, .off (.t 1) 1⟩,
 ⟨some 11, none, .ixa (.t 10) (.t 9) 1 4⟩,
 ⟨some 12, none, .ld (.t 11) 1 false⟩,
 ⟨some 13, none, .callv (.t 8) [(.t 12)] false⟩,
 ⟨some 14, none, .un .not (.t 13)⟩] [1, 3, 5, 14] [1])
 (.cond (.t 14)
 (.seq (.reg false [⟨some 2, none, .mov (.c (.p (.bool false)))⟩] [2] [])
 .ret)
 .skip))))
 (.reg false [⟨some 15, none, .bin .add (.t 5) (.c (.p (.int .i64 1)))⟩,
 ⟨some 5, none, .mov (.t 15)⟩] [1, 3, 5] [1])))))
def ir153 : IFn :=   -- tympan/sums.fair
⟨(.seq (.reg false [⟨some 1, none, .bx (.t 0) 6 true⟩,
 ⟨some 2, none, .mov (.c (.p (.bool false)))⟩] [1] [1])
 (.seq (.reg false [⟨some 3, none, .mov (.c (.p (.fn 228)))⟩] [1, 3] [1])
 (.seq (.seq (.reg false [⟨some 5, none, .mov (.c (.p (.int .i64 0)))⟩] [1, 3, 5] [1])
 (.block 0 lp153_0))
 (.seq (.reg false [⟨some 16, none, .mov (.t 3)⟩,
 ⟨some 17, none, .off (.t 1) 0⟩,
 ⟨some 18, none, .ld (.t 17) 1 false⟩,
 ⟨some 19, none, .callv (.t 16) [(.t 18)] false⟩,
 ⟨some 20, none, .mov (.t 19)⟩,
 ⟨some 21, (some (20, true)), .mov (.t 3)⟩,
 ⟨some 22, (some (20, true)), .off (.t 1) 5⟩,
 ⟨some 23, (some (20, true)), .ld (.t 22) 1 false⟩,
 ⟨some 24, (some (20, true)), .callv (.t 21) [(.t 23)] false⟩,
 ⟨some 25, none, .pick (.t 20) (.t 24) (.c (.p (.bool false)))⟩,
 ⟨some 2, none, .mov (.t 25)⟩] [2] [])
 .ret)))),
 [.tmp 2], false⟩
def ir154 : IFn :=   -- tympan/total.Add
⟨(.seq (.reg false [⟨some 2, none, .bx (.t 0) 6 true⟩,
 ⟨some 3, none, .bx (.t 1) 6 true⟩,
 ⟨some 4, none, .al [.p (.int .i64 0), .p (.int .i64 0), .p (.int .i64 0), .p (.int .i64 0), .p (.int .i64 0), .p (.int .i64 0)] true⟩,
 ⟨some 5, none, .mov (.c (.p (.bool false)))⟩] [2, 3, 4] [2, 3, 4])
 (.seq (.reg false [⟨some 6, none, .ld (.t 2) 6 true⟩,
 ⟨some 7, none, .ld (.t 3) 6 true⟩,
 ⟨some 8, none, .call 229 [(.t 6), (.t 7), (.c (.p (.fn 230)))] false⟩,
 ⟨some 9, none, .ext (.t 8) 0⟩,
 ⟨some 10, none, .ext (.t 8) 1⟩,
 ⟨none, none, .st (.t 4) (.t 9) 6⟩,
 ⟨some 5, none, .mov (.t 10)⟩] [4, 5] [4])
 .ret)),
 [.cell 4 6 true, .tmp 5], false⟩
def ir155 : IFn :=   -- tympan/figure.At
⟨(.seq (.reg false [⟨some 4, none, .al [.p (.int .i64 0), .p (.int .i64 0), .p (.int .i64 0)] true⟩,
 ⟨some 5, none, .mov (.c (.p (.bool false)))⟩] [0, 1, 4] [4])
 (.seq (.seq (.reg false [⟨some 6, none, .mov (.t 1)⟩,
 ⟨some 7, none, .bin .lss (.t 6) (.c (.p (.int .i64 0)))⟩,
 ⟨some 8, none, .mov (.t 7)⟩,
 ⟨some 9, (some (8, false)), .mov (.t 1)⟩,
 ⟨some 10, (some (8, false)), .mov (.t 0)⟩,
 ⟨some 11, (some (8, false)), .len (.t 10)⟩,
 ⟨some 12, (some (8, false)), .bin .geq (.t 9) (.t 11)⟩,
 ⟨some 13, none, .pick (.t 8) (.c (.p (.bool true))) (.t 12)⟩] [0, 1, 4, 13] [4])
 (.cond (.t 13)
 (.seq (.reg false [⟨some 14, none, .bld [.p (.int .i64 0), .p (.int .i64 0), .p (.int .i64 0)] []⟩,
 ⟨none, none, .st (.t 4) (.t 14) 3⟩,
 ⟨some 5, none, .mov (.c (.p (.bool false)))⟩] [4, 5] [4])
 .ret)
 .skip))
 (.seq (.reg false [⟨some 15, none, .mov (.t 0)⟩,
 ⟨some 16, none, .mov (.t 1)⟩,
 ⟨some 17, none, .ixs (.t 15) (.t 16) 3⟩,
 ⟨some 18, none, .ld (.t 17) 3 true⟩,
 ⟨none, none, .st (.t 4) (.t 18) 3⟩,
 ⟨some 5, none, .mov (.c (.p (.bool true)))⟩] [4, 5] [4])
 .ret))),
 [.cell 4 3 true, .tmp 5], false⟩
def ir156 : IFn :=   -- (*tympan/anchor.Map).place
⟨(.seq (.reg false [⟨some 4, none, .mov (.c (.p (.int .i64 0)))⟩,
 ⟨some 5, none, .mov (.c (.p (.bool false)))⟩] [0, 1] [])
 (.seq (.seq (.reg false [⟨some 6, none, .mov (.t 0)⟩,
 ⟨some 7, none, .eqn .ptr false (.t 6)⟩] [0, 1, 7] [])
 (.cond (.t 7)
 (.seq (.reg false [⟨some 4, none, .mov (.c (.p (.int .i64 0)))⟩,
 ⟨some 5, none, .mov (.c (.p (.bool false)))⟩] [4, 5] [])
 .ret)
 .skip))
 (.seq (.reg false [⟨some 8, none, .mov (.t 1)⟩,
 ⟨some 9, none, .mnmx true (.t 8) (.c (.p (.int .i64 0)))⟩,
 ⟨some 10, none, .mov (.t 0)⟩,
 ⟨some 11, none, .nck (.t 10)⟩,
 ⟨some 12, none, .off (.t 11) 0⟩,
 ⟨some 13, none, .ld (.t 12) 1 false⟩,
 ⟨some 14, none, .len (.t 13)⟩,
 ⟨some 15, none, .mnmx false (.t 9) (.t 14)⟩,
 ⟨some 4, none, .mov (.t 15)⟩,
 ⟨some 5, none, .mov (.c (.p (.bool true)))⟩] [4, 5] [])
 .ret))),
 [.tmp 4, .tmp 5], false⟩
def ir157 : IFn :=   -- tympan/tympanref14.Down
⟨(.seq (.reg false [⟨some 4, none, .mov (.c (.p (.int .i64 0)))⟩] [0, 1] [])
 (.seq (.reg false [⟨some 5, none, .mov (.t 0)⟩,
 ⟨some 6, none, .mov (.t 1)⟩,
 ⟨some 7, none, .call 232 [(.t 5), (.t 6)] false⟩,
 ⟨some 8, none, .mov (.t 0)⟩,
 ⟨some 9, none, .call 231 [(.t 7), (.t 8)] false⟩,
 ⟨some 4, none, .mov (.t 9)⟩] [4] [])
 .ret)),
 [.tmp 4], false⟩
def ir158 : IFn :=   -- tympan/tympanref14.Up
⟨(.seq (.reg false [⟨some 4, none, .mov (.c (.p (.int .i64 0)))⟩] [0, 1] [])
 (.seq (.reg false [⟨some 5, none, .mov (.t 0)⟩,
 ⟨some 6, none, .mov (.t 1)⟩,
 ⟨some 7, none, .call 233 [(.t 5), (.t 6)] false⟩,
 ⟨some 8, none, .mov (.t 0)⟩,
 ⟨some 9, none, .call 231 [(.t 7), (.t 8)] false⟩,
 ⟨some 4, none, .mov (.t 9)⟩] [4] [])
 .ret)),
 [.tmp 4], false⟩
def ir159 : IFn :=   -- tympan/tympanref14.item
⟨(.seq (.reg false [⟨some 2, none, .bx (.t 0) 7 true⟩,
 ⟨some 4, none, .al [.p (.int .i64 0), .p (.int .i64 0), .p (.int .i64 0), .p (.int .i64 0), .p (.int .i64 0), .p (.int .i64 0), .p (.int .i64 0)] true⟩] [1, 2, 4] [2, 4])
 (.seq (.seq (.reg false [⟨some 5, none, .off (.t 2) 0⟩,
 ⟨some 6, none, .ld (.t 5) 1 false⟩,
 ⟨some 7, none, .bin .eql (.t 6) (.c (.p (.int .i64 1)))⟩] [1, 2, 4, 7] [2, 4])
 (.cond (.t 7)
 (.reg false [⟨some 8, none, .off (.t 2) 1⟩,
 ⟨some 9, none, .ld (.t 8) 1 false⟩,
 ⟨some 10, none, .mov (.t 1)⟩,
 ⟨some 11, none, .call 158 [(.t 9), (.t 10)] false⟩,
 ⟨some 12, none, .off (.t 2) 1⟩,
 ⟨none, none, .st (.t 12) (.t 11) 1⟩] [1, 2, 4] [2, 4])
 .skip))
 (.seq (.seq (.reg false [⟨some 13, none, .off (.t 2) 0⟩,
 ⟨some 14, none, .ld (.t 13) 1 false⟩,
 ⟨some 15, none, .bin .eql (.t 14) (.c (.p (.int .i64 2)))⟩] [1, 2, 4, 15] [2, 4])
 (.cond (.t 15)
 (.seq (.reg false [⟨some 16, none, .off (.t 2) 1⟩,
 ⟨some 17, none, .ld (.t 16) 1 false⟩,
 ⟨some 18, none, .mov (.t 1)⟩,
 ⟨some 19, none, .call 234 [(.t 17), (.t 18)] false⟩,
 ⟨some 20, none, .off (.t 2) 1⟩,
 ⟨none, none, .st (.t 20) (.t 19) 1⟩] [2, 4] [2, 4])
 (.seq (.reg false [⟨some 21, none, .off (.t 2) 3⟩,
 ⟨none, none, .st (.t 21) (.c (.p (.int .i64 0))) 1⟩] [2, 4] [2, 4])
 (.seq (.reg false [⟨some 22, none, .off (.t 2) 4⟩,
 ⟨none, none, .st (.t 22) (.c (.p (.int .i64 0))) 1⟩] [2, 4] [2, 4])
 (.reg false [⟨some 23, none, .off (.t 2) 5⟩,
 ⟨none, none, .st (.t 23) (.c (.p (.int .i64 0))) 1⟩] [2, 4] [2, 4]))))
 .skip))
 (.seq (.reg false [⟨some 24, none, .ld (.t 2) 7 true⟩,
 ⟨none, none, .st (.t 4) (.t 24) 7⟩] [4] [4])
 .ret)))),
 [.cell 4 7 true], false⟩
def lp160_0 : IC :=
 (.loop [0, 2, 7] [] (.seq (.seq (.reg false [⟨some 9, none, .mov (.t 7)⟩,
 ⟨some 10, none, .mov (.t 0)⟩,
 ⟨some 11, none, .call 78 [(.t 10)] false⟩,
 ⟨some 12, none, .bin .leq (.t 9) (.t 11)⟩] [0, 2, 7, 12] [])
 (.cond (.t 12)
 .skip
 (.exit 0)))
 (.seq (.block 1 (.seq (.reg false [⟨some 15, none, .mov (.t 2)⟩,
 ⟨some 16, none, .mov (.t 7)⟩,
 ⟨some 17, none, .callv (.t 15) [(.t 16)] false⟩] [0, 2, 7, 17] [])
 (.cond (.t 17)
 (.seq (.reg false [⟨some 18, none, .mov (.t 7)⟩,
 ⟨some 6, none, .mov (.t 18)⟩] [6] [])
 .ret)
 .skip)))
 (.reg false [⟨some 13, none, .mov (.t 7)⟩,
 ⟨some 14, none, .bin .add (.t 13) (.c (.p (.int .i64 1)))⟩,
 ⟨some 7, none, .mov (.t 14)⟩] [0, 2, 7] []))))
def ir160 : IFn :=   -- (*tympan/vlist.List).seek
⟨(.seq (.reg false [⟨some 6, none, .mov (.c (.p (.int .i64 0)))⟩] [0, 1, 2] [])
 (.seq (.seq (.reg false [⟨some 8, none, .mov (.t 1)⟩,
 ⟨some 7, none, .mov (.t 8)⟩] [0, 2, 7] [])
 (.block 0 lp160_0))
 (.seq (.reg false [⟨some 6, none, .mov (.c (.p (.int .i64 (-1))))⟩] [6] [])
 .ret))),
 [.tmp 6], false⟩
def ir161 : IFn :=   -- (*tympan/vlist.List).stays
⟨(.seq (.reg false [⟨some 4, none, .mov (.c (.p (.bool false)))⟩] [0, 1] [])
 (.seq (.reg false [⟨some 8, none, .mov (.t 0)⟩,
 ⟨some 9, none, .mov (.t 1)⟩,
 ⟨some 10, none, .call 193 [(.t 8), (.t 9)] false⟩,
 ⟨some 7, none, .mov (.t 10)⟩,
 ⟨some 11, none, .ext (.t 7) 0⟩,
 ⟨some 12, none, .ext (.t 7) 1⟩,
 ⟨some 5, none, .al [.p (.int .i64 0), .p (.int .i64 0), .p (.int .i64 0), .p (.int .i64 0), .p (.int .i64 0), .p (.int .i64 0), .p (.int .i64 0)] true⟩,
 ⟨none, none, .st (.t 5) (.t 11) 7⟩,
 ⟨some 6, none, .mov (.t 12)⟩] [5, 6] [5])
 (.seq (.reg false [⟨some 13, none, .mov (.t 6)⟩,
 ⟨some 14, none, .un .not (.t 13)⟩,
 ⟨some 15, none, .mov (.t 14)⟩,
 ⟨some 16, (some (15, false)), .ld (.t 5) 7 true⟩,
 ⟨some 17, (some (15, false)), .call 235 [(.t 16)] false⟩,
 ⟨some 18, (some (15, false)), .un .not (.t 17)⟩,
 ⟨some 19, none, .pick (.t 15) (.c (.p (.bool true))) (.t 18)⟩,
 ⟨some 4, none, .mov (.t 19)⟩] [4] [])
 .ret))),
 [.tmp 4], false⟩
def lp162_0 : IC :=
 (.loop [2, 3, 4, 5, 8, 9, 11] [4, 5, 8, 9] (.seq (.reg false [⟨some 12, none, .bin .lss (.t 11) (.c (.p (.int .i64 3)))⟩] [2, 3, 4, 5, 8, 9, 11, 12] [4, 5, 8, 9])
 (.seq (.cond (.t 12)
 .skip
 (.exit 0))
 (.seq (.block 1 (.seq (.reg false [⟨some 13, none, .mov (.t 11)⟩,
 ⟨some 10, none, .mov (.t 13)⟩] [2, 3, 4, 5, 8, 9, 10, 11] [4, 5, 8, 9])
 (.reg true [⟨some 14, none, .mov (.t 10)⟩,
 ⟨some 15, none, .mov (.t 3)⟩,
 ⟨some 16, none, .mov (.t 10)⟩,
 ⟨some 17, none, .ixa (.t 4) (.t 16) 1 3⟩,
 ⟨some 18, none, .ldl 4 (.t 17) 1 false⟩,
 ⟨some 19, none, .mov (.t 2)⟩,
 ⟨some 20, none, .call 172 [(.t 18), (.t 19), (.c (.p (.int .i64 1073741824)))] false⟩,
 ⟨some 21, none, .mov (.t 10)⟩,
 ⟨some 22, none, .ixa (.t 5) (.t 21) 1 3⟩,
 ⟨some 23, none, .ldl 5 (.t 22) 1 false⟩,
 ⟨some 24, none, .mov (.t 2)⟩,
 ⟨some 25, none, .call 172 [(.t 23), (.t 24), (.c (.p (.int .i64 1073741824)))] false⟩,
 ⟨some 26, none, .callv (.t 15) [(.t 20), (.t 25)] false⟩,
 ⟨some 27, none, .mov (.t 2)⟩,
 ⟨some 28, none, .call 172 [(.t 26), (.t 27), (.c (.p (.int .i64 1073741824)))] false⟩,
 ⟨some 29, none, .ixa (.t 9) (.t 14) 1 3⟩,
 ⟨none, none, .stl 9 (.t 29) (.t 28) 1⟩] [2, 3, 4, 5, 8, 9, 11] [4, 5, 8, 9])))
 (.reg false [⟨some 30, none, .bin .add (.t 11) (.c (.p (.int .i64 1)))⟩,
 ⟨some 11, none, .mov (.t 30)⟩] [2, 3, 4, 5, 8, 9, 11] [4, 5, 8, 9])))))
def ir162 : IFn :=   -- tympan/queue.zip
⟨(.seq (.reg false [⟨some 4, none, .bx (.t 0) 3 true⟩,
 ⟨some 5, none, .bx (.t 1) 3 true⟩,
 ⟨some 8, none, .al [.p (.int .i64 0), .p (.int .i64 0), .p (.int .i64 0)] true⟩] [2, 3, 4, 5, 8] [4, 5, 8])
 (.seq (.reg false [⟨some 9, none, .al [.p (.int .i64 0), .p (.int .i64 0), .p (.int .i64 0)] true⟩] [2, 3, 4, 5, 8, 9] [4, 5, 8, 9])
 (.seq (.seq (.reg false [⟨some 11, none, .mov (.c (.p (.int .i64 0)))⟩] [2, 3, 4, 5, 8, 9, 11] [4, 5, 8, 9])
 (.block 0 lp162_0))
 (.seq (.reg false [⟨some 31, none, .ld (.t 9) 3 true⟩,
 ⟨none, none, .st (.t 8) (.t 31) 3⟩] [8] [8])
 .ret)))),
 [.cell 8 3 true], false⟩
def ir163 : IFn :=   -- (tympan/queue.Counts).Add$1
⟨(.seq (.reg false [⟨some 4, none, .mov (.c (.p (.int .i64 0)))⟩] [0, 1] [])
 (.seq (.reg false [⟨some 5, none, .mov (.t 0)⟩,
 ⟨some 6, none, .mov (.t 1)⟩,
 ⟨some 7, none, .bin .add (.t 5) (.t 6)⟩,
 ⟨some 4, none, .mov (.t 7)⟩] [4] [])
 .ret)),
 [.tmp 4], false⟩
def ir164 : IFn :=   -- (tympan/tympanref25.World).begun
⟨(.seq (.reg false [⟨some 2, none, .bx (.t 0) 22 true⟩,
 ⟨some 4, none, .mov (.c (.p (.int .i64 0)))⟩] [1, 2] [2])
 (.seq (.reg false [⟨some 5, none, .off (.t 2) 0⟩,
 ⟨some 6, none, .off (.t 5) 19⟩,
 ⟨some 7, none, .ld (.t 6) 1 false⟩,
 ⟨some 8, none, .mov (.t 1)⟩,
 ⟨some 9, none, .call 236 [(.t 7), (.c (.p (.int .i64 5))), (.c (.p (.int .i64 0))), (.t 8)] false⟩,
 ⟨some 10, none, .len (.t 9)⟩,
 ⟨some 4, none, .mov (.t 10)⟩] [4] [])
 .ret)),
 [.tmp 4], false⟩
def ir165 : IFn :=   -- tympan/tympanref11.May
⟨(.seq (.reg false [⟨some 2, none, .bx (.t 0) 2 true⟩,
 ⟨some 4, none, .mov (.c (.p (.bool false)))⟩] [1, 2] [2])
 (.seq (.reg false [⟨some 5, none, .mov (.t 1)⟩,
 ⟨some 6, none, .off (.t 2) 0⟩,
 ⟨some 7, none, .ld (.t 6) 1 false⟩,
 ⟨some 8, none, .len (.t 7)⟩,
 ⟨some 9, none, .bin .eql (.t 5) (.t 8)⟩,
 ⟨some 10, none, .mov (.t 9)⟩,
 ⟨some 11, (some (10, false)), .ld (.t 2) 2 true⟩,
 ⟨some 12, (some (10, false)), .mov (.t 1)⟩,
 ⟨some 13, (some (10, false)), .call 237 [(.t 11), (.t 12)] false⟩,
 ⟨some 14, none, .pick (.t 10) (.c (.p (.bool true))) (.t 13)⟩,
 ⟨some 4, none, .mov (.t 14)⟩] [4] [])
 .ret)),
 [.tmp 4], false⟩
def lp166_0 : IC :=
 (.loop [0, 1, 2, 6, 7, 8] [6, 7] (.seq (.seq (.reg false [⟨some 10, none, .mov (.t 8)⟩,
 ⟨some 11, none, .mov (.t 0)⟩,
 ⟨some 12, none, .len (.t 11)⟩,
 ⟨some 13, none, .bin .lss (.t 10) (.t 12)⟩] [0, 1, 2, 6, 7, 8, 13] [6, 7])
 (.cond (.t 13)
 .skip
 (.exit 0)))
 (.seq (.block 1 (.seq (.reg false [⟨some 16, none, .mov (.t 8)⟩,
 ⟨some 17, none, .mov (.t 2)⟩,
 ⟨some 18, none, .bin .lss (.t 16) (.t 17)⟩,
 ⟨some 19, none, .mov (.t 18)⟩,
 ⟨some 20, (some (19, true)), .mov (.t 0)⟩,
 ⟨some 21, (some (19, true)), .mov (.t 8)⟩,
 ⟨some 22, (some (19, true)), .ixs (.t 20) (.t 21) 7⟩,
 ⟨some 23, (some (19, true)), .off (.t 22) 0⟩,
 ⟨some 24, (some (19, true)), .ld (.t 23) 1 false⟩,
 ⟨some 25, (some (19, true)), .bin .eql (.t 24) (.c (.p (.int .i64 6)))⟩,
 ⟨some 26, none, .pick (.t 19) (.t 25) (.c (.p (.bool false)))⟩,
 ⟨some 27, none, .mov (.t 26)⟩,
 ⟨some 28, (some (27, true)), .mov (.t 0)⟩,
 ⟨some 29, (some (27, true)), .mov (.t 8)⟩,
 ⟨some 30, (some (27, true)), .ixs (.t 28) (.t 29) 7⟩,
 ⟨some 31, (some (27, true)), .off (.t 30) 6⟩,
 ⟨some 32, (some (27, true)), .ld (.t 31) 1 false⟩,
 ⟨some 33, (some (27, true)), .bin .geq (.t 32) (.c (.p (.int .i64 0)))⟩,
 ⟨some 34, none, .pick (.t 27) (.t 33) (.c (.p (.bool false)))⟩,
 ⟨some 35, none, .mov (.t 34)⟩,
 ⟨some 36, (some (35, true)), .mov (.t 0)⟩,
 ⟨some 37, (some (35, true)), .mov (.t 8)⟩,
 ⟨some 38, (some (35, true)), .ixs (.t 36) (.t 37) 7⟩,
 ⟨some 39, (some (35, true)), .off (.t 38) 6⟩,
 ⟨some 40, (some (35, true)), .ld (.t 39) 1 false⟩,
 ⟨some 41, (some (35, true)), .mov (.t 1)⟩,
 ⟨some 42, (some (35, true)), .len (.t 41)⟩,
 ⟨some 43, (some (35, true)), .bin .lss (.t 40) (.t 42)⟩,
 ⟨some 44, none, .pick (.t 35) (.t 43) (.c (.p (.bool false)))⟩] [0, 1, 2, 6, 7, 8, 44] [6, 7])
 (.cond (.t 44)
 (.seq (.reg false [⟨some 45, none, .mov (.t 1)⟩,
 ⟨some 46, none, .mov (.t 0)⟩,
 ⟨some 47, none, .mov (.t 8)⟩,
 ⟨some 48, none, .ixs (.t 46) (.t 47) 7⟩,
 ⟨some 49, none, .off (.t 48) 6⟩,
 ⟨some 50, none, .ld (.t 49) 1 false⟩,
 ⟨some 51, none, .ixs (.t 45) (.t 50) 3⟩,
 ⟨some 52, none, .off (.t 51) 0⟩,
 ⟨some 53, none, .ld (.t 52) 1 false⟩,
 ⟨some 9, none, .mov (.t 53)⟩] [0, 1, 2, 6, 7, 8, 9] [6, 7])
 (.seq (.reg false [⟨some 54, none, .mov (.t 9)⟩,
 ⟨some 55, none, .bin .geq (.t 54) (.c (.p (.int .i64 0)))⟩,
 ⟨some 56, none, .mov (.t 55)⟩,
 ⟨some 57, (some (56, true)), .mov (.t 9)⟩,
 ⟨some 58, (some (56, true)), .bin .lss (.t 57) (.c (.p (.int .i64 3)))⟩,
 ⟨some 59, none, .pick (.t 56) (.t 58) (.c (.p (.bool false)))⟩] [0, 1, 2, 6, 7, 8, 9, 59] [6, 7])
 (.cond (.t 59)
 (.reg false [⟨some 60, none, .mov (.t 9)⟩,
 ⟨some 61, none, .mov (.t 9)⟩,
 ⟨some 62, none, .ixa (.t 7) (.t 61) 1 3⟩,
 ⟨some 63, none, .ld (.t 62) 1 false⟩,
 ⟨some 64, none, .bin .add (.t 63) (.c (.p (.int .i64 1)))⟩,
 ⟨some 65, none, .ixa (.t 7) (.t 60) 1 3⟩,
 ⟨none, none, .st (.t 65) (.t 64) 1⟩] [0, 1, 2, 6, 7, 8] [6, 7])
 .skip)))
 .skip)))
 (.reg false [⟨some 14, none, .mov (.t 8)⟩,
 ⟨some 15, none, .bin .add (.t 14) (.c (.p (.int .i64 1)))⟩,
 ⟨some 8, none, .mov (.t 15)⟩] [0, 1, 2, 6, 7, 8] [6, 7]))))
def ir166 : IFn :=   -- tympan/tympanref21.Ahead
⟨(.seq (.reg false [⟨some 6, none, .al [.p (.int .i64 0), .p (.int .i64 0), .p (.int .i64 0)] true⟩] [0, 1, 2, 6] [6])
 (.seq (.reg false [⟨some 7, none, .al [.p (.int .i64 0), .p (.int .i64 0), .p (.int .i64 0)] true⟩] [0, 1, 2, 6, 7] [6, 7])
 (.seq (.seq (.reg false [⟨some 8, none, .mov (.c (.p (.int .i64 0)))⟩] [0, 1, 2, 6, 7, 8] [6, 7])
 (.block 0 lp166_0))
 (.seq (.reg false [⟨some 66, none, .ld (.t 7) 3 true⟩,
 ⟨none, none, .st (.t 6) (.t 66) 3⟩] [6] [6])
 .ret)))),
 [.cell 6 3 true], false⟩
def ir167 : IFn :=   -- tympan/tympanref23.Within
⟨(.seq (.reg false [⟨some 2, none, .bx (.t 0) 3 true⟩,
 ⟨some 3, none, .bx (.t 1) 3 true⟩,
 ⟨some 4, none, .mov (.c (.p (.bool false)))⟩] [2, 3] [2, 3])
 (.seq (.reg false [⟨some 5, none, .ixa (.t 2) (.c (.p (.int .i64 0))) 1 3⟩,
 ⟨some 6, none, .ld (.t 5) 1 false⟩,
 ⟨some 7, none, .ixa (.t 3) (.c (.p (.int .i64 0))) 1 3⟩,
 ⟨some 8, none, .ld (.t 7) 1 false⟩,
 ⟨some 9, none, .bin .leq (.t 6) (.t 8)⟩,
 ⟨some 10, none, .mov (.t 9)⟩,
 ⟨some 11, (some (10, true)), .ixa (.t 2) (.c (.p (.int .i64 1))) 1 3⟩,
 ⟨some 12, (some (10, true)), .ld (.t 11) 1 false⟩,
 ⟨some 13, (some (10, true)), .ixa (.t 3) (.c (.p (.int .i64 1))) 1 3⟩,
 ⟨some 14, (some (10, true)), .ld (.t 13) 1 false⟩,
 ⟨some 15, (some (10, true)), .bin .leq (.t 12) (.t 14)⟩,
 ⟨some 16, none, .pick (.t 10) (.t 15) (.c (.p (.bool false)))⟩,
 ⟨some 17, none, .mov (.t 16)⟩,
 ⟨some 18, (some (17, true)), .ixa (.t 2) (.c (.p (.int .i64 2))) 1 3⟩,
 ⟨some 19, (some (17, true)), .ld (.t 18) 1 false⟩,
 ⟨some 20, (some (17, true)), .ixa (.t 3) (.c (.p (.int .i64 2))) 1 3⟩,
 ⟨some 21, (some (17, true)), .ld (.t 20) 1 false⟩,
 ⟨some 22, (some (17, true)), .bin .leq (.t 19) (.t 21)⟩,
 ⟨some 23, none, .pick (.t 17) (.t 22) (.c (.p (.bool false)))⟩,
 ⟨some 4, none, .mov (.t 23)⟩] [4] [])
 .ret)),
 [.tmp 4], false⟩
def ir168 : IFn :=   -- tympan/tympanref10.Loose
⟨(.seq (.reg false [⟨some 1, none, .bx (.t 0) 7 true⟩,
 ⟨some 2, none, .mov (.c (.p (.bool false)))⟩] [1] [1])
 (.seq (.reg false [⟨some 3, none, .off (.t 1) 0⟩,
 ⟨some 4, none, .ld (.t 3) 1 false⟩,
 ⟨some 5, none, .bin .eql (.t 4) (.c (.p (.int .i64 2)))⟩,
 ⟨some 6, none, .mov (.t 5)⟩,
 ⟨some 7, (some (6, false)), .off (.t 1) 0⟩,
 ⟨some 8, (some (6, false)), .ld (.t 7) 1 false⟩,
 ⟨some 9, (some (6, false)), .bin .eql (.t 8) (.c (.p (.int .i64 3)))⟩,
 ⟨some 10, none, .pick (.t 6) (.c (.p (.bool true))) (.t 9)⟩,
 ⟨some 2, none, .mov (.t 10)⟩] [2] [])
 .ret)),
 [.tmp 2], false⟩
def ir169 : IFn :=   -- tympan/tympanref23.held
⟨(.seq (.reg false [⟨some 6, none, .mov (.c (.p (.int .i64 0)))⟩] [0, 1, 2] [])
 (.seq (.reg false [⟨some 7, none, .mov (.t 1)⟩,
 ⟨some 8, none, .mov (.t 0)⟩,
 ⟨some 9, none, .mov (.t 2)⟩,
 ⟨some 10, none, .mnmx false (.t 8) (.t 9)⟩,
 ⟨some 11, none, .mnmx true (.t 7) (.t 10)⟩,
 ⟨some 6, none, .mov (.t 11)⟩] [6] [])
 .ret)),
 [.tmp 6], false⟩
def ir171 : IFn :=   -- tympan/note.May
⟨(.seq (.reg false [⟨some 2, none, .bx (.t 0) 2 true⟩,
 ⟨some 4, none, .mov (.c (.p (.bool false)))⟩] [1, 2] [2])
 (.seq (.reg false [⟨some 5, none, .ld (.t 2) 2 true⟩,
 ⟨some 6, none, .mov (.t 1)⟩,
 ⟨some 7, none, .call 238 [(.t 5), (.t 6)] false⟩,
 ⟨some 4, none, .mov (.t 7)⟩] [4] [])
 .ret)),
 [.tmp 4], false⟩
def ir172 : IFn :=   -- tympan/queue.held
⟨(.seq (.reg false [⟨some 6, none, .mov (.c (.p (.int .i64 0)))⟩] [0, 1, 2] [])
 (.seq (.reg false [⟨some 7, none, .mov (.t 0)⟩,
 ⟨some 8, none, .mov (.t 1)⟩,
 ⟨some 9, none, .mnmx true (.t 7) (.t 8)⟩,
 ⟨some 10, none, .mov (.t 2)⟩,
 ⟨some 11, none, .mnmx false (.t 9) (.t 10)⟩,
 ⟨some 6, none, .mov (.t 11)⟩] [6] [])
 .ret)),
 [.tmp 6], false⟩
def ir173 : IFn :=   -- tympan/queue.Ready$1
⟨(.seq (.reg false [⟨some 4, none, .mov (.c (.p (.int .i64 0)))⟩] [0, 1] [])
 (.seq (.reg false [⟨some 5, none, .mov (.t 1)⟩,
 ⟨some 6, none, .mov (.t 0)⟩,
 ⟨some 7, none, .bin .sub (.t 5) (.t 6)⟩,
 ⟨some 4, none, .mov (.t 7)⟩] [4] [])
 .ret)),
 [.tmp 4], false⟩
def ir174 : IFn :=   -- tympan/tympanref10.Long
⟨(.seq (.reg false [⟨some 2, none, .mov (.c (.p (.bool false)))⟩] [0] [])
 (.seq (.reg false [⟨some 3, none, .mov (.t 0)⟩,
 ⟨some 4, none, .bin .geq (.t 3) (.c (.p (.int .i64 0)))⟩,
 ⟨some 5, none, .mov (.t 4)⟩,
 ⟨some 6, (some (5, true)), .mov (.t 0)⟩,
 ⟨some 7, (some (5, true)), .bin .leq (.t 6) (.c (.p (.int .i64 1073741823)))⟩,
 ⟨some 8, none, .pick (.t 5) (.t 7) (.c (.p (.bool false)))⟩,
 ⟨some 2, none, .mov (.t 8)⟩] [2] [])
 .ret)),
 [.tmp 2], false⟩
def ir193 : IFn :=   -- (*tympan/vlist.List).At
⟨(.seq (.reg false [⟨some 4, none, .al [.p (.int .i64 0), .p (.int .i64 0), .p (.int .i64 0), .p (.int .i64 0), .p (.int .i64 0), .p (.int .i64 0), .p (.int .i64 0)] true⟩,
 ⟨some 5, none, .mov (.c (.p (.bool false)))⟩] [0, 1, 4] [4])
 (.seq (.seq (.reg false [⟨some 6, none, .mov (.t 1)⟩,
 ⟨some 7, none, .bin .lss (.t 6) (.c (.p (.int .i64 0)))⟩,
 ⟨some 8, none, .mov (.t 7)⟩,
 ⟨some 9, (some (8, false)), .mov (.t 1)⟩,
 ⟨some 10, (some (8, false)), .mov (.t 0)⟩,
 ⟨some 11, (some (8, false)), .call 78 [(.t 10)] false⟩,
 ⟨some 12, (some (8, false)), .bin .geq (.t 9) (.t 11)⟩,
 ⟨some 13, none, .pick (.t 8) (.c (.p (.bool true))) (.t 12)⟩] [0, 1, 4, 13] [4])
 (.cond (.t 13)
 (.seq (.reg false [⟨some 14, none, .bld [.p (.int .i64 0), .p (.int .i64 0), .p (.int .i64 0), .p (.int .i64 0), .p (.int .i64 0), .p (.int .i64 0), .p (.int .i64 0)] []⟩,
 ⟨none, none, .st (.t 4) (.t 14) 7⟩,
 ⟨some 5, none, .mov (.c (.p (.bool false)))⟩] [4, 5] [4])
 .ret)
 .skip))
 (.seq (.reg false [⟨some 15, none, .mov (.t 0)⟩,
 ⟨some 16, none, .nck (.t 15)⟩,
 ⟨some 17, none, .off (.t 16) 0⟩,
 ⟨some 18, none, .ld (.t 17) 1 false⟩,
 ⟨some 19, none, .mov (.t 1)⟩,
 ⟨some 20, none, .ixs (.t 18) (.t 19) 7⟩,
 ⟨some 21, none, .ld (.t 20) 7 true⟩,
 ⟨none, none, .st (.t 4) (.t 21) 7⟩,
 ⟨some 5, none, .mov (.c (.p (.bool true)))⟩] [4, 5] [4])
 .ret))),
 [.cell 4 7 true, .tmp 5], false⟩
def ir198 : IFn :=   -- tympan/note.Pen
⟨(.seq (.reg false [⟨some 2, none, .bx (.t 0) 2 true⟩,
 ⟨some 4, none, .mov (.c (.p (.int .i64 0)))⟩] [1, 2] [2])
 (.seq (.seq (.reg false [⟨some 5, none, .ld (.t 2) 2 true⟩,
 ⟨some 6, none, .mov (.t 1)⟩,
 ⟨some 7, none, .call 256 [(.t 5), (.t 6)] false⟩] [1, 2, 7] [2])
 (.cond (.t 7)
 (.seq (.reg false [⟨some 8, none, .off (.t 2) 1⟩,
 ⟨some 9, none, .ld (.t 8) 1 false⟩,
 ⟨some 10, none, .mov (.t 1)⟩,
 ⟨some 11, none, .bin .sub (.t 10) (.c (.p (.int .i64 1)))⟩,
 ⟨some 12, none, .ixs (.t 9) (.t 11) 1⟩,
 ⟨some 13, none, .ld (.t 12) 1 false⟩,
 ⟨some 4, none, .mov (.t 13)⟩] [4] [])
 .ret)
 .skip))
 (.seq (.reg false [⟨some 4, none, .mov (.c (.p (.int .i64 0)))⟩] [4] [])
 .ret))),
 [.tmp 4], false⟩
def lp201_0 : IC :=
 (.loop [2, 3, 7, 8] [3] (.seq (.seq (.reg false [⟨some 17, none, .mov (.t 8)⟩,
 ⟨some 18, none, .mov (.t 2)⟩,
 ⟨some 19, none, .bin .lss (.t 17) (.t 18)⟩] [2, 3, 7, 8, 19] [3])
 (.cond (.t 19)
 .skip
 (.exit 0)))
 (.seq (.block 1 (.reg false [⟨some 22, none, .mov (.t 7)⟩,
 ⟨some 23, none, .off (.t 3) 0⟩,
 ⟨some 24, none, .ld (.t 23) 1 false⟩,
 ⟨some 25, none, .mov (.t 8)⟩,
 ⟨some 26, none, .ixs (.t 24) (.t 25) 1⟩,
 ⟨some 27, none, .ld (.t 26) 1 false⟩,
 ⟨some 28, none, .mnmx true (.t 27) (.c (.p (.int .i64 0)))⟩,
 ⟨some 29, none, .mnmx false (.t 28) (.c (.p (.int .i64 1125899906842624)))⟩,
 ⟨some 30, none, .bin .add (.t 22) (.t 29)⟩,
 ⟨some 31, none, .mnmx false (.t 30) (.c (.p (.int .i64 1125899906842624)))⟩,
 ⟨some 7, none, .mov (.t 31)⟩] [2, 3, 7, 8] [3]))
 (.reg false [⟨some 20, none, .mov (.t 8)⟩,
 ⟨some 21, none, .bin .add (.t 20) (.c (.p (.int .i64 1)))⟩,
 ⟨some 8, none, .mov (.t 21)⟩] [2, 3, 7, 8] [3]))))
def ir201 : IFn :=   -- tympan/note.High
⟨(.seq (.reg false [⟨some 3, none, .bx (.t 0) 2 true⟩,
 ⟨some 6, none, .mov (.c (.p (.int .i64 0)))⟩] [1, 2, 3] [3])
 (.seq (.reg true [⟨some 9, none, .mov (.t 1)⟩,
 ⟨some 10, none, .mnmx true (.t 9) (.c (.p (.int .i64 0)))⟩,
 ⟨some 11, none, .mov (.t 2)⟩,
 ⟨some 12, none, .off (.t 3) 0⟩,
 ⟨some 13, none, .ldl 3 (.t 12) 1 false⟩,
 ⟨some 14, none, .len (.t 13)⟩,
 ⟨some 15, none, .mnmx false (.t 11) (.t 14)⟩,
 ⟨some 1, none, .mov (.t 10)⟩,
 ⟨some 2, none, .mov (.t 15)⟩] [1, 2, 3] [3])
 (.seq (.reg false [⟨some 7, none, .mov (.c (.p (.int .i64 0)))⟩] [1, 2, 3, 7] [3])
 (.seq (.seq (.reg false [⟨some 16, none, .mov (.t 1)⟩,
 ⟨some 8, none, .mov (.t 16)⟩] [2, 3, 7, 8] [3])
 (.block 0 lp201_0))
 (.seq (.reg false [⟨some 32, none, .mov (.t 7)⟩,
 ⟨some 6, none, .mov (.t 32)⟩] [6] [])
 .ret))))),
 [.tmp 6], false⟩
def lp213_0 : IC :=
 (.loop [0, 1, 7, 8] [] (.seq (.seq (.reg false [⟨some 15, none, .mov (.t 8)⟩,
 ⟨some 16, none, .mov (.t 1)⟩,
 ⟨some 17, none, .len (.t 16)⟩,
 ⟨some 18, none, .bin .lss (.t 15) (.t 17)⟩] [0, 1, 7, 8, 18] [])
 (.cond (.t 18)
 .skip
 (.exit 0)))
 (.seq (.block 1 (.seq (.reg false [⟨some 21, none, .mov (.t 1)⟩,
 ⟨some 22, none, .mov (.t 8)⟩,
 ⟨some 23, none, .ixs (.t 21) (.t 22) 3⟩,
 ⟨some 24, none, .off (.t 23) 0⟩,
 ⟨some 25, none, .ld (.t 24) 1 false⟩,
 ⟨some 26, none, .bin .geq (.t 25) (.c (.p (.int .i64 0)))⟩,
 ⟨some 27, none, .mov (.t 26)⟩,
 ⟨some 28, (some (27, true)), .mov (.t 1)⟩,
 ⟨some 29, (some (27, true)), .mov (.t 8)⟩,
 ⟨some 30, (some (27, true)), .ixs (.t 28) (.t 29) 3⟩,
 ⟨some 31, (some (27, true)), .off (.t 30) 0⟩,
 ⟨some 32, (some (27, true)), .ld (.t 31) 1 false⟩,
 ⟨some 33, (some (27, true)), .mov (.t 0)⟩,
 ⟨some 34, (some (27, true)), .len (.t 33)⟩,
 ⟨some 35, (some (27, true)), .bin .lss (.t 32) (.t 34)⟩,
 ⟨some 36, none, .pick (.t 27) (.t 35) (.c (.p (.bool false)))⟩] [0, 1, 7, 8, 36] [])
 (.cond (.t 36)
 (.reg true [⟨some 37, none, .mov (.t 7)⟩,
 ⟨some 38, none, .mov (.t 0)⟩,
 ⟨some 39, none, .mov (.t 1)⟩,
 ⟨some 40, none, .mov (.t 8)⟩,
 ⟨some 41, none, .ixs (.t 39) (.t 40) 3⟩,
 ⟨some 42, none, .off (.t 41) 0⟩,
 ⟨some 43, none, .ld (.t 42) 1 false⟩,
 ⟨some 44, none, .ixs (.t 38) (.t 43) 2⟩,
 ⟨some 45, none, .ld (.t 44) 2 true⟩,
 ⟨some 46, none, .mov (.t 1)⟩,
 ⟨some 47, none, .mov (.t 8)⟩,
 ⟨some 48, none, .ixs (.t 46) (.t 47) 3⟩,
 ⟨some 49, none, .off (.t 48) 1⟩,
 ⟨some 50, none, .ld (.t 49) 1 false⟩,
 ⟨some 51, none, .mov (.t 1)⟩,
 ⟨some 52, none, .mov (.t 8)⟩,
 ⟨some 53, none, .ixs (.t 51) (.t 52) 3⟩,
 ⟨some 54, none, .off (.t 53) 2⟩,
 ⟨some 55, none, .ld (.t 54) 1 false⟩,
 ⟨some 56, none, .call 262 [(.t 45), (.t 50), (.t 55)] false⟩,
 ⟨some 57, none, .bin .add (.t 37) (.t 56)⟩,
 ⟨some 58, none, .mnmx false (.t 57) (.c (.p (.int .i64 1125899906842624)))⟩,
 ⟨some 7, none, .mov (.t 58)⟩] [0, 1, 7, 8] [])
 .skip)))
 (.reg false [⟨some 19, none, .mov (.t 8)⟩,
 ⟨some 20, none, .bin .add (.t 19) (.c (.p (.int .i64 1)))⟩,
 ⟨some 8, none, .mov (.t 20)⟩] [0, 1, 7, 8] []))))
def ir213 : IFn :=   -- tympan/tympanref22.High
⟨(.seq (.reg false [⟨some 6, none, .mov (.c (.p (.int .i64 0)))⟩] [0, 1, 2] [])
 (.seq (.seq (.reg false [⟨some 9, none, .mov (.t 1)⟩,
 ⟨some 10, none, .len (.t 9)⟩,
 ⟨some 11, none, .bin .eql (.t 10) (.c (.p (.int .i64 0)))⟩] [0, 1, 2, 11] [])
 (.cond (.t 11)
 (.seq (.reg false [⟨some 6, none, .mov (.c (.p (.int .i64 0)))⟩] [6] [])
 .ret)
 .skip))
 (.seq (.reg false [⟨some 12, none, .mov (.t 2)⟩,
 ⟨some 13, none, .mnmx false (.t 12) (.c (.p (.int .i64 1125899906842624)))⟩,
 ⟨some 14, none, .mnmx true (.c (.p (.int .i64 0))) (.t 13)⟩,
 ⟨some 7, none, .mov (.t 14)⟩] [0, 1, 7] [])
 (.seq (.seq (.reg false [⟨some 8, none, .mov (.c (.p (.int .i64 0)))⟩] [0, 1, 7, 8] [])
 (.block 0 lp213_0))
 (.seq (.reg false [⟨some 59, none, .mov (.t 7)⟩,
 ⟨some 6, none, .mov (.t 59)⟩] [6] [])
 .ret))))),
 [.tmp 6], false⟩
def lp219_0 : IC :=
 (.loop [0, 3, 4] [] (.seq (.seq (.reg false [⟨some 5, none, .mov (.t 4)⟩,
 ⟨some 6, none, .mov (.t 0)⟩,
 ⟨some 7, none, .len (.t 6)⟩,
 ⟨some 8, none, .bin .lss (.t 5) (.t 7)⟩] [0, 3, 4, 8] [])
 (.cond (.t 8)
 .skip
 (.exit 0)))
 (.seq (.block 1 (.reg true [⟨some 11, none, .mov (.t 3)⟩,
 ⟨some 12, none, .mov (.t 0)⟩,
 ⟨some 13, none, .mov (.t 4)⟩,
 ⟨some 14, none, .ixs (.t 12) (.t 13) 3⟩,
 ⟨some 15, none, .off (.t 14) 2⟩,
 ⟨some 16, none, .ld (.t 15) 1 false⟩,
 ⟨some 17, none, .mov (.t 0)⟩,
 ⟨some 18, none, .mov (.t 4)⟩,
 ⟨some 19, none, .ixs (.t 17) (.t 18) 3⟩,
 ⟨some 20, none, .off (.t 19) 1⟩,
 ⟨some 21, none, .ld (.t 20) 1 false⟩,
 ⟨some 22, none, .bin .sub (.t 16) (.t 21)⟩,
 ⟨some 23, none, .mnmx true (.c (.p (.int .i64 0))) (.t 22)⟩,
 ⟨some 24, none, .bin .add (.t 11) (.t 23)⟩,
 ⟨some 3, none, .mov (.t 24)⟩] [0, 3, 4] []))
 (.reg false [⟨some 9, none, .mov (.t 4)⟩,
 ⟨some 10, none, .bin .add (.t 9) (.c (.p (.int .i64 1)))⟩,
 ⟨some 4, none, .mov (.t 10)⟩] [0, 3, 4] []))))
def ir219 : IFn :=   -- tympan/tympanref22.Lines
⟨(.seq (.reg false [⟨some 2, none, .mov (.c (.p (.int .i64 0)))⟩] [0] [])
 (.seq (.reg false [⟨some 3, none, .mov (.c (.p (.int .i64 0)))⟩] [0, 3] [])
 (.seq (.seq (.reg false [⟨some 4, none, .mov (.c (.p (.int .i64 0)))⟩] [0, 3, 4] [])
 (.block 0 lp219_0))
 (.seq (.reg false [⟨some 25, none, .mov (.t 3)⟩,
 ⟨some 2, none, .mov (.t 25)⟩] [2] [])
 .ret)))),
 [.tmp 2], false⟩
def lp220_0 : IC :=
 (.loop [0, 1, 12, 13] [] (.seq (.reg false [⟨some 14, none, .bin .lss (.t 13) (.t 12)⟩] [0, 1, 12, 13, 14] [])
 (.seq (.cond (.t 14)
 .skip
 (.exit 0))
 (.seq (.block 1 (.seq (.reg false [⟨some 15, none, .mov (.t 13)⟩,
 ⟨some 5, none, .mov (.t 15)⟩] [0, 1, 5, 12, 13] [])
 (.seq (.reg true [⟨some 16, none, .mov (.t 0)⟩,
 ⟨some 17, none, .mov (.t 5)⟩,
 ⟨some 18, none, .ixs (.t 16) (.t 17) 3⟩,
 ⟨some 19, none, .ld (.t 18) 3 true⟩,
 ⟨some 20, none, .mov (.t 1)⟩,
 ⟨some 21, none, .mov (.t 5)⟩,
 ⟨some 22, none, .ixs (.t 20) (.t 21) 3⟩,
 ⟨some 23, none, .ld (.t 22) 3 true⟩,
 ⟨some 24, none, .eqa true [true, true, true] (.t 19) (.t 23)⟩] [0, 1, 12, 13, 24] [])
 (.cond (.t 24)
 (.seq (.reg false [⟨some 4, none, .mov (.c (.p (.bool false)))⟩] [4] [])
 .ret)
 .skip))))
 (.reg false [⟨some 25, none, .bin .add (.t 13) (.c (.p (.int .i64 1)))⟩,
 ⟨some 13, none, .mov (.t 25)⟩] [0, 1, 12, 13] [])))))
def ir220 : IFn :=   -- slices.Equal[[]tympan/api.Piece,tympan/api.Piece]
⟨(.seq (.reg false [⟨some 4, none, .mov (.c (.p (.bool false)))⟩] [0, 1] [])
 (.seq (.seq (.reg false [⟨some 6, none, .mov (.t 0)⟩,
 ⟨some 7, none, .len (.t 6)⟩,
 ⟨some 8, none, .mov (.t 1)⟩,
 ⟨some 9, none, .len (.t 8)⟩,
 ⟨some 10, none, .bin .neq (.t 7) (.t 9)⟩] [0, 1, 10] [])
 (.cond (.t 10)
 (.seq (.reg false [⟨some 4, none, .mov (.c (.p (.bool false)))⟩] [4] [])
 .ret)
 .skip))
 (.seq (.seq (.reg false [⟨some 11, none, .mov (.t 0)⟩,
 ⟨some 12, none, .len (.t 11)⟩,
 ⟨some 13, none, .mov (.c (.p (.int .i64 0)))⟩] [0, 1, 12, 13] [])
 (.block 0 lp220_0))
 (.seq (.reg false [⟨some 4, none, .mov (.c (.p (.bool true)))⟩] [4] [])
 .ret)))),
 [.tmp 4], false⟩
def ir221 : IFn :=   -- tympan/valid.clauses
⟨(.seq (.reg false [⟨some 0, none, .mov (.c (.nils))⟩] [] [])
 (.seq (.reg false [⟨some 1, none, .call 266 [(.c (.p (.fn 267)))] false⟩,
 ⟨some 2, none, .bld [.p (.int .i64 0), .p .nilf] [(0, 1, (.c (.p (.int .i64 3)))), (1, 1, (.t 1))]⟩,
 ⟨some 3, none, .call 266 [(.c (.p (.fn 268)))] false⟩,
 ⟨some 4, none, .bld [.p (.int .i64 0), .p .nilf] [(0, 1, (.c (.p (.int .i64 4)))), (1, 1, (.t 3))]⟩,
 ⟨some 5, none, .call 266 [(.c (.p (.fn 269)))] false⟩,
 ⟨some 6, none, .bld [.p (.int .i64 0), .p .nilf] [(0, 1, (.c (.p (.int .i64 5)))), (1, 1, (.t 5))]⟩,
 ⟨some 7, none, .call 266 [(.c (.p (.fn 270)))] false⟩,
 ⟨some 8, none, .bld [.p (.int .i64 0), .p .nilf] [(0, 1, (.c (.p (.int .i64 6)))), (1, 1, (.t 7))]⟩,
 ⟨some 9, none, .call 266 [(.c (.p (.fn 272)))] false⟩,
 ⟨some 10, none, .bld [.p (.int .i64 0), .p .nilf] [(0, 1, (.c (.p (.int .i64 7)))), (1, 1, (.t 9))]⟩,
 ⟨some 11, none, .bld [.p (.int .i64 0), .p .nilf] [(0, 1, (.c (.p (.int .i64 8)))), (1, 1, (.c (.p (.fn 273))))]⟩,
 ⟨some 12, none, .bld [.p (.int .i64 0), .p .nilf] [(0, 1, (.c (.p (.int .i64 9)))), (1, 1, (.c (.p (.fn 276))))]⟩,
 ⟨some 13, none, .bld [.p (.int .i64 0), .p .nilf] [(0, 1, (.c (.p (.int .i64 10)))), (1, 1, (.c (.p (.fn 279))))]⟩,
 ⟨some 14, none, .bld [.p (.int .i64 0), .p .nilf] [(0, 1, (.c (.p (.int .i64 11)))), (1, 1, (.c (.p (.fn 282))))]⟩,
 ⟨some 15, none, .bld [.p (.int .i64 0), .p .nilf] [(0, 1, (.c (.p (.int .i64 12)))), (1, 1, (.c (.p (.fn 283))))]⟩,
 ⟨some 16, none, .bsl 2 10 [.p (.int .i64 0), .p .nilf] [(0, (.t 2)), (1, (.t 4)), (2, (.t 6)), (3, (.t 8)), (4, (.t 10)), (5, (.t 11)), (6, (.t 12)), (7, (.t 13)), (8, (.t 14)), (9, (.t 15))]⟩,
 ⟨some 0, none, .mov (.t 16)⟩] [0] [])
 .ret)),
 [.tmp 0], false⟩
def ir222 : IFn :=   -- tympan/grid.Near
⟨(.seq (.reg false [⟨some 4, none, .mov (.c (.p (.int .i64 0)))⟩] [0, 1] [])
 (.seq (.seq (.reg false [⟨some 6, none, .mov (.t 1)⟩,
 ⟨some 7, none, .bin .lss (.t 6) (.c (.p (.int .i64 1)))⟩] [0, 1, 7] [])
 (.cond (.t 7)
 (.seq (.reg false [⟨some 8, none, .mov (.t 0)⟩,
 ⟨some 4, none, .mov (.t 8)⟩] [4] [])
 .ret)
 .skip))
 (.seq (.reg false [⟨some 9, none, .mov (.t 0)⟩,
 ⟨some 10, none, .mov (.t 1)⟩,
 ⟨some 11, none, .bin .rem (.t 9) (.t 10)⟩,
 ⟨some 5, none, .mov (.t 11)⟩] [0, 1, 5] [])
 (.seq (.seq (.reg false [⟨some 12, none, .mov (.t 5)⟩,
 ⟨some 13, none, .bin .lss (.t 12) (.c (.p (.int .i64 0)))⟩] [0, 1, 5, 13] [])
 (.cond (.t 13)
 (.reg false [⟨some 14, none, .mov (.t 5)⟩,
 ⟨some 15, none, .mov (.t 1)⟩,
 ⟨some 16, none, .bin .add (.t 14) (.t 15)⟩,
 ⟨some 5, none, .mov (.t 16)⟩] [0, 1, 5] [])
 .skip))
 (.seq (.seq (.reg false [⟨some 17, none, .mov (.t 5)⟩,
 ⟨some 18, none, .mov (.t 1)⟩,
 ⟨some 19, none, .mov (.t 5)⟩,
 ⟨some 20, none, .bin .sub (.t 18) (.t 19)⟩,
 ⟨some 21, none, .bin .lss (.t 17) (.t 20)⟩] [0, 1, 21] [])
 (.cond (.t 21)
 (.seq (.reg false [⟨some 22, none, .mov (.t 0)⟩,
 ⟨some 23, none, .mov (.t 1)⟩,
 ⟨some 24, none, .call 150 [(.t 22), (.t 23)] false⟩,
 ⟨some 4, none, .mov (.t 24)⟩] [4] [])
 .ret)
 .skip))
 (.seq (.reg false [⟨some 25, none, .mov (.t 0)⟩,
 ⟨some 26, none, .mov (.t 1)⟩,
 ⟨some 27, none, .call 151 [(.t 25), (.t 26)] false⟩,
 ⟨some 4, none, .mov (.t 27)⟩] [4] [])
 .ret)))))),
 [.tmp 4], false⟩
def ir223 : IFn :=   -- tympan/grid.or
⟨(.seq (.reg false [⟨some 6, none, .mov (.c (.p (.int .i64 0)))⟩] [0, 1, 2] [])
 (.seq (.seq (.reg false [⟨some 10, none, .mov (.t 2)⟩,
 ⟨some 11, none, .mov (.t 0)⟩,
 ⟨some 12, none, .mov (.t 1)⟩,
 ⟨some 13, none, .callv (.t 10) [(.t 11), (.t 12)] false⟩,
 ⟨some 9, none, .mov (.t 13)⟩,
 ⟨some 14, none, .ext (.t 9) 0⟩,
 ⟨some 15, none, .ext (.t 9) 1⟩,
 ⟨some 7, none, .mov (.t 14)⟩,
 ⟨some 8, none, .mov (.t 15)⟩] [0, 7, 8] [])
 (.seq (.reg false [⟨some 16, none, .mov (.t 8)⟩] [0, 7, 16] [])
 (.cond (.t 16)
 (.seq (.reg false [⟨some 17, none, .mov (.t 7)⟩,
 ⟨some 6, none, .mov (.t 17)⟩] [6] [])
 .ret)
 .skip)))
 (.seq (.reg false [⟨some 18, none, .mov (.t 0)⟩,
 ⟨some 6, none, .mov (.t 18)⟩] [6] [])
 .ret))),
 [.tmp 6], false⟩
def ir224 : IFn :=   -- tympan/sp.Down
⟨(.seq (.reg false [⟨some 4, none, .mov (.c (.p (.int .i64 0)))⟩,
 ⟨some 5, none, .mov (.c (.p (.bool false)))⟩] [0, 1] [])
 (.seq (.seq (.reg false [⟨some 6, none, .mov (.t 1)⟩,
 ⟨some 7, none, .bin .lss (.t 6) (.c (.p (.int .i64 1)))⟩] [0, 1, 7] [])
 (.cond (.t 7)
 (.seq (.reg false [⟨some 4, none, .mov (.c (.p (.int .i64 0)))⟩,
 ⟨some 5, none, .mov (.c (.p (.bool false)))⟩] [4, 5] [])
 .ret)
 .skip))
 (.seq (.reg false [⟨some 8, none, .mov (.t 0)⟩,
 ⟨some 9, none, .mov (.t 0)⟩,
 ⟨some 10, none, .mov (.t 1)⟩,
 ⟨some 11, none, .call 284 [(.t 9), (.t 10)] false⟩,
 ⟨some 12, none, .call 258 [(.t 8), (.t 11)] false⟩,
 ⟨some 13, none, .ext (.t 12) 0⟩,
 ⟨some 14, none, .ext (.t 12) 1⟩,
 ⟨some 4, none, .mov (.t 13)⟩,
 ⟨some 5, none, .mov (.t 14)⟩] [4, 5] [])
 .ret))),
 [.tmp 4, .tmp 5], false⟩
def ir225 : IFn :=   -- tympan/sp.Up
⟨(.seq (.reg false [⟨some 4, none, .mov (.c (.p (.int .i64 0)))⟩,
 ⟨some 5, none, .mov (.c (.p (.bool false)))⟩] [0, 1] [])
 (.seq (.seq (.reg false [⟨some 7, none, .mov (.t 1)⟩,
 ⟨some 8, none, .bin .lss (.t 7) (.c (.p (.int .i64 1)))⟩] [0, 1, 8] [])
 (.cond (.t 8)
 (.seq (.reg false [⟨some 4, none, .mov (.c (.p (.int .i64 0)))⟩,
 ⟨some 5, none, .mov (.c (.p (.bool false)))⟩] [4, 5] [])
 .ret)
 .skip))
 (.seq (.seq (.reg false [⟨some 9, none, .mov (.t 0)⟩,
 ⟨some 10, none, .mov (.t 1)⟩,
 ⟨some 11, none, .call 284 [(.t 9), (.t 10)] false⟩,
 ⟨some 6, none, .mov (.t 11)⟩] [0, 1, 6] [])
 (.seq (.reg false [⟨some 12, none, .mov (.t 6)⟩,
 ⟨some 13, none, .bin .gtr (.t 12) (.c (.p (.int .i64 0)))⟩] [0, 1, 6, 13] [])
 (.cond (.t 13)
 (.seq (.reg false [⟨some 14, none, .mov (.t 0)⟩,
 ⟨some 15, none, .mov (.t 1)⟩,
 ⟨some 16, none, .mov (.t 6)⟩,
 ⟨some 17, none, .bin .sub (.t 15) (.t 16)⟩,
 ⟨some 18, none, .call 230 [(.t 14), (.t 17)] false⟩,
 ⟨some 19, none, .ext (.t 18) 0⟩,
 ⟨some 20, none, .ext (.t 18) 1⟩,
 ⟨some 4, none, .mov (.t 19)⟩,
 ⟨some 5, none, .mov (.t 20)⟩] [4, 5] [])
 .ret)
 .skip)))
 (.seq (.reg false [⟨some 21, none, .mov (.t 0)⟩,
 ⟨some 4, none, .mov (.t 21)⟩,
 ⟨some 5, none, .mov (.c (.p (.bool true)))⟩] [4, 5] [])
 .ret)))),
 [.tmp 4, .tmp 5], false⟩
def ir226 : IFn :=   -- tympan/total.Box
⟨(.seq (.reg false [⟨some 2, none, .al [.p (.int .i64 0), .p (.int .i64 0), .p (.int .i64 0), .p (.int .i64 0), .p (.int .i64 0), .p (.int .i64 0)] true⟩] [0, 2] [2])
 (.seq (.reg false [⟨some 3, none, .mov (.t 0)⟩,
 ⟨some 4, none, .bld [.p (.int .i64 0), .p (.int .i64 0), .p (.int .i64 0), .p (.int .i64 0), .p (.int .i64 0), .p (.int .i64 0)] [(0, 1, (.t 3))]⟩,
 ⟨none, none, .st (.t 2) (.t 4) 6⟩] [2] [2])
 .ret)),
 [.cell 2 6 true], false⟩
def ir227 : IFn :=   -- tympan/total.Glue
⟨(.seq (.reg false [⟨some 8, none, .al [.p (.int .i64 0), .p (.int .i64 0), .p (.int .i64 0), .p (.int .i64 0), .p (.int .i64 0), .p (.int .i64 0)] true⟩] [0, 1, 2, 3, 8] [8])
 (.seq (.reg false [⟨some 10, none, .mov (.t 0)⟩,
 ⟨some 11, none, .mov (.t 3)⟩,
 ⟨some 12, none, .bld [.p (.int .i64 0), .p (.int .i64 0), .p (.int .i64 0), .p (.int .i64 0), .p (.int .i64 0), .p (.int .i64 0)] [(0, 1, (.t 10)), (5, 1, (.t 11))]⟩,
 ⟨some 9, none, .al [.p (.int .i64 0), .p (.int .i64 0), .p (.int .i64 0), .p (.int .i64 0), .p (.int .i64 0), .p (.int .i64 0)] true⟩,
 ⟨none, none, .st (.t 9) (.t 12) 6⟩] [1, 2, 8, 9] [8, 9])
 (.seq (.seq (.reg false [⟨some 13, none, .mov (.t 2)⟩,
 ⟨some 14, none, .bin .geq (.t 13) (.c (.p (.int .i64 0)))⟩,
 ⟨some 15, none, .mov (.t 14)⟩,
 ⟨some 16, (some (15, true)), .mov (.t 2)⟩,
 ⟨some 17, (some (15, true)), .bin .lss (.t 16) (.c (.p (.int .i64 4)))⟩,
 ⟨some 18, none, .pick (.t 15) (.t 17) (.c (.p (.bool false)))⟩] [1, 2, 8, 9, 18] [8, 9])
 (.cond (.t 18)
 (.reg false [⟨some 19, none, .mov (.t 2)⟩,
 ⟨some 20, none, .mov (.t 1)⟩,
 ⟨some 21, none, .off (.t 9) 1⟩,
 ⟨some 22, none, .ixa (.t 21) (.t 19) 1 4⟩,
 ⟨none, none, .st (.t 22) (.t 20) 1⟩] [8, 9] [8, 9])
 .skip))
 (.seq (.reg false [⟨some 23, none, .ld (.t 9) 6 true⟩,
 ⟨none, none, .st (.t 8) (.t 23) 6⟩] [8] [8])
 .ret)))),
 [.cell 8 6 true], false⟩
def ir228 : IFn :=   -- tympan/sums.fair$1
⟨(.seq (.reg false [⟨some 2, none, .mov (.c (.p (.bool false)))⟩] [0] [])
 (.seq (.reg false [⟨some 3, none, .mov (.t 0)⟩,
 ⟨some 4, none, .bin .geq (.t 3) (.c (.p (.int .i64 0)))⟩,
 ⟨some 5, none, .mov (.t 4)⟩,
 ⟨some 6, (some (5, true)), .mov (.t 0)⟩,
 ⟨some 7, (some (5, true)), .bin .leq (.t 6) (.c (.p (.int .i64 4294967296)))⟩,
 ⟨some 8, none, .pick (.t 5) (.t 7) (.c (.p (.bool false)))⟩,
 ⟨some 2, none, .mov (.t 8)⟩] [2] [])
 .ret)),
 [.tmp 2], false⟩
def lp229_0 : IC :=
 (.loop [3, 4, 6, 8, 9, 10, 26] [3, 4, 6, 10] (.seq (.reg false [⟨some 27, none, .bin .lss (.t 26) (.c (.p (.int .i64 4)))⟩] [3, 4, 6, 8, 9, 10, 26, 27] [3, 4, 6, 10])
 (.seq (.cond (.t 27)
 .skip
 (.exit 0))
 (.seq (.block 1 (.seq (.reg false [⟨some 28, none, .mov (.t 26)⟩,
 ⟨some 11, none, .mov (.t 28)⟩] [3, 4, 6, 8, 9, 10, 11, 26] [3, 4, 6, 10])
 (.reg true [⟨some 29, none, .mov (.t 11)⟩,
 ⟨some 30, none, .mov (.t 9)⟩,
 ⟨some 31, none, .mov (.t 11)⟩,
 ⟨some 32, none, .off (.t 3) 1⟩,
 ⟨some 33, none, .ixa (.t 32) (.t 31) 1 4⟩,
 ⟨some 34, none, .ldl 3 (.t 33) 1 false⟩,
 ⟨some 35, none, .mov (.t 11)⟩,
 ⟨some 36, none, .off (.t 4) 1⟩,
 ⟨some 37, none, .ixa (.t 36) (.t 35) 1 4⟩,
 ⟨some 38, none, .ldl 4 (.t 37) 1 false⟩,
 ⟨some 39, none, .callv (.t 30) [(.t 34), (.t 38)] false⟩,
 ⟨some 40, none, .off (.t 10) 1⟩,
 ⟨some 41, none, .ixa (.t 40) (.t 29) 1 4⟩,
 ⟨none, none, .stl 10 (.t 41) (.t 39) 1⟩] [3, 4, 6, 8, 9, 10, 26] [3, 4, 6, 10])))
 (.reg false [⟨some 42, none, .bin .add (.t 26) (.c (.p (.int .i64 1)))⟩,
 ⟨some 26, none, .mov (.t 42)⟩] [3, 4, 6, 8, 9, 10, 26] [3, 4, 6, 10])))))
def ir229 : IFn :=   -- tympan/total.both
⟨(.seq (.reg false [⟨some 3, none, .bx (.t 0) 6 true⟩,
 ⟨some 4, none, .bx (.t 1) 6 true⟩,
 ⟨some 5, none, .bx (.t 2) 1 false⟩,
 ⟨some 6, none, .al [.p (.int .i64 0), .p (.int .i64 0), .p (.int .i64 0), .p (.int .i64 0), .p (.int .i64 0), .p (.int .i64 0)] true⟩,
 ⟨some 7, none, .mov (.c (.p (.bool false)))⟩] [3, 4, 5, 6] [3, 4, 6])
 (.seq (.reg false [⟨some 8, none, .al [.p (.bool false)] false⟩,
 ⟨none, none, .st (.t 8) (.c (.p (.bool true))) 1⟩] [3, 4, 5, 6, 8] [3, 4, 6])
 (.seq (.reg false [⟨some 12, none, .mkf (.func 285) [] [(.t 5), (.t 8)]⟩,
 ⟨some 9, none, .mov (.t 12)⟩] [3, 4, 6, 8, 9] [3, 4, 6])
 (.seq (.prep [10] (.reg true [⟨some 13, none, .mov (.t 9)⟩,
 ⟨some 14, none, .off (.t 3) 0⟩,
 ⟨some 15, none, .ldl 3 (.t 14) 1 false⟩,
 ⟨some 16, none, .off (.t 4) 0⟩,
 ⟨some 17, none, .ldl 4 (.t 16) 1 false⟩,
 ⟨some 18, none, .callv (.t 13) [(.t 15), (.t 17)] false⟩,
 ⟨some 19, none, .mov (.t 9)⟩,
 ⟨some 20, none, .off (.t 3) 5⟩,
 ⟨some 21, none, .ldl 3 (.t 20) 1 false⟩,
 ⟨some 22, none, .off (.t 4) 5⟩,
 ⟨some 23, none, .ldl 4 (.t 22) 1 false⟩,
 ⟨some 24, none, .callv (.t 19) [(.t 21), (.t 23)] false⟩,
 ⟨some 25, none, .bld [.p (.int .i64 0), .p (.int .i64 0), .p (.int .i64 0), .p (.int .i64 0), .p (.int .i64 0), .p (.int .i64 0)] [(0, 1, (.t 18)), (5, 1, (.t 24))]⟩,
 ⟨some 10, none, .alp [.p (.int .i64 0), .p (.int .i64 0), .p (.int .i64 0), .p (.int .i64 0), .p (.int .i64 0), .p (.int .i64 0)]⟩,
 ⟨none, none, .stl 10 (.t 10) (.t 25) 6⟩] [3, 4, 6, 8, 9, 10] [3, 4, 6, 10]))
 (.seq (.seq (.reg false [⟨some 26, none, .mov (.c (.p (.int .i64 0)))⟩] [3, 4, 6, 8, 9, 10, 26] [3, 4, 6, 10])
 (.block 0 lp229_0))
 (.seq (.seq (.reg false [⟨some 43, none, .ld (.t 8) 1 false⟩,
 ⟨some 44, none, .un .not (.t 43)⟩] [6, 10, 44] [6, 10])
 (.cond (.t 44)
 (.seq (.reg false [⟨some 45, none, .bld [.p (.int .i64 0), .p (.int .i64 0), .p (.int .i64 0), .p (.int .i64 0), .p (.int .i64 0), .p (.int .i64 0)] []⟩,
 ⟨none, none, .st (.t 6) (.t 45) 6⟩,
 ⟨some 7, none, .mov (.c (.p (.bool false)))⟩] [6, 7] [6])
 .ret)
 .skip))
 (.seq (.reg false [⟨some 46, none, .ld (.t 10) 6 true⟩,
 ⟨none, none, .st (.t 6) (.t 46) 6⟩,
 ⟨some 7, none, .mov (.c (.p (.bool true)))⟩] [6, 7] [6])
 .ret))))))),
 [.cell 6 6 true, .tmp 7], false⟩
def ir230 : IFn :=   -- tympan/sp.Add
⟨(.seq (.reg false [⟨some 4, none, .mov (.c (.p (.int .i64 0)))⟩,
 ⟨some 5, none, .mov (.c (.p (.bool false)))⟩] [0, 1] [])
 (.seq (.reg false [⟨some 7, none, .mov (.t 0)⟩,
 ⟨some 8, none, .mov (.t 1)⟩,
 ⟨some 9, none, .bin .add (.t 7) (.t 8)⟩,
 ⟨some 6, none, .mov (.t 9)⟩] [0, 1, 6] [])
 (.seq (.seq (.reg false [⟨some 10, none, .mov (.t 6)⟩,
 ⟨some 11, none, .mov (.t 0)⟩,
 ⟨some 12, none, .bin .gtr (.t 10) (.t 11)⟩,
 ⟨some 13, none, .mov (.t 1)⟩,
 ⟨some 14, none, .bin .gtr (.t 13) (.c (.p (.int .i64 0)))⟩,
 ⟨some 15, none, .eqb true (.t 12) (.t 14)⟩,
 ⟨some 16, none, .mov (.t 15)⟩,
 ⟨some 17, (some (16, true)), .mov (.t 1)⟩,
 ⟨some 18, (some (16, true)), .bin .neq (.t 17) (.c (.p (.int .i64 0)))⟩,
 ⟨some 19, none, .pick (.t 16) (.t 18) (.c (.p (.bool false)))⟩] [6, 19] [])
 (.cond (.t 19)
 (.seq (.reg false [⟨some 4, none, .mov (.c (.p (.int .i64 0)))⟩,
 ⟨some 5, none, .mov (.c (.p (.bool false)))⟩] [4, 5] [])
 .ret)
 .skip))
 (.seq (.reg false [⟨some 20, none, .mov (.t 6)⟩,
 ⟨some 4, none, .mov (.t 20)⟩,
 ⟨some 5, none, .mov (.c (.p (.bool true)))⟩] [4, 5] [])
 .ret)))),
 [.tmp 4, .tmp 5], false⟩
def ir231 : IFn :=   -- tympan/tympanref14.got
⟨(.seq (.reg false [⟨some 2, none, .bx (.t 0) 2 true⟩,
 ⟨some 4, none, .mov (.c (.p (.int .i64 0)))⟩] [1, 2] [2])
 (.seq (.seq (.reg false [⟨some 5, none, .off (.t 2) 1⟩,
 ⟨some 6, none, .ld (.t 5) 1 false⟩] [1, 2, 6] [2])
 (.cond (.t 6)
 (.seq (.reg false [⟨some 7, none, .off (.t 2) 0⟩,
 ⟨some 8, none, .ld (.t 7) 1 false⟩,
 ⟨some 4, none, .mov (.t 8)⟩] [4] [])
 .ret)
 .skip))
 (.seq (.reg false [⟨some 9, none, .mov (.t 1)⟩,
 ⟨some 4, none, .mov (.t 9)⟩] [4] [])
 .ret))),
 [.tmp 4], false⟩
def ir232 : IFn :=   -- tympan/tympanref01.Down
⟨(.seq (.reg false [⟨some 4, none, .al [.p (.int .i64 0), .p (.bool false)] true⟩] [0, 1, 4] [4])
 (.seq (.seq (.reg false [⟨some 6, none, .mov (.t 1)⟩,
 ⟨some 7, none, .bin .lss (.t 6) (.c (.p (.int .i64 1)))⟩] [0, 1, 4, 7] [4])
 (.cond (.t 7)
 (.seq (.reg false [⟨some 8, none, .bld [.p (.int .i64 0), .p (.bool false)] []⟩,
 ⟨none, none, .st (.t 4) (.t 8) 2⟩] [4] [4])
 .ret)
 .skip))
 (.seq (.reg false [⟨some 9, none, .mov (.t 0)⟩,
 ⟨some 10, none, .mov (.t 1)⟩,
 ⟨some 11, none, .bin .rem (.t 9) (.t 10)⟩,
 ⟨some 5, none, .mov (.t 11)⟩] [0, 1, 4, 5] [4])
 (.seq (.seq (.reg false [⟨some 12, none, .mov (.t 5)⟩,
 ⟨some 13, none, .bin .lss (.t 12) (.c (.p (.int .i64 0)))⟩] [0, 1, 4, 5, 13] [4])
 (.cond (.t 13)
 (.reg false [⟨some 14, none, .mov (.t 5)⟩,
 ⟨some 15, none, .mov (.t 1)⟩,
 ⟨some 16, none, .bin .add (.t 14) (.t 15)⟩,
 ⟨some 5, none, .mov (.t 16)⟩] [0, 4, 5] [4])
 .skip))
 (.seq (.reg false [⟨some 17, none, .mov (.t 0)⟩,
 ⟨some 18, none, .mov (.t 5)⟩,
 ⟨some 19, none, .call 286 [(.t 17), (.t 18)] false⟩,
 ⟨none, none, .st (.t 4) (.t 19) 2⟩] [4] [4])
 .ret))))),
 [.cell 4 2 true], false⟩
def ir233 : IFn :=   -- tympan/tympanref01.Up
⟨(.seq (.reg false [⟨some 4, none, .al [.p (.int .i64 0), .p (.bool false)] true⟩] [0, 1, 4] [4])
 (.seq (.seq (.reg false [⟨some 6, none, .mov (.t 1)⟩,
 ⟨some 7, none, .bin .lss (.t 6) (.c (.p (.int .i64 1)))⟩] [0, 1, 4, 7] [4])
 (.cond (.t 7)
 (.seq (.reg false [⟨some 8, none, .bld [.p (.int .i64 0), .p (.bool false)] []⟩,
 ⟨none, none, .st (.t 4) (.t 8) 2⟩] [4] [4])
 .ret)
 .skip))
 (.seq (.reg false [⟨some 9, none, .mov (.t 0)⟩,
 ⟨some 10, none, .mov (.t 1)⟩,
 ⟨some 11, none, .bin .rem (.t 9) (.t 10)⟩,
 ⟨some 5, none, .mov (.t 11)⟩] [0, 1, 4, 5] [4])
 (.seq (.seq (.reg false [⟨some 12, none, .mov (.t 5)⟩,
 ⟨some 13, none, .bin .lss (.t 12) (.c (.p (.int .i64 0)))⟩] [0, 1, 4, 5, 13] [4])
 (.cond (.t 13)
 (.reg false [⟨some 14, none, .mov (.t 5)⟩,
 ⟨some 15, none, .mov (.t 1)⟩,
 ⟨some 16, none, .bin .add (.t 14) (.t 15)⟩,
 ⟨some 5, none, .mov (.t 16)⟩] [0, 1, 4, 5] [4])
 .skip))
 (.seq (.seq (.reg false [⟨some 17, none, .mov (.t 5)⟩,
 ⟨some 18, none, .bin .eql (.t 17) (.c (.p (.int .i64 0)))⟩] [0, 1, 4, 5, 18] [4])
 (.cond (.t 18)
 (.seq (.reg false [⟨some 19, none, .mov (.t 0)⟩,
 ⟨some 20, none, .bld [.p (.int .i64 0), .p (.bool false)] [(0, 1, (.t 19)), (1, 1, (.c (.p (.bool true))))]⟩,
 ⟨none, none, .st (.t 4) (.t 20) 2⟩] [4] [4])
 .ret)
 .skip))
 (.seq (.reg false [⟨some 21, none, .mov (.t 0)⟩,
 ⟨some 22, none, .mov (.t 1)⟩,
 ⟨some 23, none, .mov (.t 5)⟩,
 ⟨some 24, none, .bin .sub (.t 22) (.t 23)⟩,
 ⟨some 25, none, .call 244 [(.t 21), (.t 24)] false⟩,
 ⟨none, none, .st (.t 4) (.t 25) 2⟩] [4] [4])
 .ret)))))),
 [.cell 4 2 true], false⟩
def ir234 : IFn :=   -- tympan/tympanref14.Near
⟨(.seq (.reg false [⟨some 4, none, .mov (.c (.p (.int .i64 0)))⟩] [0, 1] [])
 (.seq (.seq (.reg false [⟨some 8, none, .mov (.t 1)⟩,
 ⟨some 9, none, .bin .lss (.t 8) (.c (.p (.int .i64 1)))⟩] [0, 1, 9] [])
 (.cond (.t 9)
 (.seq (.reg false [⟨some 10, none, .mov (.t 0)⟩,
 ⟨some 4, none, .mov (.t 10)⟩] [4] [])
 .ret)
 .skip))
 (.seq (.reg false [⟨some 11, none, .mov (.t 0)⟩,
 ⟨some 12, none, .mov (.t 1)⟩,
 ⟨some 13, none, .call 232 [(.t 11), (.t 12)] false⟩,
 ⟨some 14, none, .mov (.t 0)⟩,
 ⟨some 15, none, .mov (.t 1)⟩,
 ⟨some 16, none, .call 233 [(.t 14), (.t 15)] false⟩,
 ⟨some 5, none, .al [.p (.int .i64 0), .p (.bool false)] true⟩,
 ⟨some 6, none, .al [.p (.int .i64 0), .p (.bool false)] true⟩,
 ⟨none, none, .st (.t 5) (.t 13) 2⟩,
 ⟨none, none, .st (.t 6) (.t 16) 2⟩] [0, 1, 5, 6] [5, 6])
 (.seq (.reg false [⟨some 17, none, .mov (.t 0)⟩,
 ⟨some 18, none, .mov (.t 1)⟩,
 ⟨some 19, none, .bin .rem (.t 17) (.t 18)⟩,
 ⟨some 7, none, .mov (.t 19)⟩] [0, 1, 5, 6, 7] [5, 6])
 (.seq (.seq (.reg false [⟨some 20, none, .mov (.t 7)⟩,
 ⟨some 21, none, .bin .lss (.t 20) (.c (.p (.int .i64 0)))⟩] [0, 1, 5, 6, 7, 21] [5, 6])
 (.cond (.t 21)
 (.reg false [⟨some 22, none, .mov (.t 7)⟩,
 ⟨some 23, none, .mov (.t 1)⟩,
 ⟨some 24, none, .bin .add (.t 22) (.t 23)⟩,
 ⟨some 7, none, .mov (.t 24)⟩] [0, 1, 5, 6, 7] [5, 6])
 .skip))
 (.seq (.seq (.reg false [⟨some 25, none, .mov (.t 7)⟩,
 ⟨some 26, none, .mov (.t 1)⟩,
 ⟨some 27, none, .mov (.t 7)⟩,
 ⟨some 28, none, .bin .sub (.t 26) (.t 27)⟩,
 ⟨some 29, none, .bin .lss (.t 25) (.t 28)⟩] [0, 5, 6, 7, 29] [5, 6])
 (.cond (.t 29)
 (.seq (.reg false [⟨some 30, none, .ld (.t 5) 2 true⟩,
 ⟨some 31, none, .mov (.t 0)⟩,
 ⟨some 32, none, .call 231 [(.t 30), (.t 31)] false⟩,
 ⟨some 4, none, .mov (.t 32)⟩] [4] [])
 .ret)
 .skip))
 (.seq (.seq (.reg false [⟨some 33, none, .mov (.t 7)⟩,
 ⟨some 34, none, .bin .eql (.t 33) (.c (.p (.int .i64 0)))⟩] [0, 6, 34] [6])
 (.cond (.t 34)
 (.seq (.reg false [⟨some 35, none, .mov (.t 0)⟩,
 ⟨some 4, none, .mov (.t 35)⟩] [4] [])
 .ret)
 .skip))
 (.seq (.reg false [⟨some 36, none, .ld (.t 6) 2 true⟩,
 ⟨some 37, none, .mov (.t 0)⟩,
 ⟨some 38, none, .call 231 [(.t 36), (.t 37)] false⟩,
 ⟨some 4, none, .mov (.t 38)⟩] [4] [])
 .ret)))))))),
 [.tmp 4], false⟩
def ir235 : IFn :=   -- tympan/item.Loose
⟨(.seq (.reg false [⟨some 1, none, .bx (.t 0) 7 true⟩,
 ⟨some 2, none, .mov (.c (.p (.bool false)))⟩] [1] [1])
 (.seq (.reg false [⟨some 3, none, .off (.t 1) 0⟩,
 ⟨some 4, none, .ld (.t 3) 1 false⟩,
 ⟨some 5, none, .bin .eql (.t 4) (.c (.p (.int .i64 2)))⟩,
 ⟨some 6, none, .mov (.t 5)⟩,
 ⟨some 7, (some (6, false)), .off (.t 1) 0⟩,
 ⟨some 8, (some (6, false)), .ld (.t 7) 1 false⟩,
 ⟨some 9, (some (6, false)), .bin .eql (.t 8) (.c (.p (.int .i64 3)))⟩,
 ⟨some 10, none, .pick (.t 6) (.c (.p (.bool true))) (.t 9)⟩,
 ⟨some 2, none, .mov (.t 10)⟩] [2] [])
 .ret)),
 [.tmp 2], false⟩
def lp236_0 : IC :=
 (.loop [0, 1, 2, 3, 9, 10] [] (.seq (.seq (.reg false [⟨some 11, none, .mov (.t 10)⟩,
 ⟨some 12, none, .mov (.t 0)⟩,
 ⟨some 13, none, .len (.t 12)⟩,
 ⟨some 14, none, .bin .lss (.t 11) (.t 13)⟩] [0, 1, 2, 3, 9, 10, 14] [])
 (.cond (.t 14)
 .skip
 (.exit 0)))
 (.seq (.block 1 (.seq (.reg false [⟨some 17, none, .mov (.t 10)⟩,
 ⟨some 18, none, .mov (.t 2)⟩,
 ⟨some 19, none, .bin .geq (.t 17) (.t 18)⟩,
 ⟨some 20, none, .mov (.t 19)⟩,
 ⟨some 21, (some (20, true)), .mov (.t 10)⟩,
 ⟨some 22, (some (20, true)), .mov (.t 3)⟩,
 ⟨some 23, (some (20, true)), .bin .lss (.t 21) (.t 22)⟩,
 ⟨some 24, none, .pick (.t 20) (.t 23) (.c (.p (.bool false)))⟩,
 ⟨some 25, none, .mov (.t 24)⟩,
 ⟨some 26, (some (25, true)), .mov (.t 0)⟩,
 ⟨some 27, (some (25, true)), .mov (.t 10)⟩,
 ⟨some 28, (some (25, true)), .ixs (.t 26) (.t 27) 7⟩,
 ⟨some 29, (some (25, true)), .off (.t 28) 0⟩,
 ⟨some 30, (some (25, true)), .ld (.t 29) 1 false⟩,
 ⟨some 31, (some (25, true)), .mov (.t 1)⟩,
 ⟨some 32, (some (25, true)), .bin .eql (.t 30) (.t 31)⟩,
 ⟨some 33, none, .pick (.t 25) (.t 32) (.c (.p (.bool false)))⟩] [0, 1, 2, 3, 9, 10, 33] [])
 (.cond (.t 33)
 (.reg false [⟨some 34, none, .mov (.t 9)⟩,
 ⟨some 35, none, .mov (.t 0)⟩,
 ⟨some 36, none, .mov (.t 10)⟩,
 ⟨some 37, none, .ixs (.t 35) (.t 36) 7⟩,
 ⟨some 38, none, .off (.t 37) 6⟩,
 ⟨some 39, none, .ld (.t 38) 1 false⟩,
 ⟨some 40, none, .bsl 1 1 [.p (.int .i64 0)] [(0, (.t 39))]⟩,
 ⟨some 41, none, .app (.t 34) (.t 40) 1⟩,
 ⟨some 9, none, .mov (.t 41)⟩] [0, 1, 2, 3, 9, 10] [])
 .skip)))
 (.reg false [⟨some 15, none, .mov (.t 10)⟩,
 ⟨some 16, none, .bin .add (.t 15) (.c (.p (.int .i64 1)))⟩,
 ⟨some 10, none, .mov (.t 16)⟩] [0, 1, 2, 3, 9, 10] []))))
def ir236 : IFn :=   -- tympan/tympanref21.Nums
⟨(.seq (.reg false [⟨some 8, none, .mov (.c (.nils))⟩] [0, 1, 2, 3] [])
 (.seq (.reg false [⟨some 9, none, .nrow 1⟩] [0, 1, 2, 3, 9] [])
 (.seq (.seq (.reg false [⟨some 10, none, .mov (.c (.p (.int .i64 0)))⟩] [0, 1, 2, 3, 9, 10] [])
 (.block 0 lp236_0))
 (.seq (.reg false [⟨some 42, none, .mov (.t 9)⟩,
 ⟨some 8, none, .mov (.t 42)⟩] [8] [])
 .ret)))),
 [.tmp 8], false⟩
def ir237 : IFn :=   -- tympan/tympanref11.split
⟨(.seq (.reg false [⟨some 2, none, .bx (.t 0) 2 true⟩,
 ⟨some 4, none, .mov (.c (.p (.bool false)))⟩] [1, 2] [2])
 (.seq (.reg false [⟨some 5, none, .mov (.t 1)⟩,
 ⟨some 6, none, .bin .geq (.t 5) (.c (.p (.int .i64 1)))⟩,
 ⟨some 7, none, .mov (.t 6)⟩,
 ⟨some 8, (some (7, true)), .mov (.t 1)⟩,
 ⟨some 9, (some (7, true)), .off (.t 2) 0⟩,
 ⟨some 10, (some (7, true)), .ld (.t 9) 1 false⟩,
 ⟨some 11, (some (7, true)), .len (.t 10)⟩,
 ⟨some 12, (some (7, true)), .bin .lss (.t 8) (.t 11)⟩,
 ⟨some 13, none, .pick (.t 7) (.t 12) (.c (.p (.bool false)))⟩,
 ⟨some 14, none, .mov (.t 13)⟩,
 ⟨some 15, (some (14, true)), .mov (.t 1)⟩,
 ⟨some 16, (some (14, true)), .bin .sub (.t 15) (.c (.p (.int .i64 1)))⟩,
 ⟨some 17, (some (14, true)), .off (.t 2) 1⟩,
 ⟨some 18, (some (14, true)), .ld (.t 17) 1 false⟩,
 ⟨some 19, (some (14, true)), .len (.t 18)⟩,
 ⟨some 20, (some (14, true)), .bin .lss (.t 16) (.t 19)⟩,
 ⟨some 21, none, .pick (.t 14) (.t 20) (.c (.p (.bool false)))⟩,
 ⟨some 22, none, .mov (.t 21)⟩,
 ⟨some 23, (some (22, true)), .off (.t 2) 1⟩,
 ⟨some 24, (some (22, true)), .ld (.t 23) 1 false⟩,
 ⟨some 25, (some (22, true)), .mov (.t 1)⟩,
 ⟨some 26, (some (22, true)), .bin .sub (.t 25) (.c (.p (.int .i64 1)))⟩,
 ⟨some 27, (some (22, true)), .ixs (.t 24) (.t 26) 1⟩,
 ⟨some 28, (some (22, true)), .ld (.t 27) 1 false⟩,
 ⟨some 29, (some (22, true)), .bin .lss (.t 28) (.c (.p (.int .i64 10000)))⟩,
 ⟨some 30, none, .pick (.t 22) (.t 29) (.c (.p (.bool false)))⟩,
 ⟨some 4, none, .mov (.t 30)⟩] [4] [])
 .ret)),
 [.tmp 4], false⟩
def ir238 : IFn :=   -- (tympan/note.places).stop
⟨(.seq (.reg false [⟨some 2, none, .bx (.t 0) 2 true⟩,
 ⟨some 4, none, .mov (.c (.p (.bool false)))⟩] [1, 2] [2])
 (.seq (.reg false [⟨some 5, none, .mov (.t 1)⟩,
 ⟨some 6, none, .off (.t 2) 0⟩,
 ⟨some 7, none, .ld (.t 6) 1 false⟩,
 ⟨some 8, none, .len (.t 7)⟩,
 ⟨some 9, none, .bin .eql (.t 5) (.t 8)⟩,
 ⟨some 10, none, .mov (.t 9)⟩,
 ⟨some 11, (some (10, false)), .ld (.t 2) 2 true⟩,
 ⟨some 12, (some (10, false)), .mov (.t 1)⟩,
 ⟨some 13, (some (10, false)), .call 256 [(.t 11), (.t 12)] false⟩,
 ⟨some 14, none, .pick (.t 10) (.c (.p (.bool true))) (.t 13)⟩,
 ⟨some 4, none, .mov (.t 14)⟩] [4] [])
 .ret)),
 [.tmp 4], false⟩
def ir244 : IFn :=   -- tympan/tympanref01.Add
⟨(.seq (.reg false [⟨some 4, none, .al [.p (.int .i64 0), .p (.bool false)] true⟩] [0, 1, 4] [4])
 (.seq (.seq (.reg false [⟨some 5, none, .mov (.t 1)⟩,
 ⟨some 6, none, .bin .gtr (.t 5) (.c (.p (.int .i64 0)))⟩,
 ⟨some 7, none, .mov (.t 6)⟩,
 ⟨some 8, (some (7, true)), .mov (.t 0)⟩,
 ⟨some 9, (some (7, true)), .mov (.t 1)⟩,
 ⟨some 10, (some (7, true)), .bin .sub (.c (.p (.int .i64 9223372036854775807))) (.t 9)⟩,
 ⟨some 11, (some (7, true)), .bin .gtr (.t 8) (.t 10)⟩,
 ⟨some 12, none, .pick (.t 7) (.t 11) (.c (.p (.bool false)))⟩,
 ⟨some 13, none, .mov (.t 12)⟩,
 ⟨some 14, (some (13, false)), .mov (.t 1)⟩,
 ⟨some 15, (some (13, false)), .bin .lss (.t 14) (.c (.p (.int .i64 0)))⟩,
 ⟨some 16, (some (13, false)), .mov (.t 15)⟩,
 ⟨some 17, (some (16, true)), .mov (.t 0)⟩,
 ⟨some 18, (some (16, true)), .mov (.t 1)⟩,
 ⟨some 19, (some (16, true)), .bin .sub (.c (.p (.int .i64 (-9223372036854775808)))) (.t 18)⟩,
 ⟨some 20, (some (16, true)), .bin .lss (.t 17) (.t 19)⟩,
 ⟨some 21, (some (13, false)), .pick (.t 16) (.t 20) (.c (.p (.bool false)))⟩,
 ⟨some 22, none, .pick (.t 13) (.c (.p (.bool true))) (.t 21)⟩] [0, 1, 4, 22] [4])
 (.cond (.t 22)
 (.seq (.reg false [⟨some 23, none, .bld [.p (.int .i64 0), .p (.bool false)] []⟩,
 ⟨none, none, .st (.t 4) (.t 23) 2⟩] [4] [4])
 .ret)
 .skip))
 (.seq (.reg false [⟨some 24, none, .mov (.t 0)⟩,
 ⟨some 25, none, .mov (.t 1)⟩,
 ⟨some 26, none, .bin .add (.t 24) (.t 25)⟩,
 ⟨some 27, none, .bld [.p (.int .i64 0), .p (.bool false)] [(0, 1, (.t 26)), (1, 1, (.c (.p (.bool true))))]⟩,
 ⟨none, none, .st (.t 4) (.t 27) 2⟩] [4] [4])
 .ret))),
 [.cell 4 2 true], false⟩
def ir256 : IFn :=   -- (tympan/note.places).split
⟨(.seq (.reg false [⟨some 2, none, .bx (.t 0) 2 true⟩,
 ⟨some 4, none, .mov (.c (.p (.bool false)))⟩] [1, 2] [2])
 (.seq (.reg false [⟨some 5, none, .mov (.t 1)⟩,
 ⟨some 6, none, .bin .gtr (.t 5) (.c (.p (.int .i64 0)))⟩,
 ⟨some 7, none, .mov (.t 6)⟩,
 ⟨some 8, (some (7, true)), .mov (.t 1)⟩,
 ⟨some 9, (some (7, true)), .off (.t 2) 0⟩,
 ⟨some 10, (some (7, true)), .ld (.t 9) 1 false⟩,
 ⟨some 11, (some (7, true)), .len (.t 10)⟩,
 ⟨some 12, (some (7, true)), .bin .lss (.t 8) (.t 11)⟩,
 ⟨some 13, none, .pick (.t 7) (.t 12) (.c (.p (.bool false)))⟩,
 ⟨some 14, none, .mov (.t 13)⟩,
 ⟨some 15, (some (14, true)), .mov (.t 1)⟩,
 ⟨some 16, (some (14, true)), .off (.t 2) 1⟩,
 ⟨some 17, (some (14, true)), .ld (.t 16) 1 false⟩,
 ⟨some 18, (some (14, true)), .len (.t 17)⟩,
 ⟨some 19, (some (14, true)), .bin .leq (.t 15) (.t 18)⟩,
 ⟨some 20, none, .pick (.t 14) (.t 19) (.c (.p (.bool false)))⟩,
 ⟨some 21, none, .mov (.t 20)⟩,
 ⟨some 22, (some (21, true)), .off (.t 2) 1⟩,
 ⟨some 23, (some (21, true)), .ld (.t 22) 1 false⟩,
 ⟨some 24, (some (21, true)), .mov (.t 1)⟩,
 ⟨some 25, (some (21, true)), .bin .sub (.t 24) (.c (.p (.int .i64 1)))⟩,
 ⟨some 26, (some (21, true)), .ixs (.t 23) (.t 25) 1⟩,
 ⟨some 27, (some (21, true)), .ld (.t 26) 1 false⟩,
 ⟨some 28, (some (21, true)), .bin .lss (.t 27) (.c (.p (.int .i64 10000)))⟩,
 ⟨some 29, none, .pick (.t 21) (.t 28) (.c (.p (.bool false)))⟩,
 ⟨some 4, none, .mov (.t 29)⟩] [4] [])
 .ret)),
 [.tmp 4], false⟩
def ir258 : IFn :=   -- tympan/sp.Sub
⟨(.seq (.reg false [⟨some 4, none, .mov (.c (.p (.int .i64 0)))⟩,
 ⟨some 5, none, .mov (.c (.p (.bool false)))⟩] [0, 1] [])
 (.seq (.reg false [⟨some 7, none, .mov (.t 0)⟩,
 ⟨some 8, none, .mov (.t 1)⟩,
 ⟨some 9, none, .bin .sub (.t 7) (.t 8)⟩,
 ⟨some 6, none, .mov (.t 9)⟩] [0, 1, 6] [])
 (.seq (.seq (.reg false [⟨some 10, none, .mov (.t 6)⟩,
 ⟨some 11, none, .mov (.t 0)⟩,
 ⟨some 12, none, .bin .lss (.t 10) (.t 11)⟩,
 ⟨some 13, none, .mov (.t 1)⟩,
 ⟨some 14, none, .bin .gtr (.t 13) (.c (.p (.int .i64 0)))⟩,
 ⟨some 15, none, .eqb true (.t 12) (.t 14)⟩,
 ⟨some 16, none, .mov (.t 15)⟩,
 ⟨some 17, (some (16, true)), .mov (.t 1)⟩,
 ⟨some 18, (some (16, true)), .bin .neq (.t 17) (.c (.p (.int .i64 0)))⟩,
 ⟨some 19, none, .pick (.t 16) (.t 18) (.c (.p (.bool false)))⟩] [6, 19] [])
 (.cond (.t 19)
 (.seq (.reg false [⟨some 4, none, .mov (.c (.p (.int .i64 0)))⟩,
 ⟨some 5, none, .mov (.c (.p (.bool false)))⟩] [4, 5] [])
 .ret)
 .skip))
 (.seq (.reg false [⟨some 20, none, .mov (.t 6)⟩,
 ⟨some 4, none, .mov (.t 20)⟩,
 ⟨some 5, none, .mov (.c (.p (.bool true)))⟩] [4, 5] [])
 .ret)))),
 [.tmp 4, .tmp 5], false⟩
def lp262_0 : IC :=
 (.loop [1, 2, 3, 7, 8] [3] (.seq (.seq (.reg false [⟨some 9, none, .mov (.t 8)⟩,
 ⟨some 10, none, .off (.t 3) 0⟩,
 ⟨some 11, none, .ld (.t 10) 1 false⟩,
 ⟨some 12, none, .len (.t 11)⟩,
 ⟨some 13, none, .bin .lss (.t 9) (.t 12)⟩] [1, 2, 3, 7, 8, 13] [3])
 (.cond (.t 13)
 .skip
 (.exit 0)))
 (.seq (.block 1 (.seq (.reg false [⟨some 16, none, .mov (.t 8)⟩,
 ⟨some 17, none, .mov (.t 1)⟩,
 ⟨some 18, none, .bin .geq (.t 16) (.t 17)⟩,
 ⟨some 19, none, .mov (.t 18)⟩,
 ⟨some 20, (some (19, true)), .mov (.t 8)⟩,
 ⟨some 21, (some (19, true)), .mov (.t 2)⟩,
 ⟨some 22, (some (19, true)), .bin .lss (.t 20) (.t 21)⟩,
 ⟨some 23, none, .pick (.t 19) (.t 22) (.c (.p (.bool false)))⟩] [1, 2, 3, 7, 8, 23] [3])
 (.cond (.t 23)
 (.reg false [⟨some 24, none, .mov (.t 7)⟩,
 ⟨some 25, none, .off (.t 3) 0⟩,
 ⟨some 26, none, .ld (.t 25) 1 false⟩,
 ⟨some 27, none, .mov (.t 8)⟩,
 ⟨some 28, none, .ixs (.t 26) (.t 27) 1⟩,
 ⟨some 29, none, .ld (.t 28) 1 false⟩,
 ⟨some 30, none, .mnmx false (.t 29) (.c (.p (.int .i64 1125899906842624)))⟩,
 ⟨some 31, none, .mnmx true (.c (.p (.int .i64 0))) (.t 30)⟩,
 ⟨some 32, none, .bin .add (.t 24) (.t 31)⟩,
 ⟨some 33, none, .mnmx false (.t 32) (.c (.p (.int .i64 1125899906842624)))⟩,
 ⟨some 7, none, .mov (.t 33)⟩] [1, 2, 3, 7, 8] [3])
 .skip)))
 (.reg false [⟨some 14, none, .mov (.t 8)⟩,
 ⟨some 15, none, .bin .add (.t 14) (.c (.p (.int .i64 1)))⟩,
 ⟨some 8, none, .mov (.t 15)⟩] [1, 2, 3, 7, 8] [3]))))
def ir262 : IFn :=   -- tympan/tympanref11.High
⟨(.seq (.reg false [⟨some 3, none, .bx (.t 0) 2 true⟩,
 ⟨some 6, none, .mov (.c (.p (.int .i64 0)))⟩] [1, 2, 3] [3])
 (.seq (.reg false [⟨some 7, none, .mov (.c (.p (.int .i64 0)))⟩] [1, 2, 3, 7] [3])
 (.seq (.seq (.reg false [⟨some 8, none, .mov (.c (.p (.int .i64 0)))⟩] [1, 2, 3, 7, 8] [3])
 (.block 0 lp262_0))
 (.seq (.reg false [⟨some 34, none, .mov (.t 7)⟩,
 ⟨some 6, none, .mov (.t 34)⟩] [6] [])
 .ret)))),
 [.tmp 6], false⟩
def ir266 : IFn :=   -- tympan/valid.when
⟨(.seq (.reg false [⟨some 1, none, .bx (.t 0) 1 false⟩,
 ⟨some 2, none, .mov (.c (.p .nilf))⟩] [1] [])
 (.seq (.reg false [⟨some 3, none, .mkf (.func 298) [] [(.t 1)]⟩,
 ⟨some 2, none, .mov (.t 3)⟩] [2] [])
 .ret)),
 [.tmp 2], false⟩
def ir267 : IFn :=   -- tympan/valid.clauses$1
⟨(.seq (.reg false [⟨some 1, none, .bx (.t 0) 22 true⟩,
 ⟨some 2, none, .mov (.c (.p (.bool false)))⟩] [1] [1])
 (.seq (.reg false [⟨some 3, none, .off (.t 1) 19⟩,
 ⟨some 4, none, .ld (.t 3) 1 false⟩,
 ⟨some 5, none, .len (.t 4)⟩,
 ⟨some 6, none, .bin .gtr (.t 5) (.c (.p (.int .i64 4096)))⟩,
 ⟨some 2, none, .mov (.t 6)⟩] [2] [])
 .ret)),
 [.tmp 2], false⟩
def ir268 : IFn :=   -- tympan/valid.clauses$2
⟨(.seq (.reg false [⟨some 1, none, .bx (.t 0) 22 true⟩,
 ⟨some 2, none, .mov (.c (.p (.bool false)))⟩] [1] [1])
 (.seq (.reg false [⟨some 3, none, .off (.t 1) 21⟩,
 ⟨some 4, none, .ld (.t 3) 1 false⟩,
 ⟨some 5, none, .len (.t 4)⟩,
 ⟨some 6, none, .bin .gtr (.t 5) (.c (.p (.int .i64 256)))⟩,
 ⟨some 2, none, .mov (.t 6)⟩] [2] [])
 .ret)),
 [.tmp 2], false⟩
def ir269 : IFn :=   -- tympan/valid.clauses$3
⟨(.seq (.reg false [⟨some 1, none, .bx (.t 0) 22 true⟩,
 ⟨some 2, none, .mov (.c (.p (.bool false)))⟩] [1] [1])
 (.seq (.reg false [⟨some 3, none, .off (.t 1) 20⟩,
 ⟨some 4, none, .ld (.t 3) 1 false⟩,
 ⟨some 5, none, .len (.t 4)⟩,
 ⟨some 6, none, .bin .gtr (.t 5) (.c (.p (.int .i64 512)))⟩,
 ⟨some 2, none, .mov (.t 6)⟩] [2] [])
 .ret)),
 [.tmp 2], false⟩
def ir270 : IFn :=   -- tympan/valid.clauses$4
⟨(.seq (.reg false [⟨some 1, none, .bx (.t 0) 22 true⟩,
 ⟨some 2, none, .mov (.c (.p (.bool false)))⟩] [1] [1])
 (.seq (.reg false [⟨some 3, none, .off (.t 1) 0⟩,
 ⟨some 4, none, .ld (.t 3) 19 true⟩,
 ⟨some 5, none, .call 271 [(.t 4)] false⟩,
 ⟨some 6, none, .bin .eql (.t 5) (.c (.p (.int .i64 6)))⟩,
 ⟨some 2, none, .mov (.t 6)⟩] [2] [])
 .ret)),
 [.tmp 2], false⟩
def ir271 : IFn :=   -- tympan/geom.Check
⟨(.seq (.reg false [⟨some 1, none, .bx (.t 0) 19 true⟩,
 ⟨some 2, none, .mov (.c (.p (.int .i64 0)))⟩] [1] [1])
 (.seq (.seq (.reg true [⟨some 8, none, .call 299 [(.c (.p (.int .i64 1))), (.c (.p (.int .i64 8)))] false⟩,
 ⟨some 9, none, .off (.t 1) 0⟩,
 ⟨some 10, none, .ldl 1 (.t 9) 1 false⟩,
 ⟨some 11, none, .bsl 1 1 [.p (.int .i64 0)] [(0, (.t 10))]⟩,
 ⟨some 12, none, .callv (.t 8) [(.t 11)] false⟩,
 ⟨some 13, none, .un .not (.t 12)⟩] [1, 13] [1])
 (.cond (.t 13)
 (.seq (.reg false [⟨some 2, none, .mov (.c (.p (.int .i64 6)))⟩] [2] [])
 .ret)
 .skip))
 (.seq (.reg false [⟨some 14, none, .call 300 [(.c (.p (.int .i64 1))), (.c (.p (.int .i64 1073741823)))] false⟩,
 ⟨some 15, none, .call 300 [(.c (.p (.int .i64 0))), (.c (.p (.int .i64 1073741823)))] false⟩,
 ⟨some 16, none, .call 300 [(.c (.p (.int .i64 0))), (.c (.p (.int .i64 536870912)))] false⟩,
 ⟨some 3, none, .mov (.t 14)⟩,
 ⟨some 4, none, .mov (.t 15)⟩,
 ⟨some 5, none, .mov (.t 16)⟩] [1, 3, 4, 5] [1])
 (.seq (.reg false [⟨some 17, none, .off (.t 1) 2⟩,
 ⟨some 18, none, .ld (.t 17) 1 false⟩,
 ⟨some 19, none, .off (.t 1) 8⟩,
 ⟨some 20, none, .ld (.t 19) 1 false⟩,
 ⟨some 21, none, .off (.t 1) 9⟩,
 ⟨some 22, none, .ld (.t 21) 1 false⟩,
 ⟨some 23, none, .off (.t 1) 10⟩,
 ⟨some 24, none, .ld (.t 23) 1 false⟩,
 ⟨some 25, none, .bld [.p (.int .i64 0), .p (.int .i64 0), .p (.int .i64 0), .p (.int .i64 0)] [(0, 1, (.t 18)), (1, 1, (.t 20)), (2, 1, (.t 22)), (3, 1, (.t 24))]⟩,
 ⟨some 6, none, .al [.p (.int .i64 0), .p (.int .i64 0), .p (.int .i64 0), .p (.int .i64 0)] false⟩,
 ⟨none, none, .st (.t 6) (.t 25) 4⟩] [1, 3, 4, 5, 6] [1])
 (.seq (.reg false [⟨some 26, none, .off (.t 1) 13⟩,
 ⟨some 27, none, .ld (.t 26) 1 false⟩,
 ⟨some 28, none, .off (.t 1) 14⟩,
 ⟨some 29, none, .ld (.t 28) 1 false⟩,
 ⟨some 30, none, .off (.t 1) 15⟩,
 ⟨some 31, none, .ld (.t 30) 1 false⟩,
 ⟨some 32, none, .off (.t 1) 16⟩,
 ⟨some 33, none, .ld (.t 32) 1 false⟩,
 ⟨some 34, none, .off (.t 1) 17⟩,
 ⟨some 35, none, .ld (.t 34) 1 false⟩,
 ⟨some 36, none, .bld [.p (.int .i64 0), .p (.int .i64 0), .p (.int .i64 0), .p (.int .i64 0), .p (.int .i64 0)] [(0, 1, (.t 27)), (1, 1, (.t 29)), (2, 1, (.t 31)), (3, 1, (.t 33)), (4, 1, (.t 35))]⟩,
 ⟨some 7, none, .al [.p (.int .i64 0), .p (.int .i64 0), .p (.int .i64 0), .p (.int .i64 0), .p (.int .i64 0)] false⟩,
 ⟨none, none, .st (.t 7) (.t 36) 5⟩] [1, 3, 4, 5, 6, 7] [1])
 (.seq (.block 0 (.seq (.seq (.reg false [⟨some 38, none, .mov (.t 3)⟩,
 ⟨some 39, none, .off (.t 1) 1⟩,
 ⟨some 40, none, .ld (.t 39) 1 false⟩,
 ⟨some 41, none, .off (.t 1) 3⟩,
 ⟨some 42, none, .ld (.t 41) 1 false⟩,
 ⟨some 43, none, .bsl 1 2 [.p (.int .i64 0)] [(0, (.t 40)), (1, (.t 42))]⟩,
 ⟨some 44, none, .callv (.t 38) [(.t 43)] false⟩,
 ⟨some 45, none, .un .not (.t 44)⟩,
 ⟨some 37, none, .mov (.t 45)⟩] [1, 4, 5, 6, 7, 37] [1])
 (.cond (.t 37)
 .skip
 (.seq (.reg false [⟨some 46, none, .mov (.t 4)⟩,
 ⟨some 47, none, .slca (.t 6) none 1 4⟩,
 ⟨some 48, none, .callv (.t 46) [(.t 47)] false⟩,
 ⟨some 49, none, .un .not (.t 48)⟩,
 ⟨some 37, none, .mov (.t 49)⟩] [1, 5, 7, 37] [1])
 (.cond (.t 37)
 .skip
 (.reg false [⟨some 50, none, .mov (.t 5)⟩,
 ⟨some 51, none, .off (.t 1) 6⟩,
 ⟨some 52, none, .ld (.t 51) 1 false⟩,
 ⟨some 53, none, .off (.t 1) 7⟩,
 ⟨some 54, none, .ld (.t 53) 1 false⟩,
 ⟨some 55, none, .off (.t 1) 5⟩,
 ⟨some 56, none, .ld (.t 55) 1 false⟩,
 ⟨some 57, none, .bsl 1 3 [.p (.int .i64 0)] [(0, (.t 52)), (1, (.t 54)), (2, (.t 56))]⟩,
 ⟨some 58, none, .callv (.t 50) [(.t 57)] false⟩,
 ⟨some 59, none, .un .not (.t 58)⟩,
 ⟨some 37, none, .mov (.t 59)⟩] [1, 7, 37] [1])))))
 (.cond (.t 37)
 (.seq (.reg false [⟨some 2, none, .mov (.c (.p (.int .i64 7)))⟩] [2] [])
 .ret)
 (.seq (.seq (.reg true [⟨some 61, none, .off (.t 1) 3⟩,
 ⟨some 62, none, .ldl 1 (.t 61) 1 false⟩,
 ⟨some 63, none, .call 300 [(.c (.p (.int .i64 1))), (.t 62)] false⟩,
 ⟨some 64, none, .off (.t 1) 4⟩,
 ⟨some 65, none, .ldl 1 (.t 64) 1 false⟩,
 ⟨some 66, none, .bsl 1 1 [.p (.int .i64 0)] [(0, (.t 65))]⟩,
 ⟨some 67, none, .callv (.t 63) [(.t 66)] false⟩,
 ⟨some 68, none, .un .not (.t 67)⟩,
 ⟨some 60, none, .mov (.t 68)⟩] [1, 7, 60] [1])
 (.cond (.t 60)
 .skip
 (.reg true [⟨some 69, none, .off (.t 1) 4⟩,
 ⟨some 70, none, .ldl 1 (.t 69) 1 false⟩,
 ⟨some 71, none, .call 300 [(.c (.p (.int .i64 0))), (.t 70)] false⟩,
 ⟨some 72, none, .off (.t 1) 5⟩,
 ⟨some 73, none, .ldl 1 (.t 72) 1 false⟩,
 ⟨some 74, none, .bsl 1 1 [.p (.int .i64 0)] [(0, (.t 73))]⟩,
 ⟨some 75, none, .callv (.t 71) [(.t 74)] false⟩,
 ⟨some 76, none, .un .not (.t 75)⟩,
 ⟨some 60, none, .mov (.t 76)⟩] [1, 7, 60] [1])))
 (.cond (.t 60)
 (.seq (.reg false [⟨some 2, none, .mov (.c (.p (.int .i64 7)))⟩] [2] [])
 .ret)
 (.seq (.seq (.reg true [⟨some 78, none, .call 299 [(.c (.p (.int .i64 0))), (.c (.p (.int .i64 4)))] false⟩,
 ⟨some 79, none, .off (.t 1) 11⟩,
 ⟨some 80, none, .ldl 1 (.t 79) 1 false⟩,
 ⟨some 81, none, .off (.t 1) 12⟩,
 ⟨some 82, none, .ldl 1 (.t 81) 1 false⟩,
 ⟨some 83, none, .bsl 1 2 [.p (.int .i64 0)] [(0, (.t 80)), (1, (.t 82))]⟩,
 ⟨some 84, none, .callv (.t 78) [(.t 83)] false⟩,
 ⟨some 85, none, .un .not (.t 84)⟩,
 ⟨some 77, none, .mov (.t 85)⟩] [7, 77] [])
 (.cond (.t 77)
 .skip
 (.reg true [⟨some 86, none, .call 299 [(.c (.p (.int .i64 0))), (.c (.p (.int .i64 1048576)))] false⟩,
 ⟨some 87, none, .slca (.t 7) none 1 5⟩,
 ⟨some 88, none, .callv (.t 86) [(.t 87)] false⟩,
 ⟨some 89, none, .un .not (.t 88)⟩,
 ⟨some 77, none, .mov (.t 89)⟩] [77] [])))
 (.cond (.t 77)
 (.seq (.reg false [⟨some 2, none, .mov (.c (.p (.int .i64 7)))⟩] [2] [])
 .ret)
 .skip)))))))
 (.seq (.reg false [⟨some 2, none, .mov (.c (.p (.int .i64 0)))⟩] [2] [])
 .ret))))))),
 [.tmp 2], false⟩
def ir272 : IFn :=   -- tympan/valid.clauses$5
⟨(.seq (.reg false [⟨some 1, none, .bx (.t 0) 22 true⟩,
 ⟨some 2, none, .mov (.c (.p (.bool false)))⟩] [1] [1])
 (.seq (.reg false [⟨some 3, none, .off (.t 1) 0⟩,
 ⟨some 4, none, .ld (.t 3) 19 true⟩,
 ⟨some 5, none, .call 271 [(.t 4)] false⟩,
 ⟨some 6, none, .bin .eql (.t 5) (.c (.p (.int .i64 7)))⟩,
 ⟨some 2, none, .mov (.t 6)⟩] [2] [])
 .ret)),
 [.tmp 2], false⟩
def ir273 : IFn :=   -- tympan/valid.clauses$6
⟨(.seq (.reg false [⟨some 1, none, .bx (.t 0) 22 true⟩,
 ⟨some 2, none, .mov (.c (.p (.int .i64 0)))⟩] [1] [1])
 (.seq (.reg true [⟨some 3, none, .call 274 [(.c (.p (.fn 275)))] false⟩,
 ⟨some 4, none, .off (.t 1) 19⟩,
 ⟨some 5, none, .ldl 1 (.t 4) 1 false⟩,
 ⟨some 6, none, .callv (.t 3) [(.t 5)] false⟩,
 ⟨some 2, none, .mov (.t 6)⟩] [2] [])
 .ret)),
 [.tmp 2], false⟩
def ir274 : IFn :=   -- tympan/valid.first[tympan/api.Item]
⟨(.seq (.reg false [⟨some 1, none, .bx (.t 0) 1 false⟩,
 ⟨some 2, none, .mov (.c (.p .nilf))⟩] [1] [])
 (.seq (.reg false [⟨some 3, none, .mkf (.func 301) [] [(.t 1)]⟩,
 ⟨some 2, none, .mov (.t 3)⟩] [2] [])
 .ret)),
 [.tmp 2], false⟩
def ir275 : IFn :=   -- tympan/item.Check
⟨(.seq (.reg false [⟨some 1, none, .bx (.t 0) 7 true⟩,
 ⟨some 2, none, .mov (.c (.p (.int .i64 0)))⟩] [1] [1])
 (.seq (.seq (.reg false [⟨some 5, none, .off (.t 1) 0⟩,
 ⟨some 6, none, .ld (.t 5) 1 false⟩,
 ⟨some 7, none, .bin .lss (.t 6) (.c (.p (.int .i64 1)))⟩,
 ⟨some 8, none, .mov (.t 7)⟩,
 ⟨some 9, (some (8, false)), .off (.t 1) 0⟩,
 ⟨some 10, (some (8, false)), .ld (.t 9) 1 false⟩,
 ⟨some 11, (some (8, false)), .bin .gtr (.t 10) (.c (.p (.int .i64 7)))⟩,
 ⟨some 12, none, .pick (.t 8) (.c (.p (.bool true))) (.t 11)⟩] [1, 12] [1])
 (.cond (.t 12)
 (.seq (.reg false [⟨some 2, none, .mov (.c (.p (.int .i64 8)))⟩] [2] [])
 .ret)
 .skip))
 (.seq (.prep [3] (.reg true [⟨some 13, none, .call 304 [] false⟩,
 ⟨some 14, none, .off (.t 1) 0⟩,
 ⟨some 15, none, .ldl 1 (.t 14) 1 false⟩,
 ⟨some 16, none, .bin .sub (.t 15) (.c (.p (.int .i64 1)))⟩,
 ⟨some 17, none, .ixs (.t 13) (.t 16) 2⟩,
 ⟨some 18, none, .ld (.t 17) 2 true⟩,
 ⟨some 3, none, .alp [.p .nilf, .p .nilf]⟩,
 ⟨none, none, .stl 3 (.t 3) (.t 18) 2⟩] [1, 3] [1, 3]))
 (.seq (.reg false [⟨some 19, none, .call 305 [(.c (.p (.int .i64 3)))] false⟩,
 ⟨some 4, none, .mov (.t 19)⟩] [1, 3, 4] [1, 3])
 (.seq (.seq (.reg true [⟨some 20, none, .off (.t 3) 0⟩,
 ⟨some 21, none, .ldl 3 (.t 20) 1 false⟩,
 ⟨some 22, none, .ldl 1 (.t 1) 7 true⟩,
 ⟨some 23, none, .callv (.t 21) [(.t 22)] false⟩,
 ⟨some 24, none, .ldl 1 (.t 1) 7 true⟩,
 ⟨some 25, none, .eqa true [true, true, true, true, true, true, true] (.t 23) (.t 24)⟩,
 ⟨some 26, none, .mov (.t 25)⟩,
 ⟨some 27, (some (26, false)), .off (.t 3) 1⟩,
 ⟨some 28, (some (26, false)), .ldl 3 (.t 27) 1 false⟩,
 ⟨some 29, (some (26, false)), .off (.t 1) 6⟩,
 ⟨some 30, (some (26, false)), .ldl 1 (.t 29) 1 false⟩,
 ⟨some 31, (some (26, false)), .callv (.t 28) [(.t 30)] false⟩,
 ⟨some 32, (some (26, false)), .un .not (.t 31)⟩,
 ⟨some 33, none, .pick (.t 26) (.c (.p (.bool true))) (.t 32)⟩,
 ⟨some 34, none, .mov (.t 33)⟩,
 ⟨some 35, (some (34, false)), .off (.t 1) 1⟩,
 ⟨some 36, (some (34, false)), .ldl 1 (.t 35) 1 false⟩,
 ⟨some 37, (some (34, false)), .off (.t 1) 3⟩,
 ⟨some 38, (some (34, false)), .ldl 1 (.t 37) 1 false⟩,
 ⟨some 39, (some (34, false)), .off (.t 1) 5⟩,
 ⟨some 40, (some (34, false)), .ldl 1 (.t 39) 1 false⟩,
 ⟨some 41, (some (34, false)), .bsl 1 3 [.p (.int .i64 0)] [(0, (.t 36)), (1, (.t 38)), (2, (.t 40))]⟩,
 ⟨some 42, (some (34, false)), .call 306 [(.t 41)] false⟩,
 ⟨some 43, (some (34, false)), .un .not (.t 42)⟩,
 ⟨some 44, none, .pick (.t 34) (.c (.p (.bool true))) (.t 43)⟩,
 ⟨some 45, none, .mov (.t 44)⟩,
 ⟨some 46, (some (45, false)), .mov (.t 4)⟩,
 ⟨some 47, (some (45, false)), .off (.t 1) 2⟩,
 ⟨some 48, (some (45, false)), .ldl 1 (.t 47) 1 false⟩,
 ⟨some 49, (some (45, false)), .callv (.t 46) [(.t 48)] false⟩,
 ⟨some 50, (some (45, false)), .un .not (.t 49)⟩,
 ⟨some 51, none, .pick (.t 45) (.c (.p (.bool true))) (.t 50)⟩,
 ⟨some 52, none, .mov (.t 51)⟩,
 ⟨some 53, (some (52, false)), .mov (.t 4)⟩,
 ⟨some 54, (some (52, false)), .off (.t 1) 4⟩,
 ⟨some 55, (some (52, false)), .ldl 1 (.t 54) 1 false⟩,
 ⟨some 56, (some (52, false)), .callv (.t 53) [(.t 55)] false⟩,
 ⟨some 57, (some (52, false)), .un .not (.t 56)⟩,
 ⟨some 58, none, .pick (.t 52) (.c (.p (.bool true))) (.t 57)⟩,
 ⟨some 59, none, .mov (.t 58)⟩,
 ⟨some 60, (some (59, false)), .off (.t 1) 0⟩,
 ⟨some 61, (some (59, false)), .ldl 1 (.t 60) 1 false⟩,
 ⟨some 62, (some (59, false)), .bin .eql (.t 61) (.c (.p (.int .i64 2)))⟩,
 ⟨some 63, (some (59, false)), .mov (.t 62)⟩,
 ⟨some 64, (some (63, true)), .off (.t 1) 5⟩,
 ⟨some 65, (some (63, true)), .ldl 1 (.t 64) 1 false⟩,
 ⟨some 66, (some (63, true)), .off (.t 1) 1⟩,
 ⟨some 67, (some (63, true)), .ldl 1 (.t 66) 1 false⟩,
 ⟨some 68, (some (63, true)), .bin .gtr (.t 65) (.t 67)⟩,
 ⟨some 69, (some (59, false)), .pick (.t 63) (.t 68) (.c (.p (.bool false)))⟩,
 ⟨some 70, none, .pick (.t 59) (.c (.p (.bool true))) (.t 69)⟩] [70] [])
 (.cond (.t 70)
 (.seq (.reg false [⟨some 2, none, .mov (.c (.p (.int .i64 8)))⟩] [2] [])
 .ret)
 .skip))
 (.seq (.reg false [⟨some 2, none, .mov (.c (.p (.int .i64 0)))⟩] [2] [])
 .ret)))))),
 [.tmp 2], false⟩
def ir276 : IFn :=   -- tympan/valid.clauses$7
⟨(.seq (.reg false [⟨some 1, none, .bx (.t 0) 22 true⟩,
 ⟨some 2, none, .mov (.c (.p (.int .i64 0)))⟩] [1] [1])
 (.seq (.reg true [⟨some 3, none, .call 277 [(.c (.p (.fn 278)))] false⟩,
 ⟨some 4, none, .off (.t 1) 20⟩,
 ⟨some 5, none, .ldl 1 (.t 4) 1 false⟩,
 ⟨some 6, none, .callv (.t 3) [(.t 5)] false⟩,
 ⟨some 2, none, .mov (.t 6)⟩] [2] [])
 .ret)),
 [.tmp 2], false⟩
def ir277 : IFn :=   -- tympan/valid.first[tympan/api.Note]
⟨(.seq (.reg false [⟨some 1, none, .bx (.t 0) 1 false⟩,
 ⟨some 2, none, .mov (.c (.p .nilf))⟩] [1] [])
 (.seq (.reg false [⟨some 3, none, .mkf (.func 307) [] [(.t 1)]⟩,
 ⟨some 2, none, .mov (.t 3)⟩] [2] [])
 .ret)),
 [.tmp 2], false⟩
def lp278_0 : IC :=
 (.loop [1, 3, 29, 30, 31] [1] (.seq (.reg false [⟨some 32, none, .bin .lss (.t 31) (.t 30)⟩] [1, 3, 29, 30, 31, 32] [1])
 (.seq (.cond (.t 32)
 .skip
 (.exit 0))
 (.seq (.block 1 (.seq (.reg false [⟨some 33, none, .ixs (.t 29) (.t 31) 1⟩,
 ⟨some 34, none, .ld (.t 33) 1 false⟩,
 ⟨some 5, none, .mov (.t 34)⟩] [1, 3, 5, 29, 30, 31] [1])
 (.reg false [⟨some 35, none, .mov (.t 3)⟩,
 ⟨some 36, none, .mov (.t 35)⟩,
 ⟨some 37, (some (36, false)), .mov (.t 5)⟩,
 ⟨some 38, (some (36, false)), .bin .lss (.t 37) (.c (.p (.int .i64 1)))⟩,
 ⟨some 39, none, .pick (.t 36) (.c (.p (.bool true))) (.t 38)⟩,
 ⟨some 40, none, .mov (.t 39)⟩,
 ⟨some 41, (some (40, false)), .mov (.t 5)⟩,
 ⟨some 42, (some (40, false)), .bin .gtr (.t 41) (.c (.p (.int .i64 1073741823)))⟩,
 ⟨some 43, none, .pick (.t 40) (.c (.p (.bool true))) (.t 42)⟩,
 ⟨some 3, none, .mov (.t 43)⟩] [1, 3, 29, 30, 31] [1])))
 (.reg false [⟨some 44, none, .bin .add (.t 31) (.c (.p (.int .i64 1)))⟩,
 ⟨some 31, none, .mov (.t 44)⟩] [1, 3, 29, 30, 31] [1])))))
def lp278_1 : IC :=
 (.loop [3, 46, 47, 48] [] (.seq (.reg false [⟨some 49, none, .bin .lss (.t 48) (.t 47)⟩] [3, 46, 47, 48, 49] [])
 (.seq (.cond (.t 49)
 .skip
 (.exit 2))
 (.seq (.block 3 (.seq (.reg false [⟨some 50, none, .ixs (.t 46) (.t 48) 1⟩,
 ⟨some 51, none, .ld (.t 50) 1 false⟩,
 ⟨some 7, none, .mov (.t 51)⟩] [3, 7, 46, 47, 48] [])
 (.reg false [⟨some 52, none, .mov (.t 3)⟩,
 ⟨some 53, none, .mov (.t 52)⟩,
 ⟨some 54, (some (53, false)), .mov (.t 7)⟩,
 ⟨some 55, (some (53, false)), .bin .lss (.t 54) (.c (.p (.int .i64 0)))⟩,
 ⟨some 56, none, .pick (.t 53) (.c (.p (.bool true))) (.t 55)⟩,
 ⟨some 57, none, .mov (.t 56)⟩,
 ⟨some 58, (some (57, false)), .mov (.t 7)⟩,
 ⟨some 59, (some (57, false)), .bin .gtr (.t 58) (.c (.p (.int .i64 10000)))⟩,
 ⟨some 60, none, .pick (.t 57) (.c (.p (.bool true))) (.t 59)⟩,
 ⟨some 3, none, .mov (.t 60)⟩] [3, 46, 47, 48] [])))
 (.reg false [⟨some 61, none, .bin .add (.t 48) (.c (.p (.int .i64 1)))⟩,
 ⟨some 48, none, .mov (.t 61)⟩] [3, 46, 47, 48] [])))))
def ir278 : IFn :=   -- tympan/note.Check
⟨(.seq (.reg false [⟨some 1, none, .bx (.t 0) 2 true⟩,
 ⟨some 2, none, .mov (.c (.p (.int .i64 0)))⟩] [1] [1])
 (.seq (.reg false [⟨some 8, none, .off (.t 1) 0⟩,
 ⟨some 9, none, .ld (.t 8) 1 false⟩,
 ⟨some 10, none, .len (.t 9)⟩,
 ⟨some 11, none, .bin .lss (.t 10) (.c (.p (.int .i64 1)))⟩,
 ⟨some 12, none, .mov (.t 11)⟩,
 ⟨some 13, (some (12, false)), .off (.t 1) 0⟩,
 ⟨some 14, (some (12, false)), .ld (.t 13) 1 false⟩,
 ⟨some 15, (some (12, false)), .len (.t 14)⟩,
 ⟨some 16, (some (12, false)), .bin .gtr (.t 15) (.c (.p (.int .i64 64)))⟩,
 ⟨some 17, none, .pick (.t 12) (.c (.p (.bool true))) (.t 16)⟩,
 ⟨some 18, none, .mov (.t 17)⟩,
 ⟨some 19, (some (18, false)), .off (.t 1) 1⟩,
 ⟨some 20, (some (18, false)), .ld (.t 19) 1 false⟩,
 ⟨some 21, (some (18, false)), .len (.t 20)⟩,
 ⟨some 22, (some (18, false)), .off (.t 1) 0⟩,
 ⟨some 23, (some (18, false)), .ld (.t 22) 1 false⟩,
 ⟨some 24, (some (18, false)), .len (.t 23)⟩,
 ⟨some 25, (some (18, false)), .bin .sub (.t 24) (.c (.p (.int .i64 1)))⟩,
 ⟨some 26, (some (18, false)), .bin .neq (.t 21) (.t 25)⟩,
 ⟨some 27, none, .pick (.t 18) (.c (.p (.bool true))) (.t 26)⟩,
 ⟨some 3, none, .mov (.t 27)⟩] [1, 3] [1])
 (.seq (.seq (.reg false [⟨some 28, none, .off (.t 1) 0⟩,
 ⟨some 29, none, .ld (.t 28) 1 false⟩,
 ⟨some 30, none, .len (.t 29)⟩,
 ⟨some 31, none, .mov (.c (.p (.int .i64 0)))⟩] [1, 3, 29, 30, 31] [1])
 (.block 0 lp278_0))
 (.seq (.seq (.reg false [⟨some 45, none, .off (.t 1) 1⟩,
 ⟨some 46, none, .ld (.t 45) 1 false⟩,
 ⟨some 47, none, .len (.t 46)⟩,
 ⟨some 48, none, .mov (.c (.p (.int .i64 0)))⟩] [3, 46, 47, 48] [])
 (.block 2 lp278_1))
 (.seq (.seq (.reg false [⟨some 62, none, .mov (.t 3)⟩] [62] [])
 (.cond (.t 62)
 (.seq (.reg false [⟨some 2, none, .mov (.c (.p (.int .i64 9)))⟩] [2] [])
 .ret)
 .skip))
 (.seq (.reg false [⟨some 2, none, .mov (.c (.p (.int .i64 0)))⟩] [2] [])
 .ret)))))),
 [.tmp 2], false⟩
def ir279 : IFn :=   -- tympan/valid.clauses$8
⟨(.seq (.reg false [⟨some 1, none, .bx (.t 0) 22 true⟩,
 ⟨some 2, none, .mov (.c (.p (.int .i64 0)))⟩] [1] [1])
 (.seq (.reg true [⟨some 3, none, .call 280 [(.c (.p (.fn 281)))] false⟩,
 ⟨some 4, none, .off (.t 1) 21⟩,
 ⟨some 5, none, .ldl 1 (.t 4) 1 false⟩,
 ⟨some 6, none, .callv (.t 3) [(.t 5)] false⟩,
 ⟨some 2, none, .mov (.t 6)⟩] [2] [])
 .ret)),
 [.tmp 2], false⟩
def ir280 : IFn :=   -- tympan/valid.first[tympan/api.Float]
⟨(.seq (.reg false [⟨some 1, none, .bx (.t 0) 1 false⟩,
 ⟨some 2, none, .mov (.c (.p .nilf))⟩] [1] [])
 (.seq (.reg false [⟨some 3, none, .mkf (.func 310) [] [(.t 1)]⟩,
 ⟨some 2, none, .mov (.t 3)⟩] [2] [])
 .ret)),
 [.tmp 2], false⟩
def ir281 : IFn :=   -- tympan/figure.Check
⟨(.seq (.reg false [⟨some 1, none, .bx (.t 0) 3 true⟩,
 ⟨some 2, none, .mov (.c (.p (.int .i64 0)))⟩] [1] [1])
 (.seq (.seq (.reg false [⟨some 3, none, .off (.t 1) 0⟩,
 ⟨some 4, none, .ld (.t 3) 1 false⟩,
 ⟨some 5, none, .bin .lss (.t 4) (.c (.p (.int .i64 0)))⟩,
 ⟨some 6, none, .mov (.t 5)⟩,
 ⟨some 7, (some (6, false)), .off (.t 1) 0⟩,
 ⟨some 8, (some (6, false)), .ld (.t 7) 1 false⟩,
 ⟨some 9, (some (6, false)), .bin .geq (.t 8) (.c (.p (.int .i64 3)))⟩,
 ⟨some 10, none, .pick (.t 6) (.c (.p (.bool true))) (.t 9)⟩,
 ⟨some 11, none, .mov (.t 10)⟩,
 ⟨some 12, (some (11, false)), .off (.t 1) 1⟩,
 ⟨some 13, (some (11, false)), .ld (.t 12) 1 false⟩,
 ⟨some 14, (some (11, false)), .bin .lss (.t 13) (.c (.p (.int .i64 1)))⟩,
 ⟨some 15, none, .pick (.t 11) (.c (.p (.bool true))) (.t 14)⟩,
 ⟨some 16, none, .mov (.t 15)⟩,
 ⟨some 17, (some (16, false)), .off (.t 1) 1⟩,
 ⟨some 18, (some (16, false)), .ld (.t 17) 1 false⟩,
 ⟨some 19, (some (16, false)), .bin .gtr (.t 18) (.c (.p (.int .i64 1073741823)))⟩,
 ⟨some 20, none, .pick (.t 16) (.c (.p (.bool true))) (.t 19)⟩,
 ⟨some 21, none, .mov (.t 20)⟩,
 ⟨some 22, (some (21, false)), .off (.t 1) 2⟩,
 ⟨some 23, (some (21, false)), .ld (.t 22) 1 false⟩,
 ⟨some 24, (some (21, false)), .bin .lss (.t 23) (.c (.p (.int .i64 0)))⟩,
 ⟨some 25, none, .pick (.t 21) (.c (.p (.bool true))) (.t 24)⟩,
 ⟨some 26, none, .mov (.t 25)⟩,
 ⟨some 27, (some (26, false)), .off (.t 1) 2⟩,
 ⟨some 28, (some (26, false)), .ld (.t 27) 1 false⟩,
 ⟨some 29, (some (26, false)), .bin .gtr (.t 28) (.c (.p (.int .i64 3)))⟩,
 ⟨some 30, none, .pick (.t 26) (.c (.p (.bool true))) (.t 29)⟩] [30] [])
 (.cond (.t 30)
 (.seq (.reg false [⟨some 2, none, .mov (.c (.p (.int .i64 10)))⟩] [2] [])
 .ret)
 .skip))
 (.seq (.reg false [⟨some 2, none, .mov (.c (.p (.int .i64 0)))⟩] [2] [])
 .ret))),
 [.tmp 2], false⟩
def ir282 : IFn :=   -- tympan/valid.loose
⟨(.seq (.reg false [⟨some 1, none, .bx (.t 0) 22 true⟩,
 ⟨some 2, none, .mov (.c (.p (.int .i64 0)))⟩] [1] [1])
 (.seq (.reg true [⟨some 5, none, .off (.t 1) 19⟩,
 ⟨some 6, none, .ldl 1 (.t 5) 1 false⟩,
 ⟨some 7, none, .off (.t 1) 20⟩,
 ⟨some 8, none, .ldl 1 (.t 7) 1 false⟩,
 ⟨some 9, none, .len (.t 8)⟩,
 ⟨some 10, none, .call 313 [(.t 6), (.c (.p (.int .i64 5))), (.t 9)] false⟩,
 ⟨some 11, none, .off (.t 1) 19⟩,
 ⟨some 12, none, .ldl 1 (.t 11) 1 false⟩,
 ⟨some 13, none, .off (.t 1) 21⟩,
 ⟨some 14, none, .ldl 1 (.t 13) 1 false⟩,
 ⟨some 15, none, .len (.t 14)⟩,
 ⟨some 16, none, .call 313 [(.t 12), (.c (.p (.int .i64 6))), (.t 15)] false⟩,
 ⟨some 3, none, .mov (.t 10)⟩,
 ⟨some 4, none, .mov (.t 16)⟩] [3, 4] [])
 (.seq (.seq (.reg false [⟨some 17, none, .mov (.t 3)⟩,
 ⟨some 18, none, .bin .lss (.t 17) (.c (.p (.int .i64 0)))⟩,
 ⟨some 19, none, .mov (.t 18)⟩,
 ⟨some 20, (some (19, false)), .mov (.t 4)⟩,
 ⟨some 21, (some (19, false)), .bin .lss (.t 20) (.c (.p (.int .i64 0)))⟩,
 ⟨some 22, none, .pick (.t 19) (.c (.p (.bool true))) (.t 21)⟩] [3, 4, 22] [])
 (.cond (.t 22)
 (.seq (.reg false [⟨some 23, none, .mov (.t 3)⟩,
 ⟨some 24, none, .mov (.t 4)⟩,
 ⟨some 25, none, .mnmx true (.t 23) (.t 24)⟩,
 ⟨some 2, none, .mov (.t 25)⟩] [2] [])
 .ret)
 .skip))
 (.seq (.reg false [⟨some 26, none, .mov (.t 3)⟩,
 ⟨some 27, none, .mov (.t 4)⟩,
 ⟨some 28, none, .mnmx false (.t 26) (.t 27)⟩,
 ⟨some 2, none, .mov (.t 28)⟩] [2] [])
 .ret)))),
 [.tmp 2], false⟩
def ir283 : IFn :=   -- tympan/valid.tall
⟨(.seq (.reg false [⟨some 1, none, .bx (.t 0) 22 true⟩,
 ⟨some 2, none, .mov (.c (.p (.int .i64 0)))⟩] [1] [1])
 (.seq (.reg false [⟨some 4, none, .ld (.t 1) 22 true⟩,
 ⟨some 5, none, .call 58 [(.t 4)] false⟩,
 ⟨some 3, none, .al [.p (.int .i64 0), .p (.int .i64 0), .p (.int .i64 0), .p (.int .i64 0), .p (.int .i64 0), .p (.int .i64 0), .p (.int .i64 0), .p (.int .i64 0), .p (.int .i64 0), .p (.int .i64 0), .p (.int .i64 0), .p (.int .i64 0), .p (.int .i64 0), .p (.int .i64 0), .p (.int .i64 0), .p (.int .i64 0), .p (.int .i64 0), .p (.int .i64 0), .p (.bool false), .nils, .nils, .nils] false⟩,
 ⟨none, none, .st (.t 3) (.t 5) 22⟩] [3] [])
 (.seq (.reg false [⟨some 6, none, .off (.t 3) 21⟩,
 ⟨some 7, none, .ld (.t 6) 1 false⟩,
 ⟨some 8, none, .mkf (.func 314) [] [(.t 3)]⟩,
 ⟨some 9, none, .call 311 [(.t 7), (.t 8)] false⟩,
 ⟨some 2, none, .mov (.t 9)⟩] [2] [])
 .ret))),
 [.tmp 2], false⟩
def ir284 : IFn :=   -- tympan/sp.above
⟨(.seq (.reg false [⟨some 4, none, .mov (.c (.p (.int .i64 0)))⟩] [0, 1] [])
 (.seq (.reg false [⟨some 6, none, .mov (.t 0)⟩,
 ⟨some 7, none, .mov (.t 1)⟩,
 ⟨some 8, none, .bin .rem (.t 6) (.t 7)⟩,
 ⟨some 5, none, .mov (.t 8)⟩] [1, 5] [])
 (.seq (.seq (.reg false [⟨some 9, none, .mov (.t 5)⟩,
 ⟨some 10, none, .bin .lss (.t 9) (.c (.p (.int .i64 0)))⟩] [1, 5, 10] [])
 (.cond (.t 10)
 (.reg false [⟨some 11, none, .mov (.t 5)⟩,
 ⟨some 12, none, .mov (.t 1)⟩,
 ⟨some 13, none, .bin .add (.t 11) (.t 12)⟩,
 ⟨some 5, none, .mov (.t 13)⟩] [5] [])
 .skip))
 (.seq (.reg false [⟨some 14, none, .mov (.t 5)⟩,
 ⟨some 4, none, .mov (.t 14)⟩] [4] [])
 .ret)))),
 [.tmp 4], false⟩
def ir285 : IFn :=   -- tympan/total.both$1
⟨(.seq (.reg false [⟨some 6, none, .mov (.c (.p (.int .i64 0)))⟩] [0, 1, 2, 3] [])
 (.seq (.reg false [⟨some 10, none, .ld (.t 2) 1 false⟩,
 ⟨some 11, none, .mov (.t 0)⟩,
 ⟨some 12, none, .mov (.t 1)⟩,
 ⟨some 13, none, .callv (.t 10) [(.t 11), (.t 12)] false⟩,
 ⟨some 9, none, .mov (.t 13)⟩,
 ⟨some 14, none, .ext (.t 9) 0⟩,
 ⟨some 15, none, .ext (.t 9) 1⟩,
 ⟨some 7, none, .mov (.t 14)⟩,
 ⟨some 8, none, .mov (.t 15)⟩] [3, 7, 8] [])
 (.seq (.reg false [⟨some 16, none, .ld (.t 3) 1 false⟩,
 ⟨some 17, none, .mov (.t 16)⟩,
 ⟨some 18, (some (17, true)), .mov (.t 8)⟩,
 ⟨some 19, none, .pick (.t 17) (.t 18) (.c (.p (.bool false)))⟩,
 ⟨none, none, .st (.t 3) (.t 19) 1⟩] [7] [])
 (.seq (.reg false [⟨some 20, none, .mov (.t 7)⟩,
 ⟨some 6, none, .mov (.t 20)⟩] [6] [])
 .ret)))),
 [.tmp 6], false⟩
def ir286 : IFn :=   -- tympan/tympanref01.Sub
⟨(.seq (.reg false [⟨some 4, none, .al [.p (.int .i64 0), .p (.bool false)] true⟩] [0, 1, 4] [4])
 (.seq (.seq (.reg false [⟨some 5, none, .mov (.t 1)⟩,
 ⟨some 6, none, .bin .lss (.t 5) (.c (.p (.int .i64 0)))⟩,
 ⟨some 7, none, .mov (.t 6)⟩,
 ⟨some 8, (some (7, true)), .mov (.t 0)⟩,
 ⟨some 9, (some (7, true)), .mov (.t 1)⟩,
 ⟨some 10, (some (7, true)), .bin .add (.c (.p (.int .i64 9223372036854775807))) (.t 9)⟩,
 ⟨some 11, (some (7, true)), .bin .gtr (.t 8) (.t 10)⟩,
 ⟨some 12, none, .pick (.t 7) (.t 11) (.c (.p (.bool false)))⟩,
 ⟨some 13, none, .mov (.t 12)⟩,
 ⟨some 14, (some (13, false)), .mov (.t 1)⟩,
 ⟨some 15, (some (13, false)), .bin .gtr (.t 14) (.c (.p (.int .i64 0)))⟩,
 ⟨some 16, (some (13, false)), .mov (.t 15)⟩,
 ⟨some 17, (some (16, true)), .mov (.t 0)⟩,
 ⟨some 18, (some (16, true)), .mov (.t 1)⟩,
 ⟨some 19, (some (16, true)), .bin .add (.c (.p (.int .i64 (-9223372036854775808)))) (.t 18)⟩,
 ⟨some 20, (some (16, true)), .bin .lss (.t 17) (.t 19)⟩,
 ⟨some 21, (some (13, false)), .pick (.t 16) (.t 20) (.c (.p (.bool false)))⟩,
 ⟨some 22, none, .pick (.t 13) (.c (.p (.bool true))) (.t 21)⟩] [0, 1, 4, 22] [4])
 (.cond (.t 22)
 (.seq (.reg false [⟨some 23, none, .bld [.p (.int .i64 0), .p (.bool false)] []⟩,
 ⟨none, none, .st (.t 4) (.t 23) 2⟩] [4] [4])
 .ret)
 .skip))
 (.seq (.reg false [⟨some 24, none, .mov (.t 0)⟩,
 ⟨some 25, none, .mov (.t 1)⟩,
 ⟨some 26, none, .bin .sub (.t 24) (.t 25)⟩,
 ⟨some 27, none, .bld [.p (.int .i64 0), .p (.bool false)] [(0, 1, (.t 26)), (1, 1, (.c (.p (.bool true))))]⟩,
 ⟨none, none, .st (.t 4) (.t 27) 2⟩] [4] [4])
 .ret))),
 [.cell 4 2 true], false⟩
def ir298 : IFn :=   -- tympan/valid.when$1
⟨(.seq (.reg false [⟨some 2, none, .bx (.t 0) 22 true⟩,
 ⟨some 3, none, .mov (.c (.p (.int .i64 0)))⟩] [1, 2] [2])
 (.seq (.seq (.reg false [⟨some 4, none, .ld (.t 1) 1 false⟩,
 ⟨some 5, none, .ld (.t 2) 22 true⟩,
 ⟨some 6, none, .callv (.t 4) [(.t 5)] false⟩] [6] [])
 (.cond (.t 6)
 (.seq (.reg false [⟨some 3, none, .mov (.c (.p (.int .i64 0)))⟩] [3] [])
 .ret)
 .skip))
 (.seq (.reg false [⟨some 3, none, .mov (.c (.p (.int .i64 (-1))))⟩] [3] [])
 .ret))),
 [.tmp 3], false⟩
def ir299 : IFn :=   -- tympan/geom.within[int]
⟨(.seq (.reg false [⟨some 2, none, .bx (.t 0) 1 false⟩,
 ⟨some 3, none, .bx (.t 1) 1 false⟩,
 ⟨some 4, none, .mov (.c (.p .nilf))⟩] [2, 3] [])
 (.seq (.reg false [⟨some 5, none, .mkf (.func 329) [] [(.t 2), (.t 3)]⟩,
 ⟨some 4, none, .mov (.t 5)⟩] [4] [])
 .ret)),
 [.tmp 4], false⟩
def ir300 : IFn :=   -- tympan/geom.within[tympan/api.Sp]
⟨(.seq (.reg false [⟨some 2, none, .bx (.t 0) 1 false⟩,
 ⟨some 3, none, .bx (.t 1) 1 false⟩,
 ⟨some 4, none, .mov (.c (.p .nilf))⟩] [2, 3] [])
 (.seq (.reg false [⟨some 5, none, .mkf (.func 330) [] [(.t 2), (.t 3)]⟩,
 ⟨some 4, none, .mov (.t 5)⟩] [4] [])
 .ret)),
 [.tmp 4], false⟩
def ir301 : IFn :=   -- tympan/valid.first[tympan/api.Item]$1
⟨(.seq (.reg false [⟨some 3, none, .mov (.c (.p (.int .i64 0)))⟩] [0, 1] [])
 (.seq (.reg false [⟨some 4, none, .mov (.t 0)⟩,
 ⟨some 5, none, .mkf (.func 303) [] [(.t 1)]⟩,
 ⟨some 6, none, .call 302 [(.t 4), (.t 5)] false⟩,
 ⟨some 3, none, .mov (.t 6)⟩] [3] [])
 .ret)),
 [.tmp 3], false⟩
def lp302_0 : IC :=
 (.loop [0, 1, 7, 8] [] (.seq (.reg false [⟨some 9, none, .bin .lss (.t 8) (.t 7)⟩] [0, 1, 7, 8, 9] [])
 (.seq (.cond (.t 9)
 .skip
 (.exit 0))
 (.seq (.block 1 (.seq (.reg false [⟨some 10, none, .mov (.t 8)⟩,
 ⟨some 5, none, .mov (.t 10)⟩] [0, 1, 5, 7, 8] [])
 (.seq (.reg false [⟨some 11, none, .mov (.t 1)⟩,
 ⟨some 12, none, .mov (.t 0)⟩,
 ⟨some 13, none, .mov (.t 5)⟩,
 ⟨some 14, none, .ixs (.t 12) (.t 13) 7⟩,
 ⟨some 15, none, .ld (.t 14) 7 true⟩,
 ⟨some 16, none, .callv (.t 11) [(.t 15)] false⟩] [0, 1, 5, 7, 8, 16] [])
 (.cond (.t 16)
 (.seq (.reg false [⟨some 17, none, .mov (.t 5)⟩,
 ⟨some 4, none, .mov (.t 17)⟩] [4] [])
 .ret)
 .skip))))
 (.reg false [⟨some 18, none, .bin .add (.t 8) (.c (.p (.int .i64 1)))⟩,
 ⟨some 8, none, .mov (.t 18)⟩] [0, 1, 7, 8] [])))))
def ir302 : IFn :=   -- slices.IndexFunc[[]tympan/api.Item,tympan/api.Item]
⟨(.seq (.reg false [⟨some 4, none, .mov (.c (.p (.int .i64 0)))⟩] [0, 1] [])
 (.seq (.seq (.reg false [⟨some 6, none, .mov (.t 0)⟩,
 ⟨some 7, none, .len (.t 6)⟩,
 ⟨some 8, none, .mov (.c (.p (.int .i64 0)))⟩] [0, 1, 7, 8] [])
 (.block 0 lp302_0))
 (.seq (.reg false [⟨some 4, none, .mov (.c (.p (.int .i64 (-1))))⟩] [4] [])
 .ret))),
 [.tmp 4], false⟩
end Go.EnvOf
