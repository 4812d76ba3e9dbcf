/- The engine's instructions for the functions, part 0. -/
import Derived.Test.YtddnebpblclpfaaGreatEngAll2
namespace Go.EnvOf
open Go Go.Eng
set_option maxRecDepth 100000
def ir3 : IFn :=   -- tympan/tympanlaw25.StateNext
⟨(.seq (.reg false [⟨some 3, none, .bx (.t 0) 22 true⟩,
 ⟨some 4, none, .bx (.t 1) 7 true⟩,
 ⟨some 5, none, .bx (.t 2) 6 true⟩,
 ⟨some 6, none, .mov (.c (.p (.bool false)))⟩] [3, 4, 5] [3, 4, 5])
 (.seq (.seq (.reg false [⟨some 10, none, .ld (.t 3) 22 true⟩,
 ⟨some 11, none, .call 11 [(.t 10)] false⟩,
 ⟨some 12, none, .mov (.t 11)⟩,
 ⟨some 13, (some (12, false)), .off (.t 5) 3⟩,
 ⟨some 14, (some (12, false)), .ld (.t 13) 1 false⟩,
 ⟨some 15, (some (12, false)), .len (.t 14)⟩,
 ⟨some 16, (some (12, false)), .bin .gtr (.t 15) (.c (.p (.int .i64 50)))⟩,
 ⟨some 17, none, .pick (.t 12) (.c (.p (.bool true))) (.t 16)⟩,
 ⟨some 18, none, .mov (.t 17)⟩,
 ⟨some 19, (some (18, false)), .off (.t 5) 4⟩,
 ⟨some 20, (some (18, false)), .ld (.t 19) 1 false⟩,
 ⟨some 21, (some (18, false)), .len (.t 20)⟩,
 ⟨some 22, (some (18, false)), .bin .gtr (.t 21) (.c (.p (.int .i64 50)))⟩,
 ⟨some 23, none, .pick (.t 18) (.c (.p (.bool true))) (.t 22)⟩,
 ⟨some 24, none, .mov (.t 23)⟩,
 ⟨some 25, (some (24, false)), .off (.t 5) 5⟩,
 ⟨some 26, (some (24, false)), .ld (.t 25) 1 false⟩,
 ⟨some 27, (some (24, false)), .len (.t 26)⟩,
 ⟨some 28, (some (24, false)), .bin .gtr (.t 27) (.c (.p (.int .i64 50)))⟩,
 ⟨some 29, none, .pick (.t 24) (.c (.p (.bool true))) (.t 28)⟩] [3, 4, 5, 29] [3, 4, 5])
 (.cond (.t 29)
 (.seq (.reg false [⟨some 30, none, .call 12 [] false⟩,
 ⟨some 6, none, .mov (.t 30)⟩] [6] [])
 .ret)
 .skip))
 (.seq (.reg false [⟨some 32, none, .ld (.t 3) 22 true⟩,
 ⟨some 33, none, .callz 13 [(.t 32)]⟩,
 ⟨some 31, none, .mov (.t 33)⟩,
 ⟨some 34, none, .ext (.t 31) 0⟩,
 ⟨some 35, none, .ext (.t 31) 1⟩,
 ⟨some 7, none, .mov (.t 34)⟩,
 ⟨some 8, none, .mov (.t 35)⟩] [3, 4, 5, 7, 8] [3, 4, 5])
 (.seq (.reg false [⟨some 36, none, .ld (.t 3) 22 true⟩,
 ⟨some 37, none, .call 14 [(.t 36)] false⟩,
 ⟨some 9, none, .al [.p (.int .i64 0), .p (.int .i64 0), .p (.int .i64 0), .p (.int .i64 0), .p (.int .i64 0), .p (.int .i64 0), .p (.int .i64 0), .p (.int .i64 0), .p (.int .i64 0), .p (.int .i64 0), .p (.int .i64 0), .p (.int .i64 0), .p (.int .i64 0), .p (.int .i64 0), .p (.int .i64 0), .p (.int .i64 0), .p (.int .i64 0), .p (.int .i64 0), .p (.bool false), .nils, .nils, .nils, .p (.bool false)] true⟩,
 ⟨none, none, .st (.t 9) (.t 37) 23⟩] [4, 5, 7, 8, 9] [4, 5, 9])
 (.seq (.seq (.reg false [⟨some 38, none, .mov (.t 8)⟩,
 ⟨some 39, none, .un .not (.t 38)⟩] [4, 5, 7, 9, 39] [4, 5, 9])
 (.cond (.t 39)
 (.seq (.reg false [⟨some 40, none, .off (.t 9) 22⟩,
 ⟨some 41, none, .ld (.t 40) 1 false⟩,
 ⟨some 42, none, .un .not (.t 41)⟩,
 ⟨some 43, none, .mov (.t 42)⟩,
 ⟨some 44, (some (43, true)), .call 12 [] false⟩,
 ⟨some 45, none, .pick (.t 43) (.t 44) (.c (.p (.bool false)))⟩,
 ⟨some 6, none, .mov (.t 45)⟩] [6] [])
 .ret)
 .skip))
 (.seq (.reg true [⟨some 46, none, .mov (.t 7)⟩,
 ⟨some 47, none, .ldl 4 (.t 4) 7 true⟩,
 ⟨some 48, none, .ldl 5 (.t 5) 6 true⟩,
 ⟨some 49, none, .call 15 [(.t 46), (.t 47), (.t 48)] false⟩,
 ⟨some 50, none, .off (.t 9) 0⟩,
 ⟨some 51, none, .ldl 9 (.t 50) 22 true⟩,
 ⟨some 52, none, .ldl 4 (.t 4) 7 true⟩,
 ⟨some 53, none, .ldl 5 (.t 5) 6 true⟩,
 ⟨some 54, none, .call 16 [(.t 51), (.t 52), (.t 53)] false⟩,
 ⟨some 55, none, .eqa false [true, true, true, true, true, true, true] (.t 49) (.t 54)⟩,
 ⟨some 56, none, .mov (.t 55)⟩,
 ⟨some 57, (some (56, true)), .call 12 [] false⟩,
 ⟨some 58, none, .pick (.t 56) (.t 57) (.c (.p (.bool false)))⟩,
 ⟨some 6, none, .mov (.t 58)⟩] [6] [])
 .ret)))))),
 [.tmp 6], false⟩
def lp5_0 : IC :=
 (.loop [2, 6, 7, 8, 9] [2] (.seq (.seq (.reg false [⟨some 113, none, .mov (.t 9)⟩,
 ⟨some 114, none, .off (.t 2) 19⟩,
 ⟨some 115, none, .ld (.t 114) 1 false⟩,
 ⟨some 116, none, .len (.t 115)⟩,
 ⟨some 117, none, .bin .lss (.t 113) (.t 116)⟩] [2, 6, 7, 8, 9, 117] [2])
 (.cond (.t 117)
 .skip
 (.exit 0)))
 (.seq (.block 1 (.reg false [⟨some 120, none, .mov (.t 8)⟩,
 ⟨some 121, none, .mov (.t 120)⟩,
 ⟨some 122, (some (121, true)), .off (.t 2) 19⟩,
 ⟨some 123, (some (121, true)), .ld (.t 122) 1 false⟩,
 ⟨some 124, (some (121, true)), .mov (.t 9)⟩,
 ⟨some 125, (some (121, true)), .ixs (.t 123) (.t 124) 7⟩,
 ⟨some 126, (some (121, true)), .off (.t 125) 0⟩,
 ⟨some 127, (some (121, true)), .ld (.t 126) 1 false⟩,
 ⟨some 128, (some (121, true)), .bin .eql (.t 127) (.c (.p (.int .i64 2)))⟩,
 ⟨some 129, (some (121, true)), .mov (.t 128)⟩,
 ⟨some 130, (some (129, false)), .off (.t 2) 19⟩,
 ⟨some 131, (some (129, false)), .ld (.t 130) 1 false⟩,
 ⟨some 132, (some (129, false)), .mov (.t 9)⟩,
 ⟨some 133, (some (129, false)), .ixs (.t 131) (.t 132) 7⟩,
 ⟨some 134, (some (129, false)), .off (.t 133) 0⟩,
 ⟨some 135, (some (129, false)), .ld (.t 134) 1 false⟩,
 ⟨some 136, (some (129, false)), .bin .eql (.t 135) (.c (.p (.int .i64 3)))⟩,
 ⟨some 137, (some (121, true)), .pick (.t 129) (.c (.p (.bool true))) (.t 136)⟩,
 ⟨some 138, none, .pick (.t 121) (.t 137) (.c (.p (.bool false)))⟩,
 ⟨some 8, none, .mov (.t 138)⟩] [2, 6, 7, 8, 9] [2]))
 (.reg false [⟨some 118, none, .mov (.t 9)⟩,
 ⟨some 119, none, .bin .add (.t 118) (.c (.p (.int .i64 1)))⟩,
 ⟨some 9, none, .mov (.t 119)⟩] [2, 6, 7, 8, 9] [2]))))
def ir5 : IFn :=   -- tympan/tympanlaw25.StateBegins
⟨(.seq (.reg false [⟨some 2, none, .bx (.t 0) 22 true⟩,
 ⟨some 3, none, .bx (.t 1) 7 true⟩,
 ⟨some 4, none, .mov (.c (.p (.bool false)))⟩] [2, 3] [2, 3])
 (.seq (.seq (.reg false [⟨some 10, none, .ld (.t 2) 22 true⟩,
 ⟨some 11, none, .call 11 [(.t 10)] false⟩] [2, 3, 11] [2, 3])
 (.cond (.t 11)
 (.seq (.reg false [⟨some 12, none, .call 12 [] false⟩,
 ⟨some 4, none, .mov (.t 12)⟩] [4] [])
 .ret)
 .skip))
 (.seq (.reg false [⟨some 5, none, .mov (.c (.p .nilp))⟩] [2, 3, 5] [2, 3])
 (.seq (.seq (.reg false [⟨some 13, none, .mov (.t 5)⟩,
 ⟨some 14, none, .ld (.t 3) 7 true⟩,
 ⟨some 15, none, .call 19 [(.t 13), (.t 14)] false⟩,
 ⟨some 16, none, .mov (.t 15)⟩,
 ⟨some 17, (some (16, false)), .mov (.t 5)⟩,
 ⟨some 18, (some (16, false)), .ld (.t 3) 7 true⟩,
 ⟨some 19, (some (16, false)), .call 20 [(.t 17), (.t 18)] false⟩,
 ⟨some 20, none, .pick (.t 16) (.c (.p (.bool true))) (.t 19)⟩,
 ⟨some 21, none, .mov (.t 20)⟩,
 ⟨some 22, (some (21, false)), .mov (.t 5)⟩,
 ⟨some 23, (some (21, false)), .ld (.t 3) 7 true⟩,
 ⟨some 24, (some (21, false)), .call 21 [(.t 22), (.t 23)] false⟩,
 ⟨some 25, none, .pick (.t 21) (.c (.p (.bool true))) (.t 24)⟩,
 ⟨some 26, none, .mov (.t 25)⟩,
 ⟨some 27, (some (26, false)), .mov (.t 5)⟩,
 ⟨some 28, (some (26, false)), .ld (.t 3) 7 true⟩,
 ⟨some 29, (some (26, false)), .call 22 [(.t 27), (.t 28)] false⟩,
 ⟨some 30, (some (26, false)), .bin .neq (.t 29) (.c (.p (.int .i64 0)))⟩,
 ⟨some 31, none, .pick (.t 26) (.c (.p (.bool true))) (.t 30)⟩,
 ⟨some 32, none, .mov (.t 31)⟩,
 ⟨some 33, (some (32, false)), .mov (.t 5)⟩,
 ⟨some 34, (some (32, false)), .call 23 [(.t 33)] false⟩,
 ⟨some 35, (some (32, false)), .bld [.p (.int .i64 0), .p (.int .i64 0), .p (.int .i64 0), .p (.int .i64 0), .p (.int .i64 0), .p (.int .i64 0), .p (.int .i64 0)] []⟩,
 ⟨some 36, (some (32, false)), .eqa true [true, true, true, true, true, true, true] (.t 34) (.t 35)⟩,
 ⟨some 37, none, .pick (.t 32) (.c (.p (.bool true))) (.t 36)⟩,
 ⟨some 38, none, .mov (.t 37)⟩,
 ⟨some 39, (some (38, false)), .mov (.t 5)⟩,
 ⟨some 40, (some (38, false)), .ld (.t 3) 7 true⟩,
 ⟨some 41, (some (38, false)), .call 24 [(.t 39), (.t 40)] false⟩,
 ⟨some 42, (some (38, false)), .bin .neq (.t 41) (.c (.p (.int .i64 0)))⟩,
 ⟨some 43, none, .pick (.t 38) (.c (.p (.bool true))) (.t 42)⟩,
 ⟨some 44, none, .mov (.t 43)⟩,
 ⟨some 45, (some (44, false)), .mov (.t 5)⟩,
 ⟨some 46, (some (44, false)), .ld (.t 3) 7 true⟩,
 ⟨some 47, (some (44, false)), .bld [.p (.int .i64 0), .p (.int .i64 0), .p (.int .i64 0), .nils, .nils, .nils] []⟩,
 ⟨some 48, (some (44, false)), .call 15 [(.t 45), (.t 46), (.t 47)] false⟩,
 ⟨some 49, (some (44, false)), .bld [.p (.int .i64 0), .p (.int .i64 0), .p (.int .i64 0), .p (.int .i64 0), .p (.int .i64 0), .p (.int .i64 0), .p (.int .i64 0)] []⟩,
 ⟨some 50, (some (44, false)), .eqa true [true, true, true, true, true, true, true] (.t 48) (.t 49)⟩,
 ⟨some 51, none, .pick (.t 44) (.c (.p (.bool true))) (.t 50)⟩,
 ⟨some 52, none, .mov (.t 51)⟩,
 ⟨some 53, (some (52, false)), .mov (.t 5)⟩,
 ⟨some 54, (some (52, false)), .ld (.t 3) 7 true⟩,
 ⟨some 55, (some (52, false)), .call 25 [(.t 53), (.t 54)] false⟩,
 ⟨some 56, (some (52, false)), .bld [.p (.int .i64 0), .p (.int .i64 0), .p (.int .i64 0)] []⟩,
 ⟨some 57, (some (52, false)), .eqa true [true, true, true] (.t 55) (.t 56)⟩,
 ⟨some 58, none, .pick (.t 52) (.c (.p (.bool true))) (.t 57)⟩,
 ⟨some 59, none, .mov (.t 58)⟩,
 ⟨some 60, (some (59, false)), .mov (.t 5)⟩,
 ⟨some 61, (some (59, false)), .call 26 [(.t 60)] false⟩,
 ⟨some 62, (some (59, false)), .eqn .ptr true (.t 61)⟩,
 ⟨some 63, none, .pick (.t 59) (.c (.p (.bool true))) (.t 62)⟩,
 ⟨some 64, none, .mov (.t 63)⟩,
 ⟨some 65, (some (64, false)), .mov (.t 5)⟩,
 ⟨some 66, (some (64, false)), .call 27 [(.t 65)] false⟩,
 ⟨some 67, (some (64, false)), .eqn .ptr true (.t 66)⟩,
 ⟨some 68, none, .pick (.t 64) (.c (.p (.bool true))) (.t 67)⟩,
 ⟨some 69, none, .mov (.t 68)⟩,
 ⟨some 70, (some (69, false)), .mov (.t 5)⟩,
 ⟨some 71, (some (69, false)), .call 28 [(.t 70)] false⟩,
 ⟨some 72, (some (69, false)), .eqn .ptr true (.t 71)⟩,
 ⟨some 73, none, .pick (.t 69) (.c (.p (.bool true))) (.t 72)⟩,
 ⟨some 74, none, .mov (.t 73)⟩,
 ⟨some 75, (some (74, false)), .mov (.t 5)⟩,
 ⟨some 76, (some (74, false)), .call 29 [(.t 75)] false⟩,
 ⟨some 77, (some (74, false)), .fldv (.t 76) 19 1 false⟩,
 ⟨some 78, (some (74, false)), .len (.t 77)⟩,
 ⟨some 79, (some (74, false)), .bin .neq (.t 78) (.c (.p (.int .i64 0)))⟩,
 ⟨some 80, none, .pick (.t 74) (.c (.p (.bool true))) (.t 79)⟩,
 ⟨some 81, none, .mov (.t 80)⟩,
 ⟨some 82, (some (81, false)), .mov (.t 5)⟩,
 ⟨some 83, (some (81, false)), .call 30 [(.t 82)] false⟩,
 ⟨some 84, (some (81, false)), .fldv (.t 83) 19 1 false⟩,
 ⟨some 85, (some (81, false)), .len (.t 84)⟩,
 ⟨some 86, (some (81, false)), .bin .neq (.t 85) (.c (.p (.int .i64 0)))⟩,
 ⟨some 87, none, .pick (.t 81) (.c (.p (.bool true))) (.t 86)⟩,
 ⟨some 88, none, .mov (.t 87)⟩,
 ⟨some 89, (some (88, false)), .mov (.t 5)⟩,
 ⟨some 90, (some (88, false)), .ld (.t 3) 7 true⟩,
 ⟨some 91, (some (88, false)), .call 31 [(.t 89), (.t 90), (.c (.p (.int .i64 0)))] false⟩,
 ⟨some 92, (some (88, false)), .bld [.p (.int .i64 0), .p (.int .i64 0), .p (.int .i64 0), .p (.bool false)] []⟩,
 ⟨some 93, (some (88, false)), .eqa true [true, true, true, false] (.t 91) (.t 92)⟩,
 ⟨some 94, none, .pick (.t 88) (.c (.p (.bool true))) (.t 93)⟩] [2, 94] [2])
 (.cond (.t 94)
 (.seq (.reg false [⟨some 4, none, .mov (.c (.p (.bool false)))⟩] [4] [])
 .ret)
 .skip))
 (.seq (.reg false [⟨some 96, none, .ld (.t 2) 22 true⟩,
 ⟨some 97, none, .callz 13 [(.t 96)]⟩,
 ⟨some 95, none, .mov (.t 97)⟩,
 ⟨some 98, none, .ext (.t 95) 0⟩,
 ⟨some 99, none, .ext (.t 95) 1⟩,
 ⟨some 6, none, .mov (.t 98)⟩,
 ⟨some 7, none, .mov (.t 99)⟩] [2, 6, 7] [2])
 (.seq (.seq (.reg false [⟨some 100, none, .ld (.t 2) 22 true⟩,
 ⟨some 101, none, .call 32 [(.t 100)] false⟩,
 ⟨some 102, none, .fldv (.t 101) 0 1 false⟩,
 ⟨some 103, none, .bin .neq (.t 102) (.c (.p (.int .i64 0)))⟩] [2, 6, 7, 103] [2])
 (.cond (.t 103)
 (.seq (.reg false [⟨some 104, none, .mov (.t 7)⟩,
 ⟨some 105, none, .un .not (.t 104)⟩,
 ⟨some 106, none, .mov (.t 105)⟩,
 ⟨some 107, (some (106, true)), .mov (.t 6)⟩,
 ⟨some 108, (some (106, true)), .eqn .ptr false (.t 107)⟩,
 ⟨some 109, none, .pick (.t 106) (.t 108) (.c (.p (.bool false)))⟩,
 ⟨some 110, none, .mov (.t 109)⟩,
 ⟨some 111, (some (110, true)), .call 12 [] false⟩,
 ⟨some 112, none, .pick (.t 110) (.t 111) (.c (.p (.bool false)))⟩,
 ⟨some 4, none, .mov (.t 112)⟩] [4] [])
 .ret)
 .skip))
 (.seq (.reg false [⟨some 8, none, .mov (.c (.p (.bool true)))⟩] [2, 6, 7, 8] [2])
 (.seq (.seq (.reg false [⟨some 9, none, .mov (.c (.p (.int .i64 0)))⟩] [2, 6, 7, 8, 9] [2])
 (.block 0 lp5_0))
 (.seq (.reg false [⟨some 139, none, .mov (.t 7)⟩,
 ⟨some 140, none, .mov (.t 139)⟩,
 ⟨some 141, (some (140, true)), .mov (.t 6)⟩,
 ⟨some 142, (some (140, true)), .mov (.t 6)⟩,
 ⟨some 143, (some (140, true)), .call 23 [(.t 142)] false⟩,
 ⟨some 144, (some (140, true)), .call 19 [(.t 141), (.t 143)] false⟩,
 ⟨some 145, none, .pick (.t 140) (.t 144) (.c (.p (.bool false)))⟩,
 ⟨some 146, none, .mov (.t 145)⟩,
 ⟨some 147, (some (146, true)), .mov (.t 6)⟩,
 ⟨some 148, (some (146, true)), .mov (.t 6)⟩,
 ⟨some 149, (some (146, true)), .call 23 [(.t 148)] false⟩,
 ⟨some 150, (some (146, true)), .call 20 [(.t 147), (.t 149)] false⟩,
 ⟨some 151, (some (146, true)), .mov (.t 8)⟩,
 ⟨some 152, (some (146, true)), .eqb false (.t 150) (.t 151)⟩,
 ⟨some 153, none, .pick (.t 146) (.t 152) (.c (.p (.bool false)))⟩,
 ⟨some 154, none, .mov (.t 153)⟩,
 ⟨some 155, (some (154, true)), .call 12 [] false⟩,
 ⟨some 156, none, .pick (.t 154) (.t 155) (.c (.p (.bool false)))⟩,
 ⟨some 4, none, .mov (.t 156)⟩] [4] [])
 .ret))))))))),
 [.tmp 4], false⟩
def lp11_0 : IC :=
 (.loop [1, 3] [1] (.seq (.seq (.reg false [⟨some 4, none, .mov (.t 3)⟩,
 ⟨some 5, none, .off (.t 1) 20⟩,
 ⟨some 6, none, .ld (.t 5) 1 false⟩,
 ⟨some 7, none, .len (.t 6)⟩,
 ⟨some 8, none, .bin .lss (.t 4) (.t 7)⟩,
 ⟨some 9, none, .mov (.t 8)⟩,
 ⟨some 10, (some (9, true)), .mov (.t 3)⟩,
 ⟨some 11, (some (9, true)), .bin .lss (.t 10) (.c (.p (.int .i64 100)))⟩,
 ⟨some 12, none, .pick (.t 9) (.t 11) (.c (.p (.bool false)))⟩] [1, 3, 12] [1])
 (.cond (.t 12)
 .skip
 (.exit 0)))
 (.seq (.block 1 (.seq (.reg false [⟨some 15, none, .off (.t 1) 20⟩,
 ⟨some 16, none, .ld (.t 15) 1 false⟩,
 ⟨some 17, none, .mov (.t 3)⟩,
 ⟨some 18, none, .ixs (.t 16) (.t 17) 2⟩,
 ⟨some 19, none, .off (.t 18) 0⟩,
 ⟨some 20, none, .ld (.t 19) 1 false⟩,
 ⟨some 21, none, .len (.t 20)⟩,
 ⟨some 22, none, .bin .gtr (.t 21) (.c (.p (.int .i64 100)))⟩,
 ⟨some 23, none, .mov (.t 22)⟩,
 ⟨some 24, (some (23, false)), .off (.t 1) 20⟩,
 ⟨some 25, (some (23, false)), .ld (.t 24) 1 false⟩,
 ⟨some 26, (some (23, false)), .mov (.t 3)⟩,
 ⟨some 27, (some (23, false)), .ixs (.t 25) (.t 26) 2⟩,
 ⟨some 28, (some (23, false)), .off (.t 27) 1⟩,
 ⟨some 29, (some (23, false)), .ld (.t 28) 1 false⟩,
 ⟨some 30, (some (23, false)), .len (.t 29)⟩,
 ⟨some 31, (some (23, false)), .bin .gtr (.t 30) (.c (.p (.int .i64 100)))⟩,
 ⟨some 32, none, .pick (.t 23) (.c (.p (.bool true))) (.t 31)⟩] [1, 3, 32] [1])
 (.cond (.t 32)
 (.seq (.reg false [⟨some 2, none, .mov (.c (.p (.bool true)))⟩] [2] [])
 .ret)
 .skip)))
 (.reg false [⟨some 13, none, .mov (.t 3)⟩,
 ⟨some 14, none, .bin .add (.t 13) (.c (.p (.int .i64 1)))⟩,
 ⟨some 3, none, .mov (.t 14)⟩] [1, 3] [1]))))
def ir11 : IFn :=   -- tympan/tympanlaw14.Large
⟨(.seq (.reg false [⟨some 1, none, .bx (.t 0) 22 true⟩,
 ⟨some 2, none, .mov (.c (.p (.bool false)))⟩] [1] [1])
 (.seq (.seq (.reg false [⟨some 3, none, .mov (.c (.p (.int .i64 0)))⟩] [1, 3] [1])
 (.block 0 lp11_0))
 (.seq (.reg false [⟨some 33, none, .off (.t 1) 19⟩,
 ⟨some 34, none, .ld (.t 33) 1 false⟩,
 ⟨some 35, none, .len (.t 34)⟩,
 ⟨some 36, none, .bin .gtr (.t 35) (.c (.p (.int .i64 100)))⟩,
 ⟨some 37, none, .mov (.t 36)⟩,
 ⟨some 38, (some (37, false)), .off (.t 1) 20⟩,
 ⟨some 39, (some (37, false)), .ld (.t 38) 1 false⟩,
 ⟨some 40, (some (37, false)), .len (.t 39)⟩,
 ⟨some 41, (some (37, false)), .bin .gtr (.t 40) (.c (.p (.int .i64 100)))⟩,
 ⟨some 42, none, .pick (.t 37) (.c (.p (.bool true))) (.t 41)⟩,
 ⟨some 43, none, .mov (.t 42)⟩,
 ⟨some 44, (some (43, false)), .off (.t 1) 21⟩,
 ⟨some 45, (some (43, false)), .ld (.t 44) 1 false⟩,
 ⟨some 46, (some (43, false)), .len (.t 45)⟩,
 ⟨some 47, (some (43, false)), .bin .gtr (.t 46) (.c (.p (.int .i64 100)))⟩,
 ⟨some 48, none, .pick (.t 43) (.c (.p (.bool true))) (.t 47)⟩,
 ⟨some 2, none, .mov (.t 48)⟩] [2] [])
 .ret))),
 [.tmp 2], false⟩
def ir12 : IFn :=   -- tympan/tympanlaw25.awake
⟨(.seq (.reg false [⟨some 0, none, .mov (.c (.p (.bool false)))⟩] [] [])
 (.seq (.reg false [⟨some 5, none, .bld [.p (.int .i64 0), .p (.int .i64 0), .p (.int .i64 0), .p (.int .i64 0), .p (.int .i64 0), .p (.int .i64 0), .p (.int .i64 0), .p (.int .i64 0), .p (.int .i64 0), .p (.int .i64 0), .p (.int .i64 0), .p (.int .i64 0), .p (.int .i64 0), .p (.int .i64 0), .p (.int .i64 0), .p (.int .i64 0), .p (.int .i64 0), .p (.int .i64 0), .p (.bool false)] [(0, 1, (.c (.p (.int .i64 1)))), (1, 1, (.c (.p (.int .i64 1)))), (3, 1, (.c (.p (.int .i64 9)))), (4, 1, (.c (.p (.int .i64 9))))]⟩,
 ⟨some 6, none, .bld [.p (.int .i64 0), .p (.int .i64 0), .p (.int .i64 0), .p (.int .i64 0), .p (.int .i64 0), .p (.int .i64 0), .p (.int .i64 0)] [(0, 1, (.c (.p (.int .i64 2))))]⟩,
 ⟨some 7, none, .bld [.p (.int .i64 0), .p (.int .i64 0), .p (.int .i64 0), .p (.int .i64 0), .p (.int .i64 0), .p (.int .i64 0), .p (.int .i64 0)] [(0, 1, (.c (.p (.int .i64 1)))), (1, 1, (.c (.p (.int .i64 3))))]⟩,
 ⟨some 8, none, .bld [.p (.int .i64 0), .p (.int .i64 0), .p (.int .i64 0), .p (.int .i64 0), .p (.int .i64 0), .p (.int .i64 0), .p (.int .i64 0)] [(0, 1, (.c (.p (.int .i64 5))))]⟩,
 ⟨some 9, none, .bld [.p (.int .i64 0), .p (.int .i64 0), .p (.int .i64 0), .p (.int .i64 0), .p (.int .i64 0), .p (.int .i64 0), .p (.int .i64 0)] [(0, 1, (.c (.p (.int .i64 1)))), (1, 1, (.c (.p (.int .i64 3))))]⟩,
 ⟨some 10, none, .bsl 7 4 [.p (.int .i64 0), .p (.int .i64 0), .p (.int .i64 0), .p (.int .i64 0), .p (.int .i64 0), .p (.int .i64 0), .p (.int .i64 0)] [(0, (.t 6)), (1, (.t 7)), (2, (.t 8)), (3, (.t 9))]⟩,
 ⟨some 11, none, .bsl 1 1 [.p (.int .i64 0)] [(0, (.c (.p (.int .i64 1))))]⟩,
 ⟨some 12, none, .bld [.nils, .nils] [(0, 1, (.t 11))]⟩,
 ⟨some 13, none, .bsl 2 1 [.nils, .nils] [(0, (.t 12))]⟩,
 ⟨some 14, none, .bld [.p (.int .i64 0), .p (.int .i64 0), .p (.int .i64 0), .p (.int .i64 0), .p (.int .i64 0), .p (.int .i64 0), .p (.int .i64 0), .p (.int .i64 0), .p (.int .i64 0), .p (.int .i64 0), .p (.int .i64 0), .p (.int .i64 0), .p (.int .i64 0), .p (.int .i64 0), .p (.int .i64 0), .p (.int .i64 0), .p (.int .i64 0), .p (.int .i64 0), .p (.bool false), .nils, .nils, .nils] [(0, 19, (.t 5)), (19, 1, (.t 10)), (20, 1, (.t 13))]⟩,
 ⟨some 15, none, .callz 13 [(.t 14)]⟩,
 ⟨some 4, none, .mov (.t 15)⟩,
 ⟨some 16, none, .ext (.t 4) 0⟩,
 ⟨some 17, none, .ext (.t 4) 1⟩,
 ⟨some 1, none, .mov (.t 16)⟩,
 ⟨some 2, none, .mov (.t 17)⟩] [1, 2] [])
 (.seq (.reg false [⟨some 18, none, .mov (.t 1)⟩,
 ⟨some 19, none, .call 23 [(.t 18)] false⟩,
 ⟨some 3, none, .al [.p (.int .i64 0), .p (.int .i64 0), .p (.int .i64 0), .p (.int .i64 0), .p (.int .i64 0), .p (.int .i64 0), .p (.int .i64 0)] true⟩,
 ⟨none, none, .st (.t 3) (.t 19) 7⟩] [1, 2, 3] [3])
 (.seq (.reg false [⟨some 20, none, .mov (.t 2)⟩,
 ⟨some 21, none, .mov (.t 20)⟩,
 ⟨some 22, (some (21, true)), .off (.t 3) 0⟩,
 ⟨some 23, (some (21, true)), .ld (.t 22) 1 false⟩,
 ⟨some 24, (some (21, true)), .bin .eql (.t 23) (.c (.p (.int .i64 1)))⟩,
 ⟨some 25, none, .pick (.t 21) (.t 24) (.c (.p (.bool false)))⟩,
 ⟨some 26, none, .mov (.t 25)⟩,
 ⟨some 27, (some (26, true)), .mov (.t 1)⟩,
 ⟨some 28, (some (26, true)), .ld (.t 3) 7 true⟩,
 ⟨some 29, (some (26, true)), .call 19 [(.t 27), (.t 28)] false⟩,
 ⟨some 30, none, .pick (.t 26) (.t 29) (.c (.p (.bool false)))⟩,
 ⟨some 31, none, .mov (.t 30)⟩,
 ⟨some 32, (some (31, true)), .mov (.t 1)⟩,
 ⟨some 33, (some (31, true)), .ld (.t 3) 7 true⟩,
 ⟨some 34, (some (31, true)), .call 20 [(.t 32), (.t 33)] false⟩,
 ⟨some 35, (some (31, true)), .un .not (.t 34)⟩,
 ⟨some 36, none, .pick (.t 31) (.t 35) (.c (.p (.bool false)))⟩,
 ⟨some 37, none, .mov (.t 36)⟩,
 ⟨some 38, (some (37, true)), .mov (.t 1)⟩,
 ⟨some 39, (some (37, true)), .ld (.t 3) 7 true⟩,
 ⟨some 40, (some (37, true)), .call 22 [(.t 38), (.t 39)] false⟩,
 ⟨some 41, (some (37, true)), .bin .eql (.t 40) (.c (.p (.int .i64 9)))⟩,
 ⟨some 42, none, .pick (.t 37) (.t 41) (.c (.p (.bool false)))⟩,
 ⟨some 43, none, .mov (.t 42)⟩,
 ⟨some 44, (some (43, true)), .mov (.t 1)⟩,
 ⟨some 45, (some (43, true)), .ld (.t 3) 7 true⟩,
 ⟨some 46, (some (43, true)), .call 31 [(.t 44), (.t 45), (.c (.p (.int .i64 4)))] false⟩,
 ⟨some 47, (some (43, true)), .fldv (.t 46) 3 1 false⟩,
 ⟨some 48, none, .pick (.t 43) (.t 47) (.c (.p (.bool false)))⟩,
 ⟨some 49, none, .mov (.t 48)⟩,
 ⟨some 50, (some (49, true)), .mov (.t 1)⟩,
 ⟨some 51, (some (49, true)), .ld (.t 3) 7 true⟩,
 ⟨some 52, (some (49, true)), .call 24 [(.t 50), (.t 51)] false⟩,
 ⟨some 53, (some (49, true)), .bin .eql (.t 52) (.c (.p (.int .i64 1)))⟩,
 ⟨some 54, none, .pick (.t 49) (.t 53) (.c (.p (.bool false)))⟩,
 ⟨some 0, none, .mov (.t 54)⟩] [0] [])
 .ret)))),
 [.tmp 0], false⟩
def lp13_0 : IC :=
 (.loop [1, 6, 53, 54] [1, 35] (.seq (.reg false [⟨some 55, none, .bin .lss (.t 54) (.t 53)⟩] [1, 6, 53, 54, 55] [1, 35])
 (.seq (.cond (.t 55)
 .skip
 (.exit 0))
 (.seq (.block 1 (.seq (.reg false [⟨some 56, none, .mov (.t 54)⟩,
 ⟨some 7, none, .mov (.t 56)⟩] [1, 6, 7, 53, 54] [1, 35])
 (.reg true [⟨some 57, none, .mov (.t 6)⟩,
 ⟨some 58, none, .mov (.t 6)⟩,
 ⟨some 59, none, .nck (.t 58)⟩,
 ⟨some 60, none, .off (.t 59) 23⟩,
 ⟨some 61, none, .ldl 35 (.t 60) 1 false⟩,
 ⟨some 62, none, .off (.t 1) 20⟩,
 ⟨some 63, none, .ldl 1 (.t 62) 1 false⟩,
 ⟨some 64, none, .mov (.t 7)⟩,
 ⟨some 65, none, .slc (.t 63) none (some (.t 64)) 2⟩,
 ⟨some 66, none, .call 63 [(.t 65)] false⟩,
 ⟨some 67, none, .bsl 1 1 [.p (.int .i64 0)] [(0, (.t 66))]⟩,
 ⟨some 68, none, .app (.t 61) (.t 67) 1⟩,
 ⟨some 69, none, .nck (.t 57)⟩,
 ⟨some 70, none, .off (.t 69) 23⟩,
 ⟨none, none, .stl 35 (.t 70) (.t 68) 1⟩] [1, 6, 53, 54] [1, 35])))
 (.reg false [⟨some 71, none, .bin .add (.t 54) (.c (.p (.int .i64 1)))⟩,
 ⟨some 54, none, .mov (.t 71)⟩] [1, 6, 53, 54] [1, 35])))))
def ir13 : IFn :=   -- tympan/state.New
⟨(.seq (.reg false [⟨some 1, none, .bx (.t 0) 22 true⟩,
 ⟨some 2, none, .mov (.c (.p .nilp))⟩,
 ⟨some 3, none, .mov (.c (.p (.bool false)))⟩] [1] [1])
 (.seq (.seq (.reg false [⟨some 8, none, .ld (.t 1) 22 true⟩,
 ⟨some 9, none, .call 56 [(.t 8)] false⟩,
 ⟨some 10, none, .un .not (.t 9)⟩] [1, 10] [1])
 (.cond (.t 10)
 (.seq (.reg false [⟨some 2, none, .mov (.c (.p .nilp))⟩,
 ⟨some 3, none, .mov (.c (.p (.bool false)))⟩] [2, 3] [35])
 .ret)
 .skip))
 (.seq (.reg false [⟨some 11, none, .ld (.t 1) 22 true⟩,
 ⟨some 12, none, .call 58 [(.t 11)] false⟩,
 ⟨some 13, none, .call 57 [(.t 12)] false⟩,
 ⟨none, none, .st (.t 1) (.t 13) 22⟩] [1] [1])
 (.seq (.reg false [⟨some 15, none, .off (.t 1) 19⟩,
 ⟨some 16, none, .ld (.t 15) 1 false⟩,
 ⟨some 17, none, .callz 59 [(.t 16)]⟩,
 ⟨some 14, none, .mov (.t 17)⟩,
 ⟨some 18, none, .ext (.t 14) 0⟩,
 ⟨some 19, none, .ext (.t 14) 1⟩,
 ⟨some 4, none, .mov (.t 18)⟩,
 ⟨some 5, none, .mov (.t 19)⟩] [1, 4, 5] [1])
 (.seq (.seq (.reg false [⟨some 20, none, .mov (.t 5)⟩,
 ⟨some 21, none, .un .not (.t 20)⟩] [1, 4, 21] [1])
 (.cond (.t 21)
 (.seq (.reg false [⟨some 2, none, .mov (.c (.p .nilp))⟩,
 ⟨some 3, none, .mov (.c (.p (.bool false)))⟩] [2, 3] [35])
 .ret)
 .skip))
 (.seq (.prep [35] (.reg true [⟨some 22, none, .off (.t 1) 19⟩,
 ⟨some 23, none, .ldl 1 (.t 22) 1 false⟩,
 ⟨some 24, none, .callz 60 [(.t 23)]⟩,
 ⟨some 25, none, .mov (.t 4)⟩,
 ⟨some 26, none, .off (.t 1) 19⟩,
 ⟨some 27, none, .ldl 1 (.t 26) 1 false⟩,
 ⟨some 28, none, .off (.t 1) 21⟩,
 ⟨some 29, none, .ldl 1 (.t 28) 1 false⟩,
 ⟨some 30, none, .callz 61 [(.t 27), (.t 29)]⟩,
 ⟨some 31, none, .bld [.p .nilp, .p .nilp, .p .nilp] [(0, 1, (.t 24)), (1, 1, (.t 25)), (2, 1, (.t 30))]⟩,
 ⟨some 32, none, .bx (.t 31) 3 false⟩,
 ⟨some 33, none, .ldl 1 (.t 1) 22 true⟩,
 ⟨some 34, none, .bld [.p .nilp, .p (.int .i64 0), .p (.int .i64 0), .p (.int .i64 0), .p (.int .i64 0), .p (.int .i64 0), .p (.int .i64 0), .p (.int .i64 0), .p (.int .i64 0), .p (.int .i64 0), .p (.int .i64 0), .p (.int .i64 0), .p (.int .i64 0), .p (.int .i64 0), .p (.int .i64 0), .p (.int .i64 0), .p (.int .i64 0), .p (.int .i64 0), .p (.int .i64 0), .p (.bool false), .nils, .nils, .nils, .nils, .p (.int .i64 0), .p (.int .i64 0), .p (.int .i64 0)] [(0, 1, (.t 32)), (1, 22, (.t 33))]⟩,
 ⟨some 35, none, .bxp (.t 34) 27⟩,
 ⟨some 6, none, .mov (.t 35)⟩] [1, 6] [1, 35]))
 (.seq (.reg true [⟨some 36, none, .mov (.t 6)⟩,
 ⟨some 37, none, .mov (.t 6)⟩,
 ⟨some 38, none, .nck (.t 37)⟩,
 ⟨some 39, none, .off (.t 38) 0⟩,
 ⟨some 40, none, .ldl 35 (.t 39) 1 false⟩,
 ⟨some 41, none, .nck (.t 40)⟩,
 ⟨some 42, none, .off (.t 41) 2⟩,
 ⟨some 43, none, .ld (.t 42) 1 false⟩,
 ⟨some 44, none, .off (.t 1) 19⟩,
 ⟨some 45, none, .ldl 1 (.t 44) 1 false⟩,
 ⟨some 46, none, .len (.t 45)⟩,
 ⟨some 47, none, .call 62 [(.t 43), (.t 46)] false⟩,
 ⟨some 48, none, .nck (.t 36)⟩,
 ⟨some 49, none, .off (.t 48) 24⟩,
 ⟨none, none, .stl 35 (.t 49) (.t 47) 3⟩] [1, 6] [1, 35])
 (.seq (.seq (.reg false [⟨some 50, none, .off (.t 1) 20⟩,
 ⟨some 51, none, .ld (.t 50) 1 false⟩,
 ⟨some 52, none, .len (.t 51)⟩,
 ⟨some 53, none, .bin .add (.t 52) (.c (.p (.int .i64 1)))⟩,
 ⟨some 54, none, .mov (.c (.p (.int .i64 0)))⟩] [1, 6, 53, 54] [1, 35])
 (.block 0 lp13_0))
 (.seq (.esc [35] (.reg false [⟨some 72, none, .mov (.t 6)⟩,
 ⟨some 2, none, .mov (.t 72)⟩,
 ⟨some 3, none, .mov (.c (.p (.bool true)))⟩] [2, 3] [35]))
 .ret))))))))),
 [.tmp 2, .tmp 3], false⟩
def ir14 : IFn :=   -- tympan/tympanref25.New
⟨(.seq (.reg false [⟨some 1, none, .bx (.t 0) 22 true⟩,
 ⟨some 2, none, .al [.p (.int .i64 0), .p (.int .i64 0), .p (.int .i64 0), .p (.int .i64 0), .p (.int .i64 0), .p (.int .i64 0), .p (.int .i64 0), .p (.int .i64 0), .p (.int .i64 0), .p (.int .i64 0), .p (.int .i64 0), .p (.int .i64 0), .p (.int .i64 0), .p (.int .i64 0), .p (.int .i64 0), .p (.int .i64 0), .p (.int .i64 0), .p (.int .i64 0), .p (.bool false), .nils, .nils, .nils, .p (.bool false)] true⟩] [1, 2] [1, 2])
 (.seq (.seq (.reg false [⟨some 3, none, .ld (.t 1) 22 true⟩,
 ⟨some 4, none, .call 32 [(.t 3)] false⟩,
 ⟨some 5, none, .fldv (.t 4) 0 1 false⟩,
 ⟨some 6, none, .bin .neq (.t 5) (.c (.p (.int .i64 0)))⟩] [1, 2, 6] [1, 2])
 (.cond (.t 6)
 (.seq (.reg false [⟨some 7, none, .bld [.p (.int .i64 0), .p (.int .i64 0), .p (.int .i64 0), .p (.int .i64 0), .p (.int .i64 0), .p (.int .i64 0), .p (.int .i64 0), .p (.int .i64 0), .p (.int .i64 0), .p (.int .i64 0), .p (.int .i64 0), .p (.int .i64 0), .p (.int .i64 0), .p (.int .i64 0), .p (.int .i64 0), .p (.int .i64 0), .p (.int .i64 0), .p (.int .i64 0), .p (.bool false), .nils, .nils, .nils, .p (.bool false)] []⟩,
 ⟨none, none, .st (.t 2) (.t 7) 23⟩] [2] [2])
 .ret)
 .skip))
 (.seq (.reg false [⟨some 8, none, .ld (.t 1) 22 true⟩,
 ⟨some 9, none, .call 64 [(.t 8)] false⟩,
 ⟨some 10, none, .bld [.p (.int .i64 0), .p (.int .i64 0), .p (.int .i64 0), .p (.int .i64 0), .p (.int .i64 0), .p (.int .i64 0), .p (.int .i64 0), .p (.int .i64 0), .p (.int .i64 0), .p (.int .i64 0), .p (.int .i64 0), .p (.int .i64 0), .p (.int .i64 0), .p (.int .i64 0), .p (.int .i64 0), .p (.int .i64 0), .p (.int .i64 0), .p (.int .i64 0), .p (.bool false), .nils, .nils, .nils] [(0, 22, (.t 9))]⟩,
 ⟨some 11, none, .bld [.p (.int .i64 0), .p (.int .i64 0), .p (.int .i64 0), .p (.int .i64 0), .p (.int .i64 0), .p (.int .i64 0), .p (.int .i64 0), .p (.int .i64 0), .p (.int .i64 0), .p (.int .i64 0), .p (.int .i64 0), .p (.int .i64 0), .p (.int .i64 0), .p (.int .i64 0), .p (.int .i64 0), .p (.int .i64 0), .p (.int .i64 0), .p (.int .i64 0), .p (.bool false), .nils, .nils, .nils, .p (.bool false)] [(0, 22, (.t 10)), (22, 1, (.c (.p (.bool true))))]⟩,
 ⟨none, none, .st (.t 2) (.t 11) 23⟩] [2] [2])
 .ret))),
 [.cell 2 23 true], false⟩
def lp15_0 : IC :=
 (.loop [0, 6, 7, 8, 67, 68, 69] [6, 7, 8] (.seq (.reg false [⟨some 70, none, .bin .lss (.t 69) (.t 68)⟩] [0, 6, 7, 8, 67, 68, 69, 70] [6, 7, 8])
 (.seq (.cond (.t 70)
 .skip
 (.exit 0))
 (.seq (.block 1 (.seq (.reg false [⟨some 71, none, .ixs (.t 67) (.t 69) 1⟩,
 ⟨some 72, none, .ld (.t 71) 1 false⟩,
 ⟨some 10, none, .mov (.t 72)⟩] [0, 6, 7, 8, 10, 67, 68, 69] [6, 7, 8])
 (.reg true [⟨some 73, none, .ldl 8 (.t 8) 3 true⟩,
 ⟨some 74, none, .mov (.t 0)⟩,
 ⟨some 75, none, .nck (.t 74)⟩,
 ⟨some 76, none, .off (.t 75) 1⟩,
 ⟨some 77, none, .off (.t 76) 21⟩,
 ⟨some 78, none, .ld (.t 77) 1 false⟩,
 ⟨some 79, none, .mov (.t 10)⟩,
 ⟨some 80, none, .call 68 [(.t 78), (.t 79)] false⟩,
 ⟨some 81, none, .call 67 [(.t 73), (.t 80)] false⟩,
 ⟨none, none, .stl 8 (.t 8) (.t 81) 3⟩] [0, 6, 7, 8, 67, 68, 69] [6, 7, 8])))
 (.reg false [⟨some 82, none, .bin .add (.t 69) (.c (.p (.int .i64 1)))⟩,
 ⟨some 69, none, .mov (.t 82)⟩] [0, 6, 7, 8, 67, 68, 69] [6, 7, 8])))))
def ir15 : IFn :=   -- (*tympan/state.World).Next
⟨(.seq (.reg false [⟨some 4, none, .bx (.t 1) 7 true⟩,
 ⟨some 5, none, .bx (.t 2) 6 true⟩,
 ⟨some 6, none, .al [.p (.int .i64 0), .p (.int .i64 0), .p (.int .i64 0), .p (.int .i64 0), .p (.int .i64 0), .p (.int .i64 0), .p (.int .i64 0)] true⟩] [0, 4, 5, 6] [4, 5, 6])
 (.seq (.seq (.reg false [⟨some 11, none, .mov (.t 0)⟩,
 ⟨some 12, none, .ld (.t 4) 7 true⟩,
 ⟨some 13, none, .call 19 [(.t 11), (.t 12)] false⟩,
 ⟨some 14, none, .un .not (.t 13)⟩] [0, 4, 5, 6, 14] [4, 5, 6])
 (.cond (.t 14)
 (.seq (.reg false [⟨some 15, none, .bld [.p (.int .i64 0), .p (.int .i64 0), .p (.int .i64 0), .p (.int .i64 0), .p (.int .i64 0), .p (.int .i64 0), .p (.int .i64 0)] []⟩,
 ⟨none, none, .st (.t 6) (.t 15) 7⟩] [6] [6])
 .ret)
 .skip))
 (.seq (.prep [7] (.reg true [⟨some 16, none, .off (.t 4) 0⟩,
 ⟨some 17, none, .ldl 4 (.t 16) 1 false⟩,
 ⟨some 18, none, .off (.t 4) 1⟩,
 ⟨some 19, none, .ldl 4 (.t 18) 1 false⟩,
 ⟨some 20, none, .bin .add (.t 19) (.c (.p (.int .i64 1)))⟩,
 ⟨some 21, none, .mov (.t 0)⟩,
 ⟨some 22, none, .nck (.t 21)⟩,
 ⟨some 23, none, .off (.t 22) 1⟩,
 ⟨some 24, none, .off (.t 23) 0⟩,
 ⟨some 25, none, .off (.t 24) 0⟩,
 ⟨some 26, none, .ld (.t 25) 1 false⟩,
 ⟨some 27, none, .mnmx false (.t 20) (.t 26)⟩,
 ⟨some 28, none, .bld [.p (.int .i64 0), .p (.int .i64 0), .p (.int .i64 0), .p (.int .i64 0), .p (.int .i64 0), .p (.int .i64 0), .p (.int .i64 0)] [(0, 1, (.t 17)), (1, 1, (.t 27))]⟩,
 ⟨some 7, none, .alp [.p (.int .i64 0), .p (.int .i64 0), .p (.int .i64 0), .p (.int .i64 0), .p (.int .i64 0), .p (.int .i64 0), .p (.int .i64 0)]⟩,
 ⟨none, none, .stl 7 (.t 7) (.t 28) 7⟩] [0, 4, 5, 6, 7] [4, 5, 6, 7]))
 (.seq (.seq (.reg false [⟨some 29, none, .off (.t 5) 0⟩,
 ⟨some 30, none, .ld (.t 29) 1 false⟩,
 ⟨some 31, none, .bin .eql (.t 30) (.c (.p (.int .i64 1)))⟩] [0, 4, 5, 6, 7, 31] [4, 5, 6, 7])
 (.cond (.t 31)
 (.reg true [⟨some 32, none, .mov (.t 0)⟩,
 ⟨some 33, none, .nck (.t 32)⟩,
 ⟨some 34, none, .off (.t 33) 0⟩,
 ⟨some 35, none, .ld (.t 34) 1 false⟩,
 ⟨some 36, none, .nck (.t 35)⟩,
 ⟨some 37, none, .off (.t 36) 0⟩,
 ⟨some 38, none, .ld (.t 37) 1 false⟩,
 ⟨some 39, none, .off (.t 5) 2⟩,
 ⟨some 40, none, .ldl 5 (.t 39) 1 false⟩,
 ⟨some 41, none, .call 65 [(.t 38), (.t 40)] false⟩,
 ⟨some 42, none, .off (.t 7) 0⟩,
 ⟨none, none, .stl 7 (.t 42) (.t 41) 1⟩] [0, 4, 5, 6, 7] [4, 5, 6, 7])
 .skip))
 (.seq (.reg true [⟨some 44, none, .mov (.t 0)⟩,
 ⟨some 45, none, .nck (.t 44)⟩,
 ⟨some 46, none, .off (.t 45) 1⟩,
 ⟨some 47, none, .off (.t 46) 20⟩,
 ⟨some 48, none, .ld (.t 47) 1 false⟩,
 ⟨some 49, none, .mov (.t 0)⟩,
 ⟨some 50, none, .ldl 4 (.t 4) 7 true⟩,
 ⟨some 51, none, .off (.t 5) 2⟩,
 ⟨some 52, none, .ldl 5 (.t 51) 1 false⟩,
 ⟨some 53, none, .call 31 [(.t 49), (.t 50), (.t 52)] true⟩,
 ⟨some 54, none, .off (.t 5) 3⟩,
 ⟨some 55, none, .ldl 5 (.t 54) 1 false⟩,
 ⟨some 56, none, .call 66 [(.t 48), (.t 53), (.t 55)] false⟩,
 ⟨some 43, none, .mov (.t 56)⟩,
 ⟨some 57, none, .ext (.t 43) 0⟩,
 ⟨some 58, none, .ext (.t 43) 1⟩,
 ⟨some 59, none, .off (.t 7) 2⟩,
 ⟨none, none, .stl 7 (.t 59) (.t 57) 1⟩,
 ⟨some 60, none, .off (.t 7) 3⟩,
 ⟨none, none, .stl 7 (.t 60) (.t 58) 1⟩] [0, 4, 5, 6, 7] [4, 5, 6, 7])
 (.seq (.reg false [⟨some 61, none, .off (.t 4) 4⟩,
 ⟨some 62, none, .ld (.t 61) 3 true⟩,
 ⟨some 8, none, .al [.p (.int .i64 0), .p (.int .i64 0), .p (.int .i64 0)] true⟩,
 ⟨none, none, .st (.t 8) (.t 62) 3⟩] [0, 5, 6, 7, 8] [5, 6, 7, 8])
 (.seq (.seq (.reg false [⟨some 63, none, .off (.t 5) 4⟩,
 ⟨some 64, none, .ld (.t 63) 1 false⟩,
 ⟨some 65, none, .off (.t 5) 5⟩,
 ⟨some 66, none, .ld (.t 65) 1 false⟩,
 ⟨some 67, none, .bsl 1 2 [.nils] [(0, (.t 64)), (1, (.t 66))]⟩,
 ⟨some 68, none, .len (.t 67)⟩,
 ⟨some 69, none, .mov (.c (.p (.int .i64 0)))⟩] [0, 6, 7, 8, 67, 68, 69] [6, 7, 8])
 (.block 0 lp15_0))
 (.seq (.reg false [⟨some 83, none, .ld (.t 8) 3 true⟩,
 ⟨some 84, none, .off (.t 7) 4⟩,
 ⟨none, none, .st (.t 84) (.t 83) 3⟩] [6, 7] [6, 7])
 (.seq (.reg false [⟨some 85, none, .ld (.t 7) 7 true⟩,
 ⟨none, none, .st (.t 6) (.t 85) 7⟩] [6] [6])
 .ret))))))))),
 [.cell 6 7 true], false⟩
def ir16 : IFn :=   -- (tympan/tympanref25.World).Next
⟨(.seq (.reg false [⟨some 3, none, .bx (.t 0) 22 true⟩,
 ⟨some 4, none, .bx (.t 1) 7 true⟩,
 ⟨some 5, none, .bx (.t 2) 6 true⟩,
 ⟨some 6, none, .al [.p (.int .i64 0), .p (.int .i64 0), .p (.int .i64 0), .p (.int .i64 0), .p (.int .i64 0), .p (.int .i64 0), .p (.int .i64 0)] true⟩] [3, 4, 5, 6] [3, 4, 5, 6])
 (.seq (.seq (.reg false [⟨some 9, none, .ld (.t 3) 22 true⟩,
 ⟨some 10, none, .ld (.t 4) 7 true⟩,
 ⟨some 11, none, .call 69 [(.t 9), (.t 10)] false⟩,
 ⟨some 12, none, .un .not (.t 11)⟩] [3, 4, 5, 6, 12] [3, 4, 5, 6])
 (.cond (.t 12)
 (.seq (.reg false [⟨some 13, none, .bld [.p (.int .i64 0), .p (.int .i64 0), .p (.int .i64 0), .p (.int .i64 0), .p (.int .i64 0), .p (.int .i64 0), .p (.int .i64 0)] []⟩,
 ⟨none, none, .st (.t 6) (.t 13) 7⟩] [6] [6])
 .ret)
 .skip))
 (.seq (.prep [7] (.reg true [⟨some 14, none, .off (.t 3) 0⟩,
 ⟨some 15, none, .off (.t 14) 20⟩,
 ⟨some 16, none, .ldl 3 (.t 15) 1 false⟩,
 ⟨some 17, none, .ldl 3 (.t 3) 22 true⟩,
 ⟨some 18, none, .ldl 4 (.t 4) 7 true⟩,
 ⟨some 19, none, .off (.t 5) 2⟩,
 ⟨some 20, none, .ldl 5 (.t 19) 1 false⟩,
 ⟨some 21, none, .call 71 [(.t 17), (.t 18), (.t 20)] false⟩,
 ⟨some 22, none, .off (.t 5) 3⟩,
 ⟨some 23, none, .ldl 5 (.t 22) 1 false⟩,
 ⟨some 24, none, .call 70 [(.t 16), (.t 21), (.t 23)] false⟩,
 ⟨some 7, none, .alp [.p (.int .i64 0), .p (.int .i64 0)]⟩,
 ⟨none, none, .stl 7 (.t 7) (.t 24) 2⟩] [3, 4, 5, 6, 7] [3, 4, 5, 6, 7]))
 (.seq (.reg false [⟨some 25, none, .off (.t 4) 0⟩,
 ⟨some 26, none, .ld (.t 25) 1 false⟩,
 ⟨some 27, none, .off (.t 4) 1⟩,
 ⟨some 28, none, .ld (.t 27) 1 false⟩,
 ⟨some 29, none, .bin .add (.t 28) (.c (.p (.int .i64 1)))⟩,
 ⟨some 30, none, .off (.t 3) 0⟩,
 ⟨some 31, none, .off (.t 30) 0⟩,
 ⟨some 32, none, .off (.t 31) 0⟩,
 ⟨some 33, none, .ld (.t 32) 1 false⟩,
 ⟨some 34, none, .mnmx false (.t 29) (.t 33)⟩,
 ⟨some 35, none, .ixa (.t 7) (.c (.p (.int .i64 0))) 1 2⟩,
 ⟨some 36, none, .ld (.t 35) 1 false⟩,
 ⟨some 37, none, .ixa (.t 7) (.c (.p (.int .i64 1))) 1 2⟩,
 ⟨some 38, none, .ld (.t 37) 1 false⟩,
 ⟨some 39, none, .bld [.p (.int .i64 0), .p (.int .i64 0), .p (.int .i64 0), .p (.int .i64 0), .p (.int .i64 0), .p (.int .i64 0), .p (.int .i64 0)] [(0, 1, (.t 26)), (1, 1, (.t 34)), (2, 1, (.t 36)), (3, 1, (.t 38))]⟩,
 ⟨some 8, none, .al [.p (.int .i64 0), .p (.int .i64 0), .p (.int .i64 0), .p (.int .i64 0), .p (.int .i64 0), .p (.int .i64 0), .p (.int .i64 0)] true⟩,
 ⟨none, none, .st (.t 8) (.t 39) 7⟩] [3, 4, 5, 6, 8] [3, 4, 5, 6, 8])
 (.seq (.seq (.reg false [⟨some 40, none, .off (.t 5) 0⟩,
 ⟨some 41, none, .ld (.t 40) 1 false⟩,
 ⟨some 42, none, .bin .eql (.t 41) (.c (.p (.int .i64 1)))⟩] [3, 4, 5, 6, 8, 42] [3, 4, 5, 6, 8])
 (.cond (.t 42)
 (.reg false [⟨some 43, none, .off (.t 3) 0⟩,
 ⟨some 44, none, .off (.t 43) 19⟩,
 ⟨some 45, none, .ld (.t 44) 1 false⟩,
 ⟨some 46, none, .off (.t 5) 2⟩,
 ⟨some 47, none, .ld (.t 46) 1 false⟩,
 ⟨some 48, none, .call 72 [(.t 45), (.t 47)] false⟩,
 ⟨some 49, none, .off (.t 8) 0⟩,
 ⟨none, none, .st (.t 49) (.t 48) 1⟩] [3, 4, 5, 6, 8] [3, 4, 5, 6, 8])
 .skip))
 (.seq (.reg true [⟨some 50, none, .off (.t 4) 4⟩,
 ⟨some 51, none, .ldl 4 (.t 50) 3 true⟩,
 ⟨some 52, none, .off (.t 3) 0⟩,
 ⟨some 53, none, .off (.t 52) 21⟩,
 ⟨some 54, none, .ldl 3 (.t 53) 1 false⟩,
 ⟨some 55, none, .off (.t 5) 4⟩,
 ⟨some 56, none, .ldl 5 (.t 55) 1 false⟩,
 ⟨some 57, none, .call 74 [(.t 54), (.t 56)] false⟩,
 ⟨some 58, none, .call 73 [(.t 51), (.t 57)] false⟩,
 ⟨some 59, none, .off (.t 3) 0⟩,
 ⟨some 60, none, .off (.t 59) 21⟩,
 ⟨some 61, none, .ldl 3 (.t 60) 1 false⟩,
 ⟨some 62, none, .off (.t 5) 5⟩,
 ⟨some 63, none, .ldl 5 (.t 62) 1 false⟩,
 ⟨some 64, none, .call 74 [(.t 61), (.t 63)] false⟩,
 ⟨some 65, none, .call 73 [(.t 58), (.t 64)] false⟩,
 ⟨some 66, none, .off (.t 8) 4⟩,
 ⟨none, none, .stl 8 (.t 66) (.t 65) 3⟩] [6, 8] [6, 8])
 (.seq (.reg false [⟨some 67, none, .ld (.t 8) 7 true⟩,
 ⟨none, none, .st (.t 6) (.t 67) 7⟩] [6] [6])
 .ret))))))),
 [.cell 6 7 true], false⟩
def ir19 : IFn :=   -- (*tympan/state.World).Right
⟨(.seq (.reg false [⟨some 3, none, .bx (.t 1) 7 true⟩,
 ⟨some 4, none, .mov (.c (.p (.bool false)))⟩] [0, 3] [3])
 (.seq (.seq (.reg true [⟨some 6, none, .mov (.t 0)⟩,
 ⟨some 7, none, .eqn .ptr false (.t 6)⟩,
 ⟨some 8, none, .mov (.t 7)⟩,
 ⟨some 9, (some (8, false)), .off (.t 3) 0⟩,
 ⟨some 10, (some (8, false)), .ldl 3 (.t 9) 1 false⟩,
 ⟨some 11, (some (8, false)), .bin .lss (.t 10) (.c (.p (.int .i64 0)))⟩,
 ⟨some 12, none, .pick (.t 8) (.c (.p (.bool true))) (.t 11)⟩,
 ⟨some 13, none, .mov (.t 12)⟩,
 ⟨some 14, (some (13, false)), .off (.t 3) 0⟩,
 ⟨some 15, (some (13, false)), .ldl 3 (.t 14) 1 false⟩,
 ⟨some 16, (some (13, false)), .mov (.t 0)⟩,
 ⟨some 17, (some (13, false)), .nck (.t 16)⟩,
 ⟨some 18, (some (13, false)), .off (.t 17) 0⟩,
 ⟨some 19, (some (13, false)), .ld (.t 18) 1 false⟩,
 ⟨some 20, (some (13, false)), .nck (.t 19)⟩,
 ⟨some 21, (some (13, false)), .off (.t 20) 0⟩,
 ⟨some 22, (some (13, false)), .ld (.t 21) 1 false⟩,
 ⟨some 23, (some (13, false)), .call 78 [(.t 22)] false⟩,
 ⟨some 24, (some (13, false)), .bin .gtr (.t 15) (.t 23)⟩,
 ⟨some 25, none, .pick (.t 13) (.c (.p (.bool true))) (.t 24)⟩,
 ⟨some 26, none, .mov (.t 25)⟩,
 ⟨some 27, (some (26, false)), .mov (.t 0)⟩,
 ⟨some 28, (some (26, false)), .nck (.t 27)⟩,
 ⟨some 29, (some (26, false)), .off (.t 28) 0⟩,
 ⟨some 30, (some (26, false)), .ld (.t 29) 1 false⟩,
 ⟨some 31, (some (26, false)), .nck (.t 30)⟩,
 ⟨some 32, (some (26, false)), .off (.t 31) 0⟩,
 ⟨some 33, (some (26, false)), .ld (.t 32) 1 false⟩,
 ⟨some 34, (some (26, false)), .off (.t 3) 0⟩,
 ⟨some 35, (some (26, false)), .ldl 3 (.t 34) 1 false⟩,
 ⟨some 36, (some (26, false)), .call 65 [(.t 33), (.t 35)] false⟩,
 ⟨some 37, (some (26, false)), .off (.t 3) 0⟩,
 ⟨some 38, (some (26, false)), .ldl 3 (.t 37) 1 false⟩,
 ⟨some 39, (some (26, false)), .bin .neq (.t 36) (.t 38)⟩,
 ⟨some 40, none, .pick (.t 26) (.c (.p (.bool true))) (.t 39)⟩,
 ⟨some 41, none, .mov (.t 40)⟩,
 ⟨some 42, (some (41, false)), .off (.t 3) 1⟩,
 ⟨some 43, (some (41, false)), .ldl 3 (.t 42) 1 false⟩,
 ⟨some 44, (some (41, false)), .bin .lss (.t 43) (.c (.p (.int .i64 0)))⟩,
 ⟨some 45, none, .pick (.t 41) (.c (.p (.bool true))) (.t 44)⟩,
 ⟨some 46, none, .mov (.t 45)⟩,
 ⟨some 47, (some (46, false)), .off (.t 3) 1⟩,
 ⟨some 48, (some (46, false)), .ldl 3 (.t 47) 1 false⟩,
 ⟨some 49, (some (46, false)), .mov (.t 0)⟩,
 ⟨some 50, (some (46, false)), .nck (.t 49)⟩,
 ⟨some 51, (some (46, false)), .off (.t 50) 1⟩,
 ⟨some 52, (some (46, false)), .off (.t 51) 0⟩,
 ⟨some 53, (some (46, false)), .off (.t 52) 0⟩,
 ⟨some 54, (some (46, false)), .ld (.t 53) 1 false⟩,
 ⟨some 55, (some (46, false)), .bin .gtr (.t 48) (.t 54)⟩,
 ⟨some 56, none, .pick (.t 46) (.c (.p (.bool true))) (.t 55)⟩] [0, 3, 56] [3])
 (.cond (.t 56)
 (.seq (.reg false [⟨some 4, none, .mov (.c (.p (.bool false)))⟩] [4] [])
 .ret)
 .skip))
 (.seq (.reg false [⟨some 57, none, .off (.t 3) 4⟩,
 ⟨some 58, none, .ld (.t 57) 3 true⟩,
 ⟨some 5, none, .al [.p (.int .i64 0), .p (.int .i64 0), .p (.int .i64 0)] true⟩,
 ⟨none, none, .st (.t 5) (.t 58) 3⟩] [0, 3, 5] [3, 5])
 (.seq (.reg true [⟨some 59, none, .mov (.t 0)⟩,
 ⟨some 60, none, .ldl 3 (.t 3) 7 true⟩,
 ⟨some 61, none, .call 79 [(.t 59), (.t 60)] false⟩,
 ⟨some 62, none, .mov (.t 61)⟩,
 ⟨some 63, (some (62, true)), .bld [.p (.int .i64 0), .p (.int .i64 0), .p (.int .i64 0)] []⟩,
 ⟨some 64, (some (62, true)), .ldl 5 (.t 5) 3 true⟩,
 ⟨some 65, (some (62, true)), .call 80 [(.t 63), (.t 64)] false⟩,
 ⟨some 66, none, .pick (.t 62) (.t 65) (.c (.p (.bool false)))⟩,
 ⟨some 67, none, .mov (.t 66)⟩,
 ⟨some 68, (some (67, true)), .ldl 5 (.t 5) 3 true⟩,
 ⟨some 69, (some (67, true)), .mov (.t 0)⟩,
 ⟨some 70, (some (67, true)), .nck (.t 69)⟩,
 ⟨some 71, (some (67, true)), .off (.t 70) 0⟩,
 ⟨some 72, (some (67, true)), .ld (.t 71) 1 false⟩,
 ⟨some 73, (some (67, true)), .nck (.t 72)⟩,
 ⟨some 74, (some (67, true)), .off (.t 73) 2⟩,
 ⟨some 75, (some (67, true)), .ld (.t 74) 1 false⟩,
 ⟨some 76, (some (67, true)), .off (.t 3) 0⟩,
 ⟨some 77, (some (67, true)), .ldl 3 (.t 76) 1 false⟩,
 ⟨some 78, (some (67, true)), .call 62 [(.t 75), (.t 77)] false⟩,
 ⟨some 79, (some (67, true)), .call 80 [(.t 68), (.t 78)] false⟩,
 ⟨some 80, none, .pick (.t 67) (.t 79) (.c (.p (.bool false)))⟩,
 ⟨some 4, none, .mov (.t 80)⟩] [4] [])
 .ret)))),
 [.tmp 4], false⟩
def ir20 : IFn :=   -- (*tympan/state.World).Done
⟨(.seq (.reg false [⟨some 3, none, .bx (.t 1) 7 true⟩,
 ⟨some 4, none, .mov (.c (.p (.bool false)))⟩] [0, 3] [3])
 (.seq (.reg true [⟨some 5, none, .mov (.t 0)⟩,
 ⟨some 6, none, .ldl 3 (.t 3) 7 true⟩,
 ⟨some 7, none, .call 19 [(.t 5), (.t 6)] false⟩,
 ⟨some 8, none, .mov (.t 7)⟩,
 ⟨some 9, (some (8, true)), .off (.t 3) 0⟩,
 ⟨some 10, (some (8, true)), .ldl 3 (.t 9) 1 false⟩,
 ⟨some 11, (some (8, true)), .mov (.t 0)⟩,
 ⟨some 12, (some (8, true)), .nck (.t 11)⟩,
 ⟨some 13, (some (8, true)), .off (.t 12) 0⟩,
 ⟨some 14, (some (8, true)), .ld (.t 13) 1 false⟩,
 ⟨some 15, (some (8, true)), .nck (.t 14)⟩,
 ⟨some 16, (some (8, true)), .off (.t 15) 0⟩,
 ⟨some 17, (some (8, true)), .ld (.t 16) 1 false⟩,
 ⟨some 18, (some (8, true)), .call 78 [(.t 17)] false⟩,
 ⟨some 19, (some (8, true)), .bin .eql (.t 10) (.t 18)⟩,
 ⟨some 20, none, .pick (.t 8) (.t 19) (.c (.p (.bool false)))⟩,
 ⟨some 21, none, .mov (.t 20)⟩,
 ⟨some 22, (some (21, true)), .off (.t 3) 3⟩,
 ⟨some 23, (some (21, true)), .ldl 3 (.t 22) 1 false⟩,
 ⟨some 24, (some (21, true)), .bin .eql (.t 23) (.c (.p (.int .i64 0)))⟩,
 ⟨some 25, none, .pick (.t 21) (.t 24) (.c (.p (.bool false)))⟩,
 ⟨some 26, none, .mov (.t 25)⟩,
 ⟨some 27, (some (26, true)), .off (.t 3) 2⟩,
 ⟨some 28, (some (26, true)), .ldl 3 (.t 27) 1 false⟩,
 ⟨some 29, (some (26, true)), .mov (.t 0)⟩,
 ⟨some 30, (some (26, true)), .nck (.t 29)⟩,
 ⟨some 31, (some (26, true)), .off (.t 30) 1⟩,
 ⟨some 32, (some (26, true)), .off (.t 31) 20⟩,
 ⟨some 33, (some (26, true)), .ld (.t 32) 1 false⟩,
 ⟨some 34, (some (26, true)), .len (.t 33)⟩,
 ⟨some 35, (some (26, true)), .bin .eql (.t 28) (.t 34)⟩,
 ⟨some 36, none, .pick (.t 26) (.t 35) (.c (.p (.bool false)))⟩,
 ⟨some 37, none, .mov (.t 36)⟩,
 ⟨some 38, (some (37, true)), .off (.t 3) 4⟩,
 ⟨some 39, (some (37, true)), .ldl 3 (.t 38) 3 true⟩,
 ⟨some 40, (some (37, true)), .mov (.t 0)⟩,
 ⟨some 41, (some (37, true)), .nck (.t 40)⟩,
 ⟨some 42, (some (37, true)), .off (.t 41) 24⟩,
 ⟨some 43, (some (37, true)), .ld (.t 42) 3 true⟩,
 ⟨some 44, (some (37, true)), .eqa false [true, true, true] (.t 39) (.t 43)⟩,
 ⟨some 45, none, .pick (.t 37) (.t 44) (.c (.p (.bool false)))⟩,
 ⟨some 4, none, .mov (.t 45)⟩] [4] [])
 .ret)),
 [.tmp 4], false⟩
def ir21 : IFn :=   -- (*tympan/state.World).Flushed
⟨(.seq (.reg false [⟨some 3, none, .bx (.t 1) 7 true⟩,
 ⟨some 4, none, .mov (.c (.p (.bool false)))⟩] [0, 3] [3])
 (.seq (.reg true [⟨some 5, none, .mov (.t 0)⟩,
 ⟨some 6, none, .ldl 3 (.t 3) 7 true⟩,
 ⟨some 7, none, .call 19 [(.t 5), (.t 6)] false⟩,
 ⟨some 8, none, .mov (.t 7)⟩,
 ⟨some 9, (some (8, true)), .mov (.t 0)⟩,
 ⟨some 10, (some (8, true)), .nck (.t 9)⟩,
 ⟨some 11, (some (8, true)), .off (.t 10) 0⟩,
 ⟨some 12, (some (8, true)), .ld (.t 11) 1 false⟩,
 ⟨some 13, (some (8, true)), .nck (.t 12)⟩,
 ⟨some 14, (some (8, true)), .off (.t 13) 2⟩,
 ⟨some 15, (some (8, true)), .ld (.t 14) 1 false⟩,
 ⟨some 16, (some (8, true)), .off (.t 3) 0⟩,
 ⟨some 17, (some (8, true)), .ldl 3 (.t 16) 1 false⟩,
 ⟨some 18, (some (8, true)), .call 81 [(.t 15), (.t 17)] false⟩,
 ⟨some 19, (some (8, true)), .off (.t 3) 4⟩,
 ⟨some 20, (some (8, true)), .ldl 3 (.t 19) 3 true⟩,
 ⟨some 21, (some (8, true)), .call 80 [(.t 18), (.t 20)] false⟩,
 ⟨some 22, none, .pick (.t 8) (.t 21) (.c (.p (.bool false)))⟩,
 ⟨some 4, none, .mov (.t 22)⟩] [4] [])
 .ret)),
 [.tmp 4], false⟩
def ir22 : IFn :=   -- (*tympan/state.World).High
⟨(.seq (.reg false [⟨some 3, none, .bx (.t 1) 7 true⟩,
 ⟨some 4, none, .mov (.c (.p (.int .i64 0)))⟩] [0, 3] [3])
 (.seq (.block 0 (.seq (.reg false [⟨some 6, none, .mov (.t 0)⟩,
 ⟨some 7, none, .ld (.t 3) 7 true⟩,
 ⟨some 8, none, .call 19 [(.t 6), (.t 7)] false⟩,
 ⟨some 9, none, .un .not (.t 8)⟩,
 ⟨some 5, none, .mov (.t 9)⟩] [0, 3, 5] [3])
 (.cond (.t 5)
 (.seq (.reg false [⟨some 4, none, .mov (.c (.p (.int .i64 0)))⟩] [4] [])
 .ret)
 (.seq (.reg true [⟨some 11, none, .off (.t 3) 1⟩,
 ⟨some 12, none, .ldl 3 (.t 11) 1 false⟩,
 ⟨some 13, none, .mov (.t 0)⟩,
 ⟨some 14, none, .nck (.t 13)⟩,
 ⟨some 15, none, .off (.t 14) 1⟩,
 ⟨some 16, none, .off (.t 15) 0⟩,
 ⟨some 17, none, .off (.t 16) 0⟩,
 ⟨some 18, none, .ld (.t 17) 1 false⟩,
 ⟨some 19, none, .bin .lss (.t 12) (.t 18)⟩,
 ⟨some 10, none, .mov (.t 19)⟩] [0, 10] [])
 (.cond (.t 10)
 (.seq (.reg false [⟨some 20, none, .mov (.t 0)⟩,
 ⟨some 21, none, .nck (.t 20)⟩,
 ⟨some 22, none, .off (.t 21) 1⟩,
 ⟨some 23, none, .off (.t 22) 0⟩,
 ⟨some 24, none, .off (.t 23) 4⟩,
 ⟨some 25, none, .ld (.t 24) 1 false⟩,
 ⟨some 4, none, .mov (.t 25)⟩] [4] [])
 .ret)
 .skip)))))
 (.seq (.reg false [⟨some 26, none, .mov (.t 0)⟩,
 ⟨some 27, none, .nck (.t 26)⟩,
 ⟨some 28, none, .off (.t 27) 1⟩,
 ⟨some 29, none, .off (.t 28) 0⟩,
 ⟨some 30, none, .off (.t 29) 3⟩,
 ⟨some 31, none, .ld (.t 30) 1 false⟩,
 ⟨some 4, none, .mov (.t 31)⟩] [4] [])
 .ret))),
 [.tmp 4], false⟩
def ir23 : IFn :=   -- (*tympan/state.World).Start
⟨(.seq (.reg false [⟨some 2, none, .al [.p (.int .i64 0), .p (.int .i64 0), .p (.int .i64 0), .p (.int .i64 0), .p (.int .i64 0), .p (.int .i64 0), .p (.int .i64 0)] true⟩] [0, 2] [2])
 (.seq (.reg false [⟨some 3, none, .mov (.t 0)⟩,
 ⟨some 4, none, .call 26 [(.t 3)] false⟩,
 ⟨some 5, none, .call 65 [(.t 4), (.c (.p (.int .i64 0)))] false⟩,
 ⟨some 6, none, .bld [.p (.int .i64 0), .p (.int .i64 0), .p (.int .i64 0), .p (.int .i64 0), .p (.int .i64 0), .p (.int .i64 0), .p (.int .i64 0)] [(0, 1, (.t 5))]⟩,
 ⟨none, none, .st (.t 2) (.t 6) 7⟩] [2] [2])
 .ret)),
 [.cell 2 7 true], false⟩
def ir24 : IFn :=   -- (*tympan/state.World).Measure
⟨(.seq (.reg false [⟨some 3, none, .bx (.t 1) 7 true⟩,
 ⟨some 4, none, .mov (.c (.p (.int .i64 0)))⟩] [0, 3] [3])
 (.seq (.seq (.reg false [⟨some 5, none, .mov (.t 0)⟩,
 ⟨some 6, none, .ld (.t 3) 7 true⟩,
 ⟨some 7, none, .call 19 [(.t 5), (.t 6)] false⟩,
 ⟨some 8, none, .un .not (.t 7)⟩] [0, 3, 8] [3])
 (.cond (.t 8)
 (.seq (.reg false [⟨some 4, none, .mov (.c (.p (.int .i64 0)))⟩] [4] [])
 .ret)
 .skip))
 (.seq (.reg true [⟨some 9, none, .off (.t 3) 0⟩,
 ⟨some 10, none, .ldl 3 (.t 9) 1 false⟩,
 ⟨some 11, none, .mov (.t 0)⟩,
 ⟨some 12, none, .nck (.t 11)⟩,
 ⟨some 13, none, .off (.t 12) 23⟩,
 ⟨some 14, none, .ld (.t 13) 1 false⟩,
 ⟨some 15, none, .off (.t 3) 2⟩,
 ⟨some 16, none, .ldl 3 (.t 15) 1 false⟩,
 ⟨some 17, none, .ixs (.t 14) (.t 16) 1⟩,
 ⟨some 18, none, .ld (.t 17) 1 false⟩,
 ⟨some 19, none, .bin .add (.t 10) (.t 18)⟩,
 ⟨some 20, none, .off (.t 3) 3⟩,
 ⟨some 21, none, .ldl 3 (.t 20) 1 false⟩,
 ⟨some 22, none, .bin .add (.t 19) (.t 21)⟩,
 ⟨some 23, none, .off (.t 3) 4⟩,
 ⟨some 24, none, .ldl 3 (.t 23) 3 true⟩,
 ⟨some 25, none, .call 82 [(.t 24)] true⟩,
 ⟨some 26, none, .bin .add (.t 22) (.t 25)⟩,
 ⟨some 4, none, .mov (.t 26)⟩] [4] [])
 .ret))),
 [.tmp 4], false⟩
def ir25 : IFn :=   -- (*tympan/state.World).Waits
⟨(.seq (.reg false [⟨some 3, none, .bx (.t 1) 7 true⟩,
 ⟨some 4, none, .al [.p (.int .i64 0), .p (.int .i64 0), .p (.int .i64 0)] true⟩] [0, 3, 4] [3, 4])
 (.seq (.seq (.reg false [⟨some 5, none, .mov (.t 0)⟩,
 ⟨some 6, none, .ld (.t 3) 7 true⟩,
 ⟨some 7, none, .call 19 [(.t 5), (.t 6)] false⟩,
 ⟨some 8, none, .un .not (.t 7)⟩] [0, 3, 4, 8] [3, 4])
 (.cond (.t 8)
 (.seq (.reg false [⟨some 9, none, .bld [.p (.int .i64 0), .p (.int .i64 0), .p (.int .i64 0)] []⟩,
 ⟨none, none, .st (.t 4) (.t 9) 3⟩] [4] [4])
 .ret)
 .skip))
 (.seq (.reg true [⟨some 10, none, .off (.t 3) 4⟩,
 ⟨some 11, none, .ldl 3 (.t 10) 3 true⟩,
 ⟨some 12, none, .mov (.t 0)⟩,
 ⟨some 13, none, .nck (.t 12)⟩,
 ⟨some 14, none, .off (.t 13) 0⟩,
 ⟨some 15, none, .ld (.t 14) 1 false⟩,
 ⟨some 16, none, .nck (.t 15)⟩,
 ⟨some 17, none, .off (.t 16) 2⟩,
 ⟨some 18, none, .ld (.t 17) 1 false⟩,
 ⟨some 19, none, .off (.t 3) 0⟩,
 ⟨some 20, none, .ldl 3 (.t 19) 1 false⟩,
 ⟨some 21, none, .call 62 [(.t 18), (.t 20)] false⟩,
 ⟨some 22, none, .call 83 [(.t 11), (.t 21)] false⟩,
 ⟨none, none, .stl 4 (.t 4) (.t 22) 3⟩] [4] [4])
 .ret))),
 [.cell 4 3 true], false⟩
def ir26 : IFn :=   -- (*tympan/state.World).List
⟨(.seq (.reg false [⟨some 2, none, .mov (.c (.p .nilp))⟩] [0] [])
 (.seq (.reg false [⟨some 3, none, .mov (.t 0)⟩,
 ⟨some 4, none, .call 84 [(.t 3)] false⟩,
 ⟨some 5, none, .call 85 [(.t 4)] false⟩,
 ⟨some 2, none, .mov (.t 5)⟩] [2] [])
 .ret)),
 [.tmp 2], false⟩
def ir27 : IFn :=   -- (*tympan/state.World).Sums
⟨(.seq (.reg false [⟨some 2, none, .mov (.c (.p .nilp))⟩] [0] [])
 (.seq (.reg false [⟨some 3, none, .mov (.t 0)⟩,
 ⟨some 4, none, .call 84 [(.t 3)] false⟩,
 ⟨some 5, none, .call 86 [(.t 4)] false⟩,
 ⟨some 2, none, .mov (.t 5)⟩] [2] [])
 .ret)),
 [.tmp 2], false⟩
def ir28 : IFn :=   -- (*tympan/state.World).Map
⟨(.seq (.reg false [⟨some 2, none, .mov (.c (.p .nilp))⟩] [0] [])
 (.seq (.reg false [⟨some 3, none, .mov (.t 0)⟩,
 ⟨some 4, none, .call 84 [(.t 3)] false⟩,
 ⟨some 5, none, .call 87 [(.t 4)] false⟩,
 ⟨some 2, none, .mov (.t 5)⟩] [2] [])
 .ret)),
 [.tmp 2], false⟩
def ir29 : IFn :=   -- (*tympan/state.World).Job
⟨(.seq (.reg false [⟨some 2, none, .al [.p (.int .i64 0), .p (.int .i64 0), .p (.int .i64 0), .p (.int .i64 0), .p (.int .i64 0), .p (.int .i64 0), .p (.int .i64 0), .p (.int .i64 0), .p (.int .i64 0), .p (.int .i64 0), .p (.int .i64 0), .p (.int .i64 0), .p (.int .i64 0), .p (.int .i64 0), .p (.int .i64 0), .p (.int .i64 0), .p (.int .i64 0), .p (.int .i64 0), .p (.bool false), .nils, .nils, .nils] true⟩] [0, 2] [2])
 (.seq (.seq (.reg false [⟨some 3, none, .mov (.t 0)⟩,
 ⟨some 4, none, .eqn .ptr false (.t 3)⟩] [0, 2, 4] [2])
 (.cond (.t 4)
 (.seq (.reg false [⟨some 5, none, .bld [.p (.int .i64 0), .p (.int .i64 0), .p (.int .i64 0), .p (.int .i64 0), .p (.int .i64 0), .p (.int .i64 0), .p (.int .i64 0), .p (.int .i64 0), .p (.int .i64 0), .p (.int .i64 0), .p (.int .i64 0), .p (.int .i64 0), .p (.int .i64 0), .p (.int .i64 0), .p (.int .i64 0), .p (.int .i64 0), .p (.int .i64 0), .p (.int .i64 0), .p (.bool false), .nils, .nils, .nils] []⟩,
 ⟨none, none, .st (.t 2) (.t 5) 22⟩] [2] [2])
 .ret)
 .skip))
 (.seq (.reg false [⟨some 6, none, .mov (.t 0)⟩,
 ⟨some 7, none, .nck (.t 6)⟩,
 ⟨some 8, none, .off (.t 7) 1⟩,
 ⟨some 9, none, .ld (.t 8) 22 true⟩,
 ⟨some 10, none, .call 57 [(.t 9)] false⟩,
 ⟨none, none, .st (.t 2) (.t 10) 22⟩] [2] [2])
 .ret))),
 [.cell 2 22 true], false⟩
def ir30 : IFn :=   -- (*tympan/state.World).Plain
⟨(.seq (.reg false [⟨some 2, none, .al [.p (.int .i64 0), .p (.int .i64 0), .p (.int .i64 0), .p (.int .i64 0), .p (.int .i64 0), .p (.int .i64 0), .p (.int .i64 0), .p (.int .i64 0), .p (.int .i64 0), .p (.int .i64 0), .p (.int .i64 0), .p (.int .i64 0), .p (.int .i64 0), .p (.int .i64 0), .p (.int .i64 0), .p (.int .i64 0), .p (.int .i64 0), .p (.int .i64 0), .p (.bool false), .nils, .nils, .nils] true⟩] [0, 2] [2])
 (.seq (.seq (.reg false [⟨some 3, none, .mov (.t 0)⟩,
 ⟨some 4, none, .eqn .ptr false (.t 3)⟩] [0, 2, 4] [2])
 (.cond (.t 4)
 (.seq (.reg false [⟨some 5, none, .bld [.p (.int .i64 0), .p (.int .i64 0), .p (.int .i64 0), .p (.int .i64 0), .p (.int .i64 0), .p (.int .i64 0), .p (.int .i64 0), .p (.int .i64 0), .p (.int .i64 0), .p (.int .i64 0), .p (.int .i64 0), .p (.int .i64 0), .p (.int .i64 0), .p (.int .i64 0), .p (.int .i64 0), .p (.int .i64 0), .p (.int .i64 0), .p (.int .i64 0), .p (.bool false), .nils, .nils, .nils] []⟩,
 ⟨none, none, .st (.t 2) (.t 5) 22⟩] [2] [2])
 .ret)
 .skip))
 (.seq (.reg false [⟨some 6, none, .mov (.t 0)⟩,
 ⟨some 7, none, .nck (.t 6)⟩,
 ⟨some 8, none, .off (.t 7) 1⟩,
 ⟨some 9, none, .ld (.t 8) 22 true⟩,
 ⟨none, none, .st (.t 2) (.t 9) 22⟩] [2] [2])
 .ret))),
 [.cell 2 22 true], false⟩
def ir31 : IFn :=   -- (*tympan/state.World).Spot
⟨(.seq (.reg false [⟨some 4, none, .bx (.t 1) 7 true⟩,
 ⟨some 6, none, .al [.p (.int .i64 0), .p (.int .i64 0), .p (.int .i64 0), .p (.bool false)] true⟩] [0, 2, 4, 6] [4, 6])
 (.seq (.seq (.reg false [⟨some 8, none, .mov (.t 0)⟩,
 ⟨some 9, none, .ld (.t 4) 7 true⟩,
 ⟨some 10, none, .call 19 [(.t 8), (.t 9)] false⟩,
 ⟨some 11, none, .un .not (.t 10)⟩] [0, 2, 4, 6, 11] [4, 6])
 (.cond (.t 11)
 (.seq (.reg false [⟨some 12, none, .bld [.p (.int .i64 0), .p (.int .i64 0), .p (.int .i64 0), .p (.bool false)] []⟩,
 ⟨none, none, .st (.t 6) (.t 12) 4⟩] [6] [6])
 .ret)
 .skip))
 (.seq (.reg false [⟨some 13, none, .mov (.t 0)⟩,
 ⟨some 14, none, .nck (.t 13)⟩,
 ⟨some 15, none, .off (.t 14) 0⟩,
 ⟨some 16, none, .ld (.t 15) 1 false⟩,
 ⟨some 17, none, .nck (.t 16)⟩,
 ⟨some 18, none, .off (.t 17) 2⟩,
 ⟨some 19, none, .ld (.t 18) 1 false⟩,
 ⟨some 20, none, .mov (.t 2)⟩,
 ⟨some 21, none, .call 88 [(.t 19), (.t 20)] false⟩,
 ⟨some 7, none, .mov (.t 21)⟩] [0, 4, 6, 7] [4, 6])
 (.seq (.reg true [⟨some 22, none, .off (.t 4) 2⟩,
 ⟨some 23, none, .ldl 4 (.t 22) 1 false⟩,
 ⟨some 24, none, .off (.t 4) 3⟩,
 ⟨some 25, none, .ldl 4 (.t 24) 1 false⟩,
 ⟨some 26, none, .mov (.t 7)⟩,
 ⟨some 27, none, .mov (.t 7)⟩,
 ⟨some 28, none, .mov (.t 0)⟩,
 ⟨some 29, none, .nck (.t 28)⟩,
 ⟨some 30, none, .off (.t 29) 0⟩,
 ⟨some 31, none, .ld (.t 30) 1 false⟩,
 ⟨some 32, none, .nck (.t 31)⟩,
 ⟨some 33, none, .off (.t 32) 2⟩,
 ⟨some 34, none, .ld (.t 33) 1 false⟩,
 ⟨some 35, none, .off (.t 4) 0⟩,
 ⟨some 36, none, .ldl 4 (.t 35) 1 false⟩,
 ⟨some 37, none, .call 88 [(.t 34), (.t 36)] false⟩,
 ⟨some 38, none, .bin .gtr (.t 27) (.t 37)⟩,
 ⟨some 39, none, .bld [.p (.int .i64 0), .p (.int .i64 0), .p (.int .i64 0), .p (.bool false)] [(0, 1, (.t 23)), (1, 1, (.t 25)), (2, 1, (.t 26)), (3, 1, (.t 38))]⟩,
 ⟨none, none, .stl 6 (.t 6) (.t 39) 4⟩] [6] [6])
 .ret)))),
 [.cell 6 4 true], false⟩
def lp32_0 : IC :=
 (.loop [1, 2, 4] [1, 2] (.seq (.seq (.reg false [⟨some 33, none, .mov (.t 4)⟩,
 ⟨some 34, none, .off (.t 1) 19⟩,
 ⟨some 35, none, .ld (.t 34) 1 false⟩,
 ⟨some 36, none, .len (.t 35)⟩,
 ⟨some 37, none, .bin .lss (.t 33) (.t 36)⟩] [1, 2, 4, 37] [1, 2])
 (.cond (.t 37)
 .skip
 (.exit 0)))
 (.seq (.block 1 (.seq (.reg false [⟨some 40, none, .off (.t 1) 19⟩,
 ⟨some 41, none, .ld (.t 40) 1 false⟩,
 ⟨some 42, none, .mov (.t 4)⟩,
 ⟨some 43, none, .ixs (.t 41) (.t 42) 7⟩,
 ⟨some 44, none, .ld (.t 43) 7 true⟩,
 ⟨some 45, none, .call 90 [(.t 44)] false⟩,
 ⟨some 46, none, .un .not (.t 45)⟩] [1, 2, 4, 46] [1, 2])
 (.cond (.t 46)
 (.seq (.reg false [⟨some 47, none, .mov (.t 4)⟩,
 ⟨some 48, none, .bld [.p (.int .i64 0), .p (.int .i64 0)] [(0, 1, (.c (.p (.int .i64 8)))), (1, 1, (.t 47))]⟩,
 ⟨none, none, .st (.t 2) (.t 48) 2⟩] [2] [2])
 .ret)
 .skip)))
 (.reg false [⟨some 38, none, .mov (.t 4)⟩,
 ⟨some 39, none, .bin .add (.t 38) (.c (.p (.int .i64 1)))⟩,
 ⟨some 4, none, .mov (.t 39)⟩] [1, 2, 4] [1, 2]))))
def lp32_1 : IC :=
 (.loop [1, 2, 5] [1, 2] (.seq (.seq (.reg false [⟨some 49, none, .mov (.t 5)⟩,
 ⟨some 50, none, .off (.t 1) 20⟩,
 ⟨some 51, none, .ld (.t 50) 1 false⟩,
 ⟨some 52, none, .len (.t 51)⟩,
 ⟨some 53, none, .bin .lss (.t 49) (.t 52)⟩] [1, 2, 5, 53] [1, 2])
 (.cond (.t 53)
 .skip
 (.exit 2)))
 (.seq (.block 3 (.seq (.reg false [⟨some 56, none, .off (.t 1) 20⟩,
 ⟨some 57, none, .ld (.t 56) 1 false⟩,
 ⟨some 58, none, .mov (.t 5)⟩,
 ⟨some 59, none, .ixs (.t 57) (.t 58) 2⟩,
 ⟨some 60, none, .ld (.t 59) 2 true⟩,
 ⟨some 61, none, .call 91 [(.t 60)] false⟩,
 ⟨some 62, none, .un .not (.t 61)⟩] [1, 2, 5, 62] [1, 2])
 (.cond (.t 62)
 (.seq (.reg false [⟨some 63, none, .mov (.t 5)⟩,
 ⟨some 64, none, .bld [.p (.int .i64 0), .p (.int .i64 0)] [(0, 1, (.c (.p (.int .i64 9)))), (1, 1, (.t 63))]⟩,
 ⟨none, none, .st (.t 2) (.t 64) 2⟩] [2] [2])
 .ret)
 .skip)))
 (.reg false [⟨some 54, none, .mov (.t 5)⟩,
 ⟨some 55, none, .bin .add (.t 54) (.c (.p (.int .i64 1)))⟩,
 ⟨some 5, none, .mov (.t 55)⟩] [1, 2, 5] [1, 2]))))
def lp32_2 : IC :=
 (.loop [1, 2, 6] [1, 2] (.seq (.seq (.reg false [⟨some 65, none, .mov (.t 6)⟩,
 ⟨some 66, none, .off (.t 1) 21⟩,
 ⟨some 67, none, .ld (.t 66) 1 false⟩,
 ⟨some 68, none, .len (.t 67)⟩,
 ⟨some 69, none, .bin .lss (.t 65) (.t 68)⟩] [1, 2, 6, 69] [1, 2])
 (.cond (.t 69)
 .skip
 (.exit 4)))
 (.seq (.block 5 (.seq (.reg false [⟨some 72, none, .off (.t 1) 21⟩,
 ⟨some 73, none, .ld (.t 72) 1 false⟩,
 ⟨some 74, none, .mov (.t 6)⟩,
 ⟨some 75, none, .ixs (.t 73) (.t 74) 3⟩,
 ⟨some 76, none, .ld (.t 75) 3 true⟩,
 ⟨some 77, none, .call 92 [(.t 76)] false⟩,
 ⟨some 78, none, .un .not (.t 77)⟩] [1, 2, 6, 78] [1, 2])
 (.cond (.t 78)
 (.seq (.reg false [⟨some 79, none, .mov (.t 6)⟩,
 ⟨some 80, none, .bld [.p (.int .i64 0), .p (.int .i64 0)] [(0, 1, (.c (.p (.int .i64 10)))), (1, 1, (.t 79))]⟩,
 ⟨none, none, .st (.t 2) (.t 80) 2⟩] [2] [2])
 .ret)
 .skip)))
 (.reg false [⟨some 70, none, .mov (.t 6)⟩,
 ⟨some 71, none, .bin .add (.t 70) (.c (.p (.int .i64 1)))⟩,
 ⟨some 6, none, .mov (.t 71)⟩] [1, 2, 6] [1, 2]))))
def lp32_3 : IC :=
 (.loop [2, 9, 10] [2, 9] (.seq (.seq (.reg false [⟨some 112, none, .mov (.t 10)⟩,
 ⟨some 113, none, .off (.t 9) 21⟩,
 ⟨some 114, none, .ld (.t 113) 1 false⟩,
 ⟨some 115, none, .len (.t 114)⟩,
 ⟨some 116, none, .bin .lss (.t 112) (.t 115)⟩] [2, 9, 10, 116] [2, 9])
 (.cond (.t 116)
 .skip
 (.exit 6)))
 (.seq (.block 7 (.seq (.reg true [⟨some 119, none, .off (.t 9) 21⟩,
 ⟨some 120, none, .ldl 9 (.t 119) 1 false⟩,
 ⟨some 121, none, .mov (.t 10)⟩,
 ⟨some 122, none, .ixs (.t 120) (.t 121) 3⟩,
 ⟨some 123, none, .off (.t 122) 1⟩,
 ⟨some 124, none, .ld (.t 123) 1 false⟩,
 ⟨some 125, none, .off (.t 9) 0⟩,
 ⟨some 126, none, .off (.t 125) 4⟩,
 ⟨some 127, none, .ldl 9 (.t 126) 1 false⟩,
 ⟨some 128, none, .bin .gtr (.t 124) (.t 127)⟩] [2, 9, 10, 128] [2, 9])
 (.cond (.t 128)
 (.seq (.reg false [⟨some 129, none, .mov (.t 10)⟩,
 ⟨some 130, none, .bld [.p (.int .i64 0), .p (.int .i64 0)] [(0, 1, (.c (.p (.int .i64 12)))), (1, 1, (.t 129))]⟩,
 ⟨none, none, .st (.t 2) (.t 130) 2⟩] [2] [2])
 .ret)
 .skip)))
 (.reg false [⟨some 117, none, .mov (.t 10)⟩,
 ⟨some 118, none, .bin .add (.t 117) (.c (.p (.int .i64 1)))⟩,
 ⟨some 10, none, .mov (.t 118)⟩] [2, 9, 10] [2, 9]))))
def ir32 : IFn :=   -- tympan/tympanref15.Check
⟨(.seq (.reg false [⟨some 1, none, .bx (.t 0) 22 true⟩,
 ⟨some 2, none, .al [.p (.int .i64 0), .p (.int .i64 0)] true⟩] [1, 2] [1, 2])
 (.seq (.seq (.reg false [⟨some 11, none, .off (.t 1) 19⟩,
 ⟨some 12, none, .ld (.t 11) 1 false⟩,
 ⟨some 13, none, .len (.t 12)⟩,
 ⟨some 14, none, .bin .gtr (.t 13) (.c (.p (.int .i64 4096)))⟩] [1, 2, 14] [1, 2])
 (.cond (.t 14)
 (.seq (.reg false [⟨some 15, none, .bld [.p (.int .i64 0), .p (.int .i64 0)] [(0, 1, (.c (.p (.int .i64 3))))]⟩,
 ⟨none, none, .st (.t 2) (.t 15) 2⟩] [2] [2])
 .ret)
 .skip))
 (.seq (.seq (.reg false [⟨some 16, none, .off (.t 1) 21⟩,
 ⟨some 17, none, .ld (.t 16) 1 false⟩,
 ⟨some 18, none, .len (.t 17)⟩,
 ⟨some 19, none, .bin .gtr (.t 18) (.c (.p (.int .i64 256)))⟩] [1, 2, 19] [1, 2])
 (.cond (.t 19)
 (.seq (.reg false [⟨some 20, none, .bld [.p (.int .i64 0), .p (.int .i64 0)] [(0, 1, (.c (.p (.int .i64 4))))]⟩,
 ⟨none, none, .st (.t 2) (.t 20) 2⟩] [2] [2])
 .ret)
 .skip))
 (.seq (.seq (.reg false [⟨some 21, none, .off (.t 1) 20⟩,
 ⟨some 22, none, .ld (.t 21) 1 false⟩,
 ⟨some 23, none, .len (.t 22)⟩,
 ⟨some 24, none, .bin .gtr (.t 23) (.c (.p (.int .i64 512)))⟩] [1, 2, 24] [1, 2])
 (.cond (.t 24)
 (.seq (.reg false [⟨some 25, none, .bld [.p (.int .i64 0), .p (.int .i64 0)] [(0, 1, (.c (.p (.int .i64 5))))]⟩,
 ⟨none, none, .st (.t 2) (.t 25) 2⟩] [2] [2])
 .ret)
 .skip))
 (.seq (.seq (.reg false [⟨some 26, none, .off (.t 1) 0⟩,
 ⟨some 27, none, .ld (.t 26) 19 true⟩,
 ⟨some 28, none, .call 89 [(.t 27)] false⟩,
 ⟨some 3, none, .mov (.t 28)⟩] [1, 2, 3] [1, 2])
 (.seq (.reg false [⟨some 29, none, .mov (.t 3)⟩,
 ⟨some 30, none, .bin .neq (.t 29) (.c (.p (.int .i64 0)))⟩] [1, 2, 3, 30] [1, 2])
 (.cond (.t 30)
 (.seq (.reg false [⟨some 31, none, .mov (.t 3)⟩,
 ⟨some 32, none, .bld [.p (.int .i64 0), .p (.int .i64 0)] [(0, 1, (.t 31))]⟩,
 ⟨none, none, .st (.t 2) (.t 32) 2⟩] [2] [2])
 .ret)
 .skip)))
 (.seq (.seq (.reg false [⟨some 4, none, .mov (.c (.p (.int .i64 0)))⟩] [1, 2, 4] [1, 2])
 (.block 0 lp32_0))
 (.seq (.seq (.reg false [⟨some 5, none, .mov (.c (.p (.int .i64 0)))⟩] [1, 2, 5] [1, 2])
 (.block 2 lp32_1))
 (.seq (.seq (.reg false [⟨some 6, none, .mov (.c (.p (.int .i64 0)))⟩] [1, 2, 6] [1, 2])
 (.block 4 lp32_2))
 (.seq (.reg true [⟨some 81, none, .off (.t 1) 19⟩,
 ⟨some 82, none, .ldl 1 (.t 81) 1 false⟩,
 ⟨some 83, none, .off (.t 1) 20⟩,
 ⟨some 84, none, .ldl 1 (.t 83) 1 false⟩,
 ⟨some 85, none, .len (.t 84)⟩,
 ⟨some 86, none, .call 93 [(.t 82), (.c (.p (.int .i64 5))), (.t 85)] false⟩,
 ⟨some 87, none, .off (.t 1) 19⟩,
 ⟨some 88, none, .ldl 1 (.t 87) 1 false⟩,
 ⟨some 89, none, .off (.t 1) 21⟩,
 ⟨some 90, none, .ldl 1 (.t 89) 1 false⟩,
 ⟨some 91, none, .len (.t 90)⟩,
 ⟨some 92, none, .call 93 [(.t 88), (.c (.p (.int .i64 6))), (.t 91)] false⟩,
 ⟨some 7, none, .mov (.t 86)⟩,
 ⟨some 8, none, .mov (.t 92)⟩] [1, 2, 7, 8] [1, 2])
 (.seq (.seq (.reg false [⟨some 93, none, .mov (.t 7)⟩,
 ⟨some 94, none, .bin .geq (.t 93) (.c (.p (.int .i64 0)))⟩,
 ⟨some 95, none, .mov (.t 94)⟩,
 ⟨some 96, (some (95, true)), .mov (.t 8)⟩,
 ⟨some 97, (some (95, true)), .bin .lss (.t 96) (.c (.p (.int .i64 0)))⟩,
 ⟨some 98, (some (95, true)), .mov (.t 97)⟩,
 ⟨some 99, (some (98, false)), .mov (.t 7)⟩,
 ⟨some 100, (some (98, false)), .mov (.t 8)⟩,
 ⟨some 101, (some (98, false)), .bin .leq (.t 99) (.t 100)⟩,
 ⟨some 102, (some (95, true)), .pick (.t 98) (.c (.p (.bool true))) (.t 101)⟩,
 ⟨some 103, none, .pick (.t 95) (.t 102) (.c (.p (.bool false)))⟩] [1, 2, 7, 8, 103] [1, 2])
 (.cond (.t 103)
 (.seq (.reg false [⟨some 104, none, .mov (.t 7)⟩,
 ⟨some 105, none, .bld [.p (.int .i64 0), .p (.int .i64 0)] [(0, 1, (.c (.p (.int .i64 11)))), (1, 1, (.t 104))]⟩,
 ⟨none, none, .st (.t 2) (.t 105) 2⟩] [2] [2])
 .ret)
 .skip))
 (.seq (.seq (.reg false [⟨some 106, none, .mov (.t 8)⟩,
 ⟨some 107, none, .bin .geq (.t 106) (.c (.p (.int .i64 0)))⟩] [1, 2, 8, 107] [1, 2])
 (.cond (.t 107)
 (.seq (.reg false [⟨some 108, none, .mov (.t 8)⟩,
 ⟨some 109, none, .bld [.p (.int .i64 0), .p (.int .i64 0)] [(0, 1, (.c (.p (.int .i64 11)))), (1, 1, (.t 108))]⟩,
 ⟨none, none, .st (.t 2) (.t 109) 2⟩] [2] [2])
 .ret)
 .skip))
 (.seq (.reg false [⟨some 110, none, .ld (.t 1) 22 true⟩,
 ⟨some 111, none, .call 64 [(.t 110)] false⟩,
 ⟨some 9, none, .al [.p (.int .i64 0), .p (.int .i64 0), .p (.int .i64 0), .p (.int .i64 0), .p (.int .i64 0), .p (.int .i64 0), .p (.int .i64 0), .p (.int .i64 0), .p (.int .i64 0), .p (.int .i64 0), .p (.int .i64 0), .p (.int .i64 0), .p (.int .i64 0), .p (.int .i64 0), .p (.int .i64 0), .p (.int .i64 0), .p (.int .i64 0), .p (.int .i64 0), .p (.bool false), .nils, .nils, .nils] true⟩,
 ⟨none, none, .st (.t 9) (.t 111) 22⟩] [2, 9] [2, 9])
 (.seq (.seq (.reg false [⟨some 10, none, .mov (.c (.p (.int .i64 0)))⟩] [2, 9, 10] [2, 9])
 (.block 6 lp32_3))
 (.seq (.reg false [⟨some 131, none, .bld [.p (.int .i64 0), .p (.int .i64 0)] []⟩,
 ⟨none, none, .st (.t 2) (.t 131) 2⟩] [2] [2])
 .ret)))))))))))))),
 [.cell 2 2 true], false⟩
def ir56 : IFn :=   -- tympan/valid.Right
⟨(.seq (.reg false [⟨some 1, none, .bx (.t 0) 22 true⟩,
 ⟨some 2, none, .mov (.c (.p (.bool false)))⟩] [1] [1])
 (.seq (.reg false [⟨some 6, none, .ld (.t 1) 22 true⟩,
 ⟨some 7, none, .call 142 [(.t 6)] false⟩,
 ⟨some 5, none, .mov (.t 7)⟩,
 ⟨some 8, none, .ext (.t 5) 0⟩,
 ⟨some 9, none, .ext (.t 5) 1⟩,
 ⟨some 3, none, .mov (.t 8)⟩,
 ⟨some 4, none, .mov (.t 9)⟩] [3] [])
 (.seq (.reg false [⟨some 10, none, .mov (.t 3)⟩,
 ⟨some 11, none, .bin .eql (.t 10) (.c (.p (.int .i64 0)))⟩,
 ⟨some 2, none, .mov (.t 11)⟩] [2] [])
 .ret))),
 [.tmp 2], false⟩
def lp57_0 : IC :=
 (.loop [2, 3, 16, 17, 18] [2, 3] (.seq (.reg false [⟨some 19, none, .bin .lss (.t 18) (.t 17)⟩] [2, 3, 16, 17, 18, 19] [2, 3])
 (.seq (.cond (.t 19)
 .skip
 (.exit 0))
 (.seq (.block 1 (.seq (.reg false [⟨some 20, none, .ixs (.t 16) (.t 18) 2⟩,
 ⟨some 21, none, .ld (.t 20) 2 true⟩,
 ⟨some 5, none, .al [.nils, .nils] true⟩,
 ⟨none, none, .st (.t 5) (.t 21) 2⟩] [2, 3, 5, 16, 17, 18] [2, 3, 5])
 (.reg true [⟨some 22, none, .off (.t 3) 20⟩,
 ⟨some 23, none, .ldl 3 (.t 22) 1 false⟩,
 ⟨some 24, none, .off (.t 5) 0⟩,
 ⟨some 25, none, .ldl 5 (.t 24) 1 false⟩,
 ⟨some 26, none, .callz 145 [(.t 25)]⟩,
 ⟨some 27, none, .off (.t 5) 1⟩,
 ⟨some 28, none, .ldl 5 (.t 27) 1 false⟩,
 ⟨some 29, none, .callz 146 [(.t 28)]⟩,
 ⟨some 30, none, .bld [.nils, .nils] [(0, 1, (.t 26)), (1, 1, (.t 29))]⟩,
 ⟨some 31, none, .bsl 2 1 [.nils, .nils] [(0, (.t 30))]⟩,
 ⟨some 32, none, .app (.t 23) (.t 31) 2⟩,
 ⟨some 33, none, .off (.t 3) 20⟩,
 ⟨none, none, .stl 3 (.t 33) (.t 32) 1⟩] [2, 3, 16, 17, 18] [2, 3])))
 (.reg false [⟨some 34, none, .bin .add (.t 18) (.c (.p (.int .i64 1)))⟩,
 ⟨some 18, none, .mov (.t 34)⟩] [2, 3, 16, 17, 18] [2, 3])))))
def ir57 : IFn :=   -- tympan/state.copied
⟨(.seq (.reg false [⟨some 1, none, .bx (.t 0) 22 true⟩,
 ⟨some 2, none, .al [.p (.int .i64 0), .p (.int .i64 0), .p (.int .i64 0), .p (.int .i64 0), .p (.int .i64 0), .p (.int .i64 0), .p (.int .i64 0), .p (.int .i64 0), .p (.int .i64 0), .p (.int .i64 0), .p (.int .i64 0), .p (.int .i64 0), .p (.int .i64 0), .p (.int .i64 0), .p (.int .i64 0), .p (.int .i64 0), .p (.int .i64 0), .p (.int .i64 0), .p (.bool false), .nils, .nils, .nils] true⟩] [1, 2] [1, 2])
 (.seq (.prep [3] (.reg true [⟨some 6, none, .off (.t 1) 0⟩,
 ⟨some 7, none, .ldl 1 (.t 6) 19 true⟩,
 ⟨some 8, none, .off (.t 1) 19⟩,
 ⟨some 9, none, .ldl 1 (.t 8) 1 false⟩,
 ⟨some 10, none, .callz 143 [(.t 9)]⟩,
 ⟨some 11, none, .off (.t 1) 21⟩,
 ⟨some 12, none, .ldl 1 (.t 11) 1 false⟩,
 ⟨some 13, none, .callz 144 [(.t 12)]⟩,
 ⟨some 14, none, .bld [.p (.int .i64 0), .p (.int .i64 0), .p (.int .i64 0), .p (.int .i64 0), .p (.int .i64 0), .p (.int .i64 0), .p (.int .i64 0), .p (.int .i64 0), .p (.int .i64 0), .p (.int .i64 0), .p (.int .i64 0), .p (.int .i64 0), .p (.int .i64 0), .p (.int .i64 0), .p (.int .i64 0), .p (.int .i64 0), .p (.int .i64 0), .p (.int .i64 0), .p (.bool false), .nils, .nils, .nils] [(0, 19, (.t 7)), (19, 1, (.t 10)), (21, 1, (.t 13))]⟩,
 ⟨some 3, none, .alp [.p (.int .i64 0), .p (.int .i64 0), .p (.int .i64 0), .p (.int .i64 0), .p (.int .i64 0), .p (.int .i64 0), .p (.int .i64 0), .p (.int .i64 0), .p (.int .i64 0), .p (.int .i64 0), .p (.int .i64 0), .p (.int .i64 0), .p (.int .i64 0), .p (.int .i64 0), .p (.int .i64 0), .p (.int .i64 0), .p (.int .i64 0), .p (.int .i64 0), .p (.bool false), .nils, .nils, .nils]⟩,
 ⟨none, none, .stl 3 (.t 3) (.t 14) 22⟩] [1, 2, 3] [1, 2, 3]))
 (.seq (.seq (.reg false [⟨some 15, none, .off (.t 1) 20⟩,
 ⟨some 16, none, .ld (.t 15) 1 false⟩,
 ⟨some 17, none, .len (.t 16)⟩,
 ⟨some 18, none, .mov (.c (.p (.int .i64 0)))⟩] [2, 3, 16, 17, 18] [2, 3])
 (.block 0 lp57_0))
 (.seq (.reg false [⟨some 35, none, .ld (.t 3) 22 true⟩,
 ⟨none, none, .st (.t 2) (.t 35) 22⟩] [2] [2])
 .ret)))),
 [.cell 2 22 true], false⟩
def lp58_0 : IC :=
 (.loop [2, 3, 4, 44, 45] [2, 3] (.seq (.reg false [⟨some 46, none, .bin .lss (.t 45) (.t 44)⟩] [2, 3, 4, 44, 45, 46] [2, 3])
 (.seq (.cond (.t 46)
 .skip
 (.exit 0))
 (.seq (.block 1 (.seq (.reg false [⟨some 47, none, .mov (.t 45)⟩,
 ⟨some 5, none, .mov (.t 47)⟩] [2, 3, 4, 5, 44, 45] [2, 3])
 (.reg true [⟨some 48, none, .ldl 3 (.t 3) 1 true⟩,
 ⟨some 49, none, .off (.t 4) 21⟩,
 ⟨some 50, none, .ld (.t 49) 1 false⟩,
 ⟨some 51, none, .mov (.t 5)⟩,
 ⟨some 52, none, .ixs (.t 50) (.t 51) 3⟩,
 ⟨some 53, none, .off (.t 52) 1⟩,
 ⟨some 54, none, .bsl 1 1 [.p .nilp] [(0, (.t 53))]⟩,
 ⟨some 55, none, .call 149 [(.t 48), (.c (.p (.fn 151))), (.t 54)] false⟩] [2, 3, 4, 44, 45] [2, 3])))
 (.reg false [⟨some 56, none, .bin .add (.t 45) (.c (.p (.int .i64 1)))⟩,
 ⟨some 45, none, .mov (.t 56)⟩] [2, 3, 4, 44, 45] [2, 3])))))
def ir58 : IFn :=   -- tympan/grid.Snap
⟨(.seq (.reg false [⟨some 1, none, .bx (.t 0) 22 true⟩,
 ⟨some 2, none, .al [.p (.int .i64 0), .p (.int .i64 0), .p (.int .i64 0), .p (.int .i64 0), .p (.int .i64 0), .p (.int .i64 0), .p (.int .i64 0), .p (.int .i64 0), .p (.int .i64 0), .p (.int .i64 0), .p (.int .i64 0), .p (.int .i64 0), .p (.int .i64 0), .p (.int .i64 0), .p (.int .i64 0), .p (.int .i64 0), .p (.int .i64 0), .p (.int .i64 0), .p (.bool false), .nils, .nils, .nils] true⟩] [1, 2] [1, 2])
 (.seq (.reg false [⟨some 6, none, .off (.t 1) 0⟩,
 ⟨some 7, none, .off (.t 6) 5⟩,
 ⟨some 8, none, .ld (.t 7) 1 false⟩,
 ⟨some 9, none, .bld [.p (.int .i64 0)] [(0, 1, (.t 8))]⟩,
 ⟨some 3, none, .al [.p (.int .i64 0)] true⟩,
 ⟨none, none, .st (.t 3) (.t 9) 1⟩] [1, 2, 3] [1, 2, 3])
 (.seq (.seq (.reg false [⟨some 10, none, .off (.t 3) 0⟩,
 ⟨some 11, none, .ld (.t 10) 1 false⟩,
 ⟨some 12, none, .bin .lss (.t 11) (.c (.p (.int .i64 1)))⟩] [1, 2, 3, 12] [1, 2, 3])
 (.cond (.t 12)
 (.seq (.reg false [⟨some 13, none, .ld (.t 1) 22 true⟩,
 ⟨none, none, .st (.t 2) (.t 13) 22⟩] [2] [2])
 .ret)
 .skip))
 (.seq (.prep [4] (.reg true [⟨some 14, none, .off (.t 1) 0⟩,
 ⟨some 15, none, .ldl 1 (.t 14) 19 true⟩,
 ⟨some 16, none, .ldl 3 (.t 3) 1 true⟩,
 ⟨some 17, none, .off (.t 1) 19⟩,
 ⟨some 18, none, .ldl 1 (.t 17) 1 false⟩,
 ⟨some 19, none, .call 147 [(.t 16), (.t 18)] false⟩,
 ⟨some 20, none, .ldl 3 (.t 3) 1 true⟩,
 ⟨some 21, none, .off (.t 1) 20⟩,
 ⟨some 22, none, .ldl 1 (.t 21) 1 false⟩,
 ⟨some 23, none, .call 148 [(.t 20), (.t 22)] false⟩,
 ⟨some 24, none, .off (.t 1) 21⟩,
 ⟨some 25, none, .ldl 1 (.t 24) 1 false⟩,
 ⟨some 26, none, .call 144 [(.t 25)] false⟩,
 ⟨some 27, none, .bld [.p (.int .i64 0), .p (.int .i64 0), .p (.int .i64 0), .p (.int .i64 0), .p (.int .i64 0), .p (.int .i64 0), .p (.int .i64 0), .p (.int .i64 0), .p (.int .i64 0), .p (.int .i64 0), .p (.int .i64 0), .p (.int .i64 0), .p (.int .i64 0), .p (.int .i64 0), .p (.int .i64 0), .p (.int .i64 0), .p (.int .i64 0), .p (.int .i64 0), .p (.bool false), .nils, .nils, .nils] [(0, 19, (.t 15)), (19, 1, (.t 19)), (20, 1, (.t 23)), (21, 1, (.t 26))]⟩,
 ⟨some 4, none, .alp [.p (.int .i64 0), .p (.int .i64 0), .p (.int .i64 0), .p (.int .i64 0), .p (.int .i64 0), .p (.int .i64 0), .p (.int .i64 0), .p (.int .i64 0), .p (.int .i64 0), .p (.int .i64 0), .p (.int .i64 0), .p (.int .i64 0), .p (.int .i64 0), .p (.int .i64 0), .p (.int .i64 0), .p (.int .i64 0), .p (.int .i64 0), .p (.int .i64 0), .p (.bool false), .nils, .nils, .nils]⟩,
 ⟨none, none, .stl 4 (.t 4) (.t 27) 22⟩] [2, 3, 4] [2, 3, 4]))
 (.esc [4] (.seq (.reg false [⟨some 28, none, .ld (.t 3) 1 true⟩,
 ⟨some 29, none, .off (.t 4) 0⟩,
 ⟨some 30, none, .off (.t 29) 3⟩,
 ⟨some 31, none, .off (.t 4) 0⟩,
 ⟨some 32, none, .off (.t 31) 4⟩,
 ⟨some 33, none, .bsl 1 2 [.p .nilp] [(0, (.t 30)), (1, (.t 32))]⟩,
 ⟨some 34, none, .call 149 [(.t 28), (.c (.p (.fn 150))), (.t 33)] false⟩] [2, 3, 4] [2, 3])
 (.seq (.reg false [⟨some 35, none, .ld (.t 3) 1 true⟩,
 ⟨some 36, none, .off (.t 4) 0⟩,
 ⟨some 37, none, .off (.t 36) 6⟩,
 ⟨some 38, none, .off (.t 4) 0⟩,
 ⟨some 39, none, .off (.t 38) 7⟩,
 ⟨some 40, none, .bsl 1 2 [.p .nilp] [(0, (.t 37)), (1, (.t 39))]⟩,
 ⟨some 41, none, .call 149 [(.t 35), (.c (.p (.fn 151))), (.t 40)] false⟩] [2, 3, 4] [2, 3])
 (.seq (.seq (.reg false [⟨some 42, none, .off (.t 4) 21⟩,
 ⟨some 43, none, .ld (.t 42) 1 false⟩,
 ⟨some 44, none, .len (.t 43)⟩,
 ⟨some 45, none, .mov (.c (.p (.int .i64 0)))⟩] [2, 3, 4, 44, 45] [2, 3])
 (.block 0 lp58_0))
 (.seq (.reg false [⟨some 57, none, .ld (.t 4) 22 true⟩,
 ⟨none, none, .st (.t 2) (.t 57) 22⟩] [2] [2])
 .ret))))))))),
 [.cell 2 22 true], false⟩
def lp59_0 : IC :=
 (.loop [0, 4, 23, 24] [21] (.seq (.reg false [⟨some 25, none, .bin .lss (.t 24) (.t 23)⟩] [0, 4, 23, 24, 25] [21])
 (.seq (.cond (.t 25)
 .skip
 (.exit 0))
 (.seq (.block 1 (.seq (.reg false [⟨some 26, none, .mov (.t 24)⟩,
 ⟨some 5, none, .mov (.t 26)⟩] [0, 4, 5, 23, 24] [21])
 (.seq (.reg false [⟨some 27, none, .mov (.t 0)⟩,
 ⟨some 28, none, .mov (.t 5)⟩,
 ⟨some 29, none, .ixs (.t 27) (.t 28) 7⟩,
 ⟨some 30, none, .ld (.t 29) 7 true⟩,
 ⟨some 31, none, .call 152 [(.t 30)] false⟩,
 ⟨some 6, none, .al [.p (.int .i64 0), .p (.int .i64 0), .p (.int .i64 0), .p (.int .i64 0), .p (.int .i64 0), .p (.int .i64 0)] true⟩,
 ⟨none, none, .st (.t 6) (.t 31) 6⟩] [0, 4, 5, 6, 23, 24] [6, 21])
 (.seq (.seq (.reg false [⟨some 32, none, .ld (.t 6) 6 true⟩,
 ⟨some 33, none, .call 153 [(.t 32)] false⟩,
 ⟨some 34, none, .un .not (.t 33)⟩] [0, 4, 5, 6, 23, 24, 34] [6, 21])
 (.cond (.t 34)
 (.seq (.reg false [⟨some 2, none, .mov (.c (.p .nilp))⟩,
 ⟨some 3, none, .mov (.c (.p (.bool false)))⟩] [2, 3] [21])
 .ret)
 .skip))
 (.seq (.reg true [⟨some 36, none, .mov (.t 4)⟩,
 ⟨some 37, none, .nck (.t 36)⟩,
 ⟨some 38, none, .off (.t 37) 1⟩,
 ⟨some 39, none, .ldl 21 (.t 38) 1 false⟩,
 ⟨some 40, none, .mov (.t 5)⟩,
 ⟨some 41, none, .bin .add (.t 40) (.c (.p (.int .i64 1)))⟩,
 ⟨some 42, none, .mov (.t 4)⟩,
 ⟨some 43, none, .nck (.t 42)⟩,
 ⟨some 44, none, .off (.t 43) 1⟩,
 ⟨some 45, none, .ldl 21 (.t 44) 1 false⟩,
 ⟨some 46, none, .mov (.t 5)⟩,
 ⟨some 47, none, .ixs (.t 45) (.t 46) 6⟩,
 ⟨some 48, none, .ld (.t 47) 6 true⟩,
 ⟨some 49, none, .ldl 6 (.t 6) 6 true⟩,
 ⟨some 50, none, .call 154 [(.t 48), (.t 49)] false⟩,
 ⟨some 35, none, .mov (.t 50)⟩,
 ⟨some 51, none, .ext (.t 35) 0⟩,
 ⟨some 52, none, .ext (.t 35) 1⟩,
 ⟨some 53, none, .ixs (.t 39) (.t 41) 6⟩,
 ⟨none, none, .st (.t 53) (.t 51) 6⟩] [0, 4, 5, 23, 24] [21])
 (.seq (.reg true [⟨some 54, none, .mov (.t 4)⟩,
 ⟨some 55, none, .nck (.t 54)⟩,
 ⟨some 56, none, .off (.t 55) 2⟩,
 ⟨some 57, none, .ldl 21 (.t 56) 1 false⟩,
 ⟨some 58, none, .mov (.t 5)⟩,
 ⟨some 59, none, .bin .add (.t 58) (.c (.p (.int .i64 1)))⟩,
 ⟨some 60, none, .mov (.t 4)⟩,
 ⟨some 61, none, .nck (.t 60)⟩,
 ⟨some 62, none, .off (.t 61) 2⟩,
 ⟨some 63, none, .ldl 21 (.t 62) 1 false⟩,
 ⟨some 64, none, .mov (.t 5)⟩,
 ⟨some 65, none, .ixs (.t 63) (.t 64) 1⟩,
 ⟨some 66, none, .ld (.t 65) 1 false⟩,
 ⟨some 67, none, .ixs (.t 57) (.t 59) 1⟩,
 ⟨none, none, .st (.t 67) (.t 66) 1⟩] [0, 4, 5, 23, 24] [21])
 (.seq (.reg false [⟨some 68, none, .mov (.t 0)⟩,
 ⟨some 69, none, .mov (.t 5)⟩,
 ⟨some 70, none, .ixs (.t 68) (.t 69) 7⟩,
 ⟨some 71, none, .off (.t 70) 0⟩,
 ⟨some 72, none, .ld (.t 71) 1 false⟩,
 ⟨some 73, none, .bin .eql (.t 72) (.c (.p (.int .i64 1)))⟩] [0, 4, 5, 23, 24, 73] [21])
 (.cond (.t 73)
 (.reg true [⟨some 74, none, .mov (.t 4)⟩,
 ⟨some 75, none, .nck (.t 74)⟩,
 ⟨some 76, none, .off (.t 75) 2⟩,
 ⟨some 77, none, .ldl 21 (.t 76) 1 false⟩,
 ⟨some 78, none, .mov (.t 5)⟩,
 ⟨some 79, none, .bin .add (.t 78) (.c (.p (.int .i64 1)))⟩,
 ⟨some 80, none, .ixs (.t 77) (.t 79) 1⟩,
 ⟨some 81, none, .ld (.t 80) 1 false⟩,
 ⟨some 82, none, .mov (.t 0)⟩,
 ⟨some 83, none, .mov (.t 5)⟩,
 ⟨some 84, none, .ixs (.t 82) (.t 83) 7⟩,
 ⟨some 85, none, .off (.t 84) 1⟩,
 ⟨some 86, none, .ld (.t 85) 1 false⟩,
 ⟨some 87, none, .bin .add (.t 81) (.t 86)⟩,
 ⟨some 88, none, .ixs (.t 77) (.t 79) 1⟩,
 ⟨none, none, .st (.t 88) (.t 87) 1⟩] [0, 4, 23, 24] [21])
 .skip))))))))
 (.reg false [⟨some 89, none, .bin .add (.t 24) (.c (.p (.int .i64 1)))⟩,
 ⟨some 24, none, .mov (.t 89)⟩] [0, 4, 23, 24] [21])))))
def ir59 : IFn :=   -- tympan/sums.New
⟨(.seq (.reg false [⟨some 2, none, .mov (.c (.p .nilp))⟩,
 ⟨some 3, none, .mov (.c (.p (.bool false)))⟩] [0] [])
 (.seq (.seq (.reg false [⟨some 7, none, .mov (.t 0)⟩,
 ⟨some 8, none, .len (.t 7)⟩,
 ⟨some 9, none, .bin .gtr (.t 8) (.c (.p (.int .i64 4096)))⟩] [0, 9] [])
 (.cond (.t 9)
 (.seq (.reg false [⟨some 2, none, .mov (.c (.p .nilp))⟩,
 ⟨some 3, none, .mov (.c (.p (.bool false)))⟩] [2, 3] [21])
 .ret)
 .skip))
 (.seq (.rsv [6, 1] (.prep [21] (.reg true [⟨some 10, none, .mov (.t 0)⟩,
 ⟨some 11, none, .callz 143 [(.t 10)]⟩,
 ⟨some 12, none, .mov (.t 0)⟩,
 ⟨some 13, none, .len (.t 12)⟩,
 ⟨some 14, none, .bin .add (.t 13) (.c (.p (.int .i64 1)))⟩,
 ⟨some 15, none, .mkh 2 6 [.p (.int .i64 0), .p (.int .i64 0), .p (.int .i64 0), .p (.int .i64 0), .p (.int .i64 0), .p (.int .i64 0)] (.t 14)⟩,
 ⟨some 16, none, .mov (.t 0)⟩,
 ⟨some 17, none, .len (.t 16)⟩,
 ⟨some 18, none, .bin .add (.t 17) (.c (.p (.int .i64 1)))⟩,
 ⟨some 19, none, .mkh 1 1 [.p (.int .i64 0)] (.t 18)⟩,
 ⟨some 20, none, .bld [.nils, .nils, .nils] [(0, 1, (.t 11)), (1, 1, (.t 15)), (2, 1, (.t 19))]⟩,
 ⟨some 21, none, .bxp (.t 20) 3⟩,
 ⟨some 4, none, .mov (.t 21)⟩] [0, 4] [21])))
 (.seq (.seq (.reg false [⟨some 22, none, .mov (.t 0)⟩,
 ⟨some 23, none, .len (.t 22)⟩,
 ⟨some 24, none, .mov (.c (.p (.int .i64 0)))⟩] [0, 4, 23, 24] [21])
 (.block 0 lp59_0))
 (.seq (.esc [21] (.reg false [⟨some 90, none, .mov (.t 4)⟩,
 ⟨some 2, none, .mov (.t 90)⟩,
 ⟨some 3, none, .mov (.c (.p (.bool true)))⟩] [2, 3] [21]))
 .ret))))),
 [.tmp 2, .tmp 3], false⟩
def ir60 : IFn :=   -- tympan/vlist.New
⟨(.seq (.reg false [⟨some 2, none, .mov (.c (.p .nilp))⟩] [0] [])
 (.seq (.reg false [⟨some 3, none, .mov (.t 0)⟩,
 ⟨some 4, none, .callz 143 [(.t 3)]⟩,
 ⟨some 5, none, .bld [.nils] [(0, 1, (.t 4))]⟩,
 ⟨some 6, none, .bx (.t 5) 1 false⟩,
 ⟨some 2, none, .mov (.t 6)⟩] [2] [])
 .ret)),
 [.tmp 2], false⟩
def lp61_0 : IC :=
 (.loop [1, 5, 22, 23, 24] [21] (.seq (.reg false [⟨some 25, none, .bin .lss (.t 24) (.t 23)⟩] [1, 5, 22, 23, 24, 25] [21])
 (.seq (.cond (.t 25)
 .skip
 (.exit 0))
 (.seq (.block 1 (.seq (.reg false [⟨some 26, none, .mov (.t 24)⟩,
 ⟨some 27, none, .ixs (.t 22) (.t 24) 7⟩,
 ⟨some 28, none, .ld (.t 27) 7 true⟩,
 ⟨some 7, none, .al [.p (.int .i64 0), .p (.int .i64 0), .p (.int .i64 0), .p (.int .i64 0), .p (.int .i64 0), .p (.int .i64 0), .p (.int .i64 0)] true⟩,
 ⟨some 6, none, .mov (.t 26)⟩,
 ⟨none, none, .st (.t 7) (.t 28) 7⟩] [1, 5, 6, 7, 22, 23, 24] [7, 21])
 (.seq (.prep [9, 10] (.reg true [⟨some 29, none, .mov (.t 5)⟩,
 ⟨some 30, none, .nck (.t 29)⟩,
 ⟨some 31, none, .off (.t 30) 1⟩,
 ⟨some 32, none, .ldl 21 (.t 31) 1 false⟩,
 ⟨some 33, none, .mov (.t 6)⟩,
 ⟨some 34, none, .ixs (.t 32) (.t 33) 1⟩,
 ⟨some 35, none, .ldh (.t 34) 1 false⟩,
 ⟨some 36, none, .mov (.t 5)⟩,
 ⟨some 37, none, .nck (.t 36)⟩,
 ⟨some 38, none, .off (.t 37) 2⟩,
 ⟨some 39, none, .ldl 21 (.t 38) 1 false⟩,
 ⟨some 40, none, .mov (.t 6)⟩,
 ⟨some 41, none, .ixs (.t 39) (.t 40) 3⟩,
 ⟨some 42, none, .ldh (.t 41) 3 true⟩,
 ⟨some 43, none, .mov (.t 5)⟩,
 ⟨some 44, none, .nck (.t 43)⟩,
 ⟨some 45, none, .off (.t 44) 3⟩,
 ⟨some 46, none, .ldl 21 (.t 45) 1 false⟩,
 ⟨some 47, none, .mov (.t 6)⟩,
 ⟨some 48, none, .ixs (.t 46) (.t 47) 3⟩,
 ⟨some 49, none, .ldh (.t 48) 3 true⟩,
 ⟨some 9, none, .alp [.p (.int .i64 0), .p (.int .i64 0), .p (.int .i64 0)]⟩,
 ⟨some 10, none, .alp [.p (.int .i64 0), .p (.int .i64 0), .p (.int .i64 0)]⟩,
 ⟨some 8, none, .mov (.t 35)⟩,
 ⟨none, none, .stl 9 (.t 9) (.t 42) 3⟩,
 ⟨none, none, .stl 10 (.t 10) (.t 49) 3⟩] [1, 5, 7, 8, 9, 10, 22, 23, 24] [7, 9, 10, 21]))
 (.seq (.seq (.reg false [⟨some 50, none, .off (.t 7) 0⟩,
 ⟨some 51, none, .ld (.t 50) 1 false⟩] [1, 5, 7, 8, 9, 10, 22, 23, 24, 51] [7, 9, 10, 21])
 (.block 2 (.seq (.reg false [⟨some 53, none, .bin .eql (.t 51) (.c (.p (.int .i64 5)))⟩,
 ⟨some 52, none, .mov (.t 53)⟩] [1, 5, 7, 8, 9, 10, 22, 23, 24, 51, 52] [7, 9, 10, 21])
 (.cond (.t 52)
 (.reg false [⟨some 54, none, .mov (.t 8)⟩,
 ⟨some 55, none, .bin .add (.t 54) (.c (.p (.int .i64 1)))⟩,
 ⟨some 8, none, .mov (.t 55)⟩] [1, 5, 8, 9, 10, 22, 23, 24] [9, 10, 21])
 (.seq (.reg false [⟨some 57, none, .bin .eql (.t 51) (.c (.p (.int .i64 6)))⟩,
 ⟨some 56, none, .mov (.t 57)⟩] [1, 5, 7, 8, 9, 10, 22, 23, 24, 51, 56] [7, 9, 10, 21])
 (.cond (.t 56)
 (.seq (.reg false [⟨some 59, none, .mov (.t 1)⟩,
 ⟨some 60, none, .off (.t 7) 6⟩,
 ⟨some 61, none, .ld (.t 60) 1 false⟩,
 ⟨some 62, none, .call 155 [(.t 59), (.t 61)] false⟩,
 ⟨some 58, none, .mov (.t 62)⟩,
 ⟨some 63, none, .ext (.t 58) 0⟩,
 ⟨some 64, none, .ext (.t 58) 1⟩,
 ⟨some 11, none, .al [.p (.int .i64 0), .p (.int .i64 0), .p (.int .i64 0)] true⟩,
 ⟨none, none, .st (.t 11) (.t 63) 3⟩,
 ⟨some 12, none, .mov (.t 64)⟩] [1, 5, 8, 9, 10, 11, 12, 22, 23, 24] [9, 10, 11, 21])
 (.seq (.reg false [⟨some 65, none, .mov (.t 12)⟩,
 ⟨some 66, none, .mov (.t 65)⟩,
 ⟨some 67, (some (66, true)), .off (.t 11) 0⟩,
 ⟨some 68, (some (66, true)), .ld (.t 67) 1 false⟩,
 ⟨some 69, (some (66, true)), .bin .geq (.t 68) (.c (.p (.int .i64 0)))⟩,
 ⟨some 70, none, .pick (.t 66) (.t 69) (.c (.p (.bool false)))⟩,
 ⟨some 71, none, .mov (.t 70)⟩,
 ⟨some 72, (some (71, true)), .off (.t 11) 0⟩,
 ⟨some 73, (some (71, true)), .ld (.t 72) 1 false⟩,
 ⟨some 74, (some (71, true)), .bin .lss (.t 73) (.c (.p (.int .i64 3)))⟩,
 ⟨some 75, none, .pick (.t 71) (.t 74) (.c (.p (.bool false)))⟩] [1, 5, 8, 9, 10, 11, 22, 23, 24, 75] [9, 10, 11, 21])
 (.cond (.t 75)
 (.reg false [⟨some 76, none, .off (.t 11) 0⟩,
 ⟨some 77, none, .ld (.t 76) 1 false⟩,
 ⟨some 78, none, .ixa (.t 9) (.t 77) 1 3⟩,
 ⟨some 79, none, .ld (.t 78) 1 false⟩,
 ⟨some 80, none, .bin .add (.t 79) (.c (.p (.int .i64 1)))⟩,
 ⟨some 81, none, .ixa (.t 9) (.t 77) 1 3⟩,
 ⟨none, none, .st (.t 81) (.t 80) 1⟩] [1, 5, 8, 9, 10, 22, 23, 24] [9, 10, 21])
 .skip)))
 (.seq (.reg false [⟨some 83, none, .bin .eql (.t 51) (.c (.p (.int .i64 7)))⟩,
 ⟨some 82, none, .mov (.t 83)⟩] [1, 5, 8, 9, 10, 22, 23, 24, 82] [9, 10, 21])
 (.cond (.t 82)
 (.seq (.reg false [⟨some 84, none, .ld (.t 10) 3 true⟩,
 ⟨some 85, none, .ld (.t 9) 3 true⟩,
 ⟨some 86, none, .eqa true [true, true, true] (.t 84) (.t 85)⟩] [1, 5, 8, 9, 10, 22, 23, 24, 86] [9, 10, 21])
 (.cond (.t 86)
 (.reg false [⟨some 87, none, .ld (.t 9) 3 true⟩,
 ⟨none, none, .st (.t 10) (.t 87) 3⟩] [1, 5, 8, 9, 10, 22, 23, 24] [9, 10, 21])
 .skip))
 .skip))))))))
 (.reg true [⟨some 88, none, .mov (.t 5)⟩,
 ⟨some 89, none, .mov (.t 5)⟩,
 ⟨some 90, none, .mov (.t 5)⟩,
 ⟨some 91, none, .mov (.t 5)⟩,
 ⟨some 92, none, .nck (.t 91)⟩,
 ⟨some 93, none, .off (.t 92) 1⟩,
 ⟨some 94, none, .ldl 21 (.t 93) 1 false⟩,
 ⟨some 95, none, .mov (.t 8)⟩,
 ⟨some 96, none, .bsl 1 1 [.p (.int .i64 0)] [(0, (.t 95))]⟩,
 ⟨some 97, none, .apo (.t 94) (.t 96) 1 (.t 24) 1⟩,
 ⟨some 98, none, .mov (.t 5)⟩,
 ⟨some 99, none, .nck (.t 98)⟩,
 ⟨some 100, none, .off (.t 99) 2⟩,
 ⟨some 101, none, .ldl 21 (.t 100) 1 false⟩,
 ⟨some 102, none, .ldl 9 (.t 9) 3 true⟩,
 ⟨some 103, none, .bsl 3 1 [.p (.int .i64 0), .p (.int .i64 0), .p (.int .i64 0)] [(0, (.t 102))]⟩,
 ⟨some 104, none, .apo (.t 101) (.t 103) 3 (.t 24) 1⟩,
 ⟨some 105, none, .mov (.t 5)⟩,
 ⟨some 106, none, .nck (.t 105)⟩,
 ⟨some 107, none, .off (.t 106) 3⟩,
 ⟨some 108, none, .ldl 21 (.t 107) 1 false⟩,
 ⟨some 109, none, .ldl 10 (.t 10) 3 true⟩,
 ⟨some 110, none, .bsl 3 1 [.p (.int .i64 0), .p (.int .i64 0), .p (.int .i64 0)] [(0, (.t 109))]⟩,
 ⟨some 111, none, .apo (.t 108) (.t 110) 3 (.t 24) 1⟩,
 ⟨some 112, none, .nck (.t 88)⟩,
 ⟨some 113, none, .off (.t 112) 1⟩,
 ⟨none, none, .stl 21 (.t 113) (.t 97) 1⟩,
 ⟨some 114, none, .nck (.t 89)⟩,
 ⟨some 115, none, .off (.t 114) 2⟩,
 ⟨none, none, .stl 21 (.t 115) (.t 104) 1⟩,
 ⟨some 116, none, .nck (.t 90)⟩,
 ⟨some 117, none, .off (.t 116) 3⟩,
 ⟨none, none, .stl 21 (.t 117) (.t 111) 1⟩] [1, 5, 22, 23, 24] [21])))))
 (.reg false [⟨some 118, none, .bin .add (.t 24) (.c (.p (.int .i64 1)))⟩,
 ⟨some 24, none, .mov (.t 118)⟩] [1, 5, 22, 23, 24] [21])))))
def ir61 : IFn :=   -- tympan/anchor.New
⟨(.seq (.reg false [⟨some 4, none, .mov (.c (.p .nilp))⟩] [0, 1] [])
 (.seq (.reg false [⟨some 13, none, .mov (.t 0)⟩,
 ⟨some 14, none, .callz 143 [(.t 13)]⟩,
 ⟨some 15, none, .bsr 1 1 [.p (.int .i64 0)] [(0, (.c (.p (.int .i64 0))))]⟩,
 ⟨some 16, none, .bld [.p (.int .i64 0), .p (.int .i64 0), .p (.int .i64 0)] []⟩,
 ⟨some 17, none, .bsr 3 1 [.p (.int .i64 0), .p (.int .i64 0), .p (.int .i64 0)] [(0, (.t 16))]⟩,
 ⟨some 18, none, .bld [.p (.int .i64 0), .p (.int .i64 0), .p (.int .i64 0)] []⟩,
 ⟨some 19, none, .bsr 3 1 [.p (.int .i64 0), .p (.int .i64 0), .p (.int .i64 0)] [(0, (.t 18))]⟩,
 ⟨some 20, none, .bld [.nils, .nils, .nils, .nils] [(0, 1, (.t 14)), (1, 1, (.t 15)), (2, 1, (.t 17)), (3, 1, (.t 19))]⟩,
 ⟨some 21, none, .bx (.t 20) 4 true⟩,
 ⟨some 5, none, .mov (.t 21)⟩] [0, 1, 5] [21])
 (.seq (.seq (.reg false [⟨some 22, none, .mov (.t 0)⟩,
 ⟨some 23, none, .len (.t 22)⟩,
 ⟨some 24, none, .mov (.c (.p (.int .i64 0)))⟩] [1, 5, 22, 23, 24] [21])
 (.block 0 lp61_0))
 (.seq (.esc [21] (.reg false [⟨some 119, none, .mov (.t 5)⟩,
 ⟨some 4, none, .mov (.t 119)⟩] [4] [21]))
 .ret)))),
 [.tmp 4], false⟩
def ir62 : IFn :=   -- (*tympan/anchor.Map).Ahead
⟨(.seq (.reg false [⟨some 4, none, .al [.p (.int .i64 0), .p (.int .i64 0), .p (.int .i64 0)] true⟩] [0, 1, 4] [4])
 (.seq (.reg false [⟨some 7, none, .mov (.t 0)⟩,
 ⟨some 8, none, .mov (.t 1)⟩,
 ⟨some 9, none, .call 156 [(.t 7), (.t 8)] false⟩,
 ⟨some 6, none, .mov (.t 9)⟩,
 ⟨some 10, none, .ext (.t 6) 0⟩,
 ⟨some 11, none, .ext (.t 6) 1⟩,
 ⟨some 1, none, .mov (.t 10)⟩,
 ⟨some 5, none, .mov (.t 11)⟩] [0, 1, 4, 5] [4])
 (.seq (.seq (.reg false [⟨some 12, none, .mov (.t 5)⟩,
 ⟨some 13, none, .un .not (.t 12)⟩] [0, 1, 4, 13] [4])
 (.cond (.t 13)
 (.seq (.reg false [⟨some 14, none, .bld [.p (.int .i64 0), .p (.int .i64 0), .p (.int .i64 0)] []⟩,
 ⟨none, none, .st (.t 4) (.t 14) 3⟩] [4] [4])
 .ret)
 .skip))
 (.seq (.reg false [⟨some 15, none, .mov (.t 0)⟩,
 ⟨some 16, none, .nck (.t 15)⟩,
 ⟨some 17, none, .off (.t 16) 2⟩,
 ⟨some 18, none, .ld (.t 17) 1 false⟩,
 ⟨some 19, none, .mov (.t 1)⟩,
 ⟨some 20, none, .ixs (.t 18) (.t 19) 3⟩,
 ⟨some 21, none, .ld (.t 20) 3 true⟩,
 ⟨none, none, .st (.t 4) (.t 21) 3⟩] [4] [4])
 .ret)))),
 [.cell 4 3 true], false⟩
def lp63_0 : IC :=
 (.loop [3, 6, 7, 8] [] (.seq (.reg false [⟨some 9, none, .bin .lss (.t 8) (.t 7)⟩] [3, 6, 7, 8, 9] [])
 (.seq (.cond (.t 9)
 .skip
 (.exit 0))
 (.seq (.block 1 (.seq (.reg false [⟨some 10, none, .ixs (.t 6) (.t 8) 2⟩,
 ⟨some 11, none, .ld (.t 10) 2 true⟩,
 ⟨some 5, none, .al [.nils, .nils] true⟩,
 ⟨none, none, .st (.t 5) (.t 11) 2⟩] [3, 5, 6, 7, 8] [5])
 (.reg false [⟨some 12, none, .mov (.t 3)⟩,
 ⟨some 13, none, .off (.t 5) 0⟩,
 ⟨some 14, none, .ld (.t 13) 1 false⟩,
 ⟨some 15, none, .len (.t 14)⟩,
 ⟨some 16, none, .bin .add (.t 12) (.t 15)⟩,
 ⟨some 3, none, .mov (.t 16)⟩] [3, 6, 7, 8] [])))
 (.reg false [⟨some 17, none, .bin .add (.t 8) (.c (.p (.int .i64 1)))⟩,
 ⟨some 8, none, .mov (.t 17)⟩] [3, 6, 7, 8] [])))))
def ir63 : IFn :=   -- tympan/note.Lines
⟨(.seq (.reg false [⟨some 2, none, .mov (.c (.p (.int .i64 0)))⟩] [0] [])
 (.seq (.reg false [⟨some 3, none, .mov (.c (.p (.int .i64 0)))⟩] [0, 3] [])
 (.seq (.seq (.reg false [⟨some 6, none, .mov (.t 0)⟩,
 ⟨some 7, none, .len (.t 6)⟩,
 ⟨some 8, none, .mov (.c (.p (.int .i64 0)))⟩] [3, 6, 7, 8] [])
 (.block 0 lp63_0))
 (.seq (.reg false [⟨some 18, none, .mov (.t 3)⟩,
 ⟨some 2, none, .mov (.t 18)⟩] [2] [])
 .ret)))),
 [.tmp 2], false⟩
def lp64_0 : IC :=
 (.loop [1, 2, 3, 4, 5] [1, 2, 4] (.seq (.seq (.reg false [⟨some 48, none, .mov (.t 5)⟩,
 ⟨some 49, none, .off (.t 1) 19⟩,
 ⟨some 50, none, .ld (.t 49) 1 false⟩,
 ⟨some 51, none, .len (.t 50)⟩,
 ⟨some 52, none, .bin .lss (.t 48) (.t 51)⟩] [1, 2, 3, 4, 5, 52] [1, 2, 4])
 (.cond (.t 52)
 .skip
 (.exit 0)))
 (.seq (.block 1 (.reg true [⟨some 55, none, .off (.t 4) 19⟩,
 ⟨some 56, none, .ldl 4 (.t 55) 1 false⟩,
 ⟨some 57, none, .off (.t 1) 19⟩,
 ⟨some 58, none, .ldl 1 (.t 57) 1 false⟩,
 ⟨some 59, none, .mov (.t 5)⟩,
 ⟨some 60, none, .ixs (.t 58) (.t 59) 7⟩,
 ⟨some 61, none, .ld (.t 60) 7 true⟩,
 ⟨some 62, none, .mov (.t 3)⟩,
 ⟨some 63, none, .call 159 [(.t 61), (.t 62)] false⟩,
 ⟨some 64, none, .bsl 7 1 [.p (.int .i64 0), .p (.int .i64 0), .p (.int .i64 0), .p (.int .i64 0), .p (.int .i64 0), .p (.int .i64 0), .p (.int .i64 0)] [(0, (.t 63))]⟩,
 ⟨some 65, none, .app (.t 56) (.t 64) 7⟩,
 ⟨some 66, none, .off (.t 4) 19⟩,
 ⟨none, none, .stl 4 (.t 66) (.t 65) 1⟩] [1, 2, 3, 4, 5] [1, 2, 4]))
 (.reg false [⟨some 53, none, .mov (.t 5)⟩,
 ⟨some 54, none, .bin .add (.t 53) (.c (.p (.int .i64 1)))⟩,
 ⟨some 5, none, .mov (.t 54)⟩] [1, 2, 3, 4, 5] [1, 2, 4]))))
def lp64_1 : IC :=
 (.loop [1, 2, 3, 4, 6, 7, 8] [1, 2, 4, 7] (.seq (.seq (.reg false [⟨some 81, none, .mov (.t 8)⟩,
 ⟨some 82, none, .off (.t 1) 20⟩,
 ⟨some 83, none, .ld (.t 82) 1 false⟩,
 ⟨some 84, none, .mov (.t 6)⟩,
 ⟨some 85, none, .ixs (.t 83) (.t 84) 2⟩,
 ⟨some 86, none, .off (.t 85) 0⟩,
 ⟨some 87, none, .ld (.t 86) 1 false⟩,
 ⟨some 88, none, .len (.t 87)⟩,
 ⟨some 89, none, .bin .lss (.t 81) (.t 88)⟩] [1, 2, 3, 4, 6, 7, 8, 89] [1, 2, 4, 7])
 (.cond (.t 89)
 .skip
 (.exit 4)))
 (.seq (.block 5 (.reg true [⟨some 92, none, .off (.t 7) 0⟩,
 ⟨some 93, none, .ldl 7 (.t 92) 1 false⟩,
 ⟨some 94, none, .off (.t 1) 20⟩,
 ⟨some 95, none, .ldl 1 (.t 94) 1 false⟩,
 ⟨some 96, none, .mov (.t 6)⟩,
 ⟨some 97, none, .ixs (.t 95) (.t 96) 2⟩,
 ⟨some 98, none, .off (.t 97) 0⟩,
 ⟨some 99, none, .ld (.t 98) 1 false⟩,
 ⟨some 100, none, .mov (.t 8)⟩,
 ⟨some 101, none, .ixs (.t 99) (.t 100) 1⟩,
 ⟨some 102, none, .ld (.t 101) 1 false⟩,
 ⟨some 103, none, .mov (.t 3)⟩,
 ⟨some 104, none, .call 158 [(.t 102), (.t 103)] false⟩,
 ⟨some 105, none, .bsl 1 1 [.p (.int .i64 0)] [(0, (.t 104))]⟩,
 ⟨some 106, none, .app (.t 93) (.t 105) 1⟩,
 ⟨some 107, none, .off (.t 7) 0⟩,
 ⟨none, none, .stl 7 (.t 107) (.t 106) 1⟩] [1, 2, 3, 4, 6, 7, 8] [1, 2, 4, 7]))
 (.reg false [⟨some 90, none, .mov (.t 8)⟩,
 ⟨some 91, none, .bin .add (.t 90) (.c (.p (.int .i64 1)))⟩,
 ⟨some 8, none, .mov (.t 91)⟩] [1, 2, 3, 4, 6, 7, 8] [1, 2, 4, 7]))))
def lp64_2 : IC :=
 (.loop [1, 2, 3, 4, 6] [1, 2, 4] (.seq (.seq (.reg false [⟨some 67, none, .mov (.t 6)⟩,
 ⟨some 68, none, .off (.t 1) 20⟩,
 ⟨some 69, none, .ld (.t 68) 1 false⟩,
 ⟨some 70, none, .len (.t 69)⟩,
 ⟨some 71, none, .bin .lss (.t 67) (.t 70)⟩] [1, 2, 3, 4, 6, 71] [1, 2, 4])
 (.cond (.t 71)
 .skip
 (.exit 2)))
 (.seq (.block 3 (.seq (.reg false [⟨some 74, none, .off (.t 1) 20⟩,
 ⟨some 75, none, .ld (.t 74) 1 false⟩,
 ⟨some 76, none, .mov (.t 6)⟩,
 ⟨some 77, none, .ixs (.t 75) (.t 76) 2⟩,
 ⟨some 78, none, .off (.t 77) 1⟩,
 ⟨some 79, none, .ld (.t 78) 1 false⟩,
 ⟨some 80, none, .bld [.nils, .nils] [(1, 1, (.t 79))]⟩,
 ⟨some 7, none, .al [.nils, .nils] true⟩,
 ⟨none, none, .st (.t 7) (.t 80) 2⟩] [1, 2, 3, 4, 6, 7] [1, 2, 4, 7])
 (.seq (.seq (.reg false [⟨some 8, none, .mov (.c (.p (.int .i64 0)))⟩] [1, 2, 3, 4, 6, 7, 8] [1, 2, 4, 7])
 (.block 4 lp64_1))
 (.reg false [⟨some 108, none, .off (.t 4) 20⟩,
 ⟨some 109, none, .ld (.t 108) 1 false⟩,
 ⟨some 110, none, .ld (.t 7) 2 true⟩,
 ⟨some 111, none, .bsl 2 1 [.nils, .nils] [(0, (.t 110))]⟩,
 ⟨some 112, none, .app (.t 109) (.t 111) 2⟩,
 ⟨some 113, none, .off (.t 4) 20⟩,
 ⟨none, none, .st (.t 113) (.t 112) 1⟩] [1, 2, 3, 4, 6] [1, 2, 4]))))
 (.reg false [⟨some 72, none, .mov (.t 6)⟩,
 ⟨some 73, none, .bin .add (.t 72) (.c (.p (.int .i64 1)))⟩,
 ⟨some 6, none, .mov (.t 73)⟩] [1, 2, 3, 4, 6] [1, 2, 4]))))
def lp64_3 : IC :=
 (.loop [1, 2, 3, 4, 9] [1, 2, 4] (.seq (.seq (.reg false [⟨some 114, none, .mov (.t 9)⟩,
 ⟨some 115, none, .off (.t 1) 21⟩,
 ⟨some 116, none, .ld (.t 115) 1 false⟩,
 ⟨some 117, none, .len (.t 116)⟩,
 ⟨some 118, none, .bin .lss (.t 114) (.t 117)⟩] [1, 2, 3, 4, 9, 118] [1, 2, 4])
 (.cond (.t 118)
 .skip
 (.exit 6)))
 (.seq (.block 7 (.seq (.reg false [⟨some 121, none, .off (.t 1) 21⟩,
 ⟨some 122, none, .ld (.t 121) 1 false⟩,
 ⟨some 123, none, .mov (.t 9)⟩,
 ⟨some 124, none, .ixs (.t 122) (.t 123) 3⟩,
 ⟨some 125, none, .ld (.t 124) 3 true⟩,
 ⟨some 10, none, .al [.p (.int .i64 0), .p (.int .i64 0), .p (.int .i64 0)] true⟩,
 ⟨none, none, .st (.t 10) (.t 125) 3⟩] [1, 2, 3, 4, 9, 10] [1, 2, 4, 10])
 (.seq (.reg false [⟨some 126, none, .off (.t 10) 1⟩,
 ⟨some 127, none, .ld (.t 126) 1 false⟩,
 ⟨some 128, none, .mov (.t 3)⟩,
 ⟨some 129, none, .call 158 [(.t 127), (.t 128)] false⟩,
 ⟨some 130, none, .off (.t 10) 1⟩,
 ⟨none, none, .st (.t 130) (.t 129) 1⟩] [1, 2, 3, 4, 9, 10] [1, 2, 4, 10])
 (.reg false [⟨some 131, none, .off (.t 4) 21⟩,
 ⟨some 132, none, .ld (.t 131) 1 false⟩,
 ⟨some 133, none, .ld (.t 10) 3 true⟩,
 ⟨some 134, none, .bsl 3 1 [.p (.int .i64 0), .p (.int .i64 0), .p (.int .i64 0)] [(0, (.t 133))]⟩,
 ⟨some 135, none, .app (.t 132) (.t 134) 3⟩,
 ⟨some 136, none, .off (.t 4) 21⟩,
 ⟨none, none, .st (.t 136) (.t 135) 1⟩] [1, 2, 3, 4, 9] [1, 2, 4]))))
 (.reg false [⟨some 119, none, .mov (.t 9)⟩,
 ⟨some 120, none, .bin .add (.t 119) (.c (.p (.int .i64 1)))⟩,
 ⟨some 9, none, .mov (.t 120)⟩] [1, 2, 3, 4, 9] [1, 2, 4]))))
def ir64 : IFn :=   -- tympan/tympanref14.Snap
⟨(.seq (.reg false [⟨some 1, none, .bx (.t 0) 22 true⟩,
 ⟨some 2, none, .al [.p (.int .i64 0), .p (.int .i64 0), .p (.int .i64 0), .p (.int .i64 0), .p (.int .i64 0), .p (.int .i64 0), .p (.int .i64 0), .p (.int .i64 0), .p (.int .i64 0), .p (.int .i64 0), .p (.int .i64 0), .p (.int .i64 0), .p (.int .i64 0), .p (.int .i64 0), .p (.int .i64 0), .p (.int .i64 0), .p (.int .i64 0), .p (.int .i64 0), .p (.bool false), .nils, .nils, .nils] true⟩] [1, 2] [1, 2])
 (.seq (.reg false [⟨some 11, none, .off (.t 1) 0⟩,
 ⟨some 12, none, .off (.t 11) 5⟩,
 ⟨some 13, none, .ld (.t 12) 1 false⟩,
 ⟨some 3, none, .mov (.t 13)⟩] [1, 2, 3] [1, 2])
 (.seq (.seq (.reg false [⟨some 14, none, .mov (.t 3)⟩,
 ⟨some 15, none, .bin .lss (.t 14) (.c (.p (.int .i64 1)))⟩] [1, 2, 3, 15] [1, 2])
 (.cond (.t 15)
 (.seq (.reg false [⟨some 16, none, .ld (.t 1) 22 true⟩,
 ⟨none, none, .st (.t 2) (.t 16) 22⟩] [2] [2])
 .ret)
 .skip))
 (.seq (.reg false [⟨some 17, none, .off (.t 1) 0⟩,
 ⟨some 18, none, .ld (.t 17) 19 true⟩,
 ⟨some 19, none, .bld [.p (.int .i64 0), .p (.int .i64 0), .p (.int .i64 0), .p (.int .i64 0), .p (.int .i64 0), .p (.int .i64 0), .p (.int .i64 0), .p (.int .i64 0), .p (.int .i64 0), .p (.int .i64 0), .p (.int .i64 0), .p (.int .i64 0), .p (.int .i64 0), .p (.int .i64 0), .p (.int .i64 0), .p (.int .i64 0), .p (.int .i64 0), .p (.int .i64 0), .p (.bool false), .nils, .nils, .nils] [(0, 19, (.t 18))]⟩,
 ⟨some 4, none, .al [.p (.int .i64 0), .p (.int .i64 0), .p (.int .i64 0), .p (.int .i64 0), .p (.int .i64 0), .p (.int .i64 0), .p (.int .i64 0), .p (.int .i64 0), .p (.int .i64 0), .p (.int .i64 0), .p (.int .i64 0), .p (.int .i64 0), .p (.int .i64 0), .p (.int .i64 0), .p (.int .i64 0), .p (.int .i64 0), .p (.int .i64 0), .p (.int .i64 0), .p (.bool false), .nils, .nils, .nils] true⟩,
 ⟨none, none, .st (.t 4) (.t 19) 22⟩] [1, 2, 3, 4] [1, 2, 4])
 (.seq (.reg false [⟨some 20, none, .off (.t 1) 0⟩,
 ⟨some 21, none, .off (.t 20) 3⟩,
 ⟨some 22, none, .ld (.t 21) 1 false⟩,
 ⟨some 23, none, .mov (.t 3)⟩,
 ⟨some 24, none, .call 157 [(.t 22), (.t 23)] false⟩,
 ⟨some 25, none, .off (.t 4) 0⟩,
 ⟨some 26, none, .off (.t 25) 3⟩,
 ⟨none, none, .st (.t 26) (.t 24) 1⟩] [1, 2, 3, 4] [1, 2, 4])
 (.seq (.reg false [⟨some 27, none, .off (.t 1) 0⟩,
 ⟨some 28, none, .off (.t 27) 4⟩,
 ⟨some 29, none, .ld (.t 28) 1 false⟩,
 ⟨some 30, none, .mov (.t 3)⟩,
 ⟨some 31, none, .call 157 [(.t 29), (.t 30)] false⟩,
 ⟨some 32, none, .off (.t 4) 0⟩,
 ⟨some 33, none, .off (.t 32) 4⟩,
 ⟨none, none, .st (.t 33) (.t 31) 1⟩] [1, 2, 3, 4] [1, 2, 4])
 (.seq (.reg false [⟨some 34, none, .off (.t 1) 0⟩,
 ⟨some 35, none, .off (.t 34) 6⟩,
 ⟨some 36, none, .ld (.t 35) 1 false⟩,
 ⟨some 37, none, .mov (.t 3)⟩,
 ⟨some 38, none, .call 158 [(.t 36), (.t 37)] false⟩,
 ⟨some 39, none, .off (.t 4) 0⟩,
 ⟨some 40, none, .off (.t 39) 6⟩,
 ⟨none, none, .st (.t 40) (.t 38) 1⟩] [1, 2, 3, 4] [1, 2, 4])
 (.seq (.reg false [⟨some 41, none, .off (.t 1) 0⟩,
 ⟨some 42, none, .off (.t 41) 7⟩,
 ⟨some 43, none, .ld (.t 42) 1 false⟩,
 ⟨some 44, none, .mov (.t 3)⟩,
 ⟨some 45, none, .call 158 [(.t 43), (.t 44)] false⟩,
 ⟨some 46, none, .off (.t 4) 0⟩,
 ⟨some 47, none, .off (.t 46) 7⟩,
 ⟨none, none, .st (.t 47) (.t 45) 1⟩] [1, 2, 3, 4] [1, 2, 4])
 (.seq (.seq (.reg false [⟨some 5, none, .mov (.c (.p (.int .i64 0)))⟩] [1, 2, 3, 4, 5] [1, 2, 4])
 (.block 0 lp64_0))
 (.seq (.seq (.reg false [⟨some 6, none, .mov (.c (.p (.int .i64 0)))⟩] [1, 2, 3, 4, 6] [1, 2, 4])
 (.block 2 lp64_2))
 (.seq (.seq (.reg false [⟨some 9, none, .mov (.c (.p (.int .i64 0)))⟩] [1, 2, 3, 4, 9] [1, 2, 4])
 (.block 6 lp64_3))
 (.seq (.reg false [⟨some 137, none, .ld (.t 4) 22 true⟩,
 ⟨none, none, .st (.t 2) (.t 137) 22⟩] [2] [2])
 .ret)))))))))))),
 [.cell 2 22 true], false⟩
def ir65 : IFn :=   -- (*tympan/vlist.List).Trim
⟨(.seq (.reg false [⟨some 4, none, .mov (.c (.p (.int .i64 0)))⟩] [0, 1] [])
 (.seq (.seq (.reg false [⟨some 5, none, .mov (.t 0)⟩,
 ⟨some 6, none, .eqn .ptr false (.t 5)⟩] [0, 1, 6] [])
 (.cond (.t 6)
 (.seq (.reg false [⟨some 4, none, .mov (.c (.p (.int .i64 0)))⟩] [4] [])
 .ret)
 .skip))
 (.seq (.reg false [⟨some 7, none, .mov (.t 0)⟩,
 ⟨some 8, none, .mov (.t 1)⟩,
 ⟨some 9, none, .mnmx true (.t 8) (.c (.p (.int .i64 0)))⟩,
 ⟨some 10, none, .mov (.t 0)⟩,
 ⟨some 11, none, .call 78 [(.t 10)] false⟩,
 ⟨some 12, none, .mnmx false (.t 9) (.t 11)⟩,
 ⟨some 13, none, .mov (.t 0)⟩,
 ⟨some 14, none, .mkf (.func 161) [(.t 13)] []⟩,
 ⟨some 15, none, .call 160 [(.t 7), (.t 12), (.t 14)] false⟩,
 ⟨some 4, none, .mov (.t 15)⟩] [4] [])
 .ret))),
 [.tmp 4], false⟩
def ir66 : IFn :=   -- tympan/split.Next
⟨(.seq (.reg false [⟨some 4, none, .bx (.t 1) 4 true⟩,
 ⟨some 6, none, .mov (.c (.p (.int .i64 0)))⟩,
 ⟨some 7, none, .mov (.c (.p (.int .i64 0)))⟩] [0, 2, 4] [4])
 (.seq (.seq (.reg false [⟨some 9, none, .mov (.t 2)⟩,
 ⟨some 10, none, .len (.t 9)⟩,
 ⟨some 11, none, .bin .eql (.t 10) (.c (.p (.int .i64 0)))⟩] [0, 2, 4, 11] [4])
 (.cond (.t 11)
 (.seq (.reg true [⟨some 12, none, .off (.t 4) 0⟩,
 ⟨some 13, none, .ldl 4 (.t 12) 1 false⟩,
 ⟨some 14, none, .off (.t 4) 1⟩,
 ⟨some 15, none, .ldl 4 (.t 14) 1 false⟩,
 ⟨some 6, none, .mov (.t 13)⟩,
 ⟨some 7, none, .mov (.t 15)⟩] [6, 7] [])
 .ret)
 .skip))
 (.seq (.reg false [⟨some 16, none, .mov (.t 2)⟩,
 ⟨some 17, none, .mov (.t 2)⟩,
 ⟨some 18, none, .len (.t 17)⟩,
 ⟨some 19, none, .bin .sub (.t 18) (.c (.p (.int .i64 1)))⟩,
 ⟨some 20, none, .ixs (.t 16) (.t 19) 3⟩,
 ⟨some 21, none, .ld (.t 20) 3 true⟩,
 ⟨some 8, none, .al [.p (.int .i64 0), .p (.int .i64 0), .p (.int .i64 0)] true⟩,
 ⟨none, none, .st (.t 8) (.t 21) 3⟩] [0, 8] [8])
 (.seq (.seq (.reg true [⟨some 22, none, .off (.t 8) 0⟩,
 ⟨some 23, none, .ldl 8 (.t 22) 1 false⟩,
 ⟨some 24, none, .bin .geq (.t 23) (.c (.p (.int .i64 0)))⟩,
 ⟨some 25, none, .mov (.t 24)⟩,
 ⟨some 26, (some (25, true)), .off (.t 8) 0⟩,
 ⟨some 27, (some (25, true)), .ldl 8 (.t 26) 1 false⟩,
 ⟨some 28, (some (25, true)), .mov (.t 0)⟩,
 ⟨some 29, (some (25, true)), .len (.t 28)⟩,
 ⟨some 30, (some (25, true)), .bin .lss (.t 27) (.t 29)⟩,
 ⟨some 31, none, .pick (.t 25) (.t 30) (.c (.p (.bool false)))⟩,
 ⟨some 32, none, .mov (.t 31)⟩,
 ⟨some 33, (some (32, true)), .off (.t 8) 2⟩,
 ⟨some 34, (some (32, true)), .ldl 8 (.t 33) 1 false⟩,
 ⟨some 35, (some (32, true)), .mov (.t 0)⟩,
 ⟨some 36, (some (32, true)), .off (.t 8) 0⟩,
 ⟨some 37, (some (32, true)), .ldl 8 (.t 36) 1 false⟩,
 ⟨some 38, (some (32, true)), .ixs (.t 35) (.t 37) 2⟩,
 ⟨some 39, (some (32, true)), .off (.t 38) 0⟩,
 ⟨some 40, (some (32, true)), .ld (.t 39) 1 false⟩,
 ⟨some 41, (some (32, true)), .len (.t 40)⟩,
 ⟨some 42, (some (32, true)), .bin .eql (.t 34) (.t 41)⟩,
 ⟨some 43, none, .pick (.t 32) (.t 42) (.c (.p (.bool false)))⟩] [8, 43] [8])
 (.cond (.t 43)
 (.seq (.reg false [⟨some 44, none, .off (.t 8) 0⟩,
 ⟨some 45, none, .ld (.t 44) 1 false⟩,
 ⟨some 46, none, .bin .add (.t 45) (.c (.p (.int .i64 1)))⟩,
 ⟨some 6, none, .mov (.t 46)⟩,
 ⟨some 7, none, .mov (.c (.p (.int .i64 0)))⟩] [6, 7] [])
 .ret)
 .skip))
 (.seq (.reg true [⟨some 47, none, .off (.t 8) 0⟩,
 ⟨some 48, none, .ldl 8 (.t 47) 1 false⟩,
 ⟨some 49, none, .off (.t 8) 2⟩,
 ⟨some 50, none, .ldl 8 (.t 49) 1 false⟩,
 ⟨some 6, none, .mov (.t 48)⟩,
 ⟨some 7, none, .mov (.t 50)⟩] [6, 7] [])
 .ret))))),
 [.tmp 6, .tmp 7], false⟩
def ir67 : IFn :=   -- (tympan/queue.Counts).Add
⟨(.seq (.reg false [⟨some 2, none, .bx (.t 0) 3 true⟩,
 ⟨some 3, none, .bx (.t 1) 3 true⟩,
 ⟨some 4, none, .al [.p (.int .i64 0), .p (.int .i64 0), .p (.int .i64 0)] true⟩] [2, 3, 4] [2, 3, 4])
 (.seq (.reg false [⟨some 5, none, .ld (.t 2) 3 true⟩,
 ⟨some 6, none, .ld (.t 3) 3 true⟩,
 ⟨some 7, none, .call 162 [(.t 5), (.t 6), (.c (.p (.int .i64 (-1073741824)))), (.c (.p (.fn 163)))] false⟩,
 ⟨none, none, .st (.t 4) (.t 7) 3⟩] [4] [4])
 .ret)),
 [.cell 4 3 true], false⟩
def lp68_0 : IC :=
 (.loop [0, 4, 5, 10, 11, 12] [4, 5] (.seq (.reg false [⟨some 13, none, .bin .lss (.t 12) (.t 11)⟩] [0, 4, 5, 10, 11, 12, 13] [4, 5])
 (.seq (.cond (.t 13)
 .skip
 (.exit 0))
 (.seq (.block 1 (.seq (.reg false [⟨some 14, none, .ixs (.t 10) (.t 12) 1⟩,
 ⟨some 15, none, .ld (.t 14) 1 false⟩,
 ⟨some 7, none, .mov (.t 15)⟩] [0, 4, 5, 7, 10, 11, 12] [4, 5])
 (.seq (.reg false [⟨some 17, none, .mov (.t 0)⟩,
 ⟨some 18, none, .mov (.t 7)⟩,
 ⟨some 19, none, .call 155 [(.t 17), (.t 18)] false⟩,
 ⟨some 16, none, .mov (.t 19)⟩,
 ⟨some 20, none, .ext (.t 16) 0⟩,
 ⟨some 21, none, .ext (.t 16) 1⟩,
 ⟨some 8, none, .al [.p (.int .i64 0), .p (.int .i64 0), .p (.int .i64 0)] true⟩,
 ⟨none, none, .st (.t 8) (.t 20) 3⟩,
 ⟨some 9, none, .mov (.t 21)⟩] [0, 4, 5, 8, 9, 10, 11, 12] [4, 5, 8])
 (.seq (.reg false [⟨some 22, none, .mov (.t 9)⟩,
 ⟨some 23, none, .mov (.t 22)⟩,
 ⟨some 24, (some (23, true)), .off (.t 8) 0⟩,
 ⟨some 25, (some (23, true)), .ld (.t 24) 1 false⟩,
 ⟨some 26, (some (23, true)), .bin .geq (.t 25) (.c (.p (.int .i64 0)))⟩,
 ⟨some 27, none, .pick (.t 23) (.t 26) (.c (.p (.bool false)))⟩,
 ⟨some 28, none, .mov (.t 27)⟩,
 ⟨some 29, (some (28, true)), .off (.t 8) 0⟩,
 ⟨some 30, (some (28, true)), .ld (.t 29) 1 false⟩,
 ⟨some 31, (some (28, true)), .bin .lss (.t 30) (.c (.p (.int .i64 3)))⟩,
 ⟨some 32, none, .pick (.t 28) (.t 31) (.c (.p (.bool false)))⟩] [0, 4, 5, 8, 10, 11, 12, 32] [4, 5, 8])
 (.cond (.t 32)
 (.reg false [⟨some 33, none, .off (.t 8) 0⟩,
 ⟨some 34, none, .ld (.t 33) 1 false⟩,
 ⟨some 35, none, .ixa (.t 5) (.t 34) 1 3⟩,
 ⟨some 36, none, .ld (.t 35) 1 false⟩,
 ⟨some 37, none, .bin .add (.t 36) (.c (.p (.int .i64 1)))⟩,
 ⟨some 38, none, .ixa (.t 5) (.t 34) 1 3⟩,
 ⟨none, none, .st (.t 38) (.t 37) 1⟩] [0, 4, 5, 10, 11, 12] [4, 5])
 .skip)))))
 (.reg false [⟨some 39, none, .bin .add (.t 12) (.c (.p (.int .i64 1)))⟩,
 ⟨some 12, none, .mov (.t 39)⟩] [0, 4, 5, 10, 11, 12] [4, 5])))))
def ir68 : IFn :=   -- tympan/queue.Of
⟨(.seq (.reg false [⟨some 4, none, .al [.p (.int .i64 0), .p (.int .i64 0), .p (.int .i64 0)] true⟩] [0, 1, 4] [4])
 (.seq (.reg false [⟨some 5, none, .al [.p (.int .i64 0), .p (.int .i64 0), .p (.int .i64 0)] true⟩] [0, 1, 4, 5] [4, 5])
 (.seq (.seq (.reg false [⟨some 10, none, .mov (.t 1)⟩,
 ⟨some 11, none, .len (.t 10)⟩,
 ⟨some 12, none, .mov (.c (.p (.int .i64 0)))⟩] [0, 4, 5, 10, 11, 12] [4, 5])
 (.block 0 lp68_0))
 (.seq (.reg false [⟨some 40, none, .ld (.t 5) 3 true⟩,
 ⟨none, none, .st (.t 4) (.t 40) 3⟩] [4] [4])
 .ret)))),
 [.cell 4 3 true], false⟩
def ir69 : IFn :=   -- (tympan/tympanref25.World).Right
⟨(.seq (.reg false [⟨some 2, none, .bx (.t 0) 22 true⟩,
 ⟨some 3, none, .bx (.t 1) 7 true⟩,
 ⟨some 4, none, .mov (.c (.p (.bool false)))⟩] [2, 3] [2, 3])
 (.seq (.reg false [⟨some 11, none, .off (.t 2) 0⟩,
 ⟨some 12, none, .off (.t 11) 19⟩,
 ⟨some 13, none, .ld (.t 12) 1 false⟩,
 ⟨some 5, none, .mov (.t 13)⟩] [2, 3, 5] [2, 3])
 (.seq (.seq (.reg true [⟨some 14, none, .off (.t 3) 0⟩,
 ⟨some 15, none, .ldl 3 (.t 14) 1 false⟩,
 ⟨some 16, none, .bin .lss (.t 15) (.c (.p (.int .i64 0)))⟩,
 ⟨some 17, none, .mov (.t 16)⟩,
 ⟨some 18, (some (17, false)), .off (.t 3) 0⟩,
 ⟨some 19, (some (17, false)), .ldl 3 (.t 18) 1 false⟩,
 ⟨some 20, (some (17, false)), .mov (.t 5)⟩,
 ⟨some 21, (some (17, false)), .len (.t 20)⟩,
 ⟨some 22, (some (17, false)), .bin .gtr (.t 19) (.t 21)⟩,
 ⟨some 23, none, .pick (.t 17) (.c (.p (.bool true))) (.t 22)⟩,
 ⟨some 24, none, .mov (.t 23)⟩,
 ⟨some 25, (some (24, false)), .mov (.t 5)⟩,
 ⟨some 26, (some (24, false)), .off (.t 3) 0⟩,
 ⟨some 27, (some (24, false)), .ldl 3 (.t 26) 1 false⟩,
 ⟨some 28, (some (24, false)), .call 72 [(.t 25), (.t 27)] false⟩,
 ⟨some 29, (some (24, false)), .off (.t 3) 0⟩,
 ⟨some 30, (some (24, false)), .ldl 3 (.t 29) 1 false⟩,
 ⟨some 31, (some (24, false)), .bin .neq (.t 28) (.t 30)⟩,
 ⟨some 32, none, .pick (.t 24) (.c (.p (.bool true))) (.t 31)⟩,
 ⟨some 33, none, .mov (.t 32)⟩,
 ⟨some 34, (some (33, false)), .off (.t 3) 1⟩,
 ⟨some 35, (some (33, false)), .ldl 3 (.t 34) 1 false⟩,
 ⟨some 36, (some (33, false)), .bin .lss (.t 35) (.c (.p (.int .i64 0)))⟩,
 ⟨some 37, none, .pick (.t 33) (.c (.p (.bool true))) (.t 36)⟩,
 ⟨some 38, none, .mov (.t 37)⟩,
 ⟨some 39, (some (38, false)), .off (.t 3) 1⟩,
 ⟨some 40, (some (38, false)), .ldl 3 (.t 39) 1 false⟩,
 ⟨some 41, (some (38, false)), .off (.t 2) 0⟩,
 ⟨some 42, (some (38, false)), .off (.t 41) 0⟩,
 ⟨some 43, (some (38, false)), .off (.t 42) 0⟩,
 ⟨some 44, (some (38, false)), .ldl 2 (.t 43) 1 false⟩,
 ⟨some 45, (some (38, false)), .bin .gtr (.t 40) (.t 44)⟩,
 ⟨some 46, none, .pick (.t 38) (.c (.p (.bool true))) (.t 45)⟩] [2, 3, 5, 46] [2, 3])
 (.cond (.t 46)
 (.seq (.reg false [⟨some 4, none, .mov (.c (.p (.bool false)))⟩] [4] [])
 .ret)
 .skip))
 (.seq (.reg false [⟨some 47, none, .ld (.t 2) 22 true⟩,
 ⟨some 48, none, .off (.t 3) 0⟩,
 ⟨some 49, none, .ld (.t 48) 1 false⟩,
 ⟨some 50, none, .call 164 [(.t 47), (.t 49)] false⟩,
 ⟨some 6, none, .mov (.t 50)⟩] [2, 3, 5, 6] [2, 3])
 (.seq (.reg false [⟨some 51, none, .off (.t 3) 2⟩,
 ⟨some 52, none, .ld (.t 51) 1 false⟩,
 ⟨some 53, none, .mov (.t 6)⟩,
 ⟨some 54, none, .bin .eql (.t 52) (.t 53)⟩,
 ⟨some 55, none, .mov (.t 54)⟩,
 ⟨some 56, (some (55, true)), .off (.t 3) 3⟩,
 ⟨some 57, (some (55, true)), .ld (.t 56) 1 false⟩,
 ⟨some 58, (some (55, true)), .bin .eql (.t 57) (.c (.p (.int .i64 0)))⟩,
 ⟨some 59, none, .pick (.t 55) (.t 58) (.c (.p (.bool false)))⟩,
 ⟨some 7, none, .mov (.t 59)⟩] [2, 3, 5, 6, 7] [2, 3])
 (.seq (.reg false [⟨some 60, none, .off (.t 3) 2⟩,
 ⟨some 61, none, .ld (.t 60) 1 false⟩,
 ⟨some 62, none, .mov (.t 6)⟩,
 ⟨some 63, none, .bin .sub (.t 62) (.c (.p (.int .i64 1)))⟩,
 ⟨some 64, none, .bin .eql (.t 61) (.t 63)⟩,
 ⟨some 65, none, .mov (.t 64)⟩,
 ⟨some 66, (some (65, true)), .off (.t 3) 2⟩,
 ⟨some 67, (some (65, true)), .ld (.t 66) 1 false⟩,
 ⟨some 68, (some (65, true)), .bin .geq (.t 67) (.c (.p (.int .i64 0)))⟩,
 ⟨some 69, none, .pick (.t 65) (.t 68) (.c (.p (.bool false)))⟩,
 ⟨some 70, none, .mov (.t 69)⟩,
 ⟨some 71, (some (70, true)), .off (.t 3) 3⟩,
 ⟨some 72, (some (70, true)), .ld (.t 71) 1 false⟩,
 ⟨some 73, (some (70, true)), .bin .geq (.t 72) (.c (.p (.int .i64 1)))⟩,
 ⟨some 74, none, .pick (.t 70) (.t 73) (.c (.p (.bool false)))⟩,
 ⟨some 8, none, .mov (.t 74)⟩] [2, 3, 5, 7, 8] [2, 3])
 (.seq (.seq (.reg false [⟨some 75, none, .mov (.t 8)⟩] [2, 3, 5, 7, 8, 75] [2, 3])
 (.cond (.t 75)
 (.seq (.reg false [⟨some 76, none, .off (.t 2) 0⟩,
 ⟨some 77, none, .off (.t 76) 20⟩,
 ⟨some 78, none, .ld (.t 77) 1 false⟩,
 ⟨some 79, none, .off (.t 3) 2⟩,
 ⟨some 80, none, .ld (.t 79) 1 false⟩,
 ⟨some 81, none, .ixs (.t 78) (.t 80) 2⟩,
 ⟨some 82, none, .ld (.t 81) 2 true⟩,
 ⟨some 9, none, .al [.nils, .nils] true⟩,
 ⟨none, none, .st (.t 9) (.t 82) 2⟩] [2, 3, 5, 7, 9] [2, 3, 9])
 (.reg false [⟨some 83, none, .off (.t 3) 3⟩,
 ⟨some 84, none, .ld (.t 83) 1 false⟩,
 ⟨some 85, none, .off (.t 9) 0⟩,
 ⟨some 86, none, .ld (.t 85) 1 false⟩,
 ⟨some 87, none, .len (.t 86)⟩,
 ⟨some 88, none, .bin .lss (.t 84) (.t 87)⟩,
 ⟨some 89, none, .mov (.t 88)⟩,
 ⟨some 90, (some (89, true)), .ld (.t 9) 2 true⟩,
 ⟨some 91, (some (89, true)), .off (.t 3) 3⟩,
 ⟨some 92, (some (89, true)), .ld (.t 91) 1 false⟩,
 ⟨some 93, (some (89, true)), .call 165 [(.t 90), (.t 92)] false⟩,
 ⟨some 94, none, .pick (.t 89) (.t 93) (.c (.p (.bool false)))⟩,
 ⟨some 8, none, .mov (.t 94)⟩] [2, 3, 5, 7, 8] [2, 3]))
 .skip))
 (.seq (.reg false [⟨some 95, none, .mov (.t 5)⟩,
 ⟨some 96, none, .off (.t 2) 0⟩,
 ⟨some 97, none, .off (.t 96) 21⟩,
 ⟨some 98, none, .ld (.t 97) 1 false⟩,
 ⟨some 99, none, .off (.t 3) 0⟩,
 ⟨some 100, none, .ld (.t 99) 1 false⟩,
 ⟨some 101, none, .call 166 [(.t 95), (.t 98), (.t 100)] false⟩,
 ⟨some 10, none, .al [.p (.int .i64 0), .p (.int .i64 0), .p (.int .i64 0)] true⟩,
 ⟨none, none, .st (.t 10) (.t 101) 3⟩] [3, 7, 8, 10] [3, 10])
 (.seq (.reg false [⟨some 102, none, .mov (.t 7)⟩,
 ⟨some 103, none, .mov (.t 102)⟩,
 ⟨some 104, (some (103, false)), .mov (.t 8)⟩,
 ⟨some 105, none, .pick (.t 103) (.c (.p (.bool true))) (.t 104)⟩,
 ⟨some 106, none, .mov (.t 105)⟩,
 ⟨some 107, (some (106, true)), .bld [.p (.int .i64 0), .p (.int .i64 0), .p (.int .i64 0)] []⟩,
 ⟨some 108, (some (106, true)), .off (.t 3) 4⟩,
 ⟨some 109, (some (106, true)), .ld (.t 108) 3 true⟩,
 ⟨some 110, (some (106, true)), .call 167 [(.t 107), (.t 109)] false⟩,
 ⟨some 111, none, .pick (.t 106) (.t 110) (.c (.p (.bool false)))⟩,
 ⟨some 112, none, .mov (.t 111)⟩,
 ⟨some 113, (some (112, true)), .off (.t 3) 4⟩,
 ⟨some 114, (some (112, true)), .ld (.t 113) 3 true⟩,
 ⟨some 115, (some (112, true)), .ld (.t 10) 3 true⟩,
 ⟨some 116, (some (112, true)), .call 167 [(.t 114), (.t 115)] false⟩,
 ⟨some 117, none, .pick (.t 112) (.t 116) (.c (.p (.bool false)))⟩,
 ⟨some 4, none, .mov (.t 117)⟩] [4] [])
 .ret))))))))),
 [.tmp 4], false⟩
def ir70 : IFn :=   -- tympan/tympanref22.Next
⟨(.seq (.reg false [⟨some 4, none, .bx (.t 1) 4 true⟩,
 ⟨some 6, none, .al [.p (.int .i64 0), .p (.int .i64 0)] true⟩] [0, 2, 4, 6] [4, 6])
 (.seq (.seq (.reg false [⟨some 8, none, .mov (.t 2)⟩,
 ⟨some 9, none, .len (.t 8)⟩,
 ⟨some 10, none, .bin .eql (.t 9) (.c (.p (.int .i64 0)))⟩] [0, 2, 4, 6, 10] [4, 6])
 (.cond (.t 10)
 (.seq (.reg false [⟨some 11, none, .off (.t 4) 0⟩,
 ⟨some 12, none, .ld (.t 11) 1 false⟩,
 ⟨some 13, none, .off (.t 4) 1⟩,
 ⟨some 14, none, .ld (.t 13) 1 false⟩,
 ⟨some 15, none, .bld [.p (.int .i64 0), .p (.int .i64 0)] [(0, 1, (.t 12)), (1, 1, (.t 14))]⟩,
 ⟨none, none, .st (.t 6) (.t 15) 2⟩] [6] [6])
 .ret)
 .skip))
 (.seq (.reg false [⟨some 16, none, .mov (.t 2)⟩,
 ⟨some 17, none, .mov (.t 2)⟩,
 ⟨some 18, none, .len (.t 17)⟩,
 ⟨some 19, none, .bin .sub (.t 18) (.c (.p (.int .i64 1)))⟩,
 ⟨some 20, none, .ixs (.t 16) (.t 19) 3⟩,
 ⟨some 21, none, .ld (.t 20) 3 true⟩,
 ⟨some 7, none, .al [.p (.int .i64 0), .p (.int .i64 0), .p (.int .i64 0)] true⟩,
 ⟨none, none, .st (.t 7) (.t 21) 3⟩] [0, 6, 7] [6, 7])
 (.seq (.seq (.reg true [⟨some 22, none, .off (.t 7) 0⟩,
 ⟨some 23, none, .ldl 7 (.t 22) 1 false⟩,
 ⟨some 24, none, .bin .geq (.t 23) (.c (.p (.int .i64 0)))⟩,
 ⟨some 25, none, .mov (.t 24)⟩,
 ⟨some 26, (some (25, true)), .off (.t 7) 0⟩,
 ⟨some 27, (some (25, true)), .ldl 7 (.t 26) 1 false⟩,
 ⟨some 28, (some (25, true)), .mov (.t 0)⟩,
 ⟨some 29, (some (25, true)), .len (.t 28)⟩,
 ⟨some 30, (some (25, true)), .bin .lss (.t 27) (.t 29)⟩,
 ⟨some 31, none, .pick (.t 25) (.t 30) (.c (.p (.bool false)))⟩,
 ⟨some 32, none, .mov (.t 31)⟩,
 ⟨some 33, (some (32, true)), .off (.t 7) 2⟩,
 ⟨some 34, (some (32, true)), .ldl 7 (.t 33) 1 false⟩,
 ⟨some 35, (some (32, true)), .mov (.t 0)⟩,
 ⟨some 36, (some (32, true)), .off (.t 7) 0⟩,
 ⟨some 37, (some (32, true)), .ldl 7 (.t 36) 1 false⟩,
 ⟨some 38, (some (32, true)), .ixs (.t 35) (.t 37) 2⟩,
 ⟨some 39, (some (32, true)), .off (.t 38) 0⟩,
 ⟨some 40, (some (32, true)), .ld (.t 39) 1 false⟩,
 ⟨some 41, (some (32, true)), .len (.t 40)⟩,
 ⟨some 42, (some (32, true)), .bin .eql (.t 34) (.t 41)⟩,
 ⟨some 43, none, .pick (.t 32) (.t 42) (.c (.p (.bool false)))⟩] [6, 7, 43] [6, 7])
 (.cond (.t 43)
 (.seq (.reg false [⟨some 44, none, .off (.t 7) 0⟩,
 ⟨some 45, none, .ld (.t 44) 1 false⟩,
 ⟨some 46, none, .bin .add (.t 45) (.c (.p (.int .i64 1)))⟩,
 ⟨some 47, none, .bld [.p (.int .i64 0), .p (.int .i64 0)] [(0, 1, (.t 46)), (1, 1, (.c (.p (.int .i64 0))))]⟩,
 ⟨none, none, .st (.t 6) (.t 47) 2⟩] [6] [6])
 .ret)
 .skip))
 (.seq (.reg false [⟨some 48, none, .off (.t 7) 0⟩,
 ⟨some 49, none, .ld (.t 48) 1 false⟩,
 ⟨some 50, none, .off (.t 7) 2⟩,
 ⟨some 51, none, .ld (.t 50) 1 false⟩,
 ⟨some 52, none, .bld [.p (.int .i64 0), .p (.int .i64 0)] [(0, 1, (.t 49)), (1, 1, (.t 51))]⟩,
 ⟨none, none, .st (.t 6) (.t 52) 2⟩] [6] [6])
 .ret))))),
 [.cell 6 2 true], false⟩
def ir71 : IFn :=   -- (tympan/tympanref25.World).Spot
⟨(.seq (.reg false [⟨some 3, none, .bx (.t 0) 22 true⟩,
 ⟨some 4, none, .bx (.t 1) 7 true⟩,
 ⟨some 6, none, .al [.p (.int .i64 0), .p (.int .i64 0), .p (.int .i64 0), .p (.bool false)] true⟩] [2, 3, 4, 6] [3, 4, 6])
 (.seq (.seq (.reg false [⟨some 7, none, .ld (.t 3) 22 true⟩,
 ⟨some 8, none, .ld (.t 4) 7 true⟩,
 ⟨some 9, none, .call 69 [(.t 7), (.t 8)] false⟩,
 ⟨some 10, none, .un .not (.t 9)⟩] [2, 3, 4, 6, 10] [3, 4, 6])
 (.cond (.t 10)
 (.seq (.reg false [⟨some 11, none, .bld [.p (.int .i64 0), .p (.int .i64 0), .p (.int .i64 0), .p (.bool false)] []⟩,
 ⟨none, none, .st (.t 6) (.t 11) 4⟩] [6] [6])
 .ret)
 .skip))
 (.seq (.reg true [⟨some 12, none, .off (.t 4) 2⟩,
 ⟨some 13, none, .ldl 4 (.t 12) 1 false⟩,
 ⟨some 14, none, .off (.t 4) 3⟩,
 ⟨some 15, none, .ldl 4 (.t 14) 1 false⟩,
 ⟨some 16, none, .ldl 3 (.t 3) 22 true⟩,
 ⟨some 17, none, .mov (.t 2)⟩,
 ⟨some 18, none, .call 164 [(.t 16), (.t 17)] false⟩,
 ⟨some 19, none, .ldl 3 (.t 3) 22 true⟩,
 ⟨some 20, none, .mov (.t 2)⟩,
 ⟨some 21, none, .call 164 [(.t 19), (.t 20)] false⟩,
 ⟨some 22, none, .ldl 3 (.t 3) 22 true⟩,
 ⟨some 23, none, .off (.t 4) 0⟩,
 ⟨some 24, none, .ldl 4 (.t 23) 1 false⟩,
 ⟨some 25, none, .call 164 [(.t 22), (.t 24)] false⟩,
 ⟨some 26, none, .bin .gtr (.t 21) (.t 25)⟩,
 ⟨some 27, none, .bld [.p (.int .i64 0), .p (.int .i64 0), .p (.int .i64 0), .p (.bool false)] [(0, 1, (.t 13)), (1, 1, (.t 15)), (2, 1, (.t 18)), (3, 1, (.t 26))]⟩,
 ⟨none, none, .stl 6 (.t 6) (.t 27) 4⟩] [6] [6])
 .ret))),
 [.cell 6 4 true], false⟩
def lp72_0 : IC :=
 (.loop [0, 5] [] (.seq (.seq (.reg false [⟨some 11, none, .mov (.t 5)⟩,
 ⟨some 12, none, .mov (.t 0)⟩,
 ⟨some 13, none, .len (.t 12)⟩,
 ⟨some 14, none, .bin .lss (.t 11) (.t 13)⟩,
 ⟨some 15, none, .mov (.t 14)⟩,
 ⟨some 16, (some (15, true)), .mov (.t 0)⟩,
 ⟨some 17, (some (15, true)), .mov (.t 5)⟩,
 ⟨some 18, (some (15, true)), .ixs (.t 16) (.t 17) 7⟩,
 ⟨some 19, (some (15, true)), .ld (.t 18) 7 true⟩,
 ⟨some 20, (some (15, true)), .call 168 [(.t 19)] false⟩,
 ⟨some 21, none, .pick (.t 15) (.t 20) (.c (.p (.bool false)))⟩] [0, 5, 21] [])
 (.cond (.t 21)
 .skip
 (.exit 0)))
 (.block 1 (.reg false [⟨some 22, none, .mov (.t 5)⟩,
 ⟨some 23, none, .bin .add (.t 22) (.c (.p (.int .i64 1)))⟩,
 ⟨some 5, none, .mov (.t 23)⟩] [0, 5] []))))
def ir72 : IFn :=   -- tympan/tympanref18.Trim
⟨(.seq (.reg false [⟨some 4, none, .mov (.c (.p (.int .i64 0)))⟩] [0, 1] [])
 (.seq (.reg false [⟨some 6, none, .mov (.t 1)⟩,
 ⟨some 7, none, .mov (.t 0)⟩,
 ⟨some 8, none, .len (.t 7)⟩,
 ⟨some 9, none, .mnmx false (.t 6) (.t 8)⟩,
 ⟨some 10, none, .mnmx true (.c (.p (.int .i64 0))) (.t 9)⟩,
 ⟨some 5, none, .mov (.t 10)⟩] [0, 5] [])
 (.seq (.block 0 lp72_0)
 (.seq (.reg false [⟨some 24, none, .mov (.t 5)⟩,
 ⟨some 4, none, .mov (.t 24)⟩] [4] [])
 .ret)))),
 [.tmp 4], false⟩
def lp73_0 : IC :=
 (.loop [2, 3, 4, 5, 6] [2, 3, 4, 5] (.seq (.seq (.reg false [⟨some 7, none, .mov (.t 6)⟩,
 ⟨some 8, none, .bin .lss (.t 7) (.c (.p (.int .i64 3)))⟩] [2, 3, 4, 5, 6, 8] [2, 3, 4, 5])
 (.cond (.t 8)
 .skip
 (.exit 0)))
 (.seq (.block 1 (.reg true [⟨some 11, none, .mov (.t 6)⟩,
 ⟨some 12, none, .mov (.t 6)⟩,
 ⟨some 13, none, .ixa (.t 2) (.t 12) 1 3⟩,
 ⟨some 14, none, .ldl 2 (.t 13) 1 false⟩,
 ⟨some 15, none, .call 169 [(.t 14), (.c (.p (.int .i64 (-1073741824)))), (.c (.p (.int .i64 1073741824)))] false⟩,
 ⟨some 16, none, .mov (.t 6)⟩,
 ⟨some 17, none, .ixa (.t 3) (.t 16) 1 3⟩,
 ⟨some 18, none, .ldl 3 (.t 17) 1 false⟩,
 ⟨some 19, none, .call 169 [(.t 18), (.c (.p (.int .i64 (-1073741824)))), (.c (.p (.int .i64 1073741824)))] false⟩,
 ⟨some 20, none, .bin .add (.t 15) (.t 19)⟩,
 ⟨some 21, none, .call 169 [(.t 20), (.c (.p (.int .i64 (-1073741824)))), (.c (.p (.int .i64 1073741824)))] false⟩,
 ⟨some 22, none, .ixa (.t 5) (.t 11) 1 3⟩,
 ⟨none, none, .stl 5 (.t 22) (.t 21) 1⟩] [2, 3, 4, 5, 6] [2, 3, 4, 5]))
 (.reg false [⟨some 9, none, .mov (.t 6)⟩,
 ⟨some 10, none, .bin .add (.t 9) (.c (.p (.int .i64 1)))⟩,
 ⟨some 6, none, .mov (.t 10)⟩] [2, 3, 4, 5, 6] [2, 3, 4, 5]))))
def ir73 : IFn :=   -- tympan/tympanref23.Add
⟨(.seq (.reg false [⟨some 2, none, .bx (.t 0) 3 true⟩,
 ⟨some 3, none, .bx (.t 1) 3 true⟩,
 ⟨some 4, none, .al [.p (.int .i64 0), .p (.int .i64 0), .p (.int .i64 0)] true⟩] [2, 3, 4] [2, 3, 4])
 (.seq (.reg false [⟨some 5, none, .al [.p (.int .i64 0), .p (.int .i64 0), .p (.int .i64 0)] true⟩] [2, 3, 4, 5] [2, 3, 4, 5])
 (.seq (.seq (.reg false [⟨some 6, none, .mov (.c (.p (.int .i64 0)))⟩] [2, 3, 4, 5, 6] [2, 3, 4, 5])
 (.block 0 lp73_0))
 (.seq (.reg false [⟨some 23, none, .ld (.t 5) 3 true⟩,
 ⟨none, none, .st (.t 4) (.t 23) 3⟩] [4] [4])
 .ret)))),
 [.cell 4 3 true], false⟩
def lp74_0 : IC :=
 (.loop [0, 1, 4, 5, 6] [4, 5] (.seq (.seq (.reg false [⟨some 8, none, .mov (.t 6)⟩,
 ⟨some 9, none, .mov (.t 1)⟩,
 ⟨some 10, none, .len (.t 9)⟩,
 ⟨some 11, none, .bin .lss (.t 8) (.t 10)⟩] [0, 1, 4, 5, 6, 11] [4, 5])
 (.cond (.t 11)
 .skip
 (.exit 0)))
 (.seq (.block 1 (.seq (.reg false [⟨some 14, none, .mov (.t 1)⟩,
 ⟨some 15, none, .mov (.t 6)⟩,
 ⟨some 16, none, .ixs (.t 14) (.t 15) 1⟩,
 ⟨some 17, none, .ld (.t 16) 1 false⟩,
 ⟨some 18, none, .bin .geq (.t 17) (.c (.p (.int .i64 0)))⟩,
 ⟨some 19, none, .mov (.t 18)⟩,
 ⟨some 20, (some (19, true)), .mov (.t 1)⟩,
 ⟨some 21, (some (19, true)), .mov (.t 6)⟩,
 ⟨some 22, (some (19, true)), .ixs (.t 20) (.t 21) 1⟩,
 ⟨some 23, (some (19, true)), .ld (.t 22) 1 false⟩,
 ⟨some 24, (some (19, true)), .mov (.t 0)⟩,
 ⟨some 25, (some (19, true)), .len (.t 24)⟩,
 ⟨some 26, (some (19, true)), .bin .lss (.t 23) (.t 25)⟩,
 ⟨some 27, none, .pick (.t 19) (.t 26) (.c (.p (.bool false)))⟩] [0, 1, 4, 5, 6, 27] [4, 5])
 (.cond (.t 27)
 (.seq (.reg false [⟨some 28, none, .mov (.t 0)⟩,
 ⟨some 29, none, .mov (.t 1)⟩,
 ⟨some 30, none, .mov (.t 6)⟩,
 ⟨some 31, none, .ixs (.t 29) (.t 30) 1⟩,
 ⟨some 32, none, .ld (.t 31) 1 false⟩,
 ⟨some 33, none, .ixs (.t 28) (.t 32) 3⟩,
 ⟨some 34, none, .off (.t 33) 0⟩,
 ⟨some 35, none, .ld (.t 34) 1 false⟩,
 ⟨some 7, none, .mov (.t 35)⟩] [0, 1, 4, 5, 6, 7] [4, 5])
 (.seq (.reg false [⟨some 36, none, .mov (.t 7)⟩,
 ⟨some 37, none, .bin .geq (.t 36) (.c (.p (.int .i64 0)))⟩,
 ⟨some 38, none, .mov (.t 37)⟩,
 ⟨some 39, (some (38, true)), .mov (.t 7)⟩,
 ⟨some 40, (some (38, true)), .bin .lss (.t 39) (.c (.p (.int .i64 3)))⟩,
 ⟨some 41, none, .pick (.t 38) (.t 40) (.c (.p (.bool false)))⟩] [0, 1, 4, 5, 6, 7, 41] [4, 5])
 (.cond (.t 41)
 (.reg false [⟨some 42, none, .mov (.t 7)⟩,
 ⟨some 43, none, .mov (.t 7)⟩,
 ⟨some 44, none, .ixa (.t 5) (.t 43) 1 3⟩,
 ⟨some 45, none, .ld (.t 44) 1 false⟩,
 ⟨some 46, none, .bin .add (.t 45) (.c (.p (.int .i64 1)))⟩,
 ⟨some 47, none, .ixa (.t 5) (.t 42) 1 3⟩,
 ⟨none, none, .st (.t 47) (.t 46) 1⟩] [0, 1, 4, 5, 6] [4, 5])
 .skip)))
 .skip)))
 (.reg false [⟨some 12, none, .mov (.t 6)⟩,
 ⟨some 13, none, .bin .add (.t 12) (.c (.p (.int .i64 1)))⟩,
 ⟨some 6, none, .mov (.t 13)⟩] [0, 1, 4, 5, 6] [4, 5]))))
def ir74 : IFn :=   -- tympan/tympanref23.Of
⟨(.seq (.reg false [⟨some 4, none, .al [.p (.int .i64 0), .p (.int .i64 0), .p (.int .i64 0)] true⟩] [0, 1, 4] [4])
 (.seq (.reg false [⟨some 5, none, .al [.p (.int .i64 0), .p (.int .i64 0), .p (.int .i64 0)] true⟩] [0, 1, 4, 5] [4, 5])
 (.seq (.seq (.reg false [⟨some 6, none, .mov (.c (.p (.int .i64 0)))⟩] [0, 1, 4, 5, 6] [4, 5])
 (.block 0 lp74_0))
 (.seq (.reg false [⟨some 48, none, .ld (.t 5) 3 true⟩,
 ⟨none, none, .st (.t 4) (.t 48) 3⟩] [4] [4])
 .ret)))),
 [.cell 4 3 true], false⟩
def ir78 : IFn :=   -- (*tympan/vlist.List).Len
⟨(.seq (.reg false [⟨some 2, none, .mov (.c (.p (.int .i64 0)))⟩] [0] [])
 (.seq (.seq (.reg false [⟨some 3, none, .mov (.t 0)⟩,
 ⟨some 4, none, .eqn .ptr false (.t 3)⟩] [0, 4] [])
 (.cond (.t 4)
 (.seq (.reg false [⟨some 2, none, .mov (.c (.p (.int .i64 0)))⟩] [2] [])
 .ret)
 .skip))
 (.seq (.reg false [⟨some 5, none, .mov (.t 0)⟩,
 ⟨some 6, none, .nck (.t 5)⟩,
 ⟨some 7, none, .off (.t 6) 0⟩,
 ⟨some 8, none, .ld (.t 7) 1 false⟩,
 ⟨some 9, none, .len (.t 8)⟩,
 ⟨some 2, none, .mov (.t 9)⟩] [2] [])
 .ret))),
 [.tmp 2], false⟩
def ir79 : IFn :=   -- (*tympan/state.World).carries
⟨(.seq (.reg false [⟨some 3, none, .bx (.t 1) 7 true⟩,
 ⟨some 4, none, .mov (.c (.p (.bool false)))⟩] [0, 3] [3])
 (.seq (.reg true [⟨some 7, none, .mov (.t 0)⟩,
 ⟨some 8, none, .nck (.t 7)⟩,
 ⟨some 9, none, .off (.t 8) 0⟩,
 ⟨some 10, none, .ld (.t 9) 1 false⟩,
 ⟨some 11, none, .nck (.t 10)⟩,
 ⟨some 12, none, .off (.t 11) 2⟩,
 ⟨some 13, none, .ld (.t 12) 1 false⟩,
 ⟨some 14, none, .off (.t 3) 0⟩,
 ⟨some 15, none, .ldl 3 (.t 14) 1 false⟩,
 ⟨some 16, none, .call 88 [(.t 13), (.t 15)] false⟩,
 ⟨some 5, none, .mov (.t 16)⟩] [0, 3, 5] [3])
 (.seq (.seq (.reg false [⟨some 17, none, .off (.t 3) 3⟩,
 ⟨some 18, none, .ld (.t 17) 1 false⟩,
 ⟨some 19, none, .bin .eql (.t 18) (.c (.p (.int .i64 0)))⟩] [0, 3, 5, 19] [3])
 (.cond (.t 19)
 (.seq (.reg false [⟨some 20, none, .off (.t 3) 2⟩,
 ⟨some 21, none, .ld (.t 20) 1 false⟩,
 ⟨some 22, none, .mov (.t 5)⟩,
 ⟨some 23, none, .bin .eql (.t 21) (.t 22)⟩,
 ⟨some 4, none, .mov (.t 23)⟩] [4] [])
 .ret)
 .skip))
 (.seq (.seq (.reg false [⟨some 24, none, .off (.t 3) 2⟩,
 ⟨some 25, none, .ld (.t 24) 1 false⟩,
 ⟨some 26, none, .mov (.t 5)⟩,
 ⟨some 27, none, .bin .sub (.t 26) (.c (.p (.int .i64 1)))⟩,
 ⟨some 28, none, .bin .neq (.t 25) (.t 27)⟩,
 ⟨some 29, none, .mov (.t 28)⟩,
 ⟨some 30, (some (29, false)), .off (.t 3) 2⟩,
 ⟨some 31, (some (29, false)), .ld (.t 30) 1 false⟩,
 ⟨some 32, (some (29, false)), .bin .lss (.t 31) (.c (.p (.int .i64 0)))⟩,
 ⟨some 33, none, .pick (.t 29) (.c (.p (.bool true))) (.t 32)⟩,
 ⟨some 34, none, .mov (.t 33)⟩,
 ⟨some 35, (some (34, false)), .off (.t 3) 3⟩,
 ⟨some 36, (some (34, false)), .ld (.t 35) 1 false⟩,
 ⟨some 37, (some (34, false)), .bin .lss (.t 36) (.c (.p (.int .i64 1)))⟩,
 ⟨some 38, none, .pick (.t 34) (.c (.p (.bool true))) (.t 37)⟩] [0, 3, 38] [3])
 (.cond (.t 38)
 (.seq (.reg false [⟨some 4, none, .mov (.c (.p (.bool false)))⟩] [4] [])
 .ret)
 .skip))
 (.seq (.prep [6] (.reg true [⟨some 39, none, .mov (.t 0)⟩,
 ⟨some 40, none, .nck (.t 39)⟩,
 ⟨some 41, none, .off (.t 40) 1⟩,
 ⟨some 42, none, .off (.t 41) 20⟩,
 ⟨some 43, none, .ld (.t 42) 1 false⟩,
 ⟨some 44, none, .off (.t 3) 2⟩,
 ⟨some 45, none, .ldl 3 (.t 44) 1 false⟩,
 ⟨some 46, none, .ixs (.t 43) (.t 45) 2⟩,
 ⟨some 47, none, .ld (.t 46) 2 true⟩,
 ⟨some 6, none, .alp [.nils, .nils]⟩,
 ⟨none, none, .stl 6 (.t 6) (.t 47) 2⟩] [3, 6] [3, 6]))
 (.seq (.reg false [⟨some 48, none, .off (.t 3) 3⟩,
 ⟨some 49, none, .ld (.t 48) 1 false⟩,
 ⟨some 50, none, .off (.t 6) 0⟩,
 ⟨some 51, none, .ld (.t 50) 1 false⟩,
 ⟨some 52, none, .len (.t 51)⟩,
 ⟨some 53, none, .bin .lss (.t 49) (.t 52)⟩,
 ⟨some 54, none, .mov (.t 53)⟩,
 ⟨some 55, (some (54, true)), .ld (.t 6) 2 true⟩,
 ⟨some 56, (some (54, true)), .off (.t 3) 3⟩,
 ⟨some 57, (some (54, true)), .ld (.t 56) 1 false⟩,
 ⟨some 58, (some (54, true)), .call 171 [(.t 55), (.t 57)] false⟩,
 ⟨some 59, none, .pick (.t 54) (.t 58) (.c (.p (.bool false)))⟩,
 ⟨some 4, none, .mov (.t 59)⟩] [4] [])
 .ret)))))),
 [.tmp 4], false⟩
def lp80_0 : IC :=
 (.loop [3, 7, 8] [3] (.seq (.reg false [⟨some 9, none, .bin .lss (.t 8) (.c (.p (.int .i64 3)))⟩] [3, 7, 8, 9] [3])
 (.seq (.cond (.t 9)
 .skip
 (.exit 0))
 (.seq (.block 1 (.seq (.reg false [⟨some 10, none, .mov (.t 8)⟩,
 ⟨some 11, none, .ixv (.t 7) (.t 8) 1 3 false⟩,
 ⟨some 5, none, .mov (.t 10)⟩,
 ⟨some 6, none, .mov (.t 11)⟩] [3, 5, 6, 7, 8] [3])
 (.seq (.reg false [⟨some 12, none, .mov (.t 6)⟩,
 ⟨some 13, none, .mov (.t 5)⟩,
 ⟨some 14, none, .ixa (.t 3) (.t 13) 1 3⟩,
 ⟨some 15, none, .ld (.t 14) 1 false⟩,
 ⟨some 16, none, .bin .gtr (.t 12) (.t 15)⟩] [3, 7, 8, 16] [3])
 (.cond (.t 16)
 (.seq (.reg false [⟨some 4, none, .mov (.c (.p (.bool false)))⟩] [4] [])
 .ret)
 .skip))))
 (.reg false [⟨some 17, none, .bin .add (.t 8) (.c (.p (.int .i64 1)))⟩,
 ⟨some 8, none, .mov (.t 17)⟩] [3, 7, 8] [3])))))
def ir80 : IFn :=   -- (tympan/queue.Counts).Within
⟨(.seq (.reg false [⟨some 2, none, .bx (.t 0) 3 true⟩,
 ⟨some 3, none, .bx (.t 1) 3 true⟩,
 ⟨some 4, none, .mov (.c (.p (.bool false)))⟩] [2, 3] [2, 3])
 (.seq (.seq (.reg false [⟨some 7, none, .ld (.t 2) 3 true⟩,
 ⟨some 8, none, .mov (.c (.p (.int .i64 0)))⟩] [3, 7, 8] [3])
 (.block 0 lp80_0))
 (.seq (.reg false [⟨some 4, none, .mov (.c (.p (.bool true)))⟩] [4] [])
 .ret))),
 [.tmp 4], false⟩
def ir81 : IFn :=   -- (*tympan/anchor.Map).Due
⟨(.seq (.reg false [⟨some 4, none, .al [.p (.int .i64 0), .p (.int .i64 0), .p (.int .i64 0)] true⟩] [0, 1, 4] [4])
 (.seq (.reg false [⟨some 7, none, .mov (.t 0)⟩,
 ⟨some 8, none, .mov (.t 1)⟩,
 ⟨some 9, none, .call 156 [(.t 7), (.t 8)] false⟩,
 ⟨some 6, none, .mov (.t 9)⟩,
 ⟨some 10, none, .ext (.t 6) 0⟩,
 ⟨some 11, none, .ext (.t 6) 1⟩,
 ⟨some 1, none, .mov (.t 10)⟩,
 ⟨some 5, none, .mov (.t 11)⟩] [0, 1, 4, 5] [4])
 (.seq (.seq (.reg false [⟨some 12, none, .mov (.t 5)⟩,
 ⟨some 13, none, .un .not (.t 12)⟩] [0, 1, 4, 13] [4])
 (.cond (.t 13)
 (.seq (.reg false [⟨some 14, none, .bld [.p (.int .i64 0), .p (.int .i64 0), .p (.int .i64 0)] []⟩,
 ⟨none, none, .st (.t 4) (.t 14) 3⟩] [4] [4])
 .ret)
 .skip))
 (.seq (.reg false [⟨some 15, none, .mov (.t 0)⟩,
 ⟨some 16, none, .nck (.t 15)⟩,
 ⟨some 17, none, .off (.t 16) 3⟩,
 ⟨some 18, none, .ld (.t 17) 1 false⟩,
 ⟨some 19, none, .mov (.t 1)⟩,
 ⟨some 20, none, .ixs (.t 18) (.t 19) 3⟩,
 ⟨some 21, none, .ld (.t 20) 3 true⟩,
 ⟨none, none, .st (.t 4) (.t 21) 3⟩] [4] [4])
 .ret)))),
 [.cell 4 3 true], false⟩
def lp82_0 : IC :=
 (.loop [3, 6, 7] [] (.seq (.reg false [⟨some 8, none, .bin .lss (.t 7) (.c (.p (.int .i64 3)))⟩] [3, 6, 7, 8] [])
 (.seq (.cond (.t 8)
 .skip
 (.exit 0))
 (.seq (.block 1 (.seq (.reg false [⟨some 9, none, .ixv (.t 6) (.t 7) 1 3 false⟩,
 ⟨some 5, none, .mov (.t 9)⟩] [3, 5, 6, 7] [])
 (.reg false [⟨some 10, none, .mov (.t 3)⟩,
 ⟨some 11, none, .mov (.t 5)⟩,
 ⟨some 12, none, .call 172 [(.t 11), (.c (.p (.int .i64 (-1073741824)))), (.c (.p (.int .i64 1073741824)))] false⟩,
 ⟨some 13, none, .bin .add (.t 10) (.t 12)⟩,
 ⟨some 3, none, .mov (.t 13)⟩] [3, 6, 7] [])))
 (.reg false [⟨some 14, none, .bin .add (.t 7) (.c (.p (.int .i64 1)))⟩,
 ⟨some 7, none, .mov (.t 14)⟩] [3, 6, 7] [])))))
def ir82 : IFn :=   -- (tympan/queue.Counts).Sum
⟨(.seq (.reg false [⟨some 1, none, .bx (.t 0) 3 true⟩,
 ⟨some 2, none, .mov (.c (.p (.int .i64 0)))⟩] [1] [1])
 (.seq (.reg false [⟨some 3, none, .mov (.c (.p (.int .i64 0)))⟩] [1, 3] [1])
 (.seq (.seq (.reg false [⟨some 6, none, .ld (.t 1) 3 true⟩,
 ⟨some 7, none, .mov (.c (.p (.int .i64 0)))⟩] [3, 6, 7] [])
 (.block 0 lp82_0))
 (.seq (.reg false [⟨some 15, none, .mov (.t 3)⟩,
 ⟨some 2, none, .mov (.t 15)⟩] [2] [])
 .ret)))),
 [.tmp 2], false⟩
def ir83 : IFn :=   -- tympan/queue.Ready
⟨(.seq (.reg false [⟨some 2, none, .bx (.t 0) 3 true⟩,
 ⟨some 3, none, .bx (.t 1) 3 true⟩,
 ⟨some 4, none, .al [.p (.int .i64 0), .p (.int .i64 0), .p (.int .i64 0)] true⟩] [2, 3, 4] [2, 3, 4])
 (.seq (.reg false [⟨some 5, none, .ld (.t 2) 3 true⟩,
 ⟨some 6, none, .ld (.t 3) 3 true⟩,
 ⟨some 7, none, .call 162 [(.t 5), (.t 6), (.c (.p (.int .i64 0))), (.c (.p (.fn 173)))] false⟩,
 ⟨none, none, .st (.t 4) (.t 7) 3⟩] [4] [4])
 .ret)),
 [.cell 4 3 true], false⟩
def ir84 : IFn :=   -- (*tympan/state.World).parts
⟨(.seq (.reg false [⟨some 2, none, .mov (.c (.p .nilp))⟩] [0] [])
 (.seq (.seq (.reg false [⟨some 3, none, .mov (.t 0)⟩,
 ⟨some 4, none, .eqn .ptr false (.t 3)⟩] [0, 4] [])
 (.cond (.t 4)
 (.seq (.reg false [⟨some 2, none, .mov (.c (.p .nilp))⟩] [2] [])
 .ret)
 .skip))
 (.seq (.reg false [⟨some 5, none, .mov (.t 0)⟩,
 ⟨some 6, none, .nck (.t 5)⟩,
 ⟨some 7, none, .off (.t 6) 0⟩,
 ⟨some 8, none, .ld (.t 7) 1 false⟩,
 ⟨some 2, none, .mov (.t 8)⟩] [2] [])
 .ret))),
 [.tmp 2], false⟩
def ir85 : IFn :=   -- (*tympan/state.text).List
⟨(.seq (.reg false [⟨some 2, none, .mov (.c (.p .nilp))⟩] [0] [])
 (.seq (.seq (.reg false [⟨some 3, none, .mov (.t 0)⟩,
 ⟨some 4, none, .eqn .ptr false (.t 3)⟩] [0, 4] [])
 (.cond (.t 4)
 (.seq (.reg false [⟨some 2, none, .mov (.c (.p .nilp))⟩] [2] [])
 .ret)
 .skip))
 (.seq (.reg false [⟨some 5, none, .mov (.t 0)⟩,
 ⟨some 6, none, .nck (.t 5)⟩,
 ⟨some 7, none, .off (.t 6) 0⟩,
 ⟨some 8, none, .ld (.t 7) 1 false⟩,
 ⟨some 2, none, .mov (.t 8)⟩] [2] [])
 .ret))),
 [.tmp 2], false⟩
def ir86 : IFn :=   -- (*tympan/state.text).Sums
⟨(.seq (.reg false [⟨some 2, none, .mov (.c (.p .nilp))⟩] [0] [])
 (.seq (.seq (.reg false [⟨some 3, none, .mov (.t 0)⟩,
 ⟨some 4, none, .eqn .ptr false (.t 3)⟩] [0, 4] [])
 (.cond (.t 4)
 (.seq (.reg false [⟨some 2, none, .mov (.c (.p .nilp))⟩] [2] [])
 .ret)
 .skip))
 (.seq (.reg false [⟨some 5, none, .mov (.t 0)⟩,
 ⟨some 6, none, .nck (.t 5)⟩,
 ⟨some 7, none, .off (.t 6) 1⟩,
 ⟨some 8, none, .ld (.t 7) 1 false⟩,
 ⟨some 2, none, .mov (.t 8)⟩] [2] [])
 .ret))),
 [.tmp 2], false⟩
def ir87 : IFn :=   -- (*tympan/state.text).Map
⟨(.seq (.reg false [⟨some 2, none, .mov (.c (.p .nilp))⟩] [0] [])
 (.seq (.seq (.reg false [⟨some 3, none, .mov (.t 0)⟩,
 ⟨some 4, none, .eqn .ptr false (.t 3)⟩] [0, 4] [])
 (.cond (.t 4)
 (.seq (.reg false [⟨some 2, none, .mov (.c (.p .nilp))⟩] [2] [])
 .ret)
 .skip))
 (.seq (.reg false [⟨some 5, none, .mov (.t 0)⟩,
 ⟨some 6, none, .nck (.t 5)⟩,
 ⟨some 7, none, .off (.t 6) 2⟩,
 ⟨some 8, none, .ld (.t 7) 1 false⟩,
 ⟨some 2, none, .mov (.t 8)⟩] [2] [])
 .ret))),
 [.tmp 2], false⟩
def ir88 : IFn :=   -- (*tympan/anchor.Map).Begun
⟨(.seq (.reg false [⟨some 4, none, .mov (.c (.p (.int .i64 0)))⟩] [0, 1] [])
 (.seq (.reg false [⟨some 7, none, .mov (.t 0)⟩,
 ⟨some 8, none, .mov (.t 1)⟩,
 ⟨some 9, none, .call 156 [(.t 7), (.t 8)] false⟩,
 ⟨some 6, none, .mov (.t 9)⟩,
 ⟨some 10, none, .ext (.t 6) 0⟩,
 ⟨some 11, none, .ext (.t 6) 1⟩,
 ⟨some 1, none, .mov (.t 10)⟩,
 ⟨some 5, none, .mov (.t 11)⟩] [0, 1, 5] [])
 (.seq (.seq (.reg false [⟨some 12, none, .mov (.t 5)⟩,
 ⟨some 13, none, .un .not (.t 12)⟩] [0, 1, 13] [])
 (.cond (.t 13)
 (.seq (.reg false [⟨some 4, none, .mov (.c (.p (.int .i64 0)))⟩] [4] [])
 .ret)
 .skip))
 (.seq (.reg false [⟨some 14, none, .mov (.t 0)⟩,
 ⟨some 15, none, .nck (.t 14)⟩,
 ⟨some 16, none, .off (.t 15) 1⟩,
 ⟨some 17, none, .ld (.t 16) 1 false⟩,
 ⟨some 18, none, .mov (.t 1)⟩,
 ⟨some 19, none, .ixs (.t 17) (.t 18) 1⟩,
 ⟨some 20, none, .ld (.t 19) 1 false⟩,
 ⟨some 4, none, .mov (.t 20)⟩] [4] [])
 .ret)))),
 [.tmp 4], false⟩
end Go.EnvOf
