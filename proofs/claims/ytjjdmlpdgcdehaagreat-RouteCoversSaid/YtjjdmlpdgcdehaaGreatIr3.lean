/- The engine's instructions for the functions, part 3. -/
import Derived.Test.YtjjdmlpdgcdehaaGreatIrT
import Derived.Test.YtjjdmlpdgcdehaaGreatEngAll2
namespace Go.EnvOf
open Go Go.Eng
set_option maxRecDepth 100000
def ir307:IFn:=
⟨(zr [zg 1 (.bx t0 19 true),zg 2 (.mov (zi 0))] [1] [1] (.seq (.seq (.reg true [zc 8 358 [(zi 1),(zi 8)],zp 9 1 0,zg 10 (.ldl 1 t9 1 false),zg 11 (.bsl 1 1 [zo] [(0,t10)]),zg 12 (.callv t8 [t11] false),zj 13 12] [1,13] [1]) (.cond t13 (zr [zg 2 (.mov (zi 6))] [2] [] .ret) .skip)) (zr [zc 14 359 [(zi 1),(zi 1073741823)],zc 15 359 [(zi 0),(zi 1073741823)],zc 16 359 [(zi 0),(zi 536870912)],zm 3 14,zm 4 15,zm 5 16] [1,3,4,5] [1] (zr [zp 17 1 2,zk 18 17 1,zp 19 1 8,zk 20 19 1,zp 21 1 9,zk 22 21 1,zp 23 1 10,zk 24 23 1,zg 25 (.bld [zo,zo,zo,zo] [(0,1,t18),(1,1,t20),(2,1,t22),(3,1,t24)]),zg 6 (.al [zo,zo,zo,zo] false),zn (.st t6 t25 4)] [1,3,4,5,6] [1] (zr [zp 26 1 13,zk 27 26 1,zp 28 1 14,zk 29 28 1,zp 30 1 15,zk 31 30 1,zp 32 1 16,zk 33 32 1,zp 34 1 17,zk 35 34 1,zg 36 (.bld [zo,zo,zo,zo,zo] [(0,1,t27),(1,1,t29),(2,1,t31),(3,1,t33),(4,1,t35)]),zg 7 (.al [zo,zo,zo,zo,zo] false),zn (.st t7 t36 5)] [1,3,4,5,6,7] [1] (.seq (.block 0 (.seq (zr [zm 38 3,zp 39 1 1,zk 40 39 1,zp 41 1 3,zk 42 41 1,zg 43 (.bsl 1 2 [zo] [(0,t40),(1,t42)]),zg 44 (.callv t38 [t43] false),zj 45 44,zm 37 45] [1,4,5,6,7,37] [1] (.cond t37 .skip (zr [zm 46 4,zg 47 (.slca t6 none 1 4),zg 48 (.callv t46 [t47] false),zj 49 48,zm 37 49] [1,5,7,37] [1] (.cond t37 .skip (.reg false [zm 50 5,zp 51 1 6,zk 52 51 1,zp 53 1 7,zk 54 53 1,zp 55 1 5,zk 56 55 1,zg 57 (.bsl 1 3 [zo] [(0,t52),(1,t54),(2,t56)]),zg 58 (.callv t50 [t57] false),zj 59 58,zm 37 59] [1,7,37] [1]))))) (.cond t37 (zr [zg 2 (.mov (zi 7))] [2] [] .ret) (.seq (.seq (.reg true [zp 61 1 3,zg 62 (.ldl 1 t61 1 false),zc 63 359 [(zi 1),t62],zp 64 1 4,zg 65 (.ldl 1 t64 1 false),zg 66 (.bsl 1 1 [zo] [(0,t65)]),zg 67 (.callv t63 [t66] false),zj 68 67,zm 60 68] [1,7,60] [1]) (.cond t60 .skip (.reg true [zp 69 1 4,zg 70 (.ldl 1 t69 1 false),zc 71 359 [(zi 0),t70],zp 72 1 5,zg 73 (.ldl 1 t72 1 false),zg 74 (.bsl 1 1 [zo] [(0,t73)]),zg 75 (.callv t71 [t74] false),zj 76 75,zm 60 76] [1,7,60] [1]))) (.cond t60 (zr [zg 2 (.mov (zi 7))] [2] [] .ret) (.seq (.seq (.reg true [zc 78 358 [(zi 0),(zi 4)],zp 79 1 11,zg 80 (.ldl 1 t79 1 false),zp 81 1 12,zg 82 (.ldl 1 t81 1 false),zg 83 (.bsl 1 2 [zo] [(0,t80),(1,t82)]),zg 84 (.callv t78 [t83] false),zj 85 84,zm 77 85] [7,77] []) (.cond t77 .skip (.reg true [zc 86 358 [(zi 0),(zi 1048576)],zg 87 (.slca t7 none 1 5),zg 88 (.callv t86 [t87] false),zj 89 88,zm 77 89] [77] []))) (.cond t77 (zr [zg 2 (.mov (zi 7))] [2] [] .ret) .skip))))))) (zr [zg 2 (.mov (zi 0))] [2] [] .ret))))))),[.tmp 2],false⟩
def ir308:IFn:=
⟨(zr [zg 1 (.bx t0 22 true),zg 2 (.mov zF)] [1] [1] (zr [zp 3 1 0,zl 4 3 19,zc 5 307 [t4],zg 6 (.bin .eql t5 (zi 7)),zm 2 6] [2] [] .ret)),[.tmp 2],false⟩
def ir309:IFn:=
⟨(zr [zg 1 (.bx t0 22 true),zg 2 (.mov (zi 0))] [1] [1] (.seq (.reg true [zc 3 310 [(.c (.p (.fn 311)))],zp 4 1 19,zg 5 (.ldl 1 t4 1 false),zg 6 (.callv t3 [t5] false),zm 2 6] [2] []) .ret)),[.tmp 2],false⟩
def ir310:IFn:=
⟨(zr [zg 1 (.bx t0 1 false),zg 2 (.mov (.c (.p .nilf)))] [1] [] (zr [zg 3 (.mkf (.func 360) [] [t1]),zm 2 3] [2] [] .ret)),[.tmp 2],false⟩
def ir311:IFn:=
⟨(zr [zg 1 (.bx t0 7 true),zg 2 (.mov (zi 0))] [1] [1] (.seq (zr [zp 5 1 0,zk 6 5 1,zg 7 (.bin .lss t6 (zi 1)),zm 8 7,zf 9 8 (.off t1 0),zf 10 8 (.ld t9 1 false),zf 11 8 (.bin .gtr t10 (zi 7)),zg 12 (.pick t8 zT t11)] [1,12] [1] (.cond t12 (zr [zg 2 (.mov (zi 8))] [2] [] .ret) .skip)) (.seq (.prep [3] (.reg true [zc 13 363 [],zp 14 1 0,zg 15 (.ldl 1 t14 1 false),zg 16 (.bin .sub t15 (zi 1)),zg 17 (.ixs t13 t16 2),zl 18 17 2,zg 3 (.alp [.p .nilf,.p .nilf]),zn (.stl 3 t3 t18 2)] [1,3] [1,3])) (zr [zc 19 364 [(zi 3)],zm 4 19] [1,3,4] [1,3] (.seq (.seq (.reg true [zp 20 3 0,zg 21 (.ldl 3 t20 1 false),zg 22 (.ldl 1 t1 7 true),zg 23 (.callv t21 [t22] false),zg 24 (.ldl 1 t1 7 true),zg 25 (.eqa true [true,true,true,true,true,true,true] t23 t24),zm 26 25,zf 27 26 (.off t3 1),zf 28 26 (.ldl 3 t27 1 false),zf 29 26 (.off t1 6),zf 30 26 (.ldl 1 t29 1 false),zf 31 26 (.callv t28 [t30] false),zf 32 26 (.un .not t31),zg 33 (.pick t26 zT t32),zm 34 33,zf 35 34 (.off t1 1),zf 36 34 (.ldl 1 t35 1 false),zf 37 34 (.off t1 3),zf 38 34 (.ldl 1 t37 1 false),zf 39 34 (.off t1 5),zf 40 34 (.ldl 1 t39 1 false),zf 41 34 (.bsl 1 3 [zo] [(0,t36),(1,t38),(2,t40)]),zf 42 34 (.call 365 [t41] false),zf 43 34 (.un .not t42),zg 44 (.pick t34 zT t43),zm 45 44,zf 46 45 (.mov t4),zf 47 45 (.off t1 2),zf 48 45 (.ldl 1 t47 1 false),zf 49 45 (.callv t46 [t48] false),zf 50 45 (.un .not t49),zg 51 (.pick t45 zT t50),zm 52 51,zf 53 52 (.mov t4),zf 54 52 (.off t1 4),zf 55 52 (.ldl 1 t54 1 false),zf 56 52 (.callv t53 [t55] false),zf 57 52 (.un .not t56),zg 58 (.pick t52 zT t57),zm 59 58,zf 60 59 (.off t1 0),zf 61 59 (.ldl 1 t60 1 false),zf 62 59 (.bin .eql t61 (zi 2)),zf 63 59 (.mov t62),zt 64 63 (.off t1 5),zt 65 63 (.ldl 1 t64 1 false),zt 66 63 (.off t1 1),zt 67 63 (.ldl 1 t66 1 false),zt 68 63 (.bin .gtr t65 t67),zf 69 59 (.pick t63 t68 zF),zg 70 (.pick t59 zT t69)] [70] []) (.cond t70 (zr [zg 2 (.mov (zi 8))] [2] [] .ret) .skip)) (zr [zg 2 (.mov (zi 0))] [2] [] .ret)))))),[.tmp 2],false⟩
def ir312:IFn:=
⟨(zr [zg 1 (.bx t0 22 true),zg 2 (.mov (zi 0))] [1] [1] (.seq (.reg true [zc 3 313 [(.c (.p (.fn 314)))],zp 4 1 20,zg 5 (.ldl 1 t4 1 false),zg 6 (.callv t3 [t5] false),zm 2 6] [2] []) .ret)),[.tmp 2],false⟩
def ir313:IFn:=
⟨(zr [zg 1 (.bx t0 1 false),zg 2 (.mov (.c (.p .nilf)))] [1] [] (zr [zg 3 (.mkf (.func 366) [] [t1]),zm 2 3] [2] [] .ret)),[.tmp 2],false⟩
def q0Wi:IC:=(.loop [1,3,29,30,31] [1] (zr [zg 32 (.bin .lss t31 t30)] [1,3,29,30,31,32] [1] (.seq (.cond t32 .skip (.exit 0)) (.seq (.block 1 (zr [zg 33 (.ixs t29 t31 1),zk 34 33 1,zm 5 34] [1,3,5,29,30,31] [1] (.reg false [zm 35 3,zm 36 35,zf 37 36 (.mov t5),zf 38 36 (.bin .lss t37 (zi 1)),zg 39 (.pick t36 zT t38),zm 40 39,zf 41 40 (.mov t5),zf 42 40 (.bin .gtr t41 (zi 1073741823)),zg 43 (.pick t40 zT t42),zm 3 43] [1,3,29,30,31] [1]))) (.reg false [zg 44 (.bin .add t31 (zi 1)),zm 31 44] [1,3,29,30,31] [1])))))
def q0Wj:IC:=(.loop [3,46,47,48] [] (zr [zg 49 (.bin .lss t48 t47)] [3,46,47,48,49] [] (.seq (.cond t49 .skip (.exit 2)) (.seq (.block 3 (zr [zg 50 (.ixs t46 t48 1),zk 51 50 1,zm 7 51] [3,7,46,47,48] [] (.reg false [zm 52 3,zm 53 52,zf 54 53 (.mov t7),zf 55 53 (.bin .lss t54 (zi 0)),zg 56 (.pick t53 zT t55),zm 57 56,zf 58 57 (.mov t7),zf 59 57 (.bin .gtr t58 (zi 10000)),zg 60 (.pick t57 zT t59),zm 3 60] [3,46,47,48] []))) (.reg false [zg 61 (.bin .add t48 (zi 1)),zm 48 61] [3,46,47,48] [])))))
def ir314:IFn:=
⟨(zr [zg 1 (.bx t0 2 true),zg 2 (.mov (zi 0))] [1] [1] (zr [zp 8 1 0,zk 9 8 1,zh 10 9,zg 11 (.bin .lss t10 (zi 1)),zm 12 11,zf 13 12 (.off t1 0),zf 14 12 (.ld t13 1 false),zf 15 12 (.len t14),zf 16 12 (.bin .gtr t15 (zi 64)),zg 17 (.pick t12 zT t16),zm 18 17,zf 19 18 (.off t1 1),zf 20 18 (.ld t19 1 false),zf 21 18 (.len t20),zf 22 18 (.off t1 0),zf 23 18 (.ld t22 1 false),zf 24 18 (.len t23),zf 25 18 (.bin .sub t24 (zi 1)),zf 26 18 (.bin .neq t21 t25),zg 27 (.pick t18 zT t26),zm 3 27] [1,3] [1] (.seq (zr [zp 28 1 0,zk 29 28 1,zh 30 29,zg 31 (.mov (zi 0))] [1,3,29,30,31] [1] (.block 0 q0Wi)) (.seq (zr [zp 45 1 1,zk 46 45 1,zh 47 46,zg 48 (.mov (zi 0))] [3,46,47,48] [] (.block 2 q0Wj)) (.seq (zr [zm 62 3] [62] [] (.cond t62 (zr [zg 2 (.mov (zi 9))] [2] [] .ret) .skip)) (zr [zg 2 (.mov (zi 0))] [2] [] .ret)))))),[.tmp 2],false⟩
def ir315:IFn:=
⟨(zr [zg 1 (.bx t0 22 true),zg 2 (.mov (zi 0))] [1] [1] (.seq (.reg true [zc 3 316 [(.c (.p (.fn 317)))],zp 4 1 21,zg 5 (.ldl 1 t4 1 false),zg 6 (.callv t3 [t5] false),zm 2 6] [2] []) .ret)),[.tmp 2],false⟩
def ir316:IFn:=
⟨(zr [zg 1 (.bx t0 1 false),zg 2 (.mov (.c (.p .nilf)))] [1] [] (zr [zg 3 (.mkf (.func 369) [] [t1]),zm 2 3] [2] [] .ret)),[.tmp 2],false⟩
def ir317:IFn:=
⟨(zr [zg 1 (.bx t0 3 true),zg 2 (.mov (zi 0))] [1] [1] (.seq (zr [zp 3 1 0,zk 4 3 1,zg 5 (.bin .lss t4 (zi 0)),zm 6 5,zf 7 6 (.off t1 0),zf 8 6 (.ld t7 1 false),zf 9 6 (.bin .geq t8 (zi 3)),zg 10 (.pick t6 zT t9),zm 11 10,zf 12 11 (.off t1 1),zf 13 11 (.ld t12 1 false),zf 14 11 (.bin .lss t13 (zi 1)),zg 15 (.pick t11 zT t14),zm 16 15,zf 17 16 (.off t1 1),zf 18 16 (.ld t17 1 false),zf 19 16 (.bin .gtr t18 (zi 1073741823)),zg 20 (.pick t16 zT t19),zm 21 20,zf 22 21 (.off t1 2),zf 23 21 (.ld t22 1 false),zf 24 21 (.bin .lss t23 (zi 0)),zg 25 (.pick t21 zT t24),zm 26 25,zf 27 26 (.off t1 2),zf 28 26 (.ld t27 1 false),zf 29 26 (.bin .gtr t28 (zi 3)),zg 30 (.pick t26 zT t29)] [30] [] (.cond t30 (zr [zg 2 (.mov (zi 10))] [2] [] .ret) .skip)) (zr [zg 2 (.mov (zi 0))] [2] [] .ret))),[.tmp 2],false⟩
def ir318:IFn:=
⟨(zr [zg 1 (.bx t0 22 true),zg 2 (.mov (zi 0))] [1] [1] (.seq (.reg true [zp 5 1 19,zg 6 (.ldl 1 t5 1 false),zp 7 1 20,zg 8 (.ldl 1 t7 1 false),zh 9 8,zc 10 372 [t6,(zi 5),t9],zp 11 1 19,zg 12 (.ldl 1 t11 1 false),zp 13 1 21,zg 14 (.ldl 1 t13 1 false),zh 15 14,zc 16 372 [t12,(zi 6),t15],zm 3 10,zm 4 16] [3,4] []) (.seq (zr [zm 17 3,zg 18 (.bin .lss t17 (zi 0)),zm 19 18,zf 20 19 (.mov t4),zf 21 19 (.bin .lss t20 (zi 0)),zg 22 (.pick t19 zT t21)] [3,4,22] [] (.cond t22 (zr [zm 23 3,zm 24 4,zg 25 (.mnmx true t23 t24),zm 2 25] [2] [] .ret) .skip)) (zr [zm 26 3,zm 27 4,zg 28 (.mnmx false t26 t27),zm 2 28] [2] [] .ret)))),[.tmp 2],false⟩
def ir319:IFn:=
⟨(zr [zg 1 (.bx t0 22 true),zg 2 (.mov (zi 0))] [1] [1] (zr [zl 4 1 22,zc 5 54 [t4],zg 3 (.al [zo,zo,zo,zo,zo,zo,zo,zo,zo,zo,zo,zo,zo,zo,zo,zo,zo,zo,.p (.bool false),.nils,.nils,.nils] false),zn (.st t3 t5 22)] [3] [] (zr [zp 6 3 21,zk 7 6 1,zg 8 (.mkf (.func 373) [] [t3]),zc 9 370 [t7,t8],zm 2 9] [2] [] .ret))),[.tmp 2],false⟩
def ir320:IFn:=
⟨(zr [zg 4 (.mov (zi 0)),zg 5 (.mov zF)] [0,1] [] (zr [zm 7 0,zm 8 1,zg 9 (.bin .sub t7 t8),zm 6 9] [0,1,6] [] (.seq (zr [zm 10 6,zm 11 0,zg 12 (.bin .lss t10 t11),zm 13 1,zg 14 (.bin .gtr t13 (zi 0)),zg 15 (.eqb true t12 t14),zm 16 15,zt 17 16 (.mov t1),zt 18 16 (.bin .neq t17 (zi 0)),zg 19 (.pick t16 t18 zF)] [6,19] [] (.cond t19 (zr [zg 4 (.mov (zi 0)),zg 5 (.mov zF)] [4,5] [] .ret) .skip)) (zr [zm 20 6,zm 4 20,zg 5 (.mov zT)] [4,5] [] .ret)))),[.tmp 4,.tmp 5],false⟩
def ir321:IFn:=
⟨(zr [zg 4 (.mov (zi 0))] [0,1] [] (zr [zm 6 0,zm 7 1,zg 8 (.bin .rem t6 t7),zm 5 8] [1,5] [] (.seq (zr [zm 9 5,zg 10 (.bin .lss t9 (zi 0))] [1,5,10] [] (.cond t10 (.reg false [zm 11 5,zm 12 1,zg 13 (.bin .add t11 t12),zm 5 13] [5] []) .skip)) (zr [zm 14 5,zm 4 14] [4] [] .ret)))),[.tmp 4],false⟩
def ir322:IFn:=
⟨(zr [zg 6 (.mov (zi 0))] [0,1,2,3] [] (zr [zk 10 2 1,zm 11 0,zm 12 1,zg 13 (.callv t10 [t11,t12] false),zm 9 13,zx 14 9 0,zx 15 9 1,zm 7 14,zm 8 15] [3,7,8] [] (zr [zk 16 3 1,zm 17 16,zt 18 17 (.mov t8),zg 19 (.pick t17 t18 zF),zn (.st t3 t19 1)] [7] [] (zr [zm 20 7,zm 6 20] [6] [] .ret)))),[.tmp 6],false⟩
def ir323:IFn:=
⟨(zr [zg 4 (.al [zo,.p (.bool false)] true)] [0,1,4] [4] (.seq (zr [zm 5 1,zg 6 (.bin .lss t5 (zi 0)),zm 7 6,zt 8 7 (.mov t0),zt 9 7 (.mov t1),zt 10 7 (.bin .add (zi 9223372036854775807) t9),zt 11 7 (.bin .gtr t8 t10),zg 12 (.pick t7 t11 zF),zm 13 12,zf 14 13 (.mov t1),zf 15 13 (.bin .gtr t14 (zi 0)),zf 16 13 (.mov t15),zt 17 16 (.mov t0),zt 18 16 (.mov t1),zt 19 16 (.bin .add (zi (-9223372036854775808)) t18),zt 20 16 (.bin .lss t17 t19),zf 21 13 (.pick t16 t20 zF),zg 22 (.pick t13 zT t21)] [0,1,4,22] [4] (.cond t22 (zr [zg 23 (.bld [zo,.p (.bool false)] []),zn (.st t4 t23 2)] [4] [4] .ret) .skip)) (zr [zm 24 0,zm 25 1,zg 26 (.bin .sub t24 t25),zg 27 (.bld [zo,.p (.bool false)] [(0,1,t26),(1,1,zT)]),zn (.st t4 t27 2)] [4] [4] .ret))),[.cell 4 2 true],false⟩
def ir324:IFn:=
⟨(zr [zg 4 (.al [zo,.p (.bool false)] true)] [0,1,4] [4] (.seq (zr [zm 5 1,zg 6 (.bin .gtr t5 (zi 0)),zm 7 6,zt 8 7 (.mov t0),zt 9 7 (.mov t1),zt 10 7 (.bin .sub (zi 9223372036854775807) t9),zt 11 7 (.bin .gtr t8 t10),zg 12 (.pick t7 t11 zF),zm 13 12,zf 14 13 (.mov t1),zf 15 13 (.bin .lss t14 (zi 0)),zf 16 13 (.mov t15),zt 17 16 (.mov t0),zt 18 16 (.mov t1),zt 19 16 (.bin .sub (zi (-9223372036854775808)) t18),zt 20 16 (.bin .lss t17 t19),zf 21 13 (.pick t16 t20 zF),zg 22 (.pick t13 zT t21)] [0,1,4,22] [4] (.cond t22 (zr [zg 23 (.bld [zo,.p (.bool false)] []),zn (.st t4 t23 2)] [4] [4] .ret) .skip)) (zr [zm 24 0,zm 25 1,zg 26 (.bin .add t24 t25),zg 27 (.bld [zo,.p (.bool false)] [(0,1,t26),(1,1,zT)]),zn (.st t4 t27 2)] [4] [4] .ret))),[.cell 4 2 true],false⟩
def ir325:IFn:=
⟨(zr [zg 2 (.mov (zi 0))] [0] [] (zr [zm 3 0,zg 4 (.mnmx false t3 (zi 1125899906842624)),zg 5 (.mnmx true (zi 0) t4),zm 2 5] [2] [] .ret)),[.tmp 2],false⟩
def q0X9:IC:=(.loop [3,4] [3] (.seq (zr [zm 7 4,zg 8 (.bin .lss t7 (zi 6))] [3,4,8] [3] (.cond t8 .skip (.exit 0))) (.seq (.block 1 (zr [zm 11 4,zg 12 (.ixa t3 t11 1 6),zk 13 12 1,zg 14 (.bin .lss t13 (zi 0)),zm 15 14,zf 16 15 (.mov t4),zf 17 15 (.ixa t3 t16 1 6),zf 18 15 (.ld t17 1 false),zf 19 15 (.bin .gtr t18 (zi 1125899906842624)),zg 20 (.pick t15 zT t19)] [3,4,20] [3] (.cond t20 (zr [zg 2 (.mov zF)] [2] [] .ret) .skip))) (.reg false [zm 9 4,zg 10 (.bin .add t9 (zi 1)),zm 4 10] [3,4] [3]))))
def ir326:IFn:=
⟨(zr [zg 1 (.bx t0 6 true),zg 2 (.mov zF)] [1] [1] (zr [zl 5 1 6,zc 6 374 [t5],zg 3 (.al [zo,zo,zo,zo,zo,zo] true),zn (.st t3 t6 6)] [3] [3] (.seq (zr [zg 4 (.mov (zi 0))] [3,4] [3] (.block 0 q0X9)) (zr [zg 2 (.mov zT)] [2] [] .ret)))),[.tmp 2],false⟩
def ir327:IFn:=
⟨(zr [zg 1 (.bx t0 6 true),zg 2 (.al [zo,zo,zo,zo,zo,zo] true)] [1,2] [1,2] (zr [zp 3 1 0,zk 4 3 1,zp 5 1 1,zg 6 (.ixa t5 (zi 0) 1 4),zk 7 6 1,zp 8 1 1,zg 9 (.ixa t8 (zi 1) 1 4),zk 10 9 1,zp 11 1 1,zg 12 (.ixa t11 (zi 2) 1 4),zk 13 12 1,zp 14 1 1,zg 15 (.ixa t14 (zi 3) 1 4),zk 16 15 1,zp 17 1 5,zk 18 17 1,zg 19 (.bld [zo,zo,zo,zo,zo,zo] [(0,1,t4),(1,1,t7),(2,1,t10),(3,1,t13),(4,1,t16),(5,1,t18)]),zn (.st t2 t19 6)] [2] [2] .ret)),[.cell 2 6 true],false⟩
def ir328:IFn:=
⟨(zr [zg 1 (.bx t0 6 true),zg 2 (.al [zo,zo,zo,zo,zo,zo] true)] [1,2] [1,2] (zr [zg 3 (.ixa t1 (zi 0) 1 6),zk 4 3 1,zg 5 (.ixa t1 (zi 1) 1 6),zk 6 5 1,zg 7 (.ixa t1 (zi 2) 1 6),zk 8 7 1,zg 9 (.ixa t1 (zi 3) 1 6),zk 10 9 1,zg 11 (.ixa t1 (zi 4) 1 6),zk 12 11 1,zg 13 (.bld [zo,zo,zo,zo] [(0,1,t6),(1,1,t8),(2,1,t10),(3,1,t12)]),zg 14 (.ixa t1 (zi 5) 1 6),zk 15 14 1,zg 16 (.bld [zo,zo,zo,zo,zo,zo] [(0,1,t4),(1,4,t13),(5,1,t15)]),zn (.st t2 t16 6)] [2] [2] .ret)),[.cell 2 6 true],false⟩
def ir329:IFn:=
⟨(zr [zg 2 (.al [zo,zo,zo,zo,zo,zo] true)] [0,2] [2] (zr [zm 3 0,zg 4 (.bld [zo,zo,zo,zo,zo,zo] [(0,1,t3)]),zn (.st t2 t4 6)] [2] [2] .ret)),[.cell 2 6 true],false⟩
def ir330:IFn:=
⟨(zr [zg 8 (.al [zo,zo,zo,zo,zo,zo] true)] [0,1,2,3,8] [8] (zr [zm 10 0,zm 11 3,zg 12 (.bld [zo,zo,zo,zo,zo,zo] [(0,1,t10),(5,1,t11)]),zg 9 (.al [zo,zo,zo,zo,zo,zo] true),zn (.st t9 t12 6)] [1,2,8,9] [8,9] (.seq (zr [zm 13 2,zg 14 (.bin .geq t13 (zi 0)),zm 15 14,zt 16 15 (.mov t2),zt 17 15 (.bin .leq t16 (zi 3)),zg 18 (.pick t15 t17 zF)] [1,2,8,9,18] [8,9] (.cond t18 (.reg false [zm 19 2,zm 20 1,zp 21 9 1,zg 22 (.ixa t21 t19 1 4),zn (.st t22 t20 1)] [8,9] [8,9]) .skip)) (zr [zl 23 9 6,zn (.st t8 t23 6)] [8] [8] .ret)))),[.cell 8 6 true],false⟩
def q0Wk:IC:=(.loop [0,4,5,8,11] [4,5] (zr [zg 12 (.bin .lss t11 (zi 3))] [0,4,5,8,11,12] [4,5] (.seq (.cond t12 .skip (.exit 0)) (.seq (.block 1 (zr [zm 13 11,zm 9 13] [0,4,5,8,9,11] [4,5] (zr [zm 14 0,zm 15 9,zc 16 375 [t14,t15],zm 10 16] [0,4,5,8,9,10,11] [4,5] (.seq (.seq (.reg true [zm 17 9,zg 18 (.ixa t4 t17 1 3),zg 19 (.ldl 4 t18 1 false),zg 20 (.bin .lss t19 (zi 0)),zm 21 20,zf 22 21 (.mov t9),zf 23 21 (.ixa t5 t22 1 3),zf 24 21 (.ldl 5 t23 1 false),zf 25 21 (.bin .lss t24 (zi 0)),zg 26 (.pick t21 zT t25),zm 27 26,zf 28 27 (.mov t9),zf 29 27 (.ixa t4 t28 1 3),zf 30 27 (.ldl 4 t29 1 false),zf 31 27 (.mov t10),zf 32 27 (.len t31),zf 33 27 (.bin .gtr t30 t32),zg 34 (.pick t27 zT t33),zm 35 34,zf 36 35 (.mov t9),zf 37 35 (.ixa t5 t36 1 3),zf 38 35 (.ldl 5 t37 1 false),zf 39 35 (.mov t10),zf 40 35 (.len t39),zf 41 35 (.mov t9),zf 42 35 (.ixa t4 t41 1 3),zf 43 35 (.ldl 4 t42 1 false),zf 44 35 (.bin .sub t40 t43),zf 45 35 (.bin .gtr t38 t44),zg 46 (.pick t35 zT t45)] [0,4,5,8,9,10,11,46] [4,5]) (.cond t46 (zr [zg 6 (.mov (.c (.nils))),zg 7 (.mov zF)] [6,7] [] .ret) .skip)) (.reg true [zm 47 8,zm 48 10,zm 49 9,zg 50 (.ixa t4 t49 1 3),zg 51 (.ldl 4 t50 1 false),zm 52 9,zg 53 (.ixa t4 t52 1 3),zg 54 (.ldl 4 t53 1 false),zm 55 9,zg 56 (.ixa t5 t55 1 3),zg 57 (.ldl 5 t56 1 false),zg 58 (.bin .add t54 t57),zg 59 (.slc t48 (some t51) (some t58) 1),zg 60 (.app t47 t59 1),zm 8 60] [0,4,5,8,11] [4,5]))))) (.reg false [zg 61 (.bin .add t11 (zi 1)),zm 11 61] [0,4,5,8,11] [4,5])))))
def ir331:IFn:=
⟨(zr [zg 4 (.bx t1 3 true),zg 5 (.bx t2 3 true),zg 6 (.mov (.c (.nils))),zg 7 (.mov zF)] [0,4,5] [4,5] (zr [zg 8 (.nrow 1)] [0,4,5,8] [4,5] (.seq (zr [zg 11 (.mov (zi 0))] [0,4,5,8,11] [4,5] (.block 0 q0Wk)) (zr [zm 62 8,zc 63 376 [t62]] [8] [] (zr [zm 64 8,zm 6 64,zg 7 (.mov zT)] [6,7] [] .ret))))),[.tmp 6,.tmp 7],false⟩
def ir332:IFn:=
⟨(zr [zg 2 (.mov (.c (.p .nilp)))] [0] [] (.seq (zr [zm 3 0,zg 4 (.eqn .ptr false t3)] [0,4] [] (.cond t4 (zr [zg 2 (.mov (.c (.p .nilp)))] [2] [] .ret) .skip)) (zr [zm 5 0,zg 6 (.nck t5),zp 7 6 2,zk 8 7 1,zm 2 8] [2] [] .ret))),[.tmp 2],false⟩
def ir336:IFn:=
⟨(zr [zg 4 (.mov zF)] [0,1] [] (zr [zm 8 0,zm 9 1,zc 10 218 [t8,t9],zm 7 10,zx 11 7 0,zx 12 7 1,zg 5 (.al [zo,zo,zo,zo,zo,zo,zo] true),zn (.st t5 t11 7),zm 6 12] [5,6] [5] (zr [zm 13 6,zj 14 13,zm 15 14,zf 16 15 (.ld t5 7 true),zf 17 15 (.call 220 [t16] false),zg 18 (.pick t15 zT t17),zm 4 18] [4] [] .ret))),[.tmp 4],false⟩
def q0p1:IC:=(.loop [0,1,2,4,5,6,42,43,44] [] (zr [zg 45 (.bin .lss t44 t43)] [0,1,2,4,5,6,42,43,44,45] [] (.seq (.cond t45 .skip (.exit 0)) (.seq (.block 1 (zr [zm 46 44,zg 47 (.ixs t42 t44 2),zl 48 47 2,zg 8 (.al [.nils,.nils] true),zm 7 46,zn (.st t8 t48 2)] [0,1,2,4,5,6,7,8,42,43,44] [8] (zr [zm 49 5,zp 50 1 0,zk 51 50 1,zm 52 7,zg 53 (.bin .add t51 t52),zm 54 6,zp 55 8 0,zk 56 55 1,zh 57 56,zg 58 (.bld [zo,zo,zo] [(0,1,t53),(1,1,t54),(2,1,t57)]),zg 59 (.bsl 3 1 [zo,zo,zo] [(0,t58)]),zg 60 (.app t49 t59 3),zm 5 60] [0,1,2,4,5,42,43,44] [] (.reg false [zg 6 (.mov (zi 0))] [0,1,2,4,5,6,42,43,44] [])))) (.reg false [zg 61 (.bin .add t44 (zi 1)),zm 44 61] [0,1,2,4,5,6,42,43,44] [])))))
def q0Wm:IC:=(.loop [0,5,6,9,72,73,74] [] (zr [zg 75 (.bin .lss t74 t73)] [0,5,6,9,72,73,74,75] [] (.seq (.cond t75 .skip (.exit 2)) (.seq (.block 3 (zr [zg 76 (.ixs t72 t74 1),zk 77 76 1,zm 11 77] [0,5,6,9,11,72,73,74] [] (zr [zm 78 5,zc 79 340 [t78],zm 80 9,zm 81 6,zm 82 11,zg 83 (.bld [zo,zo,zo] [(0,1,t80),(1,1,t81),(2,1,t82)]),zg 84 (.bsl 3 1 [zo,zo,zo] [(0,t83)]),zg 85 (.app t79 t84 3),zm 12 85] [0,5,6,9,12,72,73,74] [] (zr [zm 86 0,zm 87 12,zg 88 (.callv t86 [t87] false),zj 89 88] [0,5,6,9,72,73,74,89] [] (.cond t89 .ret .skip))))) (.reg false [zg 90 (.bin .add t74 (zi 1)),zm 74 90] [0,5,6,9,72,73,74] [])))))
def ir337:IFn:=
⟨(zr [zl 13 1 4,zk 14 2 1,zc 15 338 [t13,t14],zm 4 15] [0,1,2,4] [] (.seq (zr [zm 16 4,zg 17 (.bin .eql t16 (zi 0)),zm 18 17,zf 19 18 (.off t1 3),zf 20 18 (.ld t19 1 false),zf 21 18 (.un .not t20),zg 22 (.pick t18 zT t21),zm 23 22,zt 24 23 (.mov t0),zt 25 23 (.callv t24 [(.c (.nils))] false),zt 26 23 (.un .not t25),zg 27 (.pick t23 t26 zF),zm 28 27,zf 29 28 (.mov t4),zf 30 28 (.bin .eql t29 (zi 0)),zg 31 (.pick t28 zT t30)] [0,1,2,4,31] [] (.cond t31 .ret .skip)) (zr [zg 5 (.nrow 3)] [0,1,2,4,5] [] (zr [zp 32 1 1,zk 33 32 1,zm 6 33] [0,1,2,4,5,6] [] (.seq (zr [zk 34 2 1,zp 35 1 0,zk 36 35 1,zp 37 1 0,zk 38 37 1,zm 39 4,zg 40 (.bin .add t38 t39),zg 41 (.bin .sub t40 (zi 1)),zg 42 (.slc t34 (some t36) (some t41) 2),zh 43 42,zg 44 (.mov (zi 0))] [0,1,2,4,5,6,42,43,44] [] (.block 0 q0p1)) (zr [zp 62 1 0,zk 63 62 1,zm 64 4,zg 65 (.bin .add t63 t64),zg 66 (.bin .sub t65 (zi 1)),zm 9 66] [0,2,5,6,9] [] (zr [zk 67 2 1,zm 68 9,zg 69 (.ixs t67 t68 2),zl 70 69 2,zm 71 6,zc 72 339 [t70,t71],zh 73 72,zg 74 (.mov (zi 0))] [0,5,6,9,72,73,74] [] (.block 2 q0Wm)))))))),[],false⟩
def ir338:IFn:=
⟨(zr [zg 2 (.bx t0 4 true),zg 4 (.mov (zi 0))] [1,2] [2] (.seq (zr [zp 5 2 0,zk 6 5 1,zg 7 (.bin .lss t6 (zi 0)),zm 8 7,zf 9 8 (.off t2 1),zf 10 8 (.ld t9 1 false),zf 11 8 (.bin .lss t10 (zi 0)),zg 12 (.pick t8 zT t11)] [1,2,12] [2] (.cond t12 (zr [zg 4 (.mov (zi 0))] [4] [] .ret) .skip)) (zr [zp 13 2 2,zk 14 13 1,zm 15 1,zh 16 15,zg 17 (.mnmx false t14 t16),zg 18 (.mnmx true t17 (zi 0)),zp 19 2 0,zk 20 19 1,zg 21 (.bin .sub t18 t20),zg 22 (.mnmx true t21 (zi 0)),zm 4 22] [4] [] .ret))),[.tmp 4],false⟩
def ir339:IFn:=
⟨(zr [zg 2 (.bx t0 2 true),zg 4 (.mov (.c (.nils)))] [1,2] [2] (zr [zm 5 1,zg 6 (.mnmx true t5 (zi (-1))),zp 7 2 0,zk 8 7 1,zh 9 8,zg 10 (.mnmx false t6 t9),zm 1 10] [1,2] [2] (zr [zm 11 1,zg 12 (.bin .add t11 (zi 1)),zp 13 2 0,zk 14 13 1,zh 15 14,zl 16 2 2,zg 17 (.mkf (.func 343) [t16] []),zc 18 377 [t12,t15,t17],zm 4 18] [4] [] .ret))),[.tmp 4],false⟩
def ir340:IFn:=
⟨(zr [zg 2 (.mov (.c (.nils)))] [0] [] (.seq (zr [zm 3 0,zg 4 (.eqn .sl false t3)] [0,4] [] (.cond t4 (zr [zg 2 (.mov (.c (.nils)))] [2] [] .ret) .skip)) (zr [zg 5 (.bsl 3 0 [zo,zo,zo] []),zm 6 0,zg 7 (.app t5 t6 3),zm 2 7] [2] [] .ret))),[.tmp 2],true⟩
def ir341:IFn:=
⟨(zr [zg 1 (.bx t0 3 true),zg 2 (.mov zF)] [1] [1] (zr [zl 3 1 3,zc 4 378 [t3,(.c (.p (.fn 379)))],zm 2 4] [2] [] .ret)),[.tmp 2],false⟩
def ir342:IFn:=
⟨(zr [zg 1 (.bx t0 3 true),zg 2 (.mov zF)] [1] [1] (zr [zl 3 1 3,zc 4 378 [t3,(.c (.p (.fn 380)))],zm 2 4] [2] [] .ret)),[.tmp 2],false⟩
def ir343:IFn:=
⟨(zr [zg 2 (.bx t0 2 true),zg 4 (.mov zF)] [1,2] [2] (zr [zm 5 1,zp 6 2 0,zk 7 6 1,zh 8 7,zg 9 (.bin .eql t5 t8),zm 10 9,zf 11 10 (.ld t2 2 true),zf 12 10 (.mov t1),zf 13 10 (.call 297 [t11,t12] false),zg 14 (.pick t10 zT t13),zm 4 14] [4] [] .ret)),[.tmp 4],false⟩
def ir346:IFn:=
⟨(zr [zg 2 (.mov (zi 0))] [0] [] (zr [zm 3 0,zg 4 (.mnmx true t3 (zi 0)),zg 5 (.mnmx false t4 (zi 1125899906842624)),zm 2 5] [2] [] .ret)),[.tmp 2],false⟩
def q0Vv:IC:=(.loop [1,6,7] [1] (zr [zg 8 (.bin .lss t7 (zi 4))] [1,6,7,8] [1] (.seq (.cond t8 .skip (.exit 0)) (.seq (.block 1 (zr [zg 9 (.ixv t6 t7 1 4 false),zm 4 9] [1,4,6,7] [1] (zr [zm 10 4,zc 11 381 [t10],zj 12 11] [1,6,7,12] [1] (.cond t12 (zr [zg 2 (.mov zF)] [2] [] .ret) .skip)))) (.reg false [zg 13 (.bin .add t7 (zi 1)),zm 7 13] [1,6,7] [1])))))
def ir347:IFn:=
⟨(zr [zg 1 (.bx t0 6 true),zg 2 (.mov zF)] [1] [1] (.seq (zr [zp 5 1 1,zl 6 5 4,zg 7 (.mov (zi 0))] [1,6,7] [1] (.block 0 q0Vv)) (zr [zp 14 1 0,zk 15 14 1,zc 16 381 [t15],zm 17 16,zt 18 17 (.off t1 5),zt 19 17 (.ld t18 1 false),zt 20 17 (.call 381 [t19] false),zg 21 (.pick t17 t20 zF),zm 2 21] [2] [] .ret))),[.tmp 2],false⟩
def ir348:IFn:=
⟨(zr [zg 2 (.mov (zi 0))] [0] [] (.seq (zr [zm 3 0,zg 4 (.eqn .ptr false t3)] [0,4] [] (.cond t4 (zr [zg 2 (.mov (zi 0))] [2] [] .ret) .skip)) (zr [zm 5 0,zg 6 (.nck t5),zp 7 6 0,zk 8 7 1,zh 9 8,zm 2 9] [2] [] .ret))),[.tmp 2],false⟩
def ir349:IFn:=
⟨(zr [zg 0 (.mov (.c (.nils)))] [] [] (zr [zg 1 (.bld [.p .nilf,.p .nilf] [(0,1,(.c (.p (.fn 382)))),(1,1,(.c (.p (.fn 383))))]),zg 2 (.bld [.p .nilf,.p .nilf] [(0,1,(.c (.p (.fn 384)))),(1,1,(.c (.p (.fn 385))))]),zg 3 (.bld [.p .nilf,.p .nilf] [(0,1,(.c (.p (.fn 386)))),(1,1,(.c (.p (.fn 387))))]),zg 4 (.bld [.p .nilf,.p .nilf] [(0,1,(.c (.p (.fn 388)))),(1,1,(.c (.p (.fn 389))))]),zg 5 (.bsl 2 4 [.p .nilf,.p .nilf] [(0,t1),(1,t2),(2,t3),(3,t4)]),zm 0 5] [0] [] .ret)),[.tmp 0],false⟩
def ir350:IFn:=
⟨(zr [zg 4 (.mov zF)] [0,1,2] [] (zr [zk 8 1 1,zm 9 0,zc 10 218 [t8,t9],zm 7 10,zx 11 7 0,zx 12 7 1,zg 5 (.al [zo,zo,zo,zo,zo,zo,zo] true),zn (.st t5 t11 7),zm 6 12] [2,5,6] [5] (zr [zm 13 6,zm 14 13,zt 15 14 (.off t5 2),zt 16 14 (.ld t15 1 false),zt 17 14 (.ld t2 1 false),zt 18 14 (.bin .eql t16 t17),zg 19 (.pick t14 t18 zF),zm 4 19] [4] [] .ret))),[.tmp 4],false⟩
def q112:IC:=(.loop [0,2,7,8] [] (.seq (zr [zm 12 8,zg 13 (.bin .geq t12 (zi 0)),zm 14 13,zt 15 14 (.mov t8),zt 16 14 (.mov t0),zt 17 14 (.call 138 [t16] false),zt 18 14 (.bin .lss t15 t17),zg 19 (.pick t14 t18 zF)] [0,2,7,8,19] [] (.cond t19 .skip (.exit 0))) (.seq (.block 1 (zr [zm 24 0,zm 25 8,zc 26 218 [t24,t25],zm 23 26,zx 27 23 0,zx 28 23 1,zg 9 (.al [zo,zo,zo,zo,zo,zo,zo] true),zn (.st t9 t27 7),zm 10 28] [0,2,7,8,9] [9] (zr [zp 29 9 0,zk 30 29 1] [0,2,7,8,30] [] (.block 2 (zr [zg 32 (.bin .eql t30 (zi 1)),zm 31 32] [0,2,7,8,31] [] (.cond t31 (zr [zm 33 8,zm 7 33] [7] [] (.exit 0)) .skip)))))) (.reg false [zm 20 8,zm 21 2,zg 22 (.bin .add t20 t21),zm 8 22] [0,2,7,8] []))))
def ir351:IFn:=
⟨(zr [zg 6 (.mov (zi 0))] [0,1,2] [] (.scope (zr [zg 7 (.mov (zi (-1)))] [0,1,2,7] [] (.seq (.label 0) (.seq (zr [zm 11 1,zm 8 11] [0,2,7,8] [] (.block 0 q112)) (zr [zm 34 7,zm 6 34] [6] [] .ret)))))),[.tmp 6],false⟩
def ir352:IFn:=
⟨(zr [zg 2 (.mov (zi 0))] [0] [] (zr [zm 3 0,zg 4 (.mnmx true t3 (zi 0)),zg 5 (.mnmx false t4 (zi 1125899906842624)),zm 2 5] [2] [] .ret)),[.tmp 2],false⟩
def ir353:IFn:=
⟨(zr [zg 2 (.mov (zi 0))] [0] [] (zr [zm 3 0,zg 4 (.mnmx true t3 (zi 0)),zg 5 (.mnmx false t4 (zi 1125899906842624)),zm 2 5] [2] [] .ret)),[.tmp 2],false⟩
def ir357:IFn:=
⟨(zr [zg 2 (.bx t0 22 true),zg 3 (.mov (zi 0))] [1,2] [2] (.seq (zr [zk 4 1 1,zl 5 2 22,zg 6 (.callv t4 [t5] false)] [6] [] (.cond t6 (zr [zg 3 (.mov (zi 0))] [3] [] .ret) .skip)) (zr [zg 3 (.mov (zi (-1)))] [3] [] .ret))),[.tmp 3],false⟩
def ir358:IFn:=
⟨(zr [zg 2 (.bx t0 1 false),zg 3 (.bx t1 1 false),zg 4 (.mov (.c (.p .nilf)))] [2,3] [] (zr [zg 5 (.mkf (.func 392) [] [t2,t3]),zm 4 5] [4] [] .ret)),[.tmp 4],false⟩
def ir359:IFn:=
⟨(zr [zg 2 (.bx t0 1 false),zg 3 (.bx t1 1 false),zg 4 (.mov (.c (.p .nilf)))] [2,3] [] (zr [zg 5 (.mkf (.func 393) [] [t2,t3]),zm 4 5] [4] [] .ret)),[.tmp 4],false⟩
def ir360:IFn:=
⟨(zr [zg 3 (.mov (zi 0))] [0,1] [] (zr [zm 4 0,zg 5 (.mkf (.func 362) [] [t1]),zc 6 361 [t4,t5],zm 3 6] [3] [] .ret)),[.tmp 3],false⟩
def q0c5:IC:=(.loop [0,1,7,8] [] (zr [zg 9 (.bin .lss t8 t7)] [0,1,7,8,9] [] (.seq (.cond t9 .skip (.exit 0)) (.seq (.block 1 (zr [zm 10 8,zm 5 10] [0,1,5,7,8] [] (zr [zm 11 1,zm 12 0,zm 13 5,zg 14 (.ixs t12 t13 7),zl 15 14 7,zg 16 (.callv t11 [t15] false)] [0,1,5,7,8,16] [] (.cond t16 (zr [zm 17 5,zm 4 17] [4] [] .ret) .skip)))) (.reg false [zg 18 (.bin .add t8 (zi 1)),zm 8 18] [0,1,7,8] [])))))
def ir361:IFn:=
⟨(zr [zg 4 (.mov (zi 0))] [0,1] [] (.seq (zr [zm 6 0,zh 7 6,zg 8 (.mov (zi 0))] [0,1,7,8] [] (.block 0 q0c5)) (zr [zg 4 (.mov (zi (-1)))] [4] [] .ret))),[.tmp 4],false⟩
def ir362:IFn:=
⟨(zr [zg 2 (.bx t0 7 true),zg 3 (.mov zF)] [1,2] [2] (zr [zk 4 1 1,zl 5 2 7,zg 6 (.callv t4 [t5] false),zg 7 (.bin .neq t6 (zi 0)),zm 3 7] [3] [] .ret)),[.tmp 3],false⟩
def ir363:IFn:=
⟨(zr [zg 0 (.mov (.c (.nils)))] [] [] (zr [zg 1 (.mov (.c (.p (.fn 394))))] [1] [] (zr [zc 2 364 [(zi 0)],zg 3 (.bld [.p .nilf,.p .nilf] [(0,1,(.c (.p (.fn 396)))),(1,1,t2)]),zc 4 364 [(zi 0)],zg 5 (.bld [.p .nilf,.p .nilf] [(0,1,(.c (.p (.fn 398)))),(1,1,t4)]),zm 6 1,zg 7 (.callv t6 [(.c (.p (.fn 400)))] false),zg 8 (.bld [.p .nilf,.p .nilf] [(0,1,t7),(1,1,(.c (.p (.fn 401))))]),zm 9 1,zg 10 (.callv t9 [(.c (.p (.fn 402)))] false),zc 11 364 [(zi 1048576)],zg 12 (.bld [.p .nilf,.p .nilf] [(0,1,t10),(1,1,t11)]),zm 13 1,zg 14 (.callv t13 [(.c (.p (.fn 403)))] false),zc 15 364 [(zi 511)],zg 16 (.bld [.p .nilf,.p .nilf] [(0,1,t14),(1,1,t15)]),zm 17 1,zg 18 (.callv t17 [(.c (.p (.fn 404)))] false),zc 19 364 [(zi 255)],zg 20 (.bld [.p .nilf,.p .nilf] [(0,1,t18),(1,1,t19)]),zc 21 364 [(zi 0)],zg 22 (.bld [.p .nilf,.p .nilf] [(0,1,(.c (.p (.fn 405)))),(1,1,t21)]),zg 23 (.bsl 2 7 [.p .nilf,.p .nilf] [(0,t3),(1,t5),(2,t8),(3,t12),(4,t16),(5,t20),(6,t22)]),zm 0 23] [0] [] .ret))),[.tmp 0],false⟩
def ir364:IFn:=
⟨(zr [zg 1 (.bx t0 1 false),zg 2 (.mov (.c (.p .nilf)))] [1] [] (zr [zg 3 (.mkf (.func 407) [] [t1]),zm 2 3] [2] [] .ret)),[.tmp 2],false⟩
def ir365:IFn:=
⟨(zr [zg 2 (.mov zF)] [0] [] (zr [zm 3 0,zc 4 408 [t3,(.c (.p (.fn 409)))],zj 5 4,zm 2 5] [2] [] .ret)),[.tmp 2],false⟩
def ir366:IFn:=
⟨(zr [zg 3 (.mov (zi 0))] [0,1] [] (zr [zm 4 0,zg 5 (.mkf (.func 368) [] [t1]),zc 6 367 [t4,t5],zm 3 6] [3] [] .ret)),[.tmp 3],false⟩
def q0Xt:IC:=(.loop [0,1,7,8] [] (zr [zg 9 (.bin .lss t8 t7)] [0,1,7,8,9] [] (.seq (.cond t9 .skip (.exit 0)) (.seq (.block 1 (zr [zm 10 8,zm 5 10] [0,1,5,7,8] [] (zr [zm 11 1,zm 12 0,zm 13 5,zg 14 (.ixs t12 t13 2),zl 15 14 2,zg 16 (.callv t11 [t15] false)] [0,1,5,7,8,16] [] (.cond t16 (zr [zm 17 5,zm 4 17] [4] [] .ret) .skip)))) (.reg false [zg 18 (.bin .add t8 (zi 1)),zm 8 18] [0,1,7,8] [])))))
def ir367:IFn:=
⟨(zr [zg 4 (.mov (zi 0))] [0,1] [] (.seq (zr [zm 6 0,zh 7 6,zg 8 (.mov (zi 0))] [0,1,7,8] [] (.block 0 q0Xt)) (zr [zg 4 (.mov (zi (-1)))] [4] [] .ret))),[.tmp 4],false⟩
def ir368:IFn:=
⟨(zr [zg 2 (.bx t0 2 true),zg 3 (.mov zF)] [1,2] [2] (zr [zk 4 1 1,zl 5 2 2,zg 6 (.callv t4 [t5] false),zg 7 (.bin .neq t6 (zi 0)),zm 3 7] [3] [] .ret)),[.tmp 3],false⟩
def ir369:IFn:=
⟨(zr [zg 3 (.mov (zi 0))] [0,1] [] (zr [zm 4 0,zg 5 (.mkf (.func 371) [] [t1]),zc 6 370 [t4,t5],zm 3 6] [3] [] .ret)),[.tmp 3],false⟩
def q0gn:IC:=(.loop [0,1,7,8] [] (zr [zg 9 (.bin .lss t8 t7)] [0,1,7,8,9] [] (.seq (.cond t9 .skip (.exit 0)) (.seq (.block 1 (zr [zm 10 8,zm 5 10] [0,1,5,7,8] [] (zr [zm 11 1,zm 12 0,zm 13 5,zg 14 (.ixs t12 t13 3),zl 15 14 3,zg 16 (.callv t11 [t15] false)] [0,1,5,7,8,16] [] (.cond t16 (zr [zm 17 5,zm 4 17] [4] [] .ret) .skip)))) (.reg false [zg 18 (.bin .add t8 (zi 1)),zm 8 18] [0,1,7,8] [])))))
def ir370:IFn:=
⟨(zr [zg 4 (.mov (zi 0))] [0,1] [] (.seq (zr [zm 6 0,zh 7 6,zg 8 (.mov (zi 0))] [0,1,7,8] [] (.block 0 q0gn)) (zr [zg 4 (.mov (zi (-1)))] [4] [] .ret))),[.tmp 4],false⟩
def ir371:IFn:=
⟨(zr [zg 2 (.bx t0 3 true),zg 3 (.mov zF)] [1,2] [2] (zr [zk 4 1 1,zl 5 2 3,zg 6 (.callv t4 [t5] false),zg 7 (.bin .neq t6 (zi 0)),zm 3 7] [3] [] .ret)),[.tmp 3],false⟩
def q0B3:IC:=(.loop [0,1,2,7,8,14,15,16] [] (zr [zg 17 (.bin .lss t16 t15)] [0,1,2,7,8,14,15,16,17] [] (.seq (.cond t17 .skip (.exit 0)) (.seq (.block 1 (zr [zm 18 16,zg 19 (.ixs t14 t16 7),zl 20 19 7,zg 10 (.al [zo,zo,zo,zo,zo,zo,zo] true),zm 9 18,zn (.st t10 t20 7)] [0,1,2,7,8,9,10,14,15,16] [10] (.seq (zr [zm 21 9,zm 22 7,zg 23 (.bin .eql t21 t22),zm 24 23,zf 25 24 (.off t10 0),zf 26 24 (.ld t25 1 false),zf 27 24 (.mov t1),zf 28 24 (.bin .eql t26 t27),zf 29 24 (.mov t28),zt 30 29 (.mov t8),zt 31 29 (.mov t2),zt 32 29 (.bin .eql t30 t31),zf 33 24 (.pick t29 t32 zF),zg 34 (.pick t24 zT t33)] [0,1,2,7,8,9,10,14,15,16,34] [10] (.cond t34 (zr [zm 35 9,zm 6 35] [6] [] .ret) .skip)) (zr [zp 36 10 0,zk 37 36 1,zm 38 1,zg 39 (.bin .eql t37 t38)] [0,1,2,7,8,14,15,16,39] [] (.cond t39 (.reg false [zm 40 8,zg 41 (.bin .add t40 (zi 1)),zm 8 41] [0,1,2,7,8,14,15,16] []) .skip))))) (.reg false [zg 42 (.bin .add t16 (zi 1)),zm 16 42] [0,1,2,7,8,14,15,16] [])))))
def ir372:IFn:=
⟨(zr [zg 6 (.mov (zi 0))] [0,1,2] [] (zr [zm 11 0,zm 12 1,zc 13 410 [t11,t12],zm 7 13] [0,1,2,7] [] (zr [zg 8 (.mov (zi 0))] [0,1,2,7,8] [] (.seq (zr [zm 14 0,zh 15 14,zg 16 (.mov (zi 0))] [0,1,2,7,8,14,15,16] [] (.block 0 q0B3)) (.seq (zr [zm 43 8,zm 44 2,zg 45 (.bin .lss t43 t44)] [0,45] [] (.cond t45 (zr [zm 46 0,zh 47 46,zm 6 47] [6] [] .ret) .skip)) (zr [zg 6 (.mov (zi (-1)))] [6] [] .ret)))))),[.tmp 6],false⟩
def ir373:IFn:=
⟨(zr [zg 2 (.bx t0 3 true),zg 3 (.mov zF)] [1,2] [2] (zr [zp 4 2 1,zk 5 4 1,zp 6 1 0,zp 7 6 4,zk 8 7 1,zg 9 (.bin .gtr t5 t8),zm 3 9] [3] [] .ret)),[.tmp 3],false⟩
def ir374:IFn:=
⟨(zr [zg 1 (.bx t0 6 true),zg 2 (.al [zo,zo,zo,zo,zo,zo] true)] [1,2] [1,2] (zr [zp 3 1 0,zk 4 3 1,zp 5 1 1,zg 6 (.ixa t5 (zi 0) 1 4),zk 7 6 1,zp 8 1 1,zg 9 (.ixa t8 (zi 1) 1 4),zk 10 9 1,zp 11 1 1,zg 12 (.ixa t11 (zi 2) 1 4),zk 13 12 1,zp 14 1 1,zg 15 (.ixa t14 (zi 3) 1 4),zk 16 15 1,zp 17 1 5,zk 18 17 1,zg 19 (.bld [zo,zo,zo,zo,zo,zo] [(0,1,t4),(1,1,t7),(2,1,t10),(3,1,t13),(4,1,t16),(5,1,t18)]),zn (.st t2 t19 6)] [2] [2] .ret)),[.cell 2 6 true],false⟩
def q0Xb:IC:=(.loop [1,5,8,9,10] [] (zr [zg 11 (.bin .lss t10 t9)] [1,5,8,9,10,11] [] (.seq (.cond t11 .skip (.exit 0)) (.seq (.block 1 (zr [zm 12 10,zg 13 (.ixs t8 t10 3),zl 14 13 3,zg 7 (.al [zo,zo,zo] true),zm 6 12,zn (.st t7 t14 3)] [1,5,6,7,8,9,10] [7] (zr [zp 15 7 0,zk 16 15 1,zm 17 1,zg 18 (.bin .eql t16 t17)] [1,5,6,8,9,10,18] [] (.cond t18 (.reg false [zm 19 5,zm 20 6,zg 21 (.bsl 1 1 [zo] [(0,t20)]),zg 22 (.app t19 t21 1),zm 5 22] [1,5,8,9,10] []) .skip)))) (.reg false [zg 23 (.bin .add t10 (zi 1)),zm 10 23] [1,5,8,9,10] [])))))
def ir375:IFn:=
⟨(zr [zg 4 (.mov (.c (.nils)))] [0,1] [] (zr [zg 5 (.nrow 1)] [0,1,5] [] (.seq (zr [zm 8 0,zh 9 8,zg 10 (.mov (zi 0))] [1,5,8,9,10] [] (.block 0 q0Xb)) (zr [zm 24 5,zm 4 24] [4] [] .ret)))),[.tmp 4],false⟩
def q0gq:IC:=(.loop [1,2,7,8] [] (.seq (zr [zm 10 8,zm 11 1,zg 12 (.bin .leq t10 t11)] [1,2,7,8,12] [] (.cond t12 .skip (.exit 0))) (.seq (.block 1 (zr [zm 15 2,zm 16 8,zg 17 (.callv t15 [t16] false)] [1,2,7,8,17] [] (.cond t17 (.reg false [zm 18 7,zm 19 8,zg 20 (.bsl 1 1 [zo] [(0,t19)]),zg 21 (.app t18 t20 1),zm 7 21] [1,2,7,8] []) .skip))) (.reg false [zm 13 8,zg 14 (.bin .add t13 (zi 1)),zm 8 14] [1,2,7,8] []))))
def ir377:IFn:=
⟨(zr [zg 6 (.mov (.c (.nils)))] [0,1,2] [] (zr [zg 7 (.nrow 1)] [0,1,2,7] [] (.seq (zr [zm 9 0,zm 8 9] [1,2,7,8] [] (.block 0 q0gq)) (zr [zm 22 7,zm 6 22] [6] [] .ret)))),[.tmp 6],false⟩
def ir378:IFn:=
⟨(zr [zg 2 (.bx t0 3 true),zg 4 (.mov zF)] [1,2] [2] (zr [zm 5 1,zp 6 2 2,zk 7 6 1,zg 8 (.callv t5 [t7] false),zm 4 8] [4] [] .ret)),[.tmp 4],false⟩
def ir379:IFn:=
⟨(zr [zg 2 (.mov zF)] [0] [] (zr [zm 3 0,zg 4 (.bin .and t3 (zi 1)),zg 5 (.bin .neq t4 (zi 0)),zm 2 5] [2] [] .ret)),[.tmp 2],false⟩
def ir380:IFn:=
⟨(zr [zg 2 (.mov zF)] [0] [] (zr [zm 3 0,zg 4 (.bin .and t3 (zi 2)),zg 5 (.bin .neq t4 (zi 0)),zm 2 5] [2] [] .ret)),[.tmp 2],false⟩
def ir381:IFn:=
⟨(zr [zg 2 (.mov zF)] [0] [] (zr [zm 3 0,zg 4 (.bin .geq t3 (zi 0)),zm 5 4,zt 6 5 (.mov t0),zt 7 5 (.bin .leq t6 (zi 1125899906842624)),zg 8 (.pick t5 t7 zF),zm 2 8] [2] [] .ret)),[.tmp 2],false⟩
def ir382:IFn:=
⟨(zr [zg 4 (.mov zF)] [0] [] (zr [zm 5 0,zg 6 (.bin .lss t5 (zi 1)),zm 4 6] [4] [] .ret)),[.tmp 4],false⟩
def ir383:IFn:=
⟨(zr [zg 4 (.mov (zi 0))] [] [] (zr [zg 4 (.mov (zi 0))] [4] [] .ret)),[.tmp 4],false⟩
def ir384:IFn:=
⟨(zr [zg 4 (.mov zF)] [1] [] (zr [zm 5 1,zg 6 (.bin .lss t5 (zi 1)),zm 4 6] [4] [] .ret)),[.tmp 4],false⟩
def ir385:IFn:=
⟨(zr [zg 4 (.mov (zi 0))] [] [] (zr [zg 4 (.mov (zi 1291))] [4] [] .ret)),[.tmp 4],false⟩
def ir386:IFn:=
⟨(zr [zg 4 (.mov zF)] [0] [] (zr [zm 5 0,zg 6 (.bin .leq t5 (zi 7230584)),zm 4 6] [4] [] .ret)),[.tmp 4],false⟩
def ir387:IFn:=
⟨(zr [zg 4 (.mov (zi 0))] [0,1] [] (zr [zm 5 0,zg 6 (.bin .mul t5 (zi 297)),zm 7 1,zg 8 (.bin .quo t6 t7),zm 4 8] [4] [] .ret)),[.tmp 4],false⟩
def ir388:IFn:=
⟨(zr [zg 4 (.mov zF)] [1] [] (zr [zm 5 1,zg 6 (.bin .geq t5 (zi 1663497)),zm 4 6] [4] [] .ret)),[.tmp 4],false⟩
def ir389:IFn:=
⟨(zr [zg 4 (.mov (zi 0))] [0,1] [] (zr [zm 5 0,zm 6 1,zg 7 (.bin .quo t6 (zi 297)),zg 8 (.bin .quo t5 t7),zm 4 8] [4] [] .ret)),[.tmp 4],false⟩
def q0Xc:IC:=(.loop [1,2,7,8,9] [] (zr [zg 10 (.bin .lss t9 t8)] [1,2,7,8,9,10] [] (.seq (.cond t10 .skip (.exit 0)) (.seq (.block 1 (zr [zg 11 (.ixs t7 t9 1),zk 12 11 1,zm 6 12] [1,2,6,7,8,9] [] (zr [zm 13 6,zk 14 1 1,zg 15 (.bin .lss t13 t14),zm 16 15,zf 17 16 (.mov t6),zf 18 16 (.ld t2 1 false),zf 19 16 (.bin .gtr t17 t18),zg 20 (.pick t16 zT t19)] [1,2,7,8,9,20] [] (.cond t20 (zr [zg 4 (.mov zF)] [4] [] .ret) .skip)))) (.reg false [zg 21 (.bin .add t9 (zi 1)),zm 9 21] [1,2,7,8,9] [])))))
def ir392:IFn:=
⟨(zr [zg 4 (.mov zF)] [0,1,2] [] (.seq (zr [zm 7 0,zh 8 7,zg 9 (.mov (zi 0))] [1,2,7,8,9] [] (.block 0 q0Xc)) (zr [zg 4 (.mov zT)] [4] [] .ret))),[.tmp 4],false⟩
def q0Xu:IC:=(.loop [1,2,7,8,9] [] (zr [zg 10 (.bin .lss t9 t8)] [1,2,7,8,9,10] [] (.seq (.cond t10 .skip (.exit 0)) (.seq (.block 1 (zr [zg 11 (.ixs t7 t9 1),zk 12 11 1,zm 6 12] [1,2,6,7,8,9] [] (zr [zm 13 6,zk 14 1 1,zg 15 (.bin .lss t13 t14),zm 16 15,zf 17 16 (.mov t6),zf 18 16 (.ld t2 1 false),zf 19 16 (.bin .gtr t17 t18),zg 20 (.pick t16 zT t19)] [1,2,7,8,9,20] [] (.cond t20 (zr [zg 4 (.mov zF)] [4] [] .ret) .skip)))) (.reg false [zg 21 (.bin .add t9 (zi 1)),zm 9 21] [1,2,7,8,9] [])))))
def ir393:IFn:=
⟨(zr [zg 4 (.mov zF)] [0,1,2] [] (.seq (zr [zm 7 0,zh 8 7,zg 9 (.mov (zi 0))] [1,2,7,8,9] [] (.block 0 q0Xu)) (zr [zg 4 (.mov zT)] [4] [] .ret))),[.tmp 4],false⟩
def ir394:IFn:=
⟨(zr [zg 1 (.bx t0 1 false),zg 2 (.mov (.c (.p .nilf)))] [1] [] (zr [zg 3 (.mkf (.func 395) [] [t1]),zm 2 3] [2] [] .ret)),[.tmp 2],false⟩
def ir395:IFn:=
⟨(zr [zg 2 (.bx t0 7 true),zg 3 (.al [zo,zo,zo,zo,zo,zo,zo] true)] [1,2,3] [2,3] (zr [zk 4 1 1,zp 5 2 6,zk 6 5 1,zg 7 (.callv t4 [t6] false),zn (.st t3 t7 7)] [3] [3] .ret)),[.cell 3 7 true],false⟩
def ir396:IFn:=
⟨(zr [zg 1 (.bx t0 7 true),zg 2 (.al [zo,zo,zo,zo,zo,zo,zo] true)] [1,2] [1,2] (zr [zp 3 1 1,zk 4 3 1,zp 5 1 2,zk 6 5 1,zc 7 397 [t4,t6],zn (.st t2 t7 7)] [2] [2] .ret)),[.cell 2 7 true],false⟩
def ir397:IFn:=
⟨(zr [zg 4 (.al [zo,zo,zo,zo,zo,zo,zo] true)] [0,1,4] [4] (zr [zm 5 0,zm 6 1,zg 7 (.bld [zo,zo,zo,zo,zo,zo,zo] [(0,1,(zi 1)),(1,1,t5),(2,1,t6)]),zn (.st t4 t7 7)] [4] [4] .ret)),[.cell 4 7 true],false⟩
def ir398:IFn:=
⟨(zr [zg 1 (.bx t0 7 true),zg 2 (.al [zo,zo,zo,zo,zo,zo,zo] true)] [1,2] [1,2] (zr [zp 3 1 1,zk 4 3 1,zp 5 1 3,zk 6 5 1,zp 7 1 4,zk 8 7 1,zp 9 1 5,zk 10 9 1,zc 11 399 [t4,t6,t8,t10],zn (.st t2 t11 7)] [2] [2] .ret)),[.cell 2 7 true],false⟩
def ir399:IFn:=
⟨(zr [zg 8 (.al [zo,zo,zo,zo,zo,zo,zo] true)] [0,1,2,3,8] [8] (zr [zm 9 0,zm 10 1,zm 11 2,zm 12 3,zg 13 (.bld [zo,zo,zo,zo,zo,zo,zo] [(0,1,(zi 2)),(1,1,t9),(3,1,t10),(4,1,t11),(5,1,t12)]),zn (.st t8 t13 7)] [8] [8] .ret)),[.cell 8 7 true],false⟩
def ir400:IFn:=
⟨(zr [zg 2 (.al [zo,zo,zo,zo,zo,zo,zo] true)] [0,2] [2] (zr [zm 3 0,zg 4 (.bld [zo,zo,zo,zo,zo,zo,zo] [(0,1,(zi 3)),(6,1,t3)]),zn (.st t2 t4 7)] [2] [2] .ret)),[.cell 2 7 true],false⟩
def ir401:IFn:=
⟨(zr [zg 2 (.mov zF)] [0] [] (zr [zm 3 0,zg 4 (.bin .eql t3 (zi (-10000))),zm 5 4,zf 6 5 (.call 364 [(zi 10000)] false),zf 7 5 (.mov t0),zf 8 5 (.callv t6 [t7] false),zg 9 (.pick t5 zT t8),zm 2 9] [2] [] .ret)),[.tmp 2],false⟩
def ir402:IFn:=
⟨(zr [zg 2 (.al [zo,zo,zo,zo,zo,zo,zo] true)] [0,2] [2] (zr [zm 3 0,zg 4 (.bld [zo,zo,zo,zo,zo,zo,zo] [(0,1,(zi 4)),(6,1,t3)]),zn (.st t2 t4 7)] [2] [2] .ret)),[.cell 2 7 true],false⟩
def ir403:IFn:=
⟨(zr [zg 2 (.al [zo,zo,zo,zo,zo,zo,zo] true)] [0,2] [2] (zr [zm 3 0,zg 4 (.bld [zo,zo,zo,zo,zo,zo,zo] [(0,1,(zi 5)),(6,1,t3)]),zn (.st t2 t4 7)] [2] [2] .ret)),[.cell 2 7 true],false⟩
def ir404:IFn:=
⟨(zr [zg 2 (.al [zo,zo,zo,zo,zo,zo,zo] true)] [0,2] [2] (zr [zm 3 0,zg 4 (.bld [zo,zo,zo,zo,zo,zo,zo] [(0,1,(zi 6)),(6,1,t3)]),zn (.st t2 t4 7)] [2] [2] .ret)),[.cell 2 7 true],false⟩
def ir405:IFn:=
⟨(zr [zg 1 (.bx t0 7 true),zg 2 (.al [zo,zo,zo,zo,zo,zo,zo] true)] [2] [2] (zr [zc 3 406 [],zn (.st t2 t3 7)] [2] [2] .ret)),[.cell 2 7 true],false⟩
def ir406:IFn:=
⟨(zr [zg 0 (.al [zo,zo,zo,zo,zo,zo,zo] true)] [0] [0] (zr [zg 1 (.bld [zo,zo,zo,zo,zo,zo,zo] [(0,1,(zi 7))]),zn (.st t0 t1 7)] [0] [0] .ret)),[.cell 0 7 true],false⟩
def ir407:IFn:=
⟨(zr [zg 3 (.mov zF)] [0,1] [] (zr [zm 4 0,zg 5 (.bin .geq t4 (zi 0)),zm 6 5,zt 7 6 (.mov t0),zt 8 6 (.ld t1 1 false),zt 9 6 (.bin .leq t7 t8),zg 10 (.pick t6 t9 zF),zm 3 10] [3] [] .ret)),[.tmp 3],false⟩
def ir408:IFn:=
⟨(zr [zg 4 (.mov zF)] [0,1] [] (zr [zm 5 0,zm 6 1,zc 7 413 [t5,t6],zg 8 (.bin .geq t7 (zi 0)),zm 4 8] [4] [] .ret)),[.tmp 4],false⟩
def ir409:IFn:=
⟨(zr [zg 2 (.mov zF)] [0] [] (zr [zm 3 0,zg 4 (.bin .lss t3 (zi 0)),zm 5 4,zf 6 5 (.mov t0),zf 7 5 (.bin .gtr t6 (zi 1073741823)),zg 8 (.pick t5 zT t7),zm 2 8] [2] [] .ret)),[.tmp 2],false⟩
def ir410:IFn:=
⟨(zr [zg 3 (.bx t1 1 false),zg 4 (.mov (zi 0))] [0,3] [] (zr [zg 5 (.al [zo] false),zn (.st t5 (zi 0) 1)] [0,3,5] [] (zr [zm 6 0,zg 7 (.mkf (.func 414) [] [t3,t5]),zc 8 361 [t6,t7],zm 4 8] [4] [] .ret))),[.tmp 4],false⟩
def q0Xv:IC:=(.loop [0,1,7,8] [] (zr [zg 9 (.bin .lss t8 t7)] [0,1,7,8,9] [] (.seq (.cond t9 .skip (.exit 0)) (.seq (.block 1 (zr [zm 10 8,zm 5 10] [0,1,5,7,8] [] (zr [zm 11 1,zm 12 0,zm 13 5,zg 14 (.ixs t12 t13 1),zk 15 14 1,zg 16 (.callv t11 [t15] false)] [0,1,5,7,8,16] [] (.cond t16 (zr [zm 17 5,zm 4 17] [4] [] .ret) .skip)))) (.reg false [zg 18 (.bin .add t8 (zi 1)),zm 8 18] [0,1,7,8] [])))))
def ir413:IFn:=
⟨(zr [zg 4 (.mov (zi 0))] [0,1] [] (.seq (zr [zm 6 0,zh 7 6,zg 8 (.mov (zi 0))] [0,1,7,8] [] (.block 0 q0Xv)) (zr [zg 4 (.mov (zi (-1)))] [4] [] .ret))),[.tmp 4],false⟩
def ir414:IFn:=
⟨(zr [zg 3 (.bx t0 7 true),zg 4 (.mov zF)] [1,2,3] [3] (.seq (zr [zp 5 3 0,zk 6 5 1,zk 7 1 1,zg 8 (.bin .neq t6 t7)] [2,3,8] [3] (.cond t8 (zr [zg 4 (.mov zF)] [4] [] .ret) .skip)) (zr [zk 9 2 1,zg 10 (.bin .add t9 (zi 1)),zn (.st t2 t10 1)] [2,3] [3] (zr [zp 11 3 6,zk 12 11 1,zk 13 2 1,zg 14 (.bin .sub t13 (zi 1)),zg 15 (.bin .neq t12 t14),zm 4 15] [4] [] .ret)))),[.tmp 4],false⟩
end Go.EnvOf
