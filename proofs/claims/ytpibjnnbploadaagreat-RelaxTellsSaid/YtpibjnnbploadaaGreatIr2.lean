/- The engine's instructions for the functions, part 2. -/
import Derived.Test.YtpibjnnbploadaaGreatIrT
import Derived.Test.YtpibjnnbploadaaGreatEngAll2
namespace Go.EnvOf
open Go Go.Eng
set_option maxRecDepth 100000
def ir402:IFn:=
⟨(zr [zg 1 (.bx t0 7 true),
 zg 2 (.mov (zi 0))] [1] [1]
 (.seq (zr [zp 5 1 0,
 zk 6 5 1,
 zg 7 (.bin .lss t6 (zi 1)),
 zm 8 7,
 zf 9 8 (.off t1 0),
 zf 10 8 (.ld t9 1 false),
 zf 11 8 (.bin .gtr t10 (zi 7)),
 zg 12 (.pick t8 zT t11)] [1,12] [1]
 (.cond t12
 (zr [zg 2 (.mov (zi 8))] [2] []
 .ret)
 .skip))
 (.seq (.prep [3] (.reg true [zc 13 442 [],
 zp 14 1 0,
 zg 15 (.ldl 1 t14 1 false),
 zg 16 (.bin .sub t15 (zi 1)),
 zg 17 (.ixs t13 t16 2),
 zl 18 17 2,
 zg 3 (.alp [.p .nilf,.p .nilf]),
 zn (.stl 3 t3 t18 2)] [1,3] [1,3]))
 (zr [zc 19 443 [(zi 3)],
 zm 4 19] [1,3,4] [1,3]
 (.seq (.seq (.reg true [zp 20 3 0,
 zg 21 (.ldl 3 t20 1 false),
 zg 22 (.ldl 1 t1 7 true),
 zg 23 (.callv t21 [t22] false),
 zg 24 (.ldl 1 t1 7 true),
 zg 25 (.eqa true [true,true,true,true,true,true,true] t23 t24),
 zm 26 25,
 zf 27 26 (.off t3 1),
 zf 28 26 (.ldl 3 t27 1 false),
 zf 29 26 (.off t1 6),
 zf 30 26 (.ldl 1 t29 1 false),
 zf 31 26 (.callv t28 [t30] false),
 zf 32 26 (.un .not t31),
 zg 33 (.pick t26 zT t32),
 zm 34 33,
 zf 35 34 (.off t1 1),
 zf 36 34 (.ldl 1 t35 1 false),
 zf 37 34 (.off t1 3),
 zf 38 34 (.ldl 1 t37 1 false),
 zf 39 34 (.off t1 5),
 zf 40 34 (.ldl 1 t39 1 false),
 zf 41 34 (.bsl 1 3 [zo] [(0,t36),(1,t38),(2,t40)]),
 zf 42 34 (.call 444 [t41] false),
 zf 43 34 (.un .not t42),
 zg 44 (.pick t34 zT t43),
 zm 45 44,
 zf 46 45 (.mov t4),
 zf 47 45 (.off t1 2),
 zf 48 45 (.ldl 1 t47 1 false),
 zf 49 45 (.callv t46 [t48] false),
 zf 50 45 (.un .not t49),
 zg 51 (.pick t45 zT t50),
 zm 52 51,
 zf 53 52 (.mov t4),
 zf 54 52 (.off t1 4),
 zf 55 52 (.ldl 1 t54 1 false),
 zf 56 52 (.callv t53 [t55] false),
 zf 57 52 (.un .not t56),
 zg 58 (.pick t52 zT t57),
 zm 59 58,
 zf 60 59 (.off t1 0),
 zf 61 59 (.ldl 1 t60 1 false),
 zf 62 59 (.bin .eql t61 (zi 2)),
 zf 63 59 (.mov t62),
 zt 64 63 (.off t1 5),
 zt 65 63 (.ldl 1 t64 1 false),
 zt 66 63 (.off t1 1),
 zt 67 63 (.ldl 1 t66 1 false),
 zt 68 63 (.bin .gtr t65 t67),
 zf 69 59 (.pick t63 t68 zF),
 zg 70 (.pick t59 zT t69)] [70] [])
 (.cond t70
 (zr [zg 2 (.mov (zi 8))] [2] []
 .ret)
 .skip))
 (zr [zg 2 (.mov (zi 0))] [2] []
 .ret)))))),
 [.tmp 2],false⟩
def ir403:IFn:=
⟨(zr [zg 1 (.bx t0 22 true),
 zg 2 (.mov (zi 0))] [1] [1]
 (.seq (.reg true [zc 3 404 [(.c (.p (.fn 405)))],
 zp 4 1 20,
 zg 5 (.ldl 1 t4 1 false),
 zg 6 (.callv t3 [t5] false),
 zm 2 6] [2] [])
 .ret)),
 [.tmp 2],false⟩
def ir404:IFn:=
⟨(zr [zg 1 (.bx t0 1 false),
 zg 2 (.mov (.c (.p .nilf)))] [1] []
 (zr [zg 3 (.mkf (.func 445) [] [t1]),
 zm 2 3] [2] []
 .ret)),
 [.tmp 2],false⟩
def q09m:IC:=
 (.loop [1,3,29,30,31] [1] (zr [zg 32 (.bin .lss t31 t30)] [1,3,29,30,31,32] [1]
 (.seq (.cond t32
 .skip
 (.exit 0))
 (.seq (.block 1 (zr [zg 33 (.ixs t29 t31 1),
 zk 34 33 1,
 zm 5 34] [1,3,5,29,30,31] [1]
 (.reg false [zm 35 3,
 zm 36 35,
 zf 37 36 (.mov t5),
 zf 38 36 (.bin .lss t37 (zi 1)),
 zg 39 (.pick t36 zT t38),
 zm 40 39,
 zf 41 40 (.mov t5),
 zf 42 40 (.bin .gtr t41 (zi 1073741823)),
 zg 43 (.pick t40 zT t42),
 zm 3 43] [1,3,29,30,31] [1])))
 (.reg false [zg 44 (.bin .add t31 (zi 1)),
 zm 31 44] [1,3,29,30,31] [1])))))
def q09n:IC:=
 (.loop [3,46,47,48] [] (zr [zg 49 (.bin .lss t48 t47)] [3,46,47,48,49] []
 (.seq (.cond t49
 .skip
 (.exit 2))
 (.seq (.block 3 (zr [zg 50 (.ixs t46 t48 1),
 zk 51 50 1,
 zm 7 51] [3,7,46,47,48] []
 (.reg false [zm 52 3,
 zm 53 52,
 zf 54 53 (.mov t7),
 zf 55 53 (.bin .lss t54 (zi 0)),
 zg 56 (.pick t53 zT t55),
 zm 57 56,
 zf 58 57 (.mov t7),
 zf 59 57 (.bin .gtr t58 (zi 10000)),
 zg 60 (.pick t57 zT t59),
 zm 3 60] [3,46,47,48] [])))
 (.reg false [zg 61 (.bin .add t48 (zi 1)),
 zm 48 61] [3,46,47,48] [])))))
def ir405:IFn:=
⟨(zr [zg 1 (.bx t0 2 true),
 zg 2 (.mov (zi 0))] [1] [1]
 (zr [zp 8 1 0,
 zk 9 8 1,
 zh 10 9,
 zg 11 (.bin .lss t10 (zi 1)),
 zm 12 11,
 zf 13 12 (.off t1 0),
 zf 14 12 (.ld t13 1 false),
 zf 15 12 (.len t14),
 zf 16 12 (.bin .gtr t15 (zi 64)),
 zg 17 (.pick t12 zT t16),
 zm 18 17,
 zf 19 18 (.off t1 1),
 zf 20 18 (.ld t19 1 false),
 zf 21 18 (.len t20),
 zf 22 18 (.off t1 0),
 zf 23 18 (.ld t22 1 false),
 zf 24 18 (.len t23),
 zf 25 18 (.bin .sub t24 (zi 1)),
 zf 26 18 (.bin .neq t21 t25),
 zg 27 (.pick t18 zT t26),
 zm 3 27] [1,3] [1]
 (.seq (zr [zp 28 1 0,
 zk 29 28 1,
 zh 30 29,
 zg 31 (.mov (zi 0))] [1,3,29,30,31] [1]
 (.block 0 q09m))
 (.seq (zr [zp 45 1 1,
 zk 46 45 1,
 zh 47 46,
 zg 48 (.mov (zi 0))] [3,46,47,48] []
 (.block 2 q09n))
 (.seq (zr [zm 62 3] [62] []
 (.cond t62
 (zr [zg 2 (.mov (zi 9))] [2] []
 .ret)
 .skip))
 (zr [zg 2 (.mov (zi 0))] [2] []
 .ret)))))),
 [.tmp 2],false⟩
def ir406:IFn:=
⟨(zr [zg 1 (.bx t0 22 true),
 zg 2 (.mov (zi 0))] [1] [1]
 (.seq (.reg true [zc 3 407 [(.c (.p (.fn 408)))],
 zp 4 1 21,
 zg 5 (.ldl 1 t4 1 false),
 zg 6 (.callv t3 [t5] false),
 zm 2 6] [2] [])
 .ret)),
 [.tmp 2],false⟩
def ir407:IFn:=
⟨(zr [zg 1 (.bx t0 1 false),
 zg 2 (.mov (.c (.p .nilf)))] [1] []
 (zr [zg 3 (.mkf (.func 448) [] [t1]),
 zm 2 3] [2] []
 .ret)),
 [.tmp 2],false⟩
def ir408:IFn:=
⟨(zr [zg 1 (.bx t0 3 true),
 zg 2 (.mov (zi 0))] [1] [1]
 (.seq (zr [zp 3 1 0,
 zk 4 3 1,
 zg 5 (.bin .lss t4 (zi 0)),
 zm 6 5,
 zf 7 6 (.off t1 0),
 zf 8 6 (.ld t7 1 false),
 zf 9 6 (.bin .geq t8 (zi 3)),
 zg 10 (.pick t6 zT t9),
 zm 11 10,
 zf 12 11 (.off t1 1),
 zf 13 11 (.ld t12 1 false),
 zf 14 11 (.bin .lss t13 (zi 1)),
 zg 15 (.pick t11 zT t14),
 zm 16 15,
 zf 17 16 (.off t1 1),
 zf 18 16 (.ld t17 1 false),
 zf 19 16 (.bin .gtr t18 (zi 1073741823)),
 zg 20 (.pick t16 zT t19),
 zm 21 20,
 zf 22 21 (.off t1 2),
 zf 23 21 (.ld t22 1 false),
 zf 24 21 (.bin .lss t23 (zi 0)),
 zg 25 (.pick t21 zT t24),
 zm 26 25,
 zf 27 26 (.off t1 2),
 zf 28 26 (.ld t27 1 false),
 zf 29 26 (.bin .gtr t28 (zi 3)),
 zg 30 (.pick t26 zT t29)] [30] []
 (.cond t30
 (zr [zg 2 (.mov (zi 10))] [2] []
 .ret)
 .skip))
 (zr [zg 2 (.mov (zi 0))] [2] []
 .ret))),
 [.tmp 2],false⟩
def ir409:IFn:=
⟨(zr [zg 1 (.bx t0 22 true),
 zg 2 (.mov (zi 0))] [1] [1]
 (.seq (.reg true [zp 5 1 19,
 zg 6 (.ldl 1 t5 1 false),
 zp 7 1 20,
 zg 8 (.ldl 1 t7 1 false),
 zh 9 8,
 zc 10 451 [t6,(zi 5),t9],
 zp 11 1 19,
 zg 12 (.ldl 1 t11 1 false),
 zp 13 1 21,
 zg 14 (.ldl 1 t13 1 false),
 zh 15 14,
 zc 16 451 [t12,(zi 6),t15],
 zm 3 10,
 zm 4 16] [3,4] [])
 (.seq (zr [zm 17 3,
 zg 18 (.bin .lss t17 (zi 0)),
 zm 19 18,
 zf 20 19 (.mov t4),
 zf 21 19 (.bin .lss t20 (zi 0)),
 zg 22 (.pick t19 zT t21)] [3,4,22] []
 (.cond t22
 (zr [zm 23 3,
 zm 24 4,
 zg 25 (.mnmx true t23 t24),
 zm 2 25] [2] []
 .ret)
 .skip))
 (zr [zm 26 3,
 zm 27 4,
 zg 28 (.mnmx false t26 t27),
 zm 2 28] [2] []
 .ret)))),
 [.tmp 2],false⟩
def ir410:IFn:=
⟨(zr [zg 1 (.bx t0 22 true),
 zg 2 (.mov (zi 0))] [1] [1]
 (zr [zl 4 1 22,
 zc 5 73 [t4],
 zg 3 (.al [zo,zo,zo,zo,zo,zo,zo,zo,zo,zo,zo,zo,zo,zo,zo,zo,zo,zo,.p (.bool false),.nils,.nils,.nils] false),
 zn (.st t3 t5 22)] [3] []
 (zr [zp 6 3 21,
 zk 7 6 1,
 zg 8 (.mkf (.func 452) [] [t3]),
 zc 9 449 [t7,t8],
 zm 2 9] [2] []
 .ret))),
 [.tmp 2],false⟩
def ir411:IFn:=
⟨(zr [zg 4 (.mov (zi 0))] [0,1] []
 (zr [zm 6 0,
 zm 7 1,
 zg 8 (.bin .rem t6 t7),
 zm 5 8] [1,5] []
 (.seq (zr [zm 9 5,
 zg 10 (.bin .lss t9 (zi 0))] [1,5,10] []
 (.cond t10
 (.reg false [zm 11 5,
 zm 12 1,
 zg 13 (.bin .add t11 t12),
 zm 5 13] [5] [])
 .skip))
 (zr [zm 14 5,
 zm 4 14] [4] []
 .ret)))),
 [.tmp 4],false⟩
def ir412:IFn:=
⟨(zr [zg 6 (.mov (zi 0))] [0,1,2,3] []
 (zr [zk 10 2 1,
 zm 11 0,
 zm 12 1,
 zg 13 (.callv t10 [t11,t12] false),
 zm 9 13,
 zx 14 9 0,
 zx 15 9 1,
 zm 7 14,
 zm 8 15] [3,7,8] []
 (zr [zk 16 3 1,
 zm 17 16,
 zt 18 17 (.mov t8),
 zg 19 (.pick t17 t18 zF),
 zn (.st t3 t19 1)] [7] []
 (zr [zm 20 7,
 zm 6 20] [6] []
 .ret)))),
 [.tmp 6],false⟩
def ir413:IFn:=
⟨(zr [zg 4 (.al [zo,.p (.bool false)] true)] [0,1,4] [4]
 (.seq (zr [zm 5 1,
 zg 6 (.bin .lss t5 (zi 0)),
 zm 7 6,
 zt 8 7 (.mov t0),
 zt 9 7 (.mov t1),
 zt 10 7 (.bin .add (zi 9223372036854775807) t9),
 zt 11 7 (.bin .gtr t8 t10),
 zg 12 (.pick t7 t11 zF),
 zm 13 12,
 zf 14 13 (.mov t1),
 zf 15 13 (.bin .gtr t14 (zi 0)),
 zf 16 13 (.mov t15),
 zt 17 16 (.mov t0),
 zt 18 16 (.mov t1),
 zt 19 16 (.bin .add (zi (-9223372036854775808)) t18),
 zt 20 16 (.bin .lss t17 t19),
 zf 21 13 (.pick t16 t20 zF),
 zg 22 (.pick t13 zT t21)] [0,1,4,22] [4]
 (.cond t22
 (zr [zg 23 (.bld [zo,.p (.bool false)] []),
 zn (.st t4 t23 2)] [4] [4]
 .ret)
 .skip))
 (zr [zm 24 0,
 zm 25 1,
 zg 26 (.bin .sub t24 t25),
 zg 27 (.bld [zo,.p (.bool false)] [(0,1,t26),(1,1,zT)]),
 zn (.st t4 t27 2)] [4] [4]
 .ret))),
 [.cell 4 2 true],false⟩
def ir414:IFn:=
⟨(zr [zg 2 (.mov zF)] [0] []
 (zr [zm 3 0,
 zm 4 0,
 zg 5 (.bin .neq t3 t4),
 zm 2 5] [2] []
 .ret)),
 [.tmp 2],false⟩
def ir415:IFn:=
⟨(zr [zg 2 (.mov zF)] [0] []
 (zr [zm 3 0,
 zm 4 0,
 zg 5 (.bin .neq t3 t4),
 zm 2 5] [2] []
 .ret)),
 [.tmp 2],false⟩
def ir434:IFn:=
⟨(zr [zg 4 (.mov zF)] [0,1,2] []
 (zr [zk 8 1 1,
 zm 9 0,
 zc 10 286 [t8,t9],
 zm 7 10,
 zx 11 7 0,
 zx 12 7 1,
 zg 5 (.al [zo,zo,zo,zo,zo,zo,zo] true),
 zn (.st t5 t11 7),
 zm 6 12] [2,5,6] [5]
 (zr [zm 13 6,
 zm 14 13,
 zt 15 14 (.off t5 2),
 zt 16 14 (.ld t15 1 false),
 zt 17 14 (.ld t2 1 false),
 zt 18 14 (.bin .eql t16 t17),
 zg 19 (.pick t14 t18 zF),
 zm 4 19] [4] []
 .ret))),
 [.tmp 4],false⟩
def q03m:IC:=
 (.loop [0,2,7,8] [] (.seq (zr [zm 12 8,
 zg 13 (.bin .geq t12 (zi 0)),
 zm 14 13,
 zt 15 14 (.mov t8),
 zt 16 14 (.mov t0),
 zt 17 14 (.call 82 [t16] false),
 zt 18 14 (.bin .lss t15 t17),
 zg 19 (.pick t14 t18 zF)] [0,2,7,8,19] []
 (.cond t19
 .skip
 (.exit 0)))
 (.seq (.block 1 (zr [zm 24 0,
 zm 25 8,
 zc 26 286 [t24,t25],
 zm 23 26,
 zx 27 23 0,
 zx 28 23 1,
 zg 9 (.al [zo,zo,zo,zo,zo,zo,zo] true),
 zn (.st t9 t27 7),
 zm 10 28] [0,2,7,8,9] [9]
 (zr [zp 29 9 0,
 zk 30 29 1] [0,2,7,8,30] []
 (.block 2 (zr [zg 32 (.bin .eql t30 (zi 1)),
 zm 31 32] [0,2,7,8,31] []
 (.cond t31
 (zr [zm 33 8,
 zm 7 33] [7] []
 (.exit 0))
 .skip))))))
 (.reg false [zm 20 8,
 zm 21 2,
 zg 22 (.bin .add t20 t21),
 zm 8 22] [0,2,7,8] []))))
def ir435:IFn:=
⟨(zr [zg 6 (.mov (zi 0))] [0,1,2] []
 (.scope (zr [zg 7 (.mov (zi (-1)))] [0,1,2,7] []
 (.seq (.label 0)
 (.seq (zr [zm 11 1,
 zm 8 11] [0,2,7,8] []
 (.block 0 q03m))
 (zr [zm 34 7,
 zm 6 34] [6] []
 .ret)))))),
 [.tmp 6],false⟩
def ir436:IFn:=
⟨(zr [zg 2 (.bx t0 22 true),
 zg 3 (.mov (zi 0))] [1,2] [2]
 (.seq (zr [zk 4 1 1,
 zl 5 2 22,
 zg 6 (.callv t4 [t5] false)] [6] []
 (.cond t6
 (zr [zg 3 (.mov (zi 0))] [3] []
 .ret)
 .skip))
 (zr [zg 3 (.mov (zi (-1)))] [3] []
 .ret))),
 [.tmp 3],false⟩
def ir437:IFn:=
⟨(zr [zg 2 (.bx t0 1 false),
 zg 3 (.bx t1 1 false),
 zg 4 (.mov (.c (.p .nilf)))] [2,3] []
 (zr [zg 5 (.mkf (.func 473) [] [t2,t3]),
 zm 4 5] [4] []
 .ret)),
 [.tmp 4],false⟩
def ir438:IFn:=
⟨(zr [zg 2 (.bx t0 1 false),
 zg 3 (.bx t1 1 false),
 zg 4 (.mov (.c (.p .nilf)))] [2,3] []
 (zr [zg 5 (.mkf (.func 474) [] [t2,t3]),
 zm 4 5] [4] []
 .ret)),
 [.tmp 4],false⟩
def ir439:IFn:=
⟨(zr [zg 3 (.mov (zi 0))] [0,1] []
 (zr [zm 4 0,
 zg 5 (.mkf (.func 441) [] [t1]),
 zc 6 440 [t4,t5],
 zm 3 6] [3] []
 .ret)),
 [.tmp 3],false⟩
def q0d6:IC:=
 (.loop [0,1,7,8] [] (zr [zg 9 (.bin .lss t8 t7)] [0,1,7,8,9] []
 (.seq (.cond t9
 .skip
 (.exit 0))
 (.seq (.block 1 (zr [zm 10 8,
 zm 5 10] [0,1,5,7,8] []
 (zr [zm 11 1,
 zm 12 0,
 zm 13 5,
 zg 14 (.ixs t12 t13 7),
 zl 15 14 7,
 zg 16 (.callv t11 [t15] false)] [0,1,5,7,8,16] []
 (.cond t16
 (zr [zm 17 5,
 zm 4 17] [4] []
 .ret)
 .skip))))
 (.reg false [zg 18 (.bin .add t8 (zi 1)),
 zm 8 18] [0,1,7,8] [])))))
def ir440:IFn:=
⟨(zr [zg 4 (.mov (zi 0))] [0,1] []
 (.seq (zr [zm 6 0,
 zh 7 6,
 zg 8 (.mov (zi 0))] [0,1,7,8] []
 (.block 0 q0d6))
 (zr [zg 4 (.mov (zi (-1)))] [4] []
 .ret))),
 [.tmp 4],false⟩
def ir441:IFn:=
⟨(zr [zg 2 (.bx t0 7 true),
 zg 3 (.mov zF)] [1,2] [2]
 (zr [zk 4 1 1,
 zl 5 2 7,
 zg 6 (.callv t4 [t5] false),
 zg 7 (.bin .neq t6 (zi 0)),
 zm 3 7] [3] []
 .ret)),
 [.tmp 3],false⟩
def ir442:IFn:=
⟨(zr [zg 0 (.mov (.c (.nils)))] [] []
 (zr [zg 1 (.mov (.c (.p (.fn 475))))] [1] []
 (zr [zc 2 443 [(zi 0)],
 zg 3 (.bld [.p .nilf,.p .nilf] [(0,1,(.c (.p (.fn 477)))),(1,1,t2)]),
 zc 4 443 [(zi 0)],
 zg 5 (.bld [.p .nilf,.p .nilf] [(0,1,(.c (.p (.fn 479)))),(1,1,t4)]),
 zm 6 1,
 zg 7 (.callv t6 [(.c (.p (.fn 481)))] false),
 zg 8 (.bld [.p .nilf,.p .nilf] [(0,1,t7),(1,1,(.c (.p (.fn 482))))]),
 zm 9 1,
 zg 10 (.callv t9 [(.c (.p (.fn 483)))] false),
 zc 11 443 [(zi 1048576)],
 zg 12 (.bld [.p .nilf,.p .nilf] [(0,1,t10),(1,1,t11)]),
 zm 13 1,
 zg 14 (.callv t13 [(.c (.p (.fn 484)))] false),
 zc 15 443 [(zi 511)],
 zg 16 (.bld [.p .nilf,.p .nilf] [(0,1,t14),(1,1,t15)]),
 zm 17 1,
 zg 18 (.callv t17 [(.c (.p (.fn 485)))] false),
 zc 19 443 [(zi 255)],
 zg 20 (.bld [.p .nilf,.p .nilf] [(0,1,t18),(1,1,t19)]),
 zc 21 443 [(zi 0)],
 zg 22 (.bld [.p .nilf,.p .nilf] [(0,1,(.c (.p (.fn 486)))),(1,1,t21)]),
 zg 23 (.bsl 2 7 [.p .nilf,.p .nilf] [(0,t3),(1,t5),(2,t8),(3,t12),(4,t16),(5,t20),(6,t22)]),
 zm 0 23] [0] []
 .ret))),
 [.tmp 0],false⟩
def ir443:IFn:=
⟨(zr [zg 1 (.bx t0 1 false),
 zg 2 (.mov (.c (.p .nilf)))] [1] []
 (zr [zg 3 (.mkf (.func 488) [] [t1]),
 zm 2 3] [2] []
 .ret)),
 [.tmp 2],false⟩
def ir444:IFn:=
⟨(zr [zg 2 (.mov zF)] [0] []
 (zr [zm 3 0,
 zc 4 489 [t3,(.c (.p (.fn 490)))],
 zj 5 4,
 zm 2 5] [2] []
 .ret)),
 [.tmp 2],false⟩
def ir445:IFn:=
⟨(zr [zg 3 (.mov (zi 0))] [0,1] []
 (zr [zm 4 0,
 zg 5 (.mkf (.func 447) [] [t1]),
 zc 6 446 [t4,t5],
 zm 3 6] [3] []
 .ret)),
 [.tmp 3],false⟩
def q0ug:IC:=
 (.loop [0,1,7,8] [] (zr [zg 9 (.bin .lss t8 t7)] [0,1,7,8,9] []
 (.seq (.cond t9
 .skip
 (.exit 0))
 (.seq (.block 1 (zr [zm 10 8,
 zm 5 10] [0,1,5,7,8] []
 (zr [zm 11 1,
 zm 12 0,
 zm 13 5,
 zg 14 (.ixs t12 t13 2),
 zl 15 14 2,
 zg 16 (.callv t11 [t15] false)] [0,1,5,7,8,16] []
 (.cond t16
 (zr [zm 17 5,
 zm 4 17] [4] []
 .ret)
 .skip))))
 (.reg false [zg 18 (.bin .add t8 (zi 1)),
 zm 8 18] [0,1,7,8] [])))))
def ir446:IFn:=
⟨(zr [zg 4 (.mov (zi 0))] [0,1] []
 (.seq (zr [zm 6 0,
 zh 7 6,
 zg 8 (.mov (zi 0))] [0,1,7,8] []
 (.block 0 q0ug))
 (zr [zg 4 (.mov (zi (-1)))] [4] []
 .ret))),
 [.tmp 4],false⟩
def ir447:IFn:=
⟨(zr [zg 2 (.bx t0 2 true),
 zg 3 (.mov zF)] [1,2] [2]
 (zr [zk 4 1 1,
 zl 5 2 2,
 zg 6 (.callv t4 [t5] false),
 zg 7 (.bin .neq t6 (zi 0)),
 zm 3 7] [3] []
 .ret)),
 [.tmp 3],false⟩
def ir448:IFn:=
⟨(zr [zg 3 (.mov (zi 0))] [0,1] []
 (zr [zm 4 0,
 zg 5 (.mkf (.func 450) [] [t1]),
 zc 6 449 [t4,t5],
 zm 3 6] [3] []
 .ret)),
 [.tmp 3],false⟩
def q0uh:IC:=
 (.loop [0,1,7,8] [] (zr [zg 9 (.bin .lss t8 t7)] [0,1,7,8,9] []
 (.seq (.cond t9
 .skip
 (.exit 0))
 (.seq (.block 1 (zr [zm 10 8,
 zm 5 10] [0,1,5,7,8] []
 (zr [zm 11 1,
 zm 12 0,
 zm 13 5,
 zg 14 (.ixs t12 t13 3),
 zl 15 14 3,
 zg 16 (.callv t11 [t15] false)] [0,1,5,7,8,16] []
 (.cond t16
 (zr [zm 17 5,
 zm 4 17] [4] []
 .ret)
 .skip))))
 (.reg false [zg 18 (.bin .add t8 (zi 1)),
 zm 8 18] [0,1,7,8] [])))))
def ir449:IFn:=
⟨(zr [zg 4 (.mov (zi 0))] [0,1] []
 (.seq (zr [zm 6 0,
 zh 7 6,
 zg 8 (.mov (zi 0))] [0,1,7,8] []
 (.block 0 q0uh))
 (zr [zg 4 (.mov (zi (-1)))] [4] []
 .ret))),
 [.tmp 4],false⟩
def ir450:IFn:=
⟨(zr [zg 2 (.bx t0 3 true),
 zg 3 (.mov zF)] [1,2] [2]
 (zr [zk 4 1 1,
 zl 5 2 3,
 zg 6 (.callv t4 [t5] false),
 zg 7 (.bin .neq t6 (zi 0)),
 zm 3 7] [3] []
 .ret)),
 [.tmp 3],false⟩
def q0d7:IC:=
 (.loop [0,1,2,7,8,14,15,16] [] (zr [zg 17 (.bin .lss t16 t15)] [0,1,2,7,8,14,15,16,17] []
 (.seq (.cond t17
 .skip
 (.exit 0))
 (.seq (.block 1 (zr [zm 18 16,
 zg 19 (.ixs t14 t16 7),
 zl 20 19 7,
 zg 10 (.al [zo,zo,zo,zo,zo,zo,zo] true),
 zm 9 18,
 zn (.st t10 t20 7)] [0,1,2,7,8,9,10,14,15,16] [10]
 (.seq (zr [zm 21 9,
 zm 22 7,
 zg 23 (.bin .eql t21 t22),
 zm 24 23,
 zf 25 24 (.off t10 0),
 zf 26 24 (.ld t25 1 false),
 zf 27 24 (.mov t1),
 zf 28 24 (.bin .eql t26 t27),
 zf 29 24 (.mov t28),
 zt 30 29 (.mov t8),
 zt 31 29 (.mov t2),
 zt 32 29 (.bin .eql t30 t31),
 zf 33 24 (.pick t29 t32 zF),
 zg 34 (.pick t24 zT t33)] [0,1,2,7,8,9,10,14,15,16,34] [10]
 (.cond t34
 (zr [zm 35 9,
 zm 6 35] [6] []
 .ret)
 .skip))
 (zr [zp 36 10 0,
 zk 37 36 1,
 zm 38 1,
 zg 39 (.bin .eql t37 t38)] [0,1,2,7,8,14,15,16,39] []
 (.cond t39
 (.reg false [zm 40 8,
 zg 41 (.bin .add t40 (zi 1)),
 zm 8 41] [0,1,2,7,8,14,15,16] [])
 .skip)))))
 (.reg false [zg 42 (.bin .add t16 (zi 1)),
 zm 16 42] [0,1,2,7,8,14,15,16] [])))))
def ir451:IFn:=
⟨(zr [zg 6 (.mov (zi 0))] [0,1,2] []
 (zr [zm 11 0,
 zm 12 1,
 zc 13 491 [t11,t12],
 zm 7 13] [0,1,2,7] []
 (zr [zg 8 (.mov (zi 0))] [0,1,2,7,8] []
 (.seq (zr [zm 14 0,
 zh 15 14,
 zg 16 (.mov (zi 0))] [0,1,2,7,8,14,15,16] []
 (.block 0 q0d7))
 (.seq (zr [zm 43 8,
 zm 44 2,
 zg 45 (.bin .lss t43 t44)] [0,45] []
 (.cond t45
 (zr [zm 46 0,
 zh 47 46,
 zm 6 47] [6] []
 .ret)
 .skip))
 (zr [zg 6 (.mov (zi (-1)))] [6] []
 .ret)))))),
 [.tmp 6],false⟩
def ir452:IFn:=
⟨(zr [zg 2 (.bx t0 3 true),
 zg 3 (.mov zF)] [1,2] [2]
 (zr [zp 4 2 1,
 zk 5 4 1,
 zp 6 1 0,
 zp 7 6 4,
 zk 8 7 1,
 zg 9 (.bin .gtr t5 t8),
 zm 3 9] [3] []
 .ret)),
 [.tmp 3],false⟩
def q0d8:IC:=
 (.loop [1,2,7,8,9] [] (zr [zg 10 (.bin .lss t9 t8)] [1,2,7,8,9,10] []
 (.seq (.cond t10
 .skip
 (.exit 0))
 (.seq (.block 1 (zr [zg 11 (.ixs t7 t9 1),
 zk 12 11 1,
 zm 6 12] [1,2,6,7,8,9] []
 (zr [zm 13 6,
 zk 14 1 1,
 zg 15 (.bin .lss t13 t14),
 zm 16 15,
 zf 17 16 (.mov t6),
 zf 18 16 (.ld t2 1 false),
 zf 19 16 (.bin .gtr t17 t18),
 zg 20 (.pick t16 zT t19)] [1,2,7,8,9,20] []
 (.cond t20
 (zr [zg 4 (.mov zF)] [4] []
 .ret)
 .skip))))
 (.reg false [zg 21 (.bin .add t9 (zi 1)),
 zm 9 21] [1,2,7,8,9] [])))))
def ir473:IFn:=
⟨(zr [zg 4 (.mov zF)] [0,1,2] []
 (.seq (zr [zm 7 0,
 zh 8 7,
 zg 9 (.mov (zi 0))] [1,2,7,8,9] []
 (.block 0 q0d8))
 (zr [zg 4 (.mov zT)] [4] []
 .ret))),
 [.tmp 4],false⟩
def q0ui:IC:=
 (.loop [1,2,7,8,9] [] (zr [zg 10 (.bin .lss t9 t8)] [1,2,7,8,9,10] []
 (.seq (.cond t10
 .skip
 (.exit 0))
 (.seq (.block 1 (zr [zg 11 (.ixs t7 t9 1),
 zk 12 11 1,
 zm 6 12] [1,2,6,7,8,9] []
 (zr [zm 13 6,
 zk 14 1 1,
 zg 15 (.bin .lss t13 t14),
 zm 16 15,
 zf 17 16 (.mov t6),
 zf 18 16 (.ld t2 1 false),
 zf 19 16 (.bin .gtr t17 t18),
 zg 20 (.pick t16 zT t19)] [1,2,7,8,9,20] []
 (.cond t20
 (zr [zg 4 (.mov zF)] [4] []
 .ret)
 .skip))))
 (.reg false [zg 21 (.bin .add t9 (zi 1)),
 zm 9 21] [1,2,7,8,9] [])))))
def ir474:IFn:=
⟨(zr [zg 4 (.mov zF)] [0,1,2] []
 (.seq (zr [zm 7 0,
 zh 8 7,
 zg 9 (.mov (zi 0))] [1,2,7,8,9] []
 (.block 0 q0ui))
 (zr [zg 4 (.mov zT)] [4] []
 .ret))),
 [.tmp 4],false⟩
def ir475:IFn:=
⟨(zr [zg 1 (.bx t0 1 false),
 zg 2 (.mov (.c (.p .nilf)))] [1] []
 (zr [zg 3 (.mkf (.func 476) [] [t1]),
 zm 2 3] [2] []
 .ret)),
 [.tmp 2],false⟩
def ir476:IFn:=
⟨(zr [zg 2 (.bx t0 7 true),
 zg 3 (.al [zo,zo,zo,zo,zo,zo,zo] true)] [1,2,3] [2,3]
 (zr [zk 4 1 1,
 zp 5 2 6,
 zk 6 5 1,
 zg 7 (.callv t4 [t6] false),
 zn (.st t3 t7 7)] [3] [3]
 .ret)),
 [.cell 3 7 true],false⟩
def ir477:IFn:=
⟨(zr [zg 1 (.bx t0 7 true),
 zg 2 (.al [zo,zo,zo,zo,zo,zo,zo] true)] [1,2] [1,2]
 (zr [zp 3 1 1,
 zk 4 3 1,
 zp 5 1 2,
 zk 6 5 1,
 zc 7 478 [t4,t6],
 zn (.st t2 t7 7)] [2] [2]
 .ret)),
 [.cell 2 7 true],false⟩
def ir478:IFn:=
⟨(zr [zg 4 (.al [zo,zo,zo,zo,zo,zo,zo] true)] [0,1,4] [4]
 (zr [zm 5 0,
 zm 6 1,
 zg 7 (.bld [zo,zo,zo,zo,zo,zo,zo] [(0,1,(zi 1)),(1,1,t5),(2,1,t6)]),
 zn (.st t4 t7 7)] [4] [4]
 .ret)),
 [.cell 4 7 true],false⟩
def ir479:IFn:=
⟨(zr [zg 1 (.bx t0 7 true),
 zg 2 (.al [zo,zo,zo,zo,zo,zo,zo] true)] [1,2] [1,2]
 (zr [zp 3 1 1,
 zk 4 3 1,
 zp 5 1 3,
 zk 6 5 1,
 zp 7 1 4,
 zk 8 7 1,
 zp 9 1 5,
 zk 10 9 1,
 zc 11 480 [t4,t6,t8,t10],
 zn (.st t2 t11 7)] [2] [2]
 .ret)),
 [.cell 2 7 true],false⟩
def ir480:IFn:=
⟨(zr [zg 8 (.al [zo,zo,zo,zo,zo,zo,zo] true)] [0,1,2,3,8] [8]
 (zr [zm 9 0,
 zm 10 1,
 zm 11 2,
 zm 12 3,
 zg 13 (.bld [zo,zo,zo,zo,zo,zo,zo] [(0,1,(zi 2)),(1,1,t9),(3,1,t10),(4,1,t11),(5,1,t12)]),
 zn (.st t8 t13 7)] [8] [8]
 .ret)),
 [.cell 8 7 true],false⟩
def ir481:IFn:=
⟨(zr [zg 2 (.al [zo,zo,zo,zo,zo,zo,zo] true)] [0,2] [2]
 (zr [zm 3 0,
 zg 4 (.bld [zo,zo,zo,zo,zo,zo,zo] [(0,1,(zi 3)),(6,1,t3)]),
 zn (.st t2 t4 7)] [2] [2]
 .ret)),
 [.cell 2 7 true],false⟩
def ir482:IFn:=
⟨(zr [zg 2 (.mov zF)] [0] []
 (zr [zm 3 0,
 zg 4 (.bin .eql t3 (zi (-10000))),
 zm 5 4,
 zf 6 5 (.call 443 [(zi 10000)] false),
 zf 7 5 (.mov t0),
 zf 8 5 (.callv t6 [t7] false),
 zg 9 (.pick t5 zT t8),
 zm 2 9] [2] []
 .ret)),
 [.tmp 2],false⟩
def ir483:IFn:=
⟨(zr [zg 2 (.al [zo,zo,zo,zo,zo,zo,zo] true)] [0,2] [2]
 (zr [zm 3 0,
 zg 4 (.bld [zo,zo,zo,zo,zo,zo,zo] [(0,1,(zi 4)),(6,1,t3)]),
 zn (.st t2 t4 7)] [2] [2]
 .ret)),
 [.cell 2 7 true],false⟩
def ir484:IFn:=
⟨(zr [zg 2 (.al [zo,zo,zo,zo,zo,zo,zo] true)] [0,2] [2]
 (zr [zm 3 0,
 zg 4 (.bld [zo,zo,zo,zo,zo,zo,zo] [(0,1,(zi 5)),(6,1,t3)]),
 zn (.st t2 t4 7)] [2] [2]
 .ret)),
 [.cell 2 7 true],false⟩
def ir485:IFn:=
⟨(zr [zg 2 (.al [zo,zo,zo,zo,zo,zo,zo] true)] [0,2] [2]
 (zr [zm 3 0,
 zg 4 (.bld [zo,zo,zo,zo,zo,zo,zo] [(0,1,(zi 6)),(6,1,t3)]),
 zn (.st t2 t4 7)] [2] [2]
 .ret)),
 [.cell 2 7 true],false⟩
def ir486:IFn:=
⟨(zr [zg 1 (.bx t0 7 true),
 zg 2 (.al [zo,zo,zo,zo,zo,zo,zo] true)] [2] [2]
 (zr [zc 3 487 [],
 zn (.st t2 t3 7)] [2] [2]
 .ret)),
 [.cell 2 7 true],false⟩
def ir487:IFn:=
⟨(zr [zg 0 (.al [zo,zo,zo,zo,zo,zo,zo] true)] [0] [0]
 (zr [zg 1 (.bld [zo,zo,zo,zo,zo,zo,zo] [(0,1,(zi 7))]),
 zn (.st t0 t1 7)] [0] [0]
 .ret)),
 [.cell 0 7 true],false⟩
def ir488:IFn:=
⟨(zr [zg 3 (.mov zF)] [0,1] []
 (zr [zm 4 0,
 zg 5 (.bin .geq t4 (zi 0)),
 zm 6 5,
 zt 7 6 (.mov t0),
 zt 8 6 (.ld t1 1 false),
 zt 9 6 (.bin .leq t7 t8),
 zg 10 (.pick t6 t9 zF),
 zm 3 10] [3] []
 .ret)),
 [.tmp 3],false⟩
def ir489:IFn:=
⟨(zr [zg 4 (.mov zF)] [0,1] []
 (zr [zm 5 0,
 zm 6 1,
 zc 7 509 [t5,t6],
 zg 8 (.bin .geq t7 (zi 0)),
 zm 4 8] [4] []
 .ret)),
 [.tmp 4],false⟩
def ir490:IFn:=
⟨(zr [zg 2 (.mov zF)] [0] []
 (zr [zm 3 0,
 zg 4 (.bin .lss t3 (zi 0)),
 zm 5 4,
 zf 6 5 (.mov t0),
 zf 7 5 (.bin .gtr t6 (zi 1073741823)),
 zg 8 (.pick t5 zT t7),
 zm 2 8] [2] []
 .ret)),
 [.tmp 2],false⟩
def ir491:IFn:=
⟨(zr [zg 3 (.bx t1 1 false),
 zg 4 (.mov (zi 0))] [0,3] []
 (zr [zg 5 (.al [zo] false),
 zn (.st t5 (zi 0) 1)] [0,3,5] []
 (zr [zm 6 0,
 zg 7 (.mkf (.func 510) [] [t3,t5]),
 zc 8 440 [t6,t7],
 zm 4 8] [4] []
 .ret))),
 [.tmp 4],false⟩
def q0uj:IC:=
 (.loop [0,1,7,8] [] (zr [zg 9 (.bin .lss t8 t7)] [0,1,7,8,9] []
 (.seq (.cond t9
 .skip
 (.exit 0))
 (.seq (.block 1 (zr [zm 10 8,
 zm 5 10] [0,1,5,7,8] []
 (zr [zm 11 1,
 zm 12 0,
 zm 13 5,
 zg 14 (.ixs t12 t13 1),
 zk 15 14 1,
 zg 16 (.callv t11 [t15] false)] [0,1,5,7,8,16] []
 (.cond t16
 (zr [zm 17 5,
 zm 4 17] [4] []
 .ret)
 .skip))))
 (.reg false [zg 18 (.bin .add t8 (zi 1)),
 zm 8 18] [0,1,7,8] [])))))
def ir509:IFn:=
⟨(zr [zg 4 (.mov (zi 0))] [0,1] []
 (.seq (zr [zm 6 0,
 zh 7 6,
 zg 8 (.mov (zi 0))] [0,1,7,8] []
 (.block 0 q0uj))
 (zr [zg 4 (.mov (zi (-1)))] [4] []
 .ret))),
 [.tmp 4],false⟩
def ir510:IFn:=
⟨(zr [zg 3 (.bx t0 7 true),
 zg 4 (.mov zF)] [1,2,3] [3]
 (.seq (zr [zp 5 3 0,
 zk 6 5 1,
 zk 7 1 1,
 zg 8 (.bin .neq t6 t7)] [2,3,8] [3]
 (.cond t8
 (zr [zg 4 (.mov zF)] [4] []
 .ret)
 .skip))
 (zr [zk 9 2 1,
 zg 10 (.bin .add t9 (zi 1)),
 zn (.st t2 t10 1)] [2,3] [3]
 (zr [zp 11 3 6,
 zk 12 11 1,
 zk 13 2 1,
 zg 14 (.bin .sub t13 (zi 1)),
 zg 15 (.bin .neq t12 t14),
 zm 4 15] [4] []
 .ret)))),
 [.tmp 4],false⟩
end Go.EnvOf
