/- The engine's instructions for the functions, part 1. -/
import Derived.Test.YtpibjnnbploadaaGreatIrT
import Derived.Test.YtpibjnnbploadaaGreatEngAll2
namespace Go.EnvOf
open Go Go.Eng
set_option maxRecDepth 100000
def q0ct:IC:=
 (.loop [4,5,6,14,15,16] [4] (zr [zg 17 (.bin .lss t16 t15)] [4,5,6,14,15,16,17] [4]
 (.seq (.cond t17
 .skip
 (.exit 0))
 (.seq (.block 1 (zr [zg 18 (.ixs t14 t16 1),
 zk 19 18 1,
 zm 8 19] [4,5,6,8,14,15,16] [4]
 (.reg false [zm 20 6,
 zm 21 8,
 zg 22 (.bld [zo,zo] [(1,1,t21)]),
 zg 23 (.callv t20 [t22] false)] [4,5,6,14,15,16] [4])))
 (.reg false [zg 24 (.bin .add t16 (zi 1)),
 zm 16 24] [4,5,6,14,15,16] [4])))))
def ir185:IFn:=
⟨(zr [zg 4 (.al [zo,zo] true)] [0,1,4] [4]
 (zr [zg 5 (.al [zo,zo] false)] [0,1,4,5] [4]
 (zr [zg 9 (.mkf (.func 175) [t5] []),
 zm 6 9] [0,1,4,5,6] [4]
 (.seq (zr [zm 10 0] [1,4,5,6,10] [4]
 (.cond t10
 (.reg false [zm 11 6,
 zg 12 (.bld [zo,zo] [(0,1,(zi 1))]),
 zg 13 (.callv t11 [t12] false)] [1,4,5,6] [4])
 .skip))
 (.seq (zr [zm 14 1,
 zh 15 14,
 zg 16 (.mov (zi 0))] [4,5,6,14,15,16] [4]
 (.block 0 q0ct))
 (zr [zc 25 177 [t5],
 zn (.st t4 t25 2)] [4] [4]
 .ret)))))),
 [.cell 4 2 true],false⟩
def q0cu:IC:=
 (.loop [1,7,8,9] [1] (zr [zg 10 (.bin .lss t9 t8)] [1,7,8,9,10] [1]
 (.seq (.cond t10
 .skip
 (.exit 0))
 (.seq (.block 1 (zr [zg 11 (.ixs t7 t9 2),
 zl 12 11 2,
 zg 5 (.al [zo,.p .nilf] true),
 zn (.st t5 t12 2)] [1,5,7,8,9] [1,5]
 (zr [zp 13 5 1,
 zk 14 13 1,
 zl 15 1 22,
 zg 16 (.callv t14 [t15] false),
 zm 6 16] [1,5,6,7,8,9] [1,5]
 (zr [zm 17 6,
 zg 18 (.bin .geq t17 (zi 0))] [1,5,6,7,8,9,18] [1,5]
 (.cond t18
 (zr [zp 19 5 0,
 zk 20 19 1,
 zm 21 6,
 zm 2 20,
 zm 3 21] [2,3] []
 .ret)
 .skip)))))
 (.reg false [zg 22 (.bin .add t9 (zi 1)),
 zm 9 22] [1,7,8,9] [1])))))
def ir188:IFn:=
⟨(zr [zg 1 (.bx t0 22 true),
 zg 2 (.mov (zi 0)),
 zg 3 (.mov (zi 0))] [1] [1]
 (.seq (zr [zc 7 329 [],
 zh 8 7,
 zg 9 (.mov (zi 0))] [1,7,8,9] [1]
 (.block 0 q0cu))
 (zr [zg 2 (.mov (zi 0)),
 zg 3 (.mov (zi 0))] [2,3] []
 .ret))),
 [.tmp 2,.tmp 3],false⟩
def ir189:IFn:=
⟨(zr [zg 2 (.mov (.c (.nils)))] [0] []
 (.seq (zr [zm 3 0,
 zg 4 (.eqn .sl false t3)] [0,4] []
 (.cond t4
 (zr [zg 2 (.mov (.c (.nils)))] [2] []
 .ret)
 .skip))
 (zr [zg 5 (.bsl 7 0 [zo,zo,zo,zo,zo,zo,zo] []),
 zm 6 0,
 zg 7 (.app t5 t6 7),
 zm 2 7] [2] []
 .ret))),
 [.tmp 2],true⟩
def ir190:IFn:=
⟨(zr [zg 2 (.mov (.c (.nils)))] [0] []
 (.seq (zr [zm 3 0,
 zg 4 (.eqn .sl false t3)] [0,4] []
 (.cond t4
 (zr [zg 2 (.mov (.c (.nils)))] [2] []
 .ret)
 .skip))
 (zr [zg 5 (.bsl 3 0 [zo,zo,zo] []),
 zm 6 0,
 zg 7 (.app t5 t6 3),
 zm 2 7] [2] []
 .ret))),
 [.tmp 2],true⟩
def ir191:IFn:=
⟨(zr [zg 2 (.mov (.c (.nils)))] [0] []
 (.seq (zr [zm 3 0,
 zg 4 (.eqn .sl false t3)] [0,4] []
 (.cond t4
 (zr [zg 2 (.mov (.c (.nils)))] [2] []
 .ret)
 .skip))
 (zr [zg 5 (.bsl 1 0 [zo] []),
 zm 6 0,
 zg 7 (.app t5 t6 1),
 zm 2 7] [2] []
 .ret))),
 [.tmp 2],true⟩
def ir192:IFn:=
⟨(zr [zg 2 (.mov (.c (.nils)))] [0] []
 (.seq (zr [zm 3 0,
 zg 4 (.eqn .sl false t3)] [0,4] []
 (.cond t4
 (zr [zg 2 (.mov (.c (.nils)))] [2] []
 .ret)
 .skip))
 (zr [zg 5 (.bsl 1 0 [zo] []),
 zm 6 0,
 zg 7 (.app t5 t6 1),
 zm 2 7] [2] []
 .ret))),
 [.tmp 2],true⟩
def q06o:IC:=
 (.loop [2,5,11,12] [2] (zr [zg 13 (.bin .lss t12 t11)] [2,5,11,12,13] [2]
 (.seq (.cond t13
 .skip
 (.exit 0))
 (.seq (.block 1 (zr [zm 14 12,
 zm 6 14] [2,5,6,11,12] [2]
 (zr [zm 15 5,
 zm 16 6,
 zg 17 (.ixs t15 t16 7),
 zm 7 17] [2,5,7,11,12] [2]
 (zr [zm 18 7,
 zg 19 (.nck t18),
 zp 20 19 0,
 zk 21 20 1] [2,5,7,11,12,21] [2]
 (.block 2 (zr [zg 23 (.bin .eql t21 (zi 1)),
 zm 22 23] [2,5,7,11,12,21,22] [2]
 (.cond t22
 (.reg true [zg 24 (.ldl 2 t2 1 true),
 zm 25 7,
 zg 26 (.nck t25),
 zp 27 26 1,
 zg 28 (.bsl 1 1 [.p .nilp] [(0,t27)]),
 zc 29 195 [t24,(.c (.p (.fn 197))),t28]] [2,5,11,12] [2])
 (zr [zg 31 (.bin .eql t21 (zi 2)),
 zm 30 31] [2,5,7,11,12,30] [2]
 (.cond t30
 (.seq (.reg true [zg 32 (.ldl 2 t2 1 true),
 zm 33 7,
 zg 34 (.nck t33),
 zp 35 34 1,
 zg 36 (.bsl 1 1 [.p .nilp] [(0,t35)]),
 zc 37 195 [t32,(.c (.p (.fn 330))),t36]] [2,5,7,11,12] [2])
 (.reg false [zm 38 7,
 zm 39 7,
 zm 40 7,
 zg 41 (.nck t38),
 zp 42 41 3,
 zn (.st t42 (zi 0) 1),
 zg 43 (.nck t39),
 zp 44 43 4,
 zn (.st t44 (zi 0) 1),
 zg 45 (.nck t40),
 zp 46 45 5,
 zn (.st t46 (zi 0) 1)] [2,5,11,12] [2]))
 .skip)))))))))
 (.reg false [zg 47 (.bin .add t12 (zi 1)),
 zm 12 47] [2,5,11,12] [2])))))
def ir193:IFn:=
⟨(zr [zg 2 (.bx t0 1 true),
 zg 4 (.mov (.c (.nils)))] [1,2] [2]
 (zr [zm 8 1,
 zc 9 189 [t8],
 zm 5 9] [2,5] [2]
 (.seq (zr [zm 10 5,
 zh 11 10,
 zg 12 (.mov (zi 0))] [2,5,11,12] [2]
 (.block 0 q06o))
 (zr [zm 48 5,
 zm 4 48] [4] []
 .ret)))),
 [.tmp 4],false⟩
def q06p:IC:=
 (.loop [2,5,6,12,13,14,34,35] [2] (zr [zg 36 (.bin .lss t35 t34)] [2,5,6,12,13,14,34,35,36] [2]
 (.seq (.cond t36
 .skip
 (.exit 2))
 (.seq (.block 3 (zr [zm 37 35,
 zm 8 37] [2,5,6,8,12,13,14,34,35] [2]
 (.reg true [zg 38 (.ldl 2 t2 1 true),
 zm 39 5,
 zm 40 6,
 zg 41 (.ixs t39 t40 2),
 zp 42 41 0,
 zk 43 42 1,
 zm 44 8,
 zg 45 (.ixs t43 t44 1),
 zg 46 (.bsl 1 1 [.p .nilp] [(0,t45)]),
 zc 47 195 [t38,(.c (.p (.fn 197))),t46]] [2,5,6,12,13,14,34,35] [2])))
 (.reg false [zg 48 (.bin .add t35 (zi 1)),
 zm 35 48] [2,5,6,12,13,14,34,35] [2])))))
def q0cv:IC:=
 (.loop [2,5,12,13,14] [2] (zr [zg 15 (.bin .lss t14 t13)] [2,5,12,13,14,15] [2]
 (.seq (.cond t15
 .skip
 (.exit 0))
 (.seq (.block 1 (zr [zm 16 14,
 zg 17 (.ixs t12 t14 2),
 zl 18 17 2,
 zg 7 (.al [.nils,.nils] true),
 zm 6 16,
 zn (.st t7 t18 2)] [2,5,6,7,12,13,14] [2,7]
 (.seq (.reg true [zm 19 5,
 zm 20 6,
 zp 21 7 0,
 zg 22 (.ldl 7 t21 1 false),
 zc 23 191 [t22],
 zp 24 7 1,
 zg 25 (.ldl 7 t24 1 false),
 zc 26 192 [t25],
 zg 27 (.bld [.nils,.nils] [(0,1,t23),(1,1,t26)]),
 zg 28 (.ixs t19 t20 2),
 zn (.st t28 t27 2)] [2,5,6,12,13,14] [2])
 (zr [zm 29 5,
 zm 30 6,
 zg 31 (.ixs t29 t30 2),
 zp 32 31 0,
 zk 33 32 1,
 zh 34 33,
 zg 35 (.mov (zi 0))] [2,5,6,12,13,14,34,35] [2]
 (.block 2 q06p)))))
 (.reg false [zg 49 (.bin .add t14 (zi 1)),
 zm 14 49] [2,5,12,13,14] [2])))))
def ir194:IFn:=
⟨(zr [zg 2 (.bx t0 1 true),
 zg 4 (.mov (.c (.nils)))] [1,2] [2]
 (zr [zm 9 1,
 zh 10 9,
 zg 11 (.mks 2 [.nils,.nils] t10),
 zm 5 11] [1,2,5] [2]
 (.seq (zr [zm 12 1,
 zh 13 12,
 zg 14 (.mov (zi 0))] [2,5,12,13,14] [2]
 (.block 0 q0cv))
 (zr [zm 50 5,
 zm 4 50] [4] []
 .ret)))),
 [.tmp 4],false⟩
def q06q:IC:=
 (.loop [1,3,8,9,10] [3] (zr [zg 11 (.bin .lss t10 t9)] [1,3,8,9,10,11] [3]
 (.seq (.cond t11
 .skip
 (.exit 0))
 (.seq (.block 1 (zr [zg 12 (.ixs t8 t10 1),
 zk 13 12 1,
 zm 7 13] [1,3,7,8,9,10] [3]
 (.reg true [zm 14 7,
 zm 15 1,
 zm 16 7,
 zg 17 (.nck t16),
 zk 18 17 1,
 zp 19 3 0,
 zg 20 (.ldl 3 t19 1 false),
 zg 21 (.callv t15 [t18,t20] false),
 zg 22 (.nck t14),
 zn (.st t22 t21 1)] [1,3,8,9,10] [3])))
 (.reg false [zg 23 (.bin .add t10 (zi 1)),
 zm 10 23] [1,3,8,9,10] [3])))))
def ir195:IFn:=
⟨(zr [zg 3 (.bx t0 1 true)] [1,2,3] [3]
 (zr [zm 8 2,
 zh 9 8,
 zg 10 (.mov (zi 0))] [1,3,8,9,10] [3]
 (.block 0 q06q))),
 [],false⟩
def ir196:IFn:=
⟨(zr [zg 4 (.mov (zi 0))] [0,1] []
 (zr [zm 5 0,
 zm 6 1,
 zc 7 331 [t5,t6,(.c (.p (.fn 332)))],
 zm 4 7] [4] []
 .ret)),
 [.tmp 4],false⟩
def ir197:IFn:=
⟨(zr [zg 4 (.mov (zi 0))] [0,1] []
 (zr [zm 5 0,
 zm 6 1,
 zc 7 331 [t5,t6,(.c (.p (.fn 333)))],
 zm 4 7] [4] []
 .ret)),
 [.tmp 4],false⟩
def ir198:IFn:=
⟨(zr [zg 1 (.bx t0 7 true),
 zg 2 (.al [zo,zo,zo,zo,zo,zo] true)] [1,2] [1,2]
 (.seq (zr [zp 3 1 0,
 zk 4 3 1] [1,2,4] [1,2]
 (.block 0 (zr [zg 6 (.bin .eql t4 (zi 1)),
 zm 5 6] [1,2,4,5] [1,2]
 (.cond t5
 (zr [zp 7 1 1,
 zk 8 7 1,
 zc 9 334 [t8],
 zn (.st t2 t9 6)] [2] [2]
 .ret)
 (zr [zg 11 (.bin .eql t4 (zi 2)),
 zm 10 11] [1,2,10] [1,2]
 (.cond t10
 (zr [zp 12 1 1,
 zk 13 12 1,
 zp 14 1 3,
 zk 15 14 1,
 zp 16 1 4,
 zk 17 16 1,
 zp 18 1 5,
 zk 19 18 1,
 zc 20 335 [t13,t15,t17,t19],
 zn (.st t2 t20 6)] [2] [2]
 .ret)
 .skip))))))
 (zr [zg 21 (.bld [zo,zo,zo,zo,zo,zo] []),
 zn (.st t2 t21 6)] [2] [2]
 .ret))),
 [.cell 2 6 true],false⟩
def q0jp:IC:=
 (.loop [1,3,5] [1] (zr [zg 6 (.bin .lss t5 (zi 4))] [1,3,5,6] [1]
 (.seq (.cond t6
 .skip
 (.exit 0))
 (.seq (.block 1 (zr [zm 7 5,
 zm 4 7] [1,3,4,5] [1]
 (zr [zm 8 3,
 zm 9 4,
 zp 10 1 1,
 zg 11 (.ixa t10 t9 1 4),
 zk 12 11 1,
 zg 13 (.callv t8 [t12] false),
 zj 14 13] [1,3,5,14] [1]
 (.cond t14
 (zr [zg 2 (.mov zF)] [2] []
 .ret)
 .skip))))
 (.reg false [zg 15 (.bin .add t5 (zi 1)),
 zm 5 15] [1,3,5] [1])))))
def ir199:IFn:=
⟨(zr [zg 1 (.bx t0 6 true),
 zg 2 (.mov zF)] [1] [1]
 (zr [zg 3 (.mov (.c (.p (.fn 336))))] [1,3] [1]
 (.seq (zr [zg 5 (.mov (zi 0))] [1,3,5] [1]
 (.block 0 q0jp))
 (zr [zm 16 3,
 zp 17 1 0,
 zk 18 17 1,
 zg 19 (.callv t16 [t18] false),
 zm 20 19,
 zt 21 20 (.mov t3),
 zt 22 20 (.off t1 5),
 zt 23 20 (.ld t22 1 false),
 zt 24 20 (.callv t21 [t23] false),
 zg 25 (.pick t20 t24 zF),
 zm 2 25] [2] []
 .ret)))),
 [.tmp 2],false⟩
def ir200:IFn:=
⟨(zr [zg 2 (.bx t0 6 true),
 zg 3 (.bx t1 6 true),
 zg 4 (.al [zo,zo,zo,zo,zo,zo] true),
 zg 5 (.mov zF)] [2,3,4] [2,3,4]
 (zr [zl 6 2 6,
 zl 7 3 6,
 zc 8 337 [t6,t7,(.c (.p (.fn 338)))],
 zx 9 8 0,
 zx 10 8 1,
 zn (.st t4 t9 6),
 zm 5 10] [4,5] [4]
 .ret)),
 [.cell 4 6 true,.tmp 5],false⟩
def ir201:IFn:=
⟨(zr [zg 4 (.al [zo,zo,zo] true),
 zg 5 (.mov zF)] [0,1,4] [4]
 (.seq (zr [zm 6 1,
 zg 7 (.bin .lss t6 (zi 0)),
 zm 8 7,
 zf 9 8 (.mov t1),
 zf 10 8 (.mov t0),
 zf 11 8 (.len t10),
 zf 12 8 (.bin .geq t9 t11),
 zg 13 (.pick t8 zT t12)] [0,1,4,13] [4]
 (.cond t13
 (zr [zg 14 (.bld [zo,zo,zo] []),
 zn (.st t4 t14 3),
 zg 5 (.mov zF)] [4,5] [4]
 .ret)
 .skip))
 (zr [zm 15 0,
 zm 16 1,
 zg 17 (.ixs t15 t16 3),
 zl 18 17 3,
 zn (.st t4 t18 3),
 zg 5 (.mov zT)] [4,5] [4]
 .ret))),
 [.cell 4 3 true,.tmp 5],false⟩
def ir202:IFn:=
⟨(zr [zg 4 (.mov (zi 0)),
 zg 5 (.mov zF)] [0,1] []
 (.seq (zr [zm 6 0,
 zg 7 (.eqn .ptr false t6)] [0,1,7] []
 (.cond t7
 (zr [zg 4 (.mov (zi 0)),
 zg 5 (.mov zF)] [4,5] []
 .ret)
 .skip))
 (zr [zm 8 1,
 zg 9 (.mnmx true t8 (zi 0)),
 zm 10 0,
 zg 11 (.nck t10),
 zp 12 11 0,
 zk 13 12 1,
 zh 14 13,
 zg 15 (.mnmx false t9 t14),
 zm 4 15,
 zg 5 (.mov zT)] [4,5] []
 .ret))),
 [.tmp 4,.tmp 5],false⟩
def q0cw:IC:=
 (.loop [1,3,4] [1,3] (.seq (zr [zm 24 4,
 zg 25 (.bin .lss t24 (zi 3))] [1,3,4,25] [1,3]
 (.cond t25
 .skip
 (.exit 0)))
 (.seq (.block 1 (zr [zm 28 4,
 zg 29 (.ixa t3 t28 1 3),
 zk 30 29 1,
 zg 31 (.bin .lss t30 (zi 1)),
 zm 32 31,
 zf 33 32 (.mov t4),
 zf 34 32 (.ixa t3 t33 1 3),
 zf 35 32 (.ld t34 1 false),
 zf 36 32 (.bin .gtr t35 (zi 1073741823)),
 zg 37 (.pick t32 zT t36)] [1,3,4,37] [1,3]
 (.cond t37
 (zr [zg 2 (.mov (zi 7))] [2] []
 .ret)
 .skip)))
 (.reg false [zm 26 4,
 zg 27 (.bin .add t26 (zi 1)),
 zm 4 27] [1,3,4] [1,3]))))
def q0cx:IC:=
 (.loop [1,5,6] [1,5] (.seq (zr [zm 53 6,
 zg 54 (.bin .lss t53 (zi 7))] [1,5,6,54] [1,5]
 (.cond t54
 .skip
 (.exit 2)))
 (.seq (.block 3 (zr [zm 57 6,
 zg 58 (.ixa t5 t57 1 7),
 zk 59 58 1,
 zg 60 (.bin .lss t59 (zi 0)),
 zm 61 60,
 zf 62 61 (.mov t6),
 zf 63 61 (.ixa t5 t62 1 7),
 zf 64 61 (.ld t63 1 false),
 zf 65 61 (.bin .gtr t64 (zi 1073741823)),
 zg 66 (.pick t61 zT t65)] [1,5,6,66] [1,5]
 (.cond t66
 (zr [zg 2 (.mov (zi 7))] [2] []
 .ret)
 .skip)))
 (.reg false [zm 55 6,
 zg 56 (.bin .add t55 (zi 1)),
 zm 6 56] [1,5,6] [1,5]))))
def q0cy:IC:=
 (.loop [1,7,8] [1,7] (.seq (zr [zm 82 8,
 zg 83 (.bin .lss t82 (zi 7))] [1,7,8,83] [1,7]
 (.cond t83
 .skip
 (.exit 4)))
 (.seq (.block 5 (zr [zm 86 8,
 zg 87 (.ixa t7 t86 1 7),
 zk 88 87 1,
 zg 89 (.bin .lss t88 (zi 0)),
 zm 90 89,
 zf 91 90 (.mov t8),
 zf 92 90 (.ixa t7 t91 1 7),
 zf 93 90 (.ld t92 1 false),
 zf 94 90 (.bin .gtr t93 (zi 1048576)),
 zg 95 (.pick t90 zT t94),
 zm 96 95,
 zf 97 96 (.mov t8),
 zf 98 96 (.bin .lss t97 (zi 2)),
 zf 99 96 (.mov t98),
 zt 100 99 (.mov t8),
 zt 101 99 (.ixa t7 t100 1 7),
 zt 102 99 (.ld t101 1 false),
 zt 103 99 (.bin .gtr t102 (zi 4)),
 zf 104 96 (.pick t99 t103 zF),
 zg 105 (.pick t96 zT t104)] [1,7,8,105] [1,7]
 (.cond t105
 (zr [zg 2 (.mov (zi 7))] [2] []
 .ret)
 .skip)))
 (.reg false [zm 84 8,
 zg 85 (.bin .add t84 (zi 1)),
 zm 8 85] [1,7,8] [1,7]))))
def ir203:IFn:=
⟨(zr [zg 1 (.bx t0 19 true),
 zg 2 (.mov (zi 0))] [1] [1]
 (.seq (zr [zp 9 1 0,
 zk 10 9 1,
 zg 11 (.bin .lss t10 (zi 1)),
 zm 12 11,
 zf 13 12 (.off t1 0),
 zf 14 12 (.ld t13 1 false),
 zf 15 12 (.bin .gtr t14 (zi 8)),
 zg 16 (.pick t12 zT t15)] [1,16] [1]
 (.cond t16
 (zr [zg 2 (.mov (zi 6))] [2] []
 .ret)
 .skip))
 (zr [zp 17 1 1,
 zk 18 17 1,
 zp 19 1 3,
 zk 20 19 1,
 zp 21 1 4,
 zk 22 21 1,
 zg 23 (.bld [zo,zo,zo] [(0,1,t18),(1,1,t20),(2,1,t22)]),
 zg 3 (.al [zo,zo,zo] true),
 zn (.st t3 t23 3)] [1,3] [1,3]
 (.seq (zr [zg 4 (.mov (zi 0))] [1,3,4] [1,3]
 (.block 0 q0cw))
 (zr [zp 38 1 2,
 zk 39 38 1,
 zp 40 1 6,
 zk 41 40 1,
 zp 42 1 7,
 zk 43 42 1,
 zp 44 1 8,
 zk 45 44 1,
 zp 46 1 9,
 zk 47 46 1,
 zp 48 1 10,
 zk 49 48 1,
 zp 50 1 5,
 zk 51 50 1,
 zg 52 (.bld [zo,zo,zo,zo,zo,zo,zo] [(0,1,t39),(1,1,t41),(2,1,t43),(3,1,t45),(4,1,t47),(5,1,t49),(6,1,t51)]),
 zg 5 (.al [zo,zo,zo,zo,zo,zo,zo] true),
 zn (.st t5 t52 7)] [1,5] [1,5]
 (.seq (zr [zg 6 (.mov (zi 0))] [1,5,6] [1,5]
 (.block 2 q0cx))
 (zr [zp 67 1 11,
 zk 68 67 1,
 zp 69 1 12,
 zk 70 69 1,
 zp 71 1 13,
 zk 72 71 1,
 zp 73 1 14,
 zk 74 73 1,
 zp 75 1 15,
 zk 76 75 1,
 zp 77 1 16,
 zk 78 77 1,
 zp 79 1 17,
 zk 80 79 1,
 zg 81 (.bld [zo,zo,zo,zo,zo,zo,zo] [(0,1,t68),(1,1,t70),(2,1,t72),(3,1,t74),(4,1,t76),(5,1,t78),(6,1,t80)]),
 zg 7 (.al [zo,zo,zo,zo,zo,zo,zo] true),
 zn (.st t7 t81 7)] [1,7] [1,7]
 (.seq (zr [zg 8 (.mov (zi 0))] [1,7,8] [1,7]
 (.block 4 q0cy))
 (.seq (zr [zp 106 1 4,
 zk 107 106 1,
 zp 108 1 3,
 zk 109 108 1,
 zg 110 (.bin .gtr t107 t109),
 zm 111 110,
 zf 112 111 (.off t1 5),
 zf 113 111 (.ld t112 1 false),
 zf 114 111 (.off t1 4),
 zf 115 111 (.ld t114 1 false),
 zf 116 111 (.bin .gtr t113 t115),
 zg 117 (.pick t111 zT t116),
 zm 118 117,
 zf 119 118 (.off t1 5),
 zf 120 118 (.ld t119 1 false),
 zf 121 118 (.bin .gtr t120 (zi 536870912)),
 zg 122 (.pick t118 zT t121),
 zm 123 122,
 zf 124 123 (.off t1 6),
 zf 125 123 (.ld t124 1 false),
 zf 126 123 (.bin .gtr t125 (zi 536870912)),
 zg 127 (.pick t123 zT t126),
 zm 128 127,
 zf 129 128 (.off t1 7),
 zf 130 128 (.ld t129 1 false),
 zf 131 128 (.bin .gtr t130 (zi 536870912)),
 zg 132 (.pick t128 zT t131)] [132] []
 (.cond t132
 (zr [zg 2 (.mov (zi 7))] [2] []
 .ret)
 .skip))
 (zr [zg 2 (.mov (zi 0))] [2] []
 .ret)))))))))),
 [.tmp 2],false⟩
def ir204:IFn:=
⟨(zr [zg 1 (.bx t0 7 true),
 zg 2 (.mov zF)] [1] [1]
 (zr [zp 4 1 0,
 zk 5 4 1,
 zg 6 (.bld [zo,zo,zo,zo,zo,zo,zo] [(0,1,t5)]),
 zg 3 (.al [zo,zo,zo,zo,zo,zo,zo] true),
 zn (.st t3 t6 7)] [1,3] [1,3]
 (.seq (zr [zp 7 1 0,
 zk 8 7 1] [1,3,8] [1,3]
 (.block 0 (zr [zg 10 (.bin .eql t8 (zi 1)),
 zm 9 10] [1,3,8,9] [1,3]
 (.cond t9
 (zr [zp 11 1 1,
 zk 12 11 1,
 zp 13 3 1,
 zn (.st t13 t12 1)] [1,3] [1,3]
 (.reg false [zp 14 1 2,
 zk 15 14 1,
 zp 16 3 2,
 zn (.st t16 t15 1)] [1,3] [1,3]))
 (zr [zg 18 (.bin .eql t8 (zi 2)),
 zm 17 18] [1,3,8,17] [1,3]
 (.cond t17
 (zr [zp 19 1 1,
 zk 20 19 1,
 zp 21 3 1,
 zn (.st t21 t20 1)] [1,3] [1,3]
 (zr [zp 22 1 3,
 zk 23 22 1,
 zp 24 3 3,
 zn (.st t24 t23 1)] [1,3] [1,3]
 (zr [zp 25 1 4,
 zk 26 25 1,
 zp 27 3 4,
 zn (.st t27 t26 1)] [1,3] [1,3]
 (.reg false [zp 28 1 5,
 zk 29 28 1,
 zp 30 3 5,
 zn (.st t30 t29 1)] [1,3] [1,3]))))
 (zr [zg 32 (.bin .eql t8 (zi 3)),
 zm 31 32] [1,3,8,31] [1,3]
 (.cond t31
 (zr [zp 33 1 6,
 zk 34 33 1,
 zp 35 3 6,
 zn (.st t35 t34 1)] [1,3] [1,3]
 (zr [zp 36 1 6,
 zk 37 36 1,
 zg 38 (.bin .neq t37 (zi (-10000))),
 zm 39 38,
 zt 40 39 (.off t1 6),
 zt 41 39 (.ld t40 1 false),
 zt 42 39 (.bin .lss t41 (zi 0)),
 zt 43 39 (.mov t42),
 zf 44 43 (.off t1 6),
 zf 45 43 (.ld t44 1 false),
 zf 46 43 (.bin .gtr t45 (zi 10000)),
 zt 47 39 (.pick t43 zT t46),
 zg 48 (.pick t39 t47 zF)] [1,3,48] [1,3]
 (.cond t48
 (zr [zg 2 (.mov zF)] [2] []
 .ret)
 .skip)))
 (zr [zg 50 (.bin .eql t8 (zi 4)),
 zm 49 50] [1,3,8,49] [1,3]
 (.cond t49
 (zr [zp 51 1 6,
 zk 52 51 1,
 zp 53 3 6,
 zn (.st t53 t52 1)] [1,3] [1,3]
 (zr [zp 54 1 6,
 zk 55 54 1,
 zg 56 (.bin .lss t55 (zi 0)),
 zm 57 56,
 zf 58 57 (.off t1 6),
 zf 59 57 (.ld t58 1 false),
 zf 60 57 (.bin .gtr t59 (zi 1048576)),
 zg 61 (.pick t57 zT t60)] [1,3,61] [1,3]
 (.cond t61
 (zr [zg 2 (.mov zF)] [2] []
 .ret)
 .skip)))
 (zr [zg 63 (.bin .eql t8 (zi 5)),
 zm 62 63] [1,3,8,62] [1,3]
 (.cond t62
 (zr [zp 64 1 6,
 zk 65 64 1,
 zp 66 3 6,
 zn (.st t66 t65 1)] [1,3] [1,3]
 (zr [zp 67 1 6,
 zk 68 67 1,
 zg 69 (.bin .lss t68 (zi 0)),
 zm 70 69,
 zf 71 70 (.off t1 6),
 zf 72 70 (.ld t71 1 false),
 zf 73 70 (.bin .gtr t72 (zi 511)),
 zg 74 (.pick t70 zT t73)] [1,3,74] [1,3]
 (.cond t74
 (zr [zg 2 (.mov zF)] [2] []
 .ret)
 .skip)))
 (zr [zg 76 (.bin .eql t8 (zi 6)),
 zm 75 76] [1,3,8,75] [1,3]
 (.cond t75
 (zr [zp 77 1 6,
 zk 78 77 1,
 zp 79 3 6,
 zn (.st t79 t78 1)] [1,3] [1,3]
 (zr [zp 80 1 6,
 zk 81 80 1,
 zg 82 (.bin .lss t81 (zi 0)),
 zm 83 82,
 zf 84 83 (.off t1 6),
 zf 85 83 (.ld t84 1 false),
 zf 86 83 (.bin .gtr t85 (zi 255)),
 zg 87 (.pick t83 zT t86)] [1,3,87] [1,3]
 (.cond t87
 (zr [zg 2 (.mov zF)] [2] []
 .ret)
 .skip)))
 (zr [zg 89 (.bin .eql t8 (zi 7)),
 zm 88 89] [1,3,88] [1,3]
 (.cond t88
 .skip
 (zr [zg 2 (.mov zF)] [2] []
 .ret)))))))))))))))))
 (zr [zl 90 1 7,
 zl 91 3 7,
 zg 92 (.eqa false [true,true,true,true,true,true,true] t90 t91),
 zm 93 92,
 zt 94 93 (.off t1 1),
 zt 95 93 (.ld t94 1 false),
 zt 96 93 (.call 339 [t95] false),
 zg 97 (.pick t93 t96 zF),
 zm 98 97,
 zt 99 98 (.off t1 3),
 zt 100 98 (.ld t99 1 false),
 zt 101 98 (.call 339 [t100] false),
 zg 102 (.pick t98 t101 zF),
 zm 103 102,
 zt 104 103 (.off t1 5),
 zt 105 103 (.ld t104 1 false),
 zt 106 103 (.call 339 [t105] false),
 zg 107 (.pick t103 t106 zF),
 zm 108 107,
 zt 109 108 (.off t1 2),
 zt 110 108 (.ld t109 1 false),
 zt 111 108 (.bin .geq t110 (zi 0)),
 zg 112 (.pick t108 t111 zF),
 zm 113 112,
 zt 114 113 (.off t1 2),
 zt 115 113 (.ld t114 1 false),
 zt 116 113 (.bin .leq t115 (zi 3)),
 zg 117 (.pick t113 t116 zF),
 zm 118 117,
 zt 119 118 (.off t1 4),
 zt 120 118 (.ld t119 1 false),
 zt 121 118 (.bin .geq t120 (zi 0)),
 zg 122 (.pick t118 t121 zF),
 zm 123 122,
 zt 124 123 (.off t1 4),
 zt 125 123 (.ld t124 1 false),
 zt 126 123 (.bin .leq t125 (zi 3)),
 zg 127 (.pick t123 t126 zF),
 zm 128 127,
 zt 129 128 (.off t1 0),
 zt 130 128 (.ld t129 1 false),
 zt 131 128 (.bin .neq t130 (zi 2)),
 zt 132 128 (.mov t131),
 zf 133 132 (.off t1 5),
 zf 134 132 (.ld t133 1 false),
 zf 135 132 (.off t1 1),
 zf 136 132 (.ld t135 1 false),
 zf 137 132 (.bin .leq t134 t136),
 zt 138 128 (.pick t132 zT t137),
 zg 139 (.pick t128 t138 zF),
 zm 2 139] [2] []
 .ret)))),
 [.tmp 2],false⟩
def q09k:IC:=
 (.loop [1,3] [1] (.seq (zr [zm 25 3,
 zp 26 1 0,
 zk 27 26 1,
 zh 28 27,
 zg 29 (.bin .lss t25 t28)] [1,3,29] [1]
 (.cond t29
 .skip
 (.exit 0)))
 (.seq (.block 1 (zr [zp 32 1 0,
 zk 33 32 1,
 zm 34 3,
 zg 35 (.ixs t33 t34 1),
 zk 36 35 1,
 zg 37 (.bin .lss t36 (zi 1)),
 zm 38 37,
 zf 39 38 (.off t1 0),
 zf 40 38 (.ld t39 1 false),
 zf 41 38 (.mov t3),
 zf 42 38 (.ixs t40 t41 1),
 zf 43 38 (.ld t42 1 false),
 zf 44 38 (.bin .gtr t43 (zi 1073741823)),
 zg 45 (.pick t38 zT t44)] [1,3,45] [1]
 (.cond t45
 (zr [zg 2 (.mov zF)] [2] []
 .ret)
 .skip)))
 (.reg false [zm 30 3,
 zg 31 (.bin .add t30 (zi 1)),
 zm 3 31] [1,3] [1]))))
def q09l:IC:=
 (.loop [1,4] [1] (.seq (zr [zm 46 4,
 zp 47 1 1,
 zk 48 47 1,
 zh 49 48,
 zg 50 (.bin .lss t46 t49)] [1,4,50] [1]
 (.cond t50
 .skip
 (.exit 2)))
 (.seq (.block 3 (zr [zp 53 1 1,
 zk 54 53 1,
 zm 55 4,
 zg 56 (.ixs t54 t55 1),
 zk 57 56 1,
 zg 58 (.bin .lss t57 (zi 0)),
 zm 59 58,
 zf 60 59 (.off t1 1),
 zf 61 59 (.ld t60 1 false),
 zf 62 59 (.mov t4),
 zf 63 59 (.ixs t61 t62 1),
 zf 64 59 (.ld t63 1 false),
 zf 65 59 (.bin .gtr t64 (zi 10000)),
 zg 66 (.pick t59 zT t65)] [1,4,66] [1]
 (.cond t66
 (zr [zg 2 (.mov zF)] [2] []
 .ret)
 .skip)))
 (.reg false [zm 51 4,
 zg 52 (.bin .add t51 (zi 1)),
 zm 4 52] [1,4] [1]))))
def ir205:IFn:=
⟨(zr [zg 1 (.bx t0 2 true),
 zg 2 (.mov zF)] [1] [1]
 (.seq (zr [zp 5 1 0,
 zk 6 5 1,
 zh 7 6,
 zg 8 (.bin .lss t7 (zi 1)),
 zm 9 8,
 zf 10 9 (.off t1 0),
 zf 11 9 (.ld t10 1 false),
 zf 12 9 (.len t11),
 zf 13 9 (.bin .gtr t12 (zi 64)),
 zg 14 (.pick t9 zT t13),
 zm 15 14,
 zf 16 15 (.off t1 1),
 zf 17 15 (.ld t16 1 false),
 zf 18 15 (.len t17),
 zf 19 15 (.off t1 0),
 zf 20 15 (.ld t19 1 false),
 zf 21 15 (.len t20),
 zf 22 15 (.bin .sub t21 (zi 1)),
 zf 23 15 (.bin .neq t18 t22),
 zg 24 (.pick t15 zT t23)] [1,24] [1]
 (.cond t24
 (zr [zg 2 (.mov zF)] [2] []
 .ret)
 .skip))
 (.seq (zr [zg 3 (.mov (zi 0))] [1,3] [1]
 (.block 0 q09k))
 (.seq (zr [zg 4 (.mov (zi 0))] [1,4] [1]
 (.block 2 q09l))
 (zr [zg 2 (.mov zT)] [2] []
 .ret))))),
 [.tmp 2],false⟩
def ir206:IFn:=
⟨(zr [zg 1 (.bx t0 3 true),
 zg 2 (.mov zF)] [1] [1]
 (zr [zp 3 1 0,
 zk 4 3 1,
 zg 5 (.bin .geq t4 (zi 0)),
 zm 6 5,
 zt 7 6 (.off t1 0),
 zt 8 6 (.ld t7 1 false),
 zt 9 6 (.bin .leq t8 (zi 2)),
 zg 10 (.pick t6 t9 zF),
 zm 11 10,
 zt 12 11 (.off t1 1),
 zt 13 11 (.ld t12 1 false),
 zt 14 11 (.bin .geq t13 (zi 1)),
 zg 15 (.pick t11 t14 zF),
 zm 16 15,
 zt 17 16 (.off t1 1),
 zt 18 16 (.ld t17 1 false),
 zt 19 16 (.bin .leq t18 (zi 1073741823)),
 zg 20 (.pick t16 t19 zF),
 zm 21 20,
 zt 22 21 (.off t1 2),
 zt 23 21 (.ld t22 1 false),
 zt 24 21 (.bin .geq t23 (zi 0)),
 zg 25 (.pick t21 t24 zF),
 zm 26 25,
 zt 27 26 (.off t1 2),
 zt 28 26 (.ld t27 1 false),
 zt 29 26 (.bin .leq t28 (zi 3)),
 zg 30 (.pick t26 t29 zF),
 zm 2 30] [2] []
 .ret)),
 [.tmp 2],false⟩
def q0cz:IC:=
 (.loop [0,1,2,7,8] [] (.seq (zr [zm 9 8,
 zm 10 0,
 zh 11 10,
 zg 12 (.bin .lss t9 t11)] [0,1,2,7,8,12] []
 (.cond t12
 .skip
 (.exit 0)))
 (.seq (.block 1 (zr [zm 15 0,
 zm 16 8,
 zg 17 (.ixs t15 t16 7),
 zp 18 17 0,
 zk 19 18 1,
 zm 20 1,
 zg 21 (.bin .eql t19 t20)] [0,1,2,7,8,21] []
 (.cond t21
 (.seq (zr [zm 22 0,
 zm 23 8,
 zg 24 (.ixs t22 t23 7),
 zp 25 24 6,
 zk 26 25 1,
 zm 27 7,
 zg 28 (.bin .neq t26 t27),
 zm 29 28,
 zf 30 29 (.mov t7),
 zf 31 29 (.mov t2),
 zf 32 29 (.bin .geq t30 t31),
 zg 33 (.pick t29 zT t32)] [0,1,2,7,8,33] []
 (.cond t33
 (zr [zm 34 8,
 zm 6 34] [6] []
 .ret)
 .skip))
 (.reg false [zm 35 7,
 zg 36 (.bin .add t35 (zi 1)),
 zm 7 36] [0,1,2,7,8] []))
 .skip)))
 (.reg false [zm 13 8,
 zg 14 (.bin .add t13 (zi 1)),
 zm 8 14] [0,1,2,7,8] []))))
def ir207:IFn:=
⟨(zr [zg 6 (.mov (zi 0))] [0,1,2] []
 (zr [zg 7 (.mov (zi 0))] [0,1,2,7] []
 (.seq (zr [zg 8 (.mov (zi 0))] [0,1,2,7,8] []
 (.block 0 q0cz))
 (.seq (zr [zm 37 7,
 zm 38 2,
 zg 39 (.bin .lss t37 t38)] [0,39] []
 (.cond t39
 (zr [zm 40 0,
 zh 41 40,
 zm 6 41] [6] []
 .ret)
 .skip))
 (zr [zg 6 (.mov (zi (-1)))] [6] []
 .ret))))),
 [.tmp 6],false⟩
def ir208:IFn:=
⟨(zr [zg 4 (.mov (zi 0))] [0,1] []
 (zr [zm 5 0,
 zm 6 1,
 zc 7 341 [t5,t6],
 zm 8 0,
 zc 9 340 [t7,t8],
 zm 4 9] [4] []
 .ret)),
 [.tmp 4],false⟩
def ir209:IFn:=
⟨(zr [zg 4 (.mov (zi 0))] [0,1] []
 (zr [zm 5 0,
 zm 6 1,
 zc 7 342 [t5,t6],
 zm 8 0,
 zc 9 340 [t7,t8],
 zm 4 9] [4] []
 .ret)),
 [.tmp 4],false⟩
def ir210:IFn:=
⟨(zr [zg 2 (.bx t0 7 true),
 zg 4 (.al [zo,zo,zo,zo,zo,zo,zo] true)] [1,2,4] [2,4]
 (.seq (zr [zp 5 2 0,
 zk 6 5 1,
 zg 7 (.bin .eql t6 (zi 1))] [1,2,4,7] [2,4]
 (.cond t7
 (.reg false [zp 8 2 1,
 zk 9 8 1,
 zm 10 1,
 zc 11 209 [t9,t10],
 zp 12 2 1,
 zn (.st t12 t11 1)] [1,2,4] [2,4])
 .skip))
 (.seq (zr [zp 13 2 0,
 zk 14 13 1,
 zg 15 (.bin .eql t14 (zi 2))] [1,2,4,15] [2,4]
 (.cond t15
 (zr [zp 16 2 1,
 zk 17 16 1,
 zm 18 1,
 zc 19 343 [t17,t18],
 zp 20 2 1,
 zn (.st t20 t19 1)] [2,4] [2,4]
 (zr [zp 21 2 3,
 zn (.st t21 (zi 0) 1)] [2,4] [2,4]
 (zr [zp 22 2 4,
 zn (.st t22 (zi 0) 1)] [2,4] [2,4]
 (.reg false [zp 23 2 5,
 zn (.st t23 (zi 0) 1)] [2,4] [2,4]))))
 .skip))
 (zr [zl 24 2 7,
 zn (.st t4 t24 7)] [4] [4]
 .ret)))),
 [.cell 4 7 true],false⟩
def ir211:IFn:=
⟨(zr [zg 2 (.mov (.c (.p .nilp)))] [0] []
 (.seq (zr [zm 3 0,
 zg 4 (.eqn .ptr false t3)] [0,4] []
 (.cond t4
 (zr [zg 2 (.mov (.c (.p .nilp)))] [2] []
 .ret)
 .skip))
 (zr [zm 5 0,
 zg 6 (.nck t5),
 zp 7 6 0,
 zk 8 7 1,
 zm 2 8] [2] []
 .ret))),
 [.tmp 2],false⟩
def ir212:IFn:=
⟨(zr [zg 2 (.mov (.c (.p .nilp)))] [0] []
 (.seq (zr [zm 3 0,
 zg 4 (.eqn .ptr false t3)] [0,4] []
 (.cond t4
 (zr [zg 2 (.mov (.c (.p .nilp)))] [2] []
 .ret)
 .skip))
 (zr [zm 5 0,
 zg 6 (.nck t5),
 zp 7 6 0,
 zk 8 7 1,
 zm 2 8] [2] []
 .ret))),
 [.tmp 2],false⟩
def ir213:IFn:=
⟨(zr [zg 4 (.mov (zi 0))] [0,1] []
 (.seq (zr [zm 5 1,
 zm 6 0,
 zc 7 82 [t6],
 zg 8 (.bin .geq t5 t7)] [0,1,8] []
 (.cond t8
 (zr [zg 4 (.mov (zi (-1)))] [4] []
 .ret)
 .skip))
 (zr [zm 9 0,
 zm 10 1,
 zg 11 (.mnmx true t10 (zi 0)),
 zg 12 (.bin .add t11 (zi 1)),
 zm 13 0,
 zg 14 (.mkf (.func 344) [t13] []),
 zc 15 217 [t9,t12,t14],
 zm 4 15] [4] []
 .ret))),
 [.tmp 4],false⟩
def ir214:IFn:=
⟨(zr [zg 4 (.mov (zi 0))] [0,1] []
 (.seq (zr [zm 5 1,
 zm 6 0,
 zc 7 82 [t6],
 zg 8 (.bin .geq t5 t7)] [0,1,8] []
 (.cond t8
 (zr [zg 4 (.mov (zi (-1)))] [4] []
 .ret)
 .skip))
 (zr [zm 9 0,
 zm 10 1,
 zg 11 (.mnmx true t10 (zi 0)),
 zg 12 (.bin .add t11 (zi 1)),
 zm 13 0,
 zg 14 (.mkf (.func 316) [t13] []),
 zc 15 217 [t9,t12,t14],
 zm 4 15] [4] []
 .ret))),
 [.tmp 4],false⟩
def ir215:IFn:=
⟨(zr [zg 4 (.mov (zi 0))] [0,1] []
 (zr [zg 5 (.mov (.c (.p (.fn 345))))] [0,1,5] []
 (zr [zm 6 5,
 zm 7 5,
 zm 8 0,
 zg 9 (.callv t7 [t8] false),
 zm 10 5,
 zm 11 1,
 zg 12 (.callv t10 [t11] false),
 zg 13 (.bin .add t9 t12),
 zg 14 (.callv t6 [t13] false),
 zm 4 14] [4] []
 .ret))),
 [.tmp 4],false⟩
def ir216:IFn:=
⟨(zr [zg 4 (.mov (zi 0))] [0,1] []
 (zr [zg 5 (.mov (.c (.p (.fn 346))))] [0,1,5] []
 (zr [zm 6 5,
 zm 7 5,
 zm 8 0,
 zg 9 (.callv t7 [t8] false),
 zm 10 5,
 zm 11 1,
 zg 12 (.callv t10 [t11] false),
 zg 13 (.bin .add t9 t12),
 zg 14 (.callv t6 [t13] false),
 zm 4 14] [4] []
 .ret))),
 [.tmp 4],false⟩
def q06r:IC:=
 (.loop [0,2,7] [] (.seq (zr [zm 9 7,
 zm 10 0,
 zc 11 82 [t10],
 zg 12 (.bin .leq t9 t11)] [0,2,7,12] []
 (.cond t12
 .skip
 (.exit 0)))
 (.seq (.block 1 (zr [zm 15 2,
 zm 16 7,
 zg 17 (.callv t15 [t16] false)] [0,2,7,17] []
 (.cond t17
 (zr [zm 18 7,
 zm 6 18] [6] []
 .ret)
 .skip)))
 (.reg false [zm 13 7,
 zg 14 (.bin .add t13 (zi 1)),
 zm 7 14] [0,2,7] []))))
def ir217:IFn:=
⟨(zr [zg 6 (.mov (zi 0))] [0,1,2] []
 (.seq (zr [zm 8 1,
 zm 7 8] [0,2,7] []
 (.block 0 q06r))
 (zr [zg 6 (.mov (zi (-1)))] [6] []
 .ret))),
 [.tmp 6],false⟩
def ir218:IFn:=
⟨(zr [zg 4 (.mov zF)] [0,1] []
 (zr [zm 8 0,
 zm 9 1,
 zc 10 286 [t8,t9],
 zm 7 10,
 zx 11 7 0,
 zx 12 7 1,
 zg 5 (.al [zo,zo,zo,zo,zo,zo,zo] true),
 zn (.st t5 t11 7),
 zm 6 12] [5,6] [5]
 (zr [zm 13 6,
 zj 14 13,
 zm 15 14,
 zf 16 15 (.ld t5 7 true),
 zf 17 15 (.call 347 [t16] false),
 zf 18 15 (.un .not t17),
 zg 19 (.pick t15 zT t18),
 zm 4 19] [4] []
 .ret))),
 [.tmp 4],false⟩
def q0d0:IC:=
 (.loop [0,1,5,8,9,10] [] (zr [zg 11 (.bin .lss t10 t9)] [0,1,5,8,9,10,11] []
 (.seq (.cond t11
 .skip
 (.exit 0))
 (.seq (.block 1 (zr [zm 12 10,
 zg 13 (.ixs t8 t10 2),
 zl 14 13 2,
 zg 7 (.al [zo,zo] true),
 zm 6 12,
 zn (.st t7 t14 2)] [0,1,5,6,7,8,9,10] [7]
 (.seq (.reg true [zm 15 5,
 zg 16 (.bin .lss t15 (zi 0)),
 zm 17 16,
 zf 18 17 (.mov t1),
 zf 19 17 (.ldl 7 t7 2 true),
 zf 20 17 (.mov t0),
 zf 21 17 (.mov t5),
 zf 22 17 (.ixs t20 t21 2),
 zf 23 17 (.ld t22 2 true),
 zf 24 17 (.callv t18 [t19,t23] false),
 zf 25 17 (.bin .lss t24 (zi 0)),
 zg 26 (.pick t17 zT t25)] [0,1,5,6,8,9,10,26] [])
 (.cond t26
 (.reg false [zm 27 6,
 zm 5 27] [0,1,5,8,9,10] [])
 .skip))))
 (.reg false [zg 28 (.bin .add t10 (zi 1)),
 zm 10 28] [0,1,5,8,9,10] [])))))
def ir219:IFn:=
⟨(zr [zg 4 (.mov (zi 0))] [0,1] []
 (zr [zg 5 (.mov (zi (-1)))] [0,1,5] []
 (.seq (zr [zm 8 0,
 zh 9 8,
 zg 10 (.mov (zi 0))] [0,1,5,8,9,10] []
 (.block 0 q0d0))
 (zr [zm 29 5,
 zm 4 29] [4] []
 .ret)))),
 [.tmp 4],false⟩
def ir220:IFn:=
⟨(zr [zg 2 (.bx t0 2 true),
 zg 3 (.bx t1 2 true),
 zg 4 (.mov (zi 0))] [2,3] [2,3]
 (.seq (.reg true [zp 5 2 0,
 zg 6 (.ldl 2 t5 1 false),
 zp 7 3 0,
 zg 8 (.ldl 3 t7 1 false),
 zc 9 349 [t6,t8],
 zp 10 2 1,
 zg 11 (.ldl 2 t10 1 false),
 zp 12 3 1,
 zg 13 (.ldl 3 t12 1 false),
 zc 14 350 [t11,t13],
 zg 15 (.bsl 1 2 [zo] [(0,t9),(1,t14)]),
 zc 16 348 [t15],
 zm 4 16] [4] [])
 .ret)),
 [.tmp 4],false⟩
def q0d1:IC:=
 (.loop [0,1,7,8] [] (zr [zg 9 (.bin .lss t8 t7)] [0,1,7,8,9] []
 (.seq (.cond t9
 .skip
 (.exit 0))
 (.seq (.block 1 (zr [zm 10 8,
 zm 5 10] [0,1,5,7,8] []
 (zr [zm 11 1,
 zm 12 0,
 zm 13 5,
 zg 14 (.ixs t12 t13 1),
 zk 15 14 1,
 zg 16 (.bin .eql t11 t15)] [0,1,5,7,8,16] []
 (.cond t16
 (zr [zm 17 5,
 zm 4 17] [4] []
 .ret)
 .skip))))
 (.reg false [zg 18 (.bin .add t8 (zi 1)),
 zm 8 18] [0,1,7,8] [])))))
def ir221:IFn:=
⟨(zr [zg 4 (.mov (zi 0))] [0,1] []
 (.seq (zr [zm 6 0,
 zh 7 6,
 zg 8 (.mov (zi 0))] [0,1,7,8] []
 (.block 0 q0d1))
 (zr [zg 4 (.mov (zi (-1)))] [4] []
 .ret))),
 [.tmp 4],false⟩
def ir222:IFn:=
⟨(zr [zg 1 (.bx t0 7 true),
 zg 2 (.mov zF)] [1] [1]
 (zr [zp 3 1 0,
 zk 4 3 1,
 zg 5 (.bin .eql t4 (zi 2)),
 zm 6 5,
 zf 7 6 (.off t1 0),
 zf 8 6 (.ld t7 1 false),
 zf 9 6 (.bin .eql t8 (zi 3)),
 zg 10 (.pick t6 zT t9),
 zm 2 10] [2] []
 .ret)),
 [.tmp 2],false⟩
def q06s:IC:=
 (.loop [0,5] [] (.seq (zr [zm 14 5,
 zm 15 0,
 zh 16 15,
 zg 17 (.bin .lss t14 t16),
 zm 18 17,
 zt 19 18 (.mov t0),
 zt 20 18 (.mov t5),
 zt 21 18 (.call 171 [t19,t20] false),
 zt 22 18 (.un .not t21),
 zg 23 (.pick t18 t22 zF)] [0,5,23] []
 (.cond t23
 .skip
 (.exit 0)))
 (.block 1 (.reg false [zm 24 5,
 zg 25 (.bin .add t24 (zi 1)),
 zm 5 25] [0,5] []))))
def ir223:IFn:=
⟨(zr [zg 4 (.mov (zi 0))] [0,1] []
 (.seq (zr [zm 6 1,
 zg 7 (.mnmx true t6 (zi 0)),
 zm 8 0,
 zh 9 8,
 zg 10 (.bin .geq t7 t9)] [0,1,10] []
 (.cond t10
 (zr [zg 4 (.mov (zi (-1)))] [4] []
 .ret)
 .skip))
 (zr [zm 11 1,
 zg 12 (.mnmx true t11 (zi 0)),
 zg 13 (.bin .add t12 (zi 1)),
 zm 5 13] [0,5] []
 (.seq (.block 0 q06s)
 (zr [zm 26 5,
 zm 4 26] [4] []
 .ret))))),
 [.tmp 4],false⟩
def ir224:IFn:=
⟨(zr [zg 2 (.bx t0 6 true),
 zg 4 (.mov zF)] [1,2] [2]
 (zr [zl 5 2 6,
 zc 6 245 [t5],
 zm 7 6,
 zt 8 7 (.mov t1),
 zt 9 7 (.bin .geq t8 (zi (-1125899906842624))),
 zg 10 (.pick t7 t9 zF),
 zm 11 10,
 zt 12 11 (.mov t1),
 zt 13 11 (.bin .leq t12 (zi 1125899906842624)),
 zg 14 (.pick t11 t13 zF),
 zm 4 14] [4] []
 .ret)),
 [.tmp 4],false⟩
def q0jq:IC:=
 (.loop [1,3,4] [1] (.seq (zr [zm 5 4,
 zg 6 (.bin .lss t5 (zi 4))] [1,3,4,6] [1]
 (.cond t6
 .skip
 (.exit 0)))
 (.seq (.block 1 (zr [zm 9 4,
 zp 10 1 1,
 zg 11 (.ixa t10 t9 1 4),
 zk 12 11 1,
 zg 13 (.bin .neq t12 (zi 0))] [1,3,4,13] [1]
 (.cond t13
 (.reg false [zm 14 4,
 zm 3 14] [1,3,4] [1])
 .skip)))
 (.reg false [zm 7 4,
 zg 8 (.bin .add t7 (zi 1)),
 zm 4 8] [1,3,4] [1]))))
def ir225:IFn:=
⟨(zr [zg 1 (.bx t0 6 true),
 zg 2 (.mov (zi 0))] [1] [1]
 (zr [zg 3 (.mov (zi 0))] [1,3] [1]
 (.seq (zr [zg 4 (.mov (zi 0))] [1,3,4] [1]
 (.block 0 q0jq))
 (zr [zm 15 3,
 zm 2 15] [2] []
 .ret)))),
 [.tmp 2],false⟩
def q0jr:IC:=
 (.loop [4,5,6,7,8] [4,5,6,7] (.seq (zr [zm 14 8,
 zg 15 (.bin .lss t14 (zi 6))] [4,5,6,7,8,15] [4,5,6,7]
 (.cond t15
 .skip
 (.exit 0)))
 (.seq (.block 1 (.seq (.prep [9] (.reg true [zm 18 8,
 zg 19 (.ixa t5 t18 1 6),
 zg 20 (.ldl 5 t19 1 false),
 zm 21 8,
 zg 22 (.ixa t6 t21 1 6),
 zg 23 (.ldl 6 t22 1 false),
 zc 24 352 [t20,t23],
 zg 9 (.alp [zo,.p (.bool false)]),
 zn (.stl 9 t9 t24 2)] [4,5,6,7,8,9] [4,5,6,7,9]))
 (.seq (zr [zp 25 9 1,
 zk 26 25 1,
 zj 27 26] [4,5,6,7,8,9,27] [4,5,6,7,9]
 (.cond t27
 (zr [zg 28 (.bld [zo,zo,zo,zo,zo,zo,.p (.bool false)] []),
 zn (.st t4 t28 7)] [4] [4]
 .ret)
 .skip))
 (.reg false [zm 29 8,
 zp 30 9 0,
 zk 31 30 1,
 zg 32 (.ixa t7 t29 1 6),
 zn (.st t32 t31 1)] [4,5,6,7,8] [4,5,6,7]))))
 (.reg false [zm 16 8,
 zg 17 (.bin .add t16 (zi 1)),
 zm 8 17] [4,5,6,7,8] [4,5,6,7]))))
def ir226:IFn:=
⟨(zr [zg 2 (.bx t0 6 true),
 zg 3 (.bx t1 6 true),
 zg 4 (.al [zo,zo,zo,zo,zo,zo,.p (.bool false)] true)] [2,3,4] [2,3,4]
 (.seq (.prep [5,6] (.reg true [zg 10 (.ldl 2 t2 6 true),
 zc 11 351 [t10],
 zg 12 (.ldl 3 t3 6 true),
 zc 13 351 [t12],
 zg 5 (.alp [zo,zo,zo,zo,zo,zo]),
 zg 6 (.alp [zo,zo,zo,zo,zo,zo]),
 zn (.stl 5 t5 t11 6),
 zn (.stl 6 t6 t13 6)] [4,5,6] [4,5,6]))
 (zr [zg 7 (.al [zo,zo,zo,zo,zo,zo] true)] [4,5,6,7] [4,5,6,7]
 (.seq (zr [zg 8 (.mov (zi 0))] [4,5,6,7,8] [4,5,6,7]
 (.block 0 q0jr))
 (zr [zl 33 7 6,
 zc 34 353 [t33],
 zg 35 (.bld [zo,zo,zo,zo,zo,zo,.p (.bool false)] [(0,6,t34),(6,1,zT)]),
 zn (.st t4 t35 7)] [4] [4]
 .ret))))),
 [.cell 4 7 true],false⟩
def ir227:IFn:=
⟨(zr [zg 1 (.bx t0 7 true),
 zg 2 (.al [zo,zo,zo,zo,zo,zo] true)] [1,2] [1,2]
 (.seq (zr [zp 3 1 0,
 zk 4 3 1,
 zg 5 (.bin .eql t4 (zi 1))] [1,2,5] [1,2]
 (.cond t5
 (zr [zp 6 1 1,
 zk 7 6 1,
 zc 8 354 [t7],
 zn (.st t2 t8 6)] [2] [2]
 .ret)
 .skip))
 (.seq (zr [zp 9 1 0,
 zk 10 9 1,
 zg 11 (.bin .eql t10 (zi 2))] [1,2,11] [1,2]
 (.cond t11
 (zr [zp 12 1 1,
 zk 13 12 1,
 zp 14 1 3,
 zk 15 14 1,
 zp 16 1 4,
 zk 17 16 1,
 zp 18 1 5,
 zk 19 18 1,
 zc 20 355 [t13,t15,t17,t19],
 zn (.st t2 t20 6)] [2] [2]
 .ret)
 .skip))
 (zr [zg 21 (.bld [zo,zo,zo,zo,zo,zo] []),
 zn (.st t2 t21 6)] [2] [2]
 .ret)))),
 [.cell 2 6 true],false⟩
def ir228:IFn:=
⟨(zr [zg 2 (.mov (zi 0))] [0] []
 (.seq (zr [zm 3 0,
 zg 4 (.bin .lss t3 (zi 0))] [0,4] []
 (.cond t4
 (zr [zg 2 (.mov (zi 0))] [2] []
 .ret)
 .skip))
 (.seq (zr [zm 5 0,
 zg 6 (.bin .gtr t5 (zi 1125899906842624))] [0,6] []
 (.cond t6
 (zr [zg 2 (.mov (zi 1125899906842624))] [2] []
 .ret)
 .skip))
 (zr [zm 7 0,
 zm 2 7] [2] []
 .ret)))),
 [.tmp 2],false⟩
def ir231:IFn:=
⟨(zr [zg 2 (.mov zF)] [0] []
 (zr [zm 3 0,
 zg 4 (.bin .geq t3 (zi 0)),
 zm 5 4,
 zt 6 5 (.mov t0),
 zt 7 5 (.bin .leq t6 (zi 1125899906842624)),
 zg 8 (.pick t5 t7 zF),
 zm 2 8] [2] []
 .ret)),
 [.tmp 2],false⟩
def q05d:IC:=
 (.loop [1,6,7] [1] (zr [zg 8 (.bin .lss t7 (zi 4))] [1,6,7,8] [1]
 (.seq (.cond t8
 .skip
 (.exit 0))
 (.seq (.block 1 (zr [zg 9 (.ixv t6 t7 1 4 false),
 zm 4 9] [1,4,6,7] [1]
 (zr [zm 10 4,
 zc 11 231 [t10],
 zj 12 11] [1,6,7,12] [1]
 (.cond t12
 (zr [zg 2 (.mov zF)] [2] []
 .ret)
 .skip))))
 (.reg false [zg 13 (.bin .add t7 (zi 1)),
 zm 7 13] [1,6,7] [1])))))
def ir232:IFn:=
⟨(zr [zg 1 (.bx t0 6 true),
 zg 2 (.mov zF)] [1] [1]
 (.seq (zr [zp 5 1 1,
 zl 6 5 4,
 zg 7 (.mov (zi 0))] [1,6,7] [1]
 (.block 0 q05d))
 (zr [zp 14 1 0,
 zk 15 14 1,
 zc 16 231 [t15],
 zm 17 16,
 zt 18 17 (.off t1 5),
 zt 19 17 (.ld t18 1 false),
 zt 20 17 (.call 231 [t19] false),
 zg 21 (.pick t17 t20 zF),
 zm 2 21] [2] []
 .ret))),
 [.tmp 2],false⟩
def ir235:IFn:=
⟨(zr [zg 2 (.mov (.c (.p .nilp)))] [0] []
 (.seq (zr [zm 3 0,
 zg 4 (.eqn .ptr false t3)] [0,4] []
 (.cond t4
 (zr [zg 2 (.mov (.c (.p .nilp)))] [2] []
 .ret)
 .skip))
 (zr [zm 5 0,
 zg 6 (.nck t5),
 zp 7 6 1,
 zk 8 7 1,
 zm 2 8] [2] []
 .ret))),
 [.tmp 2],false⟩
def ir236:IFn:=
⟨(zr [zg 6 (.mov (zi 0)),
 zg 7 (.mov (zi 0)),
 zg 8 (.mov zF)] [0,1,2] []
 (zr [zm 9 1,
 zg 10 (.mnmx true t9 (zi 0)),
 zm 11 2,
 zm 12 0,
 zc 13 359 [t12],
 zg 14 (.mnmx false t11 t13),
 zm 1 10,
 zm 2 14] [1,2] []
 (zr [zm 15 1,
 zm 16 2,
 zm 17 1,
 zm 18 2,
 zg 19 (.bin .lss t17 t18),
 zm 6 15,
 zm 7 16,
 zm 8 19] [6,7,8] []
 .ret))),
 [.tmp 6,.tmp 7,.tmp 8],false⟩
def q0d2:IC:=
 (.loop [3,4] [3] (.seq (zr [zm 7 4,
 zg 8 (.bin .lss t7 (zi 6))] [3,4,8] [3]
 (.cond t8
 .skip
 (.exit 0)))
 (.seq (.block 1 (zr [zm 11 4,
 zg 12 (.ixa t3 t11 1 6),
 zk 13 12 1,
 zg 14 (.bin .lss t13 (zi 0)),
 zm 15 14,
 zf 16 15 (.mov t4),
 zf 17 15 (.ixa t3 t16 1 6),
 zf 18 15 (.ld t17 1 false),
 zf 19 15 (.bin .gtr t18 (zi 1125899906842624)),
 zg 20 (.pick t15 zT t19)] [3,4,20] [3]
 (.cond t20
 (zr [zg 2 (.mov zF)] [2] []
 .ret)
 .skip)))
 (.reg false [zm 9 4,
 zg 10 (.bin .add t9 (zi 1)),
 zm 4 10] [3,4] [3]))))
def ir245:IFn:=
⟨(zr [zg 1 (.bx t0 6 true),
 zg 2 (.mov zF)] [1] [1]
 (zr [zl 5 1 6,
 zc 6 362 [t5],
 zg 3 (.al [zo,zo,zo,zo,zo,zo] true),
 zn (.st t3 t6 6)] [3] [3]
 (.seq (zr [zg 4 (.mov (zi 0))] [3,4] [3]
 (.block 0 q0d2))
 (zr [zg 2 (.mov zT)] [2] []
 .ret)))),
 [.tmp 2],false⟩
def ir254:IFn:=
⟨(zr [zg 4 (.mov (zi 0))] [0,1] []
 (zr [zm 7 0,
 zm 8 1,
 zc 9 202 [t7,t8],
 zm 6 9,
 zx 10 6 0,
 zx 11 6 1,
 zm 1 10,
 zm 5 11] [0,1,5] []
 (.seq (zr [zm 12 5,
 zj 13 12] [0,1,13] []
 (.cond t13
 (zr [zg 4 (.mov (zi 0))] [4] []
 .ret)
 .skip))
 (zr [zm 14 0,
 zg 15 (.nck t14),
 zp 16 15 1,
 zk 17 16 1,
 zm 18 1,
 zg 19 (.ixs t17 t18 1),
 zk 20 19 1,
 zm 4 20] [4] []
 .ret)))),
 [.tmp 4],false⟩
def ir284:IFn:=
⟨(zr [zg 2 (.bx t0 2 true),
 zg 4 (.mov zF)] [1,2] [2]
 (zr [zl 5 2 2,
 zm 6 1,
 zc 7 375 [t5,t6],
 zm 4 7] [4] []
 .ret)),
 [.tmp 4],false⟩
def ir286:IFn:=
⟨(zr [zg 4 (.al [zo,zo,zo,zo,zo,zo,zo] true),
 zg 5 (.mov zF)] [0,1,4] [4]
 (.seq (zr [zm 6 1,
 zg 7 (.bin .lss t6 (zi 0)),
 zm 8 7,
 zf 9 8 (.mov t1),
 zf 10 8 (.mov t0),
 zf 11 8 (.call 82 [t10] false),
 zf 12 8 (.bin .geq t9 t11),
 zg 13 (.pick t8 zT t12)] [0,1,4,13] [4]
 (.cond t13
 (zr [zg 14 (.bld [zo,zo,zo,zo,zo,zo,zo] []),
 zn (.st t4 t14 7),
 zg 5 (.mov zF)] [4,5] [4]
 .ret)
 .skip))
 (zr [zm 15 0,
 zg 16 (.nck t15),
 zp 17 16 0,
 zk 18 17 1,
 zm 19 1,
 zg 20 (.ixs t18 t19 7),
 zl 21 20 7,
 zn (.st t4 t21 7),
 zg 5 (.mov zT)] [4,5] [4]
 .ret))),
 [.cell 4 7 true,.tmp 5],false⟩
def ir287:IFn:=
⟨(zr [zg 1 (.bx t0 7 true),
 zg 2 (.mov zF)] [1] [1]
 (zr [zp 3 1 0,
 zk 4 3 1,
 zg 5 (.bin .eql t4 (zi 3)),
 zm 6 5,
 zt 7 6 (.off t1 6),
 zt 8 6 (.ld t7 1 false),
 zt 9 6 (.bin .leq t8 (zi (-10000))),
 zg 10 (.pick t6 t9 zF),
 zm 2 10] [2] []
 .ret)),
 [.tmp 2],false⟩
def ir288:IFn:=
⟨(zr [zg 2 (.bx t0 6 true),
 zg 4 (.mov zF)] [1,2] [2]
 (zr [zl 5 2 6,
 zc 6 232 [t5],
 zm 7 6,
 zt 8 7 (.mov t1),
 zt 9 7 (.bin .geq t8 (zi (-1125899906842624))),
 zg 10 (.pick t7 t9 zF),
 zm 11 10,
 zt 12 11 (.mov t1),
 zt 13 11 (.bin .leq t12 (zi 1125899906842624)),
 zg 14 (.pick t11 t13 zF),
 zm 4 14] [4] []
 .ret)),
 [.tmp 4],false⟩
def q06t:IC:=
 (.loop [1,3] [1] (.seq (zr [zm 4 3,
 zg 5 (.bin .gtr t4 (zi 0))] [1,3,5] [1]
 (.cond t5
 .skip
 (.exit 0)))
 (.seq (.block 1 (zr [zm 8 3,
 zp 9 1 1,
 zg 10 (.ixa t9 t8 1 4),
 zk 11 10 1,
 zg 12 (.bin .neq t11 (zi 0))] [1,3,12] [1]
 (.cond t12
 (zr [zm 13 3,
 zm 2 13] [2] []
 .ret)
 .skip)))
 (.reg false [zm 6 3,
 zg 7 (.bin .sub t6 (zi 1)),
 zm 3 7] [1,3] [1]))))
def ir289:IFn:=
⟨(zr [zg 1 (.bx t0 6 true),
 zg 2 (.mov (zi 0))] [1] [1]
 (.seq (zr [zg 3 (.mov (zi 3))] [1,3] [1]
 (.block 0 q06t))
 (zr [zg 2 (.mov (zi 0))] [2] []
 .ret))),
 [.tmp 2],false⟩
def ir290:IFn:=
⟨(zr [zg 2 (.bx t0 6 true),
 zg 3 (.bx t1 6 true),
 zg 4 (.al [zo,zo,zo,zo,zo,zo] true),
 zg 5 (.mov zF)] [2,3,4] [2,3,4]
 (zr [zl 6 2 6,
 zl 7 3 6,
 zc 8 337 [t6,t7,(.c (.p (.fn 376)))],
 zx 9 8 0,
 zx 10 8 1,
 zn (.st t4 t9 6),
 zm 5 10] [4,5] [4]
 .ret)),
 [.cell 4 6 true,.tmp 5],false⟩
def ir316:IFn:=
⟨(zr [zg 4 (.mov zF)] [0,1] []
 (zr [zm 8 0,
 zm 9 1,
 zc 10 286 [t8,t9],
 zm 7 10,
 zx 11 7 0,
 zx 12 7 1,
 zg 5 (.al [zo,zo,zo,zo,zo,zo,zo] true),
 zn (.st t5 t11 7),
 zm 6 12] [0,1,5,6] [5]
 (.seq (.block 0 (zr [zm 14 1,
 zg 15 (.bin .lss t14 (zi 1)),
 zm 16 15,
 zf 17 16 (.mov t1),
 zf 18 16 (.mov t0),
 zf 19 16 (.call 82 [t18] false),
 zf 20 16 (.bin .gtr t17 t19),
 zg 21 (.pick t16 zT t20),
 zm 13 21] [0,1,5,6,13] [5]
 (.cond t13
 (zr [zg 4 (.mov zF)] [4] []
 .ret)
 (zr [zm 23 6,
 zj 24 23,
 zm 22 24] [0,1,5,22] [5]
 (.cond t22
 (zr [zg 4 (.mov zT)] [4] []
 .ret)
 (zr [zp 26 5 0,
 zk 27 26 1,
 zg 28 (.bin .eql t27 (zi 2)),
 zm 25 28] [0,1,5,25] [5]
 (.cond t25
 (zr [zm 29 0,
 zg 30 (.nck t29),
 zp 31 30 0,
 zk 32 31 1,
 zm 33 1,
 zg 34 (.bin .sub t33 (zi 1)),
 zg 35 (.ixs t32 t34 7),
 zl 36 35 7,
 zc 37 347 [t36],
 zj 38 37,
 zm 4 38] [4] []
 .ret)
 .skip)))))))
 (zr [zp 39 5 0,
 zk 40 39 1,
 zg 41 (.bin .eql t40 (zi 3)),
 zm 42 41,
 zt 43 42 (.ld t5 7 true),
 zt 44 42 (.call 385 [t43] false),
 zt 45 42 (.un .not t44),
 zg 46 (.pick t42 t45 zF),
 zm 4 46] [4] []
 .ret)))),
 [.tmp 4],false⟩
def ir317:IFn:=
⟨(zr [zg 4 (.mov zF)] [0,1] []
 (zr [zm 5 0,
 zc 6 386 [t5,(zi 1)],
 zm 7 0,
 zm 8 1,
 zc 9 387 [t7,t8],
 zg 10 (.callv t6 [t9] false),
 zm 4 10] [4] []
 .ret)),
 [.tmp 4],false⟩
def ir318:IFn:=
⟨(zr [zg 4 (.mov zF)] [0,1] []
 (zr [zm 5 0,
 zc 6 386 [t5,(zi 2)],
 zm 7 0,
 zm 8 1,
 zc 9 388 [t7,t8],
 zg 10 (.callv t6 [t9] false),
 zm 4 10] [4] []
 .ret)),
 [.tmp 4],false⟩
def q0d3:IC:=
 (.loop [0,1,5,6] [] (.seq (zr [zm 7 6,
 zm 8 0,
 zh 9 8,
 zg 10 (.bin .lss t7 t9)] [0,1,5,6,10] []
 (.cond t10
 .skip
 (.exit 0)))
 (.seq (.block 1 (zr [zm 13 6,
 zm 14 1,
 zg 15 (.bin .lss t13 t14),
 zm 16 15,
 zt 17 16 (.mov t0),
 zt 18 16 (.mov t6),
 zt 19 16 (.ixs t17 t18 7),
 zt 20 16 (.off t19 0),
 zt 21 16 (.ld t20 1 false),
 zt 22 16 (.bin .eql t21 (zi 1)),
 zg 23 (.pick t16 t22 zF)] [0,1,5,6,23] []
 (.cond t23
 (.reg false [zm 24 6,
 zm 5 24] [0,1,5,6] [])
 .skip)))
 (.reg false [zm 11 6,
 zg 12 (.bin .add t11 (zi 1)),
 zm 6 12] [0,1,5,6] []))))
def ir325:IFn:=
⟨(zr [zg 4 (.mov (zi 0))] [0,1] []
 (zr [zg 5 (.mov (zi (-1)))] [0,1,5] []
 (.seq (zr [zg 6 (.mov (zi 0))] [0,1,5,6] []
 (.block 0 q0d3))
 (zr [zm 25 5,
 zm 4 25] [4] []
 .ret)))),
 [.tmp 4],false⟩
def q0d4:IC:=
 (.loop [0,1,5] [] (.seq (zr [zm 6 5,
 zm 7 0,
 zh 8 7,
 zg 9 (.bin .lss t6 t8)] [0,1,5,9] []
 (.cond t9
 .skip
 (.exit 0)))
 (.seq (.block 1 (zr [zm 12 5,
 zm 13 1,
 zg 14 (.bin .geq t12 t13),
 zm 15 14,
 zt 16 15 (.mov t0),
 zt 17 15 (.mov t5),
 zt 18 15 (.ixs t16 t17 7),
 zt 19 15 (.off t18 0),
 zt 20 15 (.ld t19 1 false),
 zt 21 15 (.bin .eql t20 (zi 1)),
 zg 22 (.pick t15 t21 zF)] [0,1,5,22] []
 (.cond t22
 (zr [zm 23 5,
 zm 4 23] [4] []
 .ret)
 .skip)))
 (.reg false [zm 10 5,
 zg 11 (.bin .add t10 (zi 1)),
 zm 5 11] [0,1,5] []))))
def ir326:IFn:=
⟨(zr [zg 4 (.mov (zi 0))] [0,1] []
 (.seq (zr [zg 5 (.mov (zi 0))] [0,1,5] []
 (.block 0 q0d4))
 (zr [zg 4 (.mov (zi (-1)))] [4] []
 .ret))),
 [.tmp 4],false⟩
def ir329:IFn:=
⟨(zr [zg 0 (.mov (.c (.nils)))] [] []
 (zr [zc 1 393 [(.c (.p (.fn 394)))],
 zg 2 (.bld [zo,.p .nilf] [(0,1,(zi 3)),(1,1,t1)]),
 zc 3 393 [(.c (.p (.fn 395)))],
 zg 4 (.bld [zo,.p .nilf] [(0,1,(zi 4)),(1,1,t3)]),
 zc 5 393 [(.c (.p (.fn 396)))],
 zg 6 (.bld [zo,.p .nilf] [(0,1,(zi 5)),(1,1,t5)]),
 zc 7 393 [(.c (.p (.fn 397)))],
 zg 8 (.bld [zo,.p .nilf] [(0,1,(zi 6)),(1,1,t7)]),
 zc 9 393 [(.c (.p (.fn 399)))],
 zg 10 (.bld [zo,.p .nilf] [(0,1,(zi 7)),(1,1,t9)]),
 zg 11 (.bld [zo,.p .nilf] [(0,1,(zi 8)),(1,1,(.c (.p (.fn 400))))]),
 zg 12 (.bld [zo,.p .nilf] [(0,1,(zi 9)),(1,1,(.c (.p (.fn 403))))]),
 zg 13 (.bld [zo,.p .nilf] [(0,1,(zi 10)),(1,1,(.c (.p (.fn 406))))]),
 zg 14 (.bld [zo,.p .nilf] [(0,1,(zi 11)),(1,1,(.c (.p (.fn 409))))]),
 zg 15 (.bld [zo,.p .nilf] [(0,1,(zi 12)),(1,1,(.c (.p (.fn 410))))]),
 zg 16 (.bsl 2 10 [zo,.p .nilf] [(0,t2),(1,t4),(2,t6),(3,t8),(4,t10),(5,t11),(6,t12),(7,t13),(8,t14),(9,t15)]),
 zm 0 16] [0] []
 .ret)),
 [.tmp 0],false⟩
def ir330:IFn:=
⟨(zr [zg 4 (.mov (zi 0))] [0,1] []
 (.seq (zr [zm 6 1,
 zg 7 (.bin .lss t6 (zi 1))] [0,1,7] []
 (.cond t7
 (zr [zm 8 0,
 zm 4 8] [4] []
 .ret)
 .skip))
 (zr [zm 9 0,
 zm 10 1,
 zg 11 (.bin .rem t9 t10),
 zm 5 11] [0,1,5] []
 (.seq (zr [zm 12 5,
 zg 13 (.bin .lss t12 (zi 0))] [0,1,5,13] []
 (.cond t13
 (.reg false [zm 14 5,
 zm 15 1,
 zg 16 (.bin .add t14 t15),
 zm 5 16] [0,1,5] [])
 .skip))
 (.seq (zr [zm 17 5,
 zm 18 1,
 zm 19 5,
 zg 20 (.bin .sub t18 t19),
 zg 21 (.bin .lss t17 t20)] [0,1,21] []
 (.cond t21
 (zr [zm 22 0,
 zm 23 1,
 zc 24 196 [t22,t23],
 zm 4 24] [4] []
 .ret)
 .skip))
 (zr [zm 25 0,
 zm 26 1,
 zc 27 197 [t25,t26],
 zm 4 27] [4] []
 .ret)))))),
 [.tmp 4],false⟩
def ir331:IFn:=
⟨(zr [zg 6 (.mov (zi 0))] [0,1,2] []
 (.seq (zr [zm 10 2,
 zm 11 0,
 zm 12 1,
 zg 13 (.callv t10 [t11,t12] false),
 zm 9 13,
 zx 14 9 0,
 zx 15 9 1,
 zm 7 14,
 zm 8 15] [0,7,8] []
 (zr [zm 16 8] [0,7,16] []
 (.cond t16
 (zr [zm 17 7,
 zm 6 17] [6] []
 .ret)
 .skip)))
 (zr [zm 18 0,
 zm 6 18] [6] []
 .ret))),
 [.tmp 6],false⟩
def ir332:IFn:=
⟨(zr [zg 4 (.mov (zi 0)),
 zg 5 (.mov zF)] [0,1] []
 (.seq (zr [zm 6 1,
 zg 7 (.bin .lss t6 (zi 1))] [0,1,7] []
 (.cond t7
 (zr [zg 4 (.mov (zi 0)),
 zg 5 (.mov zF)] [4,5] []
 .ret)
 .skip))
 (zr [zm 8 0,
 zm 9 0,
 zm 10 1,
 zc 11 411 [t9,t10],
 zc 12 376 [t8,t11],
 zx 13 12 0,
 zx 14 12 1,
 zm 4 13,
 zm 5 14] [4,5] []
 .ret))),
 [.tmp 4,.tmp 5],false⟩
def ir333:IFn:=
⟨(zr [zg 4 (.mov (zi 0)),
 zg 5 (.mov zF)] [0,1] []
 (.seq (zr [zm 7 1,
 zg 8 (.bin .lss t7 (zi 1))] [0,1,8] []
 (.cond t8
 (zr [zg 4 (.mov (zi 0)),
 zg 5 (.mov zF)] [4,5] []
 .ret)
 .skip))
 (.seq (zr [zm 9 0,
 zm 10 1,
 zc 11 411 [t9,t10],
 zm 6 11] [0,1,6] []
 (zr [zm 12 6,
 zg 13 (.bin .gtr t12 (zi 0))] [0,1,6,13] []
 (.cond t13
 (zr [zm 14 0,
 zm 15 1,
 zm 16 6,
 zg 17 (.bin .sub t15 t16),
 zc 18 338 [t14,t17],
 zx 19 18 0,
 zx 20 18 1,
 zm 4 19,
 zm 5 20] [4,5] []
 .ret)
 .skip)))
 (zr [zm 21 0,
 zm 4 21,
 zg 5 (.mov zT)] [4,5] []
 .ret)))),
 [.tmp 4,.tmp 5],false⟩
def ir334:IFn:=
⟨(zr [zg 2 (.al [zo,zo,zo,zo,zo,zo] true)] [0,2] [2]
 (zr [zm 3 0,
 zg 4 (.bld [zo,zo,zo,zo,zo,zo] [(0,1,t3)]),
 zn (.st t2 t4 6)] [2] [2]
 .ret)),
 [.cell 2 6 true],false⟩
def ir335:IFn:=
⟨(zr [zg 8 (.al [zo,zo,zo,zo,zo,zo] true)] [0,1,2,3,8] [8]
 (zr [zm 10 0,
 zm 11 3,
 zg 12 (.bld [zo,zo,zo,zo,zo,zo] [(0,1,t10),(5,1,t11)]),
 zg 9 (.al [zo,zo,zo,zo,zo,zo] true),
 zn (.st t9 t12 6)] [1,2,8,9] [8,9]
 (.seq (zr [zm 13 2,
 zg 14 (.bin .geq t13 (zi 0)),
 zm 15 14,
 zt 16 15 (.mov t2),
 zt 17 15 (.bin .lss t16 (zi 4)),
 zg 18 (.pick t15 t17 zF)] [1,2,8,9,18] [8,9]
 (.cond t18
 (.reg false [zm 19 2,
 zm 20 1,
 zp 21 9 1,
 zg 22 (.ixa t21 t19 1 4),
 zn (.st t22 t20 1)] [8,9] [8,9])
 .skip))
 (zr [zl 23 9 6,
 zn (.st t8 t23 6)] [8] [8]
 .ret)))),
 [.cell 8 6 true],false⟩
def ir336:IFn:=
⟨(zr [zg 2 (.mov zF)] [0] []
 (zr [zm 3 0,
 zg 4 (.bin .geq t3 (zi 0)),
 zm 5 4,
 zt 6 5 (.mov t0),
 zt 7 5 (.bin .leq t6 (zi 4294967296)),
 zg 8 (.pick t5 t7 zF),
 zm 2 8] [2] []
 .ret)),
 [.tmp 2],false⟩
def q0js:IC:=
 (.loop [3,4,6,8,9,10,26] [3,4,6,10] (zr [zg 27 (.bin .lss t26 (zi 4))] [3,4,6,8,9,10,26,27] [3,4,6,10]
 (.seq (.cond t27
 .skip
 (.exit 0))
 (.seq (.block 1 (zr [zm 28 26,
 zm 11 28] [3,4,6,8,9,10,11,26] [3,4,6,10]
 (.reg true [zm 29 11,
 zm 30 9,
 zm 31 11,
 zp 32 3 1,
 zg 33 (.ixa t32 t31 1 4),
 zg 34 (.ldl 3 t33 1 false),
 zm 35 11,
 zp 36 4 1,
 zg 37 (.ixa t36 t35 1 4),
 zg 38 (.ldl 4 t37 1 false),
 zg 39 (.callv t30 [t34,t38] false),
 zp 40 10 1,
 zg 41 (.ixa t40 t29 1 4),
 zn (.stl 10 t41 t39 1)] [3,4,6,8,9,10,26] [3,4,6,10])))
 (.reg false [zg 42 (.bin .add t26 (zi 1)),
 zm 26 42] [3,4,6,8,9,10,26] [3,4,6,10])))))
def ir337:IFn:=
⟨(zr [zg 3 (.bx t0 6 true),
 zg 4 (.bx t1 6 true),
 zg 5 (.bx t2 1 false),
 zg 6 (.al [zo,zo,zo,zo,zo,zo] true),
 zg 7 (.mov zF)] [3,4,5,6] [3,4,6]
 (zr [zg 8 (.al [.p (.bool false)] false),
 zn (.st t8 zT 1)] [3,4,5,6,8] [3,4,6]
 (zr [zg 12 (.mkf (.func 412) [] [t5,t8]),
 zm 9 12] [3,4,6,8,9] [3,4,6]
 (.seq (.prep [10] (.reg true [zm 13 9,
 zp 14 3 0,
 zg 15 (.ldl 3 t14 1 false),
 zp 16 4 0,
 zg 17 (.ldl 4 t16 1 false),
 zg 18 (.callv t13 [t15,t17] false),
 zm 19 9,
 zp 20 3 5,
 zg 21 (.ldl 3 t20 1 false),
 zp 22 4 5,
 zg 23 (.ldl 4 t22 1 false),
 zg 24 (.callv t19 [t21,t23] false),
 zg 25 (.bld [zo,zo,zo,zo,zo,zo] [(0,1,t18),(5,1,t24)]),
 zg 10 (.alp [zo,zo,zo,zo,zo,zo]),
 zn (.stl 10 t10 t25 6)] [3,4,6,8,9,10] [3,4,6,10]))
 (.seq (zr [zg 26 (.mov (zi 0))] [3,4,6,8,9,10,26] [3,4,6,10]
 (.block 0 q0js))
 (.seq (zr [zk 43 8 1,
 zj 44 43] [6,10,44] [6,10]
 (.cond t44
 (zr [zg 45 (.bld [zo,zo,zo,zo,zo,zo] []),
 zn (.st t6 t45 6),
 zg 7 (.mov zF)] [6,7] [6]
 .ret)
 .skip))
 (zr [zl 46 10 6,
 zn (.st t6 t46 6),
 zg 7 (.mov zT)] [6,7] [6]
 .ret))))))),
 [.cell 6 6 true,.tmp 7],false⟩
def ir338:IFn:=
⟨(zr [zg 4 (.mov (zi 0)),
 zg 5 (.mov zF)] [0,1] []
 (zr [zm 7 0,
 zm 8 1,
 zg 9 (.bin .add t7 t8),
 zm 6 9] [0,1,6] []
 (.seq (zr [zm 10 6,
 zm 11 0,
 zg 12 (.bin .gtr t10 t11),
 zm 13 1,
 zg 14 (.bin .gtr t13 (zi 0)),
 zg 15 (.eqb true t12 t14),
 zm 16 15,
 zt 17 16 (.mov t1),
 zt 18 16 (.bin .neq t17 (zi 0)),
 zg 19 (.pick t16 t18 zF)] [6,19] []
 (.cond t19
 (zr [zg 4 (.mov (zi 0)),
 zg 5 (.mov zF)] [4,5] []
 .ret)
 .skip))
 (zr [zm 20 6,
 zm 4 20,
 zg 5 (.mov zT)] [4,5] []
 .ret)))),
 [.tmp 4,.tmp 5],false⟩
def ir339:IFn:=
⟨(zr [zg 2 (.mov zF)] [0] []
 (zr [zm 3 0,
 zg 4 (.bin .geq t3 (zi 0)),
 zm 5 4,
 zt 6 5 (.mov t0),
 zt 7 5 (.bin .leq t6 (zi 1073741823)),
 zg 8 (.pick t5 t7 zF),
 zm 2 8] [2] []
 .ret)),
 [.tmp 2],false⟩
def ir340:IFn:=
⟨(zr [zg 2 (.bx t0 2 true),
 zg 4 (.mov (zi 0))] [1,2] [2]
 (.seq (zr [zp 5 2 1,
 zk 6 5 1] [1,2,6] [2]
 (.cond t6
 (zr [zp 7 2 0,
 zk 8 7 1,
 zm 4 8] [4] []
 .ret)
 .skip))
 (zr [zm 9 1,
 zm 4 9] [4] []
 .ret))),
 [.tmp 4],false⟩
def ir341:IFn:=
⟨(zr [zg 4 (.al [zo,.p (.bool false)] true)] [0,1,4] [4]
 (.seq (zr [zm 6 1,
 zg 7 (.bin .lss t6 (zi 1))] [0,1,4,7] [4]
 (.cond t7
 (zr [zg 8 (.bld [zo,.p (.bool false)] []),
 zn (.st t4 t8 2)] [4] [4]
 .ret)
 .skip))
 (zr [zm 9 0,
 zm 10 1,
 zg 11 (.bin .rem t9 t10),
 zm 5 11] [0,1,4,5] [4]
 (.seq (zr [zm 12 5,
 zg 13 (.bin .lss t12 (zi 0))] [0,1,4,5,13] [4]
 (.cond t13
 (.reg false [zm 14 5,
 zm 15 1,
 zg 16 (.bin .add t14 t15),
 zm 5 16] [0,4,5] [4])
 .skip))
 (zr [zm 17 0,
 zm 18 5,
 zc 19 413 [t17,t18],
 zn (.st t4 t19 2)] [4] [4]
 .ret))))),
 [.cell 4 2 true],false⟩
def ir342:IFn:=
⟨(zr [zg 4 (.al [zo,.p (.bool false)] true)] [0,1,4] [4]
 (.seq (zr [zm 6 1,
 zg 7 (.bin .lss t6 (zi 1))] [0,1,4,7] [4]
 (.cond t7
 (zr [zg 8 (.bld [zo,.p (.bool false)] []),
 zn (.st t4 t8 2)] [4] [4]
 .ret)
 .skip))
 (zr [zm 9 0,
 zm 10 1,
 zg 11 (.bin .rem t9 t10),
 zm 5 11] [0,1,4,5] [4]
 (.seq (zr [zm 12 5,
 zg 13 (.bin .lss t12 (zi 0))] [0,1,4,5,13] [4]
 (.cond t13
 (.reg false [zm 14 5,
 zm 15 1,
 zg 16 (.bin .add t14 t15),
 zm 5 16] [0,1,4,5] [4])
 .skip))
 (.seq (zr [zm 17 5,
 zg 18 (.bin .eql t17 (zi 0))] [0,1,4,5,18] [4]
 (.cond t18
 (zr [zm 19 0,
 zg 20 (.bld [zo,.p (.bool false)] [(0,1,t19),(1,1,zT)]),
 zn (.st t4 t20 2)] [4] [4]
 .ret)
 .skip))
 (zr [zm 21 0,
 zm 22 1,
 zm 23 5,
 zg 24 (.bin .sub t22 t23),
 zc 25 352 [t21,t24],
 zn (.st t4 t25 2)] [4] [4]
 .ret)))))),
 [.cell 4 2 true],false⟩
def ir343:IFn:=
⟨(zr [zg 4 (.mov (zi 0))] [0,1] []
 (.seq (zr [zm 8 1,
 zg 9 (.bin .lss t8 (zi 1))] [0,1,9] []
 (.cond t9
 (zr [zm 10 0,
 zm 4 10] [4] []
 .ret)
 .skip))
 (zr [zm 11 0,
 zm 12 1,
 zc 13 341 [t11,t12],
 zm 14 0,
 zm 15 1,
 zc 16 342 [t14,t15],
 zg 5 (.al [zo,.p (.bool false)] true),
 zg 6 (.al [zo,.p (.bool false)] true),
 zn (.st t5 t13 2),
 zn (.st t6 t16 2)] [0,1,5,6] [5,6]
 (zr [zm 17 0,
 zm 18 1,
 zg 19 (.bin .rem t17 t18),
 zm 7 19] [0,1,5,6,7] [5,6]
 (.seq (zr [zm 20 7,
 zg 21 (.bin .lss t20 (zi 0))] [0,1,5,6,7,21] [5,6]
 (.cond t21
 (.reg false [zm 22 7,
 zm 23 1,
 zg 24 (.bin .add t22 t23),
 zm 7 24] [0,1,5,6,7] [5,6])
 .skip))
 (.seq (zr [zm 25 7,
 zm 26 1,
 zm 27 7,
 zg 28 (.bin .sub t26 t27),
 zg 29 (.bin .lss t25 t28)] [0,5,6,7,29] [5,6]
 (.cond t29
 (zr [zl 30 5 2,
 zm 31 0,
 zc 32 340 [t30,t31],
 zm 4 32] [4] []
 .ret)
 .skip))
 (.seq (zr [zm 33 7,
 zg 34 (.bin .eql t33 (zi 0))] [0,6,34] [6]
 (.cond t34
 (zr [zm 35 0,
 zm 4 35] [4] []
 .ret)
 .skip))
 (zr [zl 36 6 2,
 zm 37 0,
 zc 38 340 [t36,t37],
 zm 4 38] [4] []
 .ret)))))))),
 [.tmp 4],false⟩
def ir344:IFn:=
⟨(zr [zg 4 (.mov zF)] [0,1] []
 (zr [zm 8 0,
 zm 9 1,
 zc 10 286 [t8,t9],
 zm 7 10,
 zx 11 7 0,
 zx 12 7 1,
 zg 5 (.al [zo,zo,zo,zo,zo,zo,zo] true),
 zn (.st t5 t11 7),
 zm 6 12] [5,6] [5]
 (zr [zm 13 6,
 zj 14 13,
 zm 15 14,
 zf 16 15 (.ld t5 7 true),
 zf 17 15 (.call 287 [t16] false),
 zg 18 (.pick t15 zT t17),
 zm 4 18] [4] []
 .ret))),
 [.tmp 4],false⟩
def ir345:IFn:=
⟨(zr [zg 2 (.mov (zi 0))] [0] []
 (zr [zm 3 0,
 zg 4 (.mnmx true t3 (zi 0)),
 zg 5 (.mnmx false t4 (zi 1125899906842624)),
 zm 2 5] [2] []
 .ret)),
 [.tmp 2],false⟩
def ir346:IFn:=
⟨(zr [zg 2 (.mov (zi 0))] [0] []
 (zr [zm 3 0,
 zg 4 (.mnmx true t3 (zi 0)),
 zg 5 (.mnmx false t4 (zi 1125899906842624)),
 zm 2 5] [2] []
 .ret)),
 [.tmp 2],false⟩
def ir347:IFn:=
⟨(zr [zg 1 (.bx t0 7 true),
 zg 2 (.mov zF)] [1] [1]
 (zr [zp 3 1 0,
 zk 4 3 1,
 zg 5 (.bin .eql t4 (zi 2)),
 zm 6 5,
 zf 7 6 (.off t1 0),
 zf 8 6 (.ld t7 1 false),
 zf 9 6 (.bin .eql t8 (zi 3)),
 zg 10 (.pick t6 zT t9),
 zm 2 10] [2] []
 .ret)),
 [.tmp 2],false⟩
def q0d5:IC:=
 (.loop [3,6,7,8] [] (zr [zg 9 (.bin .lss t8 t7)] [3,6,7,8,9] []
 (.seq (.cond t9
 .skip
 (.exit 0))
 (.seq (.block 1 (zr [zg 10 (.ixs t6 t8 1),
 zk 11 10 1,
 zm 5 11] [3,5,6,7,8] []
 (zr [zm 12 5,
 zm 13 3,
 zg 14 (.bin .neq t12 t13)] [3,5,6,7,8,14] []
 (.cond t14
 (zr [zm 15 5,
 zm 2 15] [2] []
 .ret)
 .skip))))
 (.reg false [zg 16 (.bin .add t8 (zi 1)),
 zm 8 16] [3,6,7,8] [])))))
def ir348:IFn:=
⟨(zr [zg 2 (.mov (zi 0))] [0] []
 (zr [zg 3 (.mov (zi 0))] [0,3] []
 (.seq (zr [zm 6 0,
 zh 7 6,
 zg 8 (.mov (zi 0))] [3,6,7,8] []
 (.block 0 q0d5))
 (zr [zm 17 3,
 zm 2 17] [2] []
 .ret)))),
 [.tmp 2],false⟩
def ir349:IFn:=
⟨(zr [zg 4 (.mov (zi 0))] [0,1] []
 (zr [zm 7 0,
 zc 8 414 [t7],
 zm 5 8] [0,1,5] []
 (zr [zm 9 1,
 zc 10 414 [t9],
 zm 6 10] [0,1,5,6] []
 (.seq (zr [zm 11 5] [0,1,6,11] []
 (.cond t11
 (.seq (zr [zm 12 6] [12] []
 (.cond t12
 (zr [zg 4 (.mov (zi 0))] [4] []
 .ret)
 .skip))
 (zr [zg 4 (.mov (zi (-1)))] [4] []
 .ret))
 .skip))
 (.seq (zr [zm 13 6] [0,1,13] []
 (.cond t13
 (zr [zg 4 (.mov (zi 1))] [4] []
 .ret)
 .skip))
 (.seq (zr [zm 14 0,
 zm 15 1,
 zg 16 (.bin .lss t14 t15)] [0,1,16] []
 (.cond t16
 (zr [zg 4 (.mov (zi (-1)))] [4] []
 .ret)
 .skip))
 (.seq (zr [zm 17 0,
 zm 18 1,
 zg 19 (.bin .gtr t17 t18)] [19] []
 (.cond t19
 (zr [zg 4 (.mov (zi 1))] [4] []
 .ret)
 .skip))
 (zr [zg 4 (.mov (zi 0))] [4] []
 .ret)))))))),
 [.tmp 4],false⟩
def ir350:IFn:=
⟨(zr [zg 4 (.mov (zi 0))] [0,1] []
 (zr [zm 7 0,
 zc 8 415 [t7],
 zm 5 8] [0,1,5] []
 (zr [zm 9 1,
 zc 10 415 [t9],
 zm 6 10] [0,1,5,6] []
 (.seq (zr [zm 11 5] [0,1,6,11] []
 (.cond t11
 (.seq (zr [zm 12 6] [12] []
 (.cond t12
 (zr [zg 4 (.mov (zi 0))] [4] []
 .ret)
 .skip))
 (zr [zg 4 (.mov (zi (-1)))] [4] []
 .ret))
 .skip))
 (.seq (zr [zm 13 6] [0,1,13] []
 (.cond t13
 (zr [zg 4 (.mov (zi 1))] [4] []
 .ret)
 .skip))
 (.seq (zr [zm 14 0,
 zm 15 1,
 zg 16 (.bin .lss t14 t15)] [0,1,16] []
 (.cond t16
 (zr [zg 4 (.mov (zi (-1)))] [4] []
 .ret)
 .skip))
 (.seq (zr [zm 17 0,
 zm 18 1,
 zg 19 (.bin .gtr t17 t18)] [19] []
 (.cond t19
 (zr [zg 4 (.mov (zi 1))] [4] []
 .ret)
 .skip))
 (zr [zg 4 (.mov (zi 0))] [4] []
 .ret)))))))),
 [.tmp 4],false⟩
def ir351:IFn:=
⟨(zr [zg 1 (.bx t0 6 true),
 zg 2 (.al [zo,zo,zo,zo,zo,zo] true)] [1,2] [1,2]
 (zr [zp 3 1 0,
 zk 4 3 1,
 zp 5 1 1,
 zg 6 (.ixa t5 (zi 0) 1 4),
 zk 7 6 1,
 zp 8 1 1,
 zg 9 (.ixa t8 (zi 1) 1 4),
 zk 10 9 1,
 zp 11 1 1,
 zg 12 (.ixa t11 (zi 2) 1 4),
 zk 13 12 1,
 zp 14 1 1,
 zg 15 (.ixa t14 (zi 3) 1 4),
 zk 16 15 1,
 zp 17 1 5,
 zk 18 17 1,
 zg 19 (.bld [zo,zo,zo,zo,zo,zo] [(0,1,t4),(1,1,t7),(2,1,t10),(3,1,t13),(4,1,t16),(5,1,t18)]),
 zn (.st t2 t19 6)] [2] [2]
 .ret)),
 [.cell 2 6 true],false⟩
def ir352:IFn:=
⟨(zr [zg 4 (.al [zo,.p (.bool false)] true)] [0,1,4] [4]
 (.seq (zr [zm 5 1,
 zg 6 (.bin .gtr t5 (zi 0)),
 zm 7 6,
 zt 8 7 (.mov t0),
 zt 9 7 (.mov t1),
 zt 10 7 (.bin .sub (zi 9223372036854775807) t9),
 zt 11 7 (.bin .gtr t8 t10),
 zg 12 (.pick t7 t11 zF),
 zm 13 12,
 zf 14 13 (.mov t1),
 zf 15 13 (.bin .lss t14 (zi 0)),
 zf 16 13 (.mov t15),
 zt 17 16 (.mov t0),
 zt 18 16 (.mov t1),
 zt 19 16 (.bin .sub (zi (-9223372036854775808)) t18),
 zt 20 16 (.bin .lss t17 t19),
 zf 21 13 (.pick t16 t20 zF),
 zg 22 (.pick t13 zT t21)] [0,1,4,22] [4]
 (.cond t22
 (zr [zg 23 (.bld [zo,.p (.bool false)] []),
 zn (.st t4 t23 2)] [4] [4]
 .ret)
 .skip))
 (zr [zm 24 0,
 zm 25 1,
 zg 26 (.bin .add t24 t25),
 zg 27 (.bld [zo,.p (.bool false)] [(0,1,t26),(1,1,zT)]),
 zn (.st t4 t27 2)] [4] [4]
 .ret))),
 [.cell 4 2 true],false⟩
def ir353:IFn:=
⟨(zr [zg 1 (.bx t0 6 true),
 zg 2 (.al [zo,zo,zo,zo,zo,zo] true)] [1,2] [1,2]
 (zr [zg 3 (.ixa t1 (zi 0) 1 6),
 zk 4 3 1,
 zg 5 (.ixa t1 (zi 1) 1 6),
 zk 6 5 1,
 zg 7 (.ixa t1 (zi 2) 1 6),
 zk 8 7 1,
 zg 9 (.ixa t1 (zi 3) 1 6),
 zk 10 9 1,
 zg 11 (.ixa t1 (zi 4) 1 6),
 zk 12 11 1,
 zg 13 (.bld [zo,zo,zo,zo] [(0,1,t6),(1,1,t8),(2,1,t10),(3,1,t12)]),
 zg 14 (.ixa t1 (zi 5) 1 6),
 zk 15 14 1,
 zg 16 (.bld [zo,zo,zo,zo,zo,zo] [(0,1,t4),(1,4,t13),(5,1,t15)]),
 zn (.st t2 t16 6)] [2] [2]
 .ret)),
 [.cell 2 6 true],false⟩
def ir354:IFn:=
⟨(zr [zg 2 (.al [zo,zo,zo,zo,zo,zo] true)] [0,2] [2]
 (zr [zm 3 0,
 zg 4 (.bld [zo,zo,zo,zo,zo,zo] [(0,1,t3)]),
 zn (.st t2 t4 6)] [2] [2]
 .ret)),
 [.cell 2 6 true],false⟩
def ir355:IFn:=
⟨(zr [zg 8 (.al [zo,zo,zo,zo,zo,zo] true)] [0,1,2,3,8] [8]
 (zr [zm 10 0,
 zm 11 3,
 zg 12 (.bld [zo,zo,zo,zo,zo,zo] [(0,1,t10),(5,1,t11)]),
 zg 9 (.al [zo,zo,zo,zo,zo,zo] true),
 zn (.st t9 t12 6)] [1,2,8,9] [8,9]
 (.seq (zr [zm 13 2,
 zg 14 (.bin .geq t13 (zi 0)),
 zm 15 14,
 zt 16 15 (.mov t2),
 zt 17 15 (.bin .leq t16 (zi 3)),
 zg 18 (.pick t15 t17 zF)] [1,2,8,9,18] [8,9]
 (.cond t18
 (.reg false [zm 19 2,
 zm 20 1,
 zp 21 9 1,
 zg 22 (.ixa t21 t19 1 4),
 zn (.st t22 t20 1)] [8,9] [8,9])
 .skip))
 (zr [zl 23 9 6,
 zn (.st t8 t23 6)] [8] [8]
 .ret)))),
 [.cell 8 6 true],false⟩
def ir359:IFn:=
⟨(zr [zg 2 (.mov (zi 0))] [0] []
 (.seq (zr [zm 3 0,
 zg 4 (.eqn .ptr false t3)] [0,4] []
 (.cond t4
 (zr [zg 2 (.mov (zi 0))] [2] []
 .ret)
 .skip))
 (zr [zm 5 0,
 zg 6 (.nck t5),
 zp 7 6 0,
 zk 8 7 1,
 zh 9 8,
 zm 2 9] [2] []
 .ret))),
 [.tmp 2],false⟩
def ir362:IFn:=
⟨(zr [zg 1 (.bx t0 6 true),
 zg 2 (.al [zo,zo,zo,zo,zo,zo] true)] [1,2] [1,2]
 (zr [zp 3 1 0,
 zk 4 3 1,
 zp 5 1 1,
 zg 6 (.ixa t5 (zi 0) 1 4),
 zk 7 6 1,
 zp 8 1 1,
 zg 9 (.ixa t8 (zi 1) 1 4),
 zk 10 9 1,
 zp 11 1 1,
 zg 12 (.ixa t11 (zi 2) 1 4),
 zk 13 12 1,
 zp 14 1 1,
 zg 15 (.ixa t14 (zi 3) 1 4),
 zk 16 15 1,
 zp 17 1 5,
 zk 18 17 1,
 zg 19 (.bld [zo,zo,zo,zo,zo,zo] [(0,1,t4),(1,1,t7),(2,1,t10),(3,1,t13),(4,1,t16),(5,1,t18)]),
 zn (.st t2 t19 6)] [2] [2]
 .ret)),
 [.cell 2 6 true],false⟩
def ir375:IFn:=
⟨(zr [zg 2 (.bx t0 2 true),
 zg 4 (.mov zF)] [1,2] [2]
 (zr [zm 5 1,
 zp 6 2 0,
 zk 7 6 1,
 zh 8 7,
 zg 9 (.bin .eql t5 t8),
 zm 10 9,
 zf 11 10 (.ld t2 2 true),
 zf 12 10 (.mov t1),
 zf 13 10 (.call 389 [t11,t12] false),
 zg 14 (.pick t10 zT t13),
 zm 4 14] [4] []
 .ret)),
 [.tmp 4],false⟩
def ir376:IFn:=
⟨(zr [zg 4 (.mov (zi 0)),
 zg 5 (.mov zF)] [0,1] []
 (zr [zm 7 0,
 zm 8 1,
 zg 9 (.bin .sub t7 t8),
 zm 6 9] [0,1,6] []
 (.seq (zr [zm 10 6,
 zm 11 0,
 zg 12 (.bin .lss t10 t11),
 zm 13 1,
 zg 14 (.bin .gtr t13 (zi 0)),
 zg 15 (.eqb true t12 t14),
 zm 16 15,
 zt 17 16 (.mov t1),
 zt 18 16 (.bin .neq t17 (zi 0)),
 zg 19 (.pick t16 t18 zF)] [6,19] []
 (.cond t19
 (zr [zg 4 (.mov (zi 0)),
 zg 5 (.mov zF)] [4,5] []
 .ret)
 .skip))
 (zr [zm 20 6,
 zm 4 20,
 zg 5 (.mov zT)] [4,5] []
 .ret)))),
 [.tmp 4,.tmp 5],false⟩
def ir385:IFn:=
⟨(zr [zg 1 (.bx t0 7 true),
 zg 2 (.mov zF)] [1] [1]
 (zr [zp 3 1 0,
 zk 4 3 1,
 zg 5 (.bin .eql t4 (zi 3)),
 zm 6 5,
 zt 7 6 (.off t1 6),
 zt 8 6 (.ld t7 1 false),
 zt 9 6 (.bin .geq t8 (zi 10000)),
 zg 10 (.pick t6 t9 zF),
 zm 2 10] [2] []
 .ret)),
 [.tmp 2],false⟩
def ir386:IFn:=
⟨(zr [zg 2 (.bx t0 1 false),
 zg 3 (.bx t1 1 false),
 zg 4 (.mov (.c (.p .nilf)))] [2,3] []
 (zr [zg 5 (.mkf (.func 434) [] [t2,t3]),
 zm 4 5] [4] []
 .ret)),
 [.tmp 4],false⟩
def ir387:IFn:=
⟨(zr [zg 4 (.mov (zi 0))] [0,1] []
 (.seq (zr [zm 5 1,
 zg 6 (.bin .lss t5 (zi 1))] [0,1,6] []
 (.cond t6
 (zr [zg 4 (.mov (zi (-1)))] [4] []
 .ret)
 .skip))
 (zr [zm 7 0,
 zm 8 1,
 zm 9 0,
 zc 10 82 [t9],
 zg 11 (.mnmx false t8 t10),
 zg 12 (.bin .sub t11 (zi 1)),
 zc 13 435 [t7,t12,(zi (-1))],
 zm 4 13] [4] []
 .ret))),
 [.tmp 4],false⟩
def ir388:IFn:=
⟨(zr [zg 4 (.mov (zi 0))] [0,1] []
 (zr [zm 5 0,
 zm 6 1,
 zg 7 (.mnmx true t6 (zi 0)),
 zc 8 435 [t5,t7,(zi 1)],
 zm 4 8] [4] []
 .ret)),
 [.tmp 4],false⟩
def ir389:IFn:=
⟨(zr [zg 2 (.bx t0 2 true),
 zg 4 (.mov zF)] [1,2] [2]
 (zr [zm 5 1,
 zg 6 (.bin .gtr t5 (zi 0)),
 zm 7 6,
 zt 8 7 (.mov t1),
 zt 9 7 (.off t2 0),
 zt 10 7 (.ld t9 1 false),
 zt 11 7 (.len t10),
 zt 12 7 (.bin .lss t8 t11),
 zg 13 (.pick t7 t12 zF),
 zm 14 13,
 zt 15 14 (.mov t1),
 zt 16 14 (.off t2 1),
 zt 17 14 (.ld t16 1 false),
 zt 18 14 (.len t17),
 zt 19 14 (.bin .leq t15 t18),
 zg 20 (.pick t14 t19 zF),
 zm 21 20,
 zt 22 21 (.off t2 1),
 zt 23 21 (.ld t22 1 false),
 zt 24 21 (.mov t1),
 zt 25 21 (.bin .sub t24 (zi 1)),
 zt 26 21 (.ixs t23 t25 1),
 zt 27 21 (.ld t26 1 false),
 zt 28 21 (.bin .lss t27 (zi 10000)),
 zg 29 (.pick t21 t28 zF),
 zm 4 29] [4] []
 .ret)),
 [.tmp 4],false⟩
def ir393:IFn:=
⟨(zr [zg 1 (.bx t0 1 false),
 zg 2 (.mov (.c (.p .nilf)))] [1] []
 (zr [zg 3 (.mkf (.func 436) [] [t1]),
 zm 2 3] [2] []
 .ret)),
 [.tmp 2],false⟩
def ir394:IFn:=
⟨(zr [zg 1 (.bx t0 22 true),
 zg 2 (.mov zF)] [1] [1]
 (zr [zp 3 1 19,
 zk 4 3 1,
 zh 5 4,
 zg 6 (.bin .gtr t5 (zi 4096)),
 zm 2 6] [2] []
 .ret)),
 [.tmp 2],false⟩
def ir395:IFn:=
⟨(zr [zg 1 (.bx t0 22 true),
 zg 2 (.mov zF)] [1] [1]
 (zr [zp 3 1 21,
 zk 4 3 1,
 zh 5 4,
 zg 6 (.bin .gtr t5 (zi 256)),
 zm 2 6] [2] []
 .ret)),
 [.tmp 2],false⟩
def ir396:IFn:=
⟨(zr [zg 1 (.bx t0 22 true),
 zg 2 (.mov zF)] [1] [1]
 (zr [zp 3 1 20,
 zk 4 3 1,
 zh 5 4,
 zg 6 (.bin .gtr t5 (zi 512)),
 zm 2 6] [2] []
 .ret)),
 [.tmp 2],false⟩
def ir397:IFn:=
⟨(zr [zg 1 (.bx t0 22 true),
 zg 2 (.mov zF)] [1] [1]
 (zr [zp 3 1 0,
 zl 4 3 19,
 zc 5 398 [t4],
 zg 6 (.bin .eql t5 (zi 6)),
 zm 2 6] [2] []
 .ret)),
 [.tmp 2],false⟩
def ir398:IFn:=
⟨(zr [zg 1 (.bx t0 19 true),
 zg 2 (.mov (zi 0))] [1] [1]
 (.seq (.seq (.reg true [zc 8 437 [(zi 1),(zi 8)],
 zp 9 1 0,
 zg 10 (.ldl 1 t9 1 false),
 zg 11 (.bsl 1 1 [zo] [(0,t10)]),
 zg 12 (.callv t8 [t11] false),
 zj 13 12] [1,13] [1])
 (.cond t13
 (zr [zg 2 (.mov (zi 6))] [2] []
 .ret)
 .skip))
 (zr [zc 14 438 [(zi 1),(zi 1073741823)],
 zc 15 438 [(zi 0),(zi 1073741823)],
 zc 16 438 [(zi 0),(zi 536870912)],
 zm 3 14,
 zm 4 15,
 zm 5 16] [1,3,4,5] [1]
 (zr [zp 17 1 2,
 zk 18 17 1,
 zp 19 1 8,
 zk 20 19 1,
 zp 21 1 9,
 zk 22 21 1,
 zp 23 1 10,
 zk 24 23 1,
 zg 25 (.bld [zo,zo,zo,zo] [(0,1,t18),(1,1,t20),(2,1,t22),(3,1,t24)]),
 zg 6 (.al [zo,zo,zo,zo] false),
 zn (.st t6 t25 4)] [1,3,4,5,6] [1]
 (zr [zp 26 1 13,
 zk 27 26 1,
 zp 28 1 14,
 zk 29 28 1,
 zp 30 1 15,
 zk 31 30 1,
 zp 32 1 16,
 zk 33 32 1,
 zp 34 1 17,
 zk 35 34 1,
 zg 36 (.bld [zo,zo,zo,zo,zo] [(0,1,t27),(1,1,t29),(2,1,t31),(3,1,t33),(4,1,t35)]),
 zg 7 (.al [zo,zo,zo,zo,zo] false),
 zn (.st t7 t36 5)] [1,3,4,5,6,7] [1]
 (.seq (.block 0 (.seq (zr [zm 38 3,
 zp 39 1 1,
 zk 40 39 1,
 zp 41 1 3,
 zk 42 41 1,
 zg 43 (.bsl 1 2 [zo] [(0,t40),(1,t42)]),
 zg 44 (.callv t38 [t43] false),
 zj 45 44,
 zm 37 45] [1,4,5,6,7,37] [1]
 (.cond t37
 .skip
 (zr [zm 46 4,
 zg 47 (.slca t6 none 1 4),
 zg 48 (.callv t46 [t47] false),
 zj 49 48,
 zm 37 49] [1,5,7,37] [1]
 (.cond t37
 .skip
 (.reg false [zm 50 5,
 zp 51 1 6,
 zk 52 51 1,
 zp 53 1 7,
 zk 54 53 1,
 zp 55 1 5,
 zk 56 55 1,
 zg 57 (.bsl 1 3 [zo] [(0,t52),(1,t54),(2,t56)]),
 zg 58 (.callv t50 [t57] false),
 zj 59 58,
 zm 37 59] [1,7,37] [1])))))
 (.cond t37
 (zr [zg 2 (.mov (zi 7))] [2] []
 .ret)
 (.seq (.seq (.reg true [zp 61 1 3,
 zg 62 (.ldl 1 t61 1 false),
 zc 63 438 [(zi 1),t62],
 zp 64 1 4,
 zg 65 (.ldl 1 t64 1 false),
 zg 66 (.bsl 1 1 [zo] [(0,t65)]),
 zg 67 (.callv t63 [t66] false),
 zj 68 67,
 zm 60 68] [1,7,60] [1])
 (.cond t60
 .skip
 (.reg true [zp 69 1 4,
 zg 70 (.ldl 1 t69 1 false),
 zc 71 438 [(zi 0),t70],
 zp 72 1 5,
 zg 73 (.ldl 1 t72 1 false),
 zg 74 (.bsl 1 1 [zo] [(0,t73)]),
 zg 75 (.callv t71 [t74] false),
 zj 76 75,
 zm 60 76] [1,7,60] [1])))
 (.cond t60
 (zr [zg 2 (.mov (zi 7))] [2] []
 .ret)
 (.seq (.seq (.reg true [zc 78 437 [(zi 0),(zi 4)],
 zp 79 1 11,
 zg 80 (.ldl 1 t79 1 false),
 zp 81 1 12,
 zg 82 (.ldl 1 t81 1 false),
 zg 83 (.bsl 1 2 [zo] [(0,t80),(1,t82)]),
 zg 84 (.callv t78 [t83] false),
 zj 85 84,
 zm 77 85] [7,77] [])
 (.cond t77
 .skip
 (.reg true [zc 86 437 [(zi 0),(zi 1048576)],
 zg 87 (.slca t7 none 1 5),
 zg 88 (.callv t86 [t87] false),
 zj 89 88,
 zm 77 89] [77] [])))
 (.cond t77
 (zr [zg 2 (.mov (zi 7))] [2] []
 .ret)
 .skip)))))))
 (zr [zg 2 (.mov (zi 0))] [2] []
 .ret))))))),
 [.tmp 2],false⟩
def ir399:IFn:=
⟨(zr [zg 1 (.bx t0 22 true),
 zg 2 (.mov zF)] [1] [1]
 (zr [zp 3 1 0,
 zl 4 3 19,
 zc 5 398 [t4],
 zg 6 (.bin .eql t5 (zi 7)),
 zm 2 6] [2] []
 .ret)),
 [.tmp 2],false⟩
def ir400:IFn:=
⟨(zr [zg 1 (.bx t0 22 true),
 zg 2 (.mov (zi 0))] [1] [1]
 (.seq (.reg true [zc 3 401 [(.c (.p (.fn 402)))],
 zp 4 1 19,
 zg 5 (.ldl 1 t4 1 false),
 zg 6 (.callv t3 [t5] false),
 zm 2 6] [2] [])
 .ret)),
 [.tmp 2],false⟩
def ir401:IFn:=
⟨(zr [zg 1 (.bx t0 1 false),
 zg 2 (.mov (.c (.p .nilf)))] [1] []
 (zr [zg 3 (.mkf (.func 439) [] [t1]),
 zm 2 3] [2] []
 .ret)),
 [.tmp 2],false⟩
end Go.EnvOf
