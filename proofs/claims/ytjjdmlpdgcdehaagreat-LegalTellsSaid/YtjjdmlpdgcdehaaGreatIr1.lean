/- The engine's instructions for the functions, part 1. -/
import Derived.Test.YtjjdmlpdgcdehaaGreatIrT
import Derived.Test.YtjjdmlpdgcdehaaGreatEngAll2
namespace Go.EnvOf
open Go Go.Eng
set_option maxRecDepth 100000
def ir110:IFn:=
⟨(zr [zg 3 (.bx t1 2 true)] [0,3] [3]
 (zr [zm 4 0,
 zg 5 (.eqn .ptr true t4)] [0,3,5] [3]
 (.cond t5
 (.reg true [zm 6 0,
 zm 7 0,
 zg 8 (.nck t7),
 zp 9 8 0,
 zl 10 9 2,
 zg 11 (.ldl 3 t3 2 true),
 zc 12 228 [t10,t11],
 zg 13 (.nck t6),
 zp 14 13 0,
 zn (.st t14 t12 2)] [] [])
 .skip))),
 [],false⟩
def ir115:IFn:=
⟨(zr [zg 2 (.mov (.c (.p .nilp)))] [0] []
 (zr [zm 3 0,
 zc 4 229 [t3],
 zc 5 230 [t4],
 zm 2 5] [2] []
 .ret)),
 [.tmp 2],false⟩
def q0g1:IC:=
 (.loop [1,7,8,9] [1] (zr [zg 10 (.bin .lss t9 t8)] [1,7,8,9,10] [1]
 (.seq (.cond t10
 .skip
 (.exit 0))
 (.seq (.block 1 (zr [zg 11 (.ixs t7 t9 2),
 zl 12 11 2,
 zg 5 (.al [zo,.p .nilf] true),
 zn (.st t5 t12 2)] [1,5,7,8,9] [1,5]
 (zr [zp 13 5 1,
 zk 14 13 1,
 zl 15 1 22,
 zg 16 (.callv t14 [t15] false),
 zm 6 16] [1,5,6,7,8,9] [1,5]
 (zr [zm 17 6,
 zg 18 (.bin .geq t17 (zi 0))] [1,5,6,7,8,9,18] [1,5]
 (.cond t18
 (zr [zp 19 5 0,
 zk 20 19 1,
 zm 21 6,
 zm 2 20,
 zm 3 21] [2,3] []
 .ret)
 .skip)))))
 (.reg false [zg 22 (.bin .add t9 (zi 1)),
 zm 9 22] [1,7,8,9] [1])))))
def ir123:IFn:=
⟨(zr [zg 1 (.bx t0 22 true),
 zg 2 (.mov (zi 0)),
 zg 3 (.mov (zi 0))] [1] [1]
 (.seq (zr [zc 7 232 [],
 zh 8 7,
 zg 9 (.mov (zi 0))] [1,7,8,9] [1]
 (.block 0 q0g1))
 (zr [zg 2 (.mov (zi 0)),
 zg 3 (.mov (zi 0))] [2,3] []
 .ret))),
 [.tmp 2,.tmp 3],false⟩
def ir124:IFn:=
⟨(zr [zg 2 (.mov (.c (.nils)))] [0] []
 (.seq (zr [zm 3 0,
 zg 4 (.eqn .sl false t3)] [0,4] []
 (.cond t4
 (zr [zg 2 (.mov (.c (.nils)))] [2] []
 .ret)
 .skip))
 (zr [zg 5 (.bsl 7 0 [zo,zo,zo,zo,zo,zo,zo] []),
 zm 6 0,
 zg 7 (.app t5 t6 7),
 zm 2 7] [2] []
 .ret))),
 [.tmp 2],true⟩
def ir125:IFn:=
⟨(zr [zg 2 (.mov (.c (.nils)))] [0] []
 (.seq (zr [zm 3 0,
 zg 4 (.eqn .sl false t3)] [0,4] []
 (.cond t4
 (zr [zg 2 (.mov (.c (.nils)))] [2] []
 .ret)
 .skip))
 (zr [zg 5 (.bsl 3 0 [zo,zo,zo] []),
 zm 6 0,
 zg 7 (.app t5 t6 3),
 zm 2 7] [2] []
 .ret))),
 [.tmp 2],true⟩
def ir126:IFn:=
⟨(zr [zg 2 (.mov (.c (.nils)))] [0] []
 (.seq (zr [zm 3 0,
 zg 4 (.eqn .sl false t3)] [0,4] []
 (.cond t4
 (zr [zg 2 (.mov (.c (.nils)))] [2] []
 .ret)
 .skip))
 (zr [zg 5 (.bsl 1 0 [zo] []),
 zm 6 0,
 zg 7 (.app t5 t6 1),
 zm 2 7] [2] []
 .ret))),
 [.tmp 2],true⟩
def ir127:IFn:=
⟨(zr [zg 2 (.mov (.c (.nils)))] [0] []
 (.seq (zr [zm 3 0,
 zg 4 (.eqn .sl false t3)] [0,4] []
 (.cond t4
 (zr [zg 2 (.mov (.c (.nils)))] [2] []
 .ret)
 .skip))
 (zr [zg 5 (.bsl 1 0 [zo] []),
 zm 6 0,
 zg 7 (.app t5 t6 1),
 zm 2 7] [2] []
 .ret))),
 [.tmp 2],true⟩
def q0Vz:IC:=
 (.loop [2,5,11,12] [2] (zr [zg 13 (.bin .lss t12 t11)] [2,5,11,12,13] [2]
 (.seq (.cond t13
 .skip
 (.exit 0))
 (.seq (.block 1 (zr [zm 14 12,
 zm 6 14] [2,5,6,11,12] [2]
 (zr [zm 15 5,
 zm 16 6,
 zg 17 (.ixs t15 t16 7),
 zm 7 17] [2,5,7,11,12] [2]
 (zr [zm 18 7,
 zg 19 (.nck t18),
 zp 20 19 0,
 zk 21 20 1] [2,5,7,11,12,21] [2]
 (.block 2 (zr [zg 23 (.bin .eql t21 (zi 1)),
 zm 22 23] [2,5,7,11,12,21,22] [2]
 (.cond t22
 (.reg true [zg 24 (.ldl 2 t2 1 true),
 zm 25 7,
 zg 26 (.nck t25),
 zp 27 26 1,
 zg 28 (.bsl 1 1 [.p .nilp] [(0,t27)]),
 zc 29 130 [t24,(.c (.p (.fn 132))),t28]] [2,5,11,12] [2])
 (zr [zg 31 (.bin .eql t21 (zi 2)),
 zm 30 31] [2,5,7,11,12,30] [2]
 (.cond t30
 (.seq (.reg true [zg 32 (.ldl 2 t2 1 true),
 zm 33 7,
 zg 34 (.nck t33),
 zp 35 34 1,
 zg 36 (.bsl 1 1 [.p .nilp] [(0,t35)]),
 zc 37 130 [t32,(.c (.p (.fn 233))),t36]] [2,5,7,11,12] [2])
 (.reg false [zm 38 7,
 zm 39 7,
 zm 40 7,
 zg 41 (.nck t38),
 zp 42 41 3,
 zn (.st t42 (zi 0) 1),
 zg 43 (.nck t39),
 zp 44 43 4,
 zn (.st t44 (zi 0) 1),
 zg 45 (.nck t40),
 zp 46 45 5,
 zn (.st t46 (zi 0) 1)] [2,5,11,12] [2]))
 .skip)))))))))
 (.reg false [zg 47 (.bin .add t12 (zi 1)),
 zm 12 47] [2,5,11,12] [2])))))
def ir128:IFn:=
⟨(zr [zg 2 (.bx t0 1 true),
 zg 4 (.mov (.c (.nils)))] [1,2] [2]
 (zr [zm 8 1,
 zc 9 124 [t8],
 zm 5 9] [2,5] [2]
 (.seq (zr [zm 10 5,
 zh 11 10,
 zg 12 (.mov (zi 0))] [2,5,11,12] [2]
 (.block 0 q0Vz))
 (zr [zm 48 5,
 zm 4 48] [4] []
 .ret)))),
 [.tmp 4],false⟩
def q0W0:IC:=
 (.loop [2,5,6,12,13,14,34,35] [2] (zr [zg 36 (.bin .lss t35 t34)] [2,5,6,12,13,14,34,35,36] [2]
 (.seq (.cond t36
 .skip
 (.exit 2))
 (.seq (.block 3 (zr [zm 37 35,
 zm 8 37] [2,5,6,8,12,13,14,34,35] [2]
 (.reg true [zg 38 (.ldl 2 t2 1 true),
 zm 39 5,
 zm 40 6,
 zg 41 (.ixs t39 t40 2),
 zp 42 41 0,
 zk 43 42 1,
 zm 44 8,
 zg 45 (.ixs t43 t44 1),
 zg 46 (.bsl 1 1 [.p .nilp] [(0,t45)]),
 zc 47 130 [t38,(.c (.p (.fn 132))),t46]] [2,5,6,12,13,14,34,35] [2])))
 (.reg false [zg 48 (.bin .add t35 (zi 1)),
 zm 35 48] [2,5,6,12,13,14,34,35] [2])))))
def q0Wo:IC:=
 (.loop [2,5,12,13,14] [2] (zr [zg 15 (.bin .lss t14 t13)] [2,5,12,13,14,15] [2]
 (.seq (.cond t15
 .skip
 (.exit 0))
 (.seq (.block 1 (zr [zm 16 14,
 zg 17 (.ixs t12 t14 2),
 zl 18 17 2,
 zg 7 (.al [.nils,.nils] true),
 zm 6 16,
 zn (.st t7 t18 2)] [2,5,6,7,12,13,14] [2,7]
 (.seq (.reg true [zm 19 5,
 zm 20 6,
 zp 21 7 0,
 zg 22 (.ldl 7 t21 1 false),
 zc 23 126 [t22],
 zp 24 7 1,
 zg 25 (.ldl 7 t24 1 false),
 zc 26 127 [t25],
 zg 27 (.bld [.nils,.nils] [(0,1,t23),(1,1,t26)]),
 zg 28 (.ixs t19 t20 2),
 zn (.st t28 t27 2)] [2,5,6,12,13,14] [2])
 (zr [zm 29 5,
 zm 30 6,
 zg 31 (.ixs t29 t30 2),
 zp 32 31 0,
 zk 33 32 1,
 zh 34 33,
 zg 35 (.mov (zi 0))] [2,5,6,12,13,14,34,35] [2]
 (.block 2 q0W0)))))
 (.reg false [zg 49 (.bin .add t14 (zi 1)),
 zm 14 49] [2,5,12,13,14] [2])))))
def ir129:IFn:=
⟨(zr [zg 2 (.bx t0 1 true),
 zg 4 (.mov (.c (.nils)))] [1,2] [2]
 (zr [zm 9 1,
 zh 10 9,
 zg 11 (.mks 2 [.nils,.nils] t10),
 zm 5 11] [1,2,5] [2]
 (.seq (zr [zm 12 1,
 zh 13 12,
 zg 14 (.mov (zi 0))] [2,5,12,13,14] [2]
 (.block 0 q0Wo))
 (zr [zm 50 5,
 zm 4 50] [4] []
 .ret)))),
 [.tmp 4],false⟩
def q0W1:IC:=
 (.loop [1,3,8,9,10] [3] (zr [zg 11 (.bin .lss t10 t9)] [1,3,8,9,10,11] [3]
 (.seq (.cond t11
 .skip
 (.exit 0))
 (.seq (.block 1 (zr [zg 12 (.ixs t8 t10 1),
 zk 13 12 1,
 zm 7 13] [1,3,7,8,9,10] [3]
 (.reg true [zm 14 7,
 zm 15 1,
 zm 16 7,
 zg 17 (.nck t16),
 zk 18 17 1,
 zp 19 3 0,
 zg 20 (.ldl 3 t19 1 false),
 zg 21 (.callv t15 [t18,t20] false),
 zg 22 (.nck t14),
 zn (.st t22 t21 1)] [1,3,8,9,10] [3])))
 (.reg false [zg 23 (.bin .add t10 (zi 1)),
 zm 10 23] [1,3,8,9,10] [3])))))
def ir130:IFn:=
⟨(zr [zg 3 (.bx t0 1 true)] [1,2,3] [3]
 (zr [zm 8 2,
 zh 9 8,
 zg 10 (.mov (zi 0))] [1,3,8,9,10] [3]
 (.block 0 q0W1))),
 [],false⟩
def ir131:IFn:=
⟨(zr [zg 4 (.mov (zi 0))] [0,1] []
 (zr [zm 5 0,
 zm 6 1,
 zc 7 234 [t5,t6,(.c (.p (.fn 235)))],
 zm 4 7] [4] []
 .ret)),
 [.tmp 4],false⟩
def ir132:IFn:=
⟨(zr [zg 4 (.mov (zi 0))] [0,1] []
 (zr [zm 5 0,
 zm 6 1,
 zc 7 234 [t5,t6,(.c (.p (.fn 236)))],
 zm 4 7] [4] []
 .ret)),
 [.tmp 4],false⟩
def ir133:IFn:=
⟨(zr [zg 1 (.bx t0 7 true),
 zg 2 (.al [zo,zo,zo,zo,zo,zo] true)] [1,2] [1,2]
 (.seq (zr [zp 3 1 0,
 zk 4 3 1] [1,2,4] [1,2]
 (.block 0 (zr [zg 6 (.bin .eql t4 (zi 1)),
 zm 5 6] [1,2,4,5] [1,2]
 (.cond t5
 (zr [zp 7 1 1,
 zk 8 7 1,
 zc 9 237 [t8],
 zn (.st t2 t9 6)] [2] [2]
 .ret)
 (zr [zg 11 (.bin .eql t4 (zi 2)),
 zm 10 11] [1,2,10] [1,2]
 (.cond t10
 (zr [zp 12 1 1,
 zk 13 12 1,
 zp 14 1 3,
 zk 15 14 1,
 zp 16 1 4,
 zk 17 16 1,
 zp 18 1 5,
 zk 19 18 1,
 zc 20 238 [t13,t15,t17,t19],
 zn (.st t2 t20 6)] [2] [2]
 .ret)
 .skip))))))
 (zr [zg 21 (.bld [zo,zo,zo,zo,zo,zo] []),
 zn (.st t2 t21 6)] [2] [2]
 .ret))),
 [.cell 2 6 true],false⟩
def q0g2:IC:=
 (.loop [1,3,5] [1] (zr [zg 6 (.bin .lss t5 (zi 4))] [1,3,5,6] [1]
 (.seq (.cond t6
 .skip
 (.exit 0))
 (.seq (.block 1 (zr [zm 7 5,
 zm 4 7] [1,3,4,5] [1]
 (zr [zm 8 3,
 zm 9 4,
 zp 10 1 1,
 zg 11 (.ixa t10 t9 1 4),
 zk 12 11 1,
 zg 13 (.callv t8 [t12] false),
 zj 14 13] [1,3,5,14] [1]
 (.cond t14
 (zr [zg 2 (.mov zF)] [2] []
 .ret)
 .skip))))
 (.reg false [zg 15 (.bin .add t5 (zi 1)),
 zm 5 15] [1,3,5] [1])))))
def ir134:IFn:=
⟨(zr [zg 1 (.bx t0 6 true),
 zg 2 (.mov zF)] [1] [1]
 (zr [zg 3 (.mov (.c (.p (.fn 239))))] [1,3] [1]
 (.seq (zr [zg 5 (.mov (zi 0))] [1,3,5] [1]
 (.block 0 q0g2))
 (zr [zm 16 3,
 zp 17 1 0,
 zk 18 17 1,
 zg 19 (.callv t16 [t18] false),
 zm 20 19,
 zt 21 20 (.mov t3),
 zt 22 20 (.off t1 5),
 zt 23 20 (.ld t22 1 false),
 zt 24 20 (.callv t21 [t23] false),
 zg 25 (.pick t20 t24 zF),
 zm 2 25] [2] []
 .ret)))),
 [.tmp 2],false⟩
def ir135:IFn:=
⟨(zr [zg 2 (.bx t0 6 true),
 zg 3 (.bx t1 6 true),
 zg 4 (.al [zo,zo,zo,zo,zo,zo] true),
 zg 5 (.mov zF)] [2,3,4] [2,3,4]
 (zr [zl 6 2 6,
 zl 7 3 6,
 zc 8 240 [t6,t7,(.c (.p (.fn 241)))],
 zx 9 8 0,
 zx 10 8 1,
 zn (.st t4 t9 6),
 zm 5 10] [4,5] [4]
 .ret)),
 [.cell 4 6 true,.tmp 5],false⟩
def ir136:IFn:=
⟨(zr [zg 4 (.al [zo,zo,zo] true),
 zg 5 (.mov zF)] [0,1,4] [4]
 (.seq (zr [zm 6 1,
 zg 7 (.bin .lss t6 (zi 0)),
 zm 8 7,
 zf 9 8 (.mov t1),
 zf 10 8 (.mov t0),
 zf 11 8 (.len t10),
 zf 12 8 (.bin .geq t9 t11),
 zg 13 (.pick t8 zT t12)] [0,1,4,13] [4]
 (.cond t13
 (zr [zg 14 (.bld [zo,zo,zo] []),
 zn (.st t4 t14 3),
 zg 5 (.mov zF)] [4,5] [4]
 .ret)
 .skip))
 (zr [zm 15 0,
 zm 16 1,
 zg 17 (.ixs t15 t16 3),
 zl 18 17 3,
 zn (.st t4 t18 3),
 zg 5 (.mov zT)] [4,5] [4]
 .ret))),
 [.cell 4 3 true,.tmp 5],false⟩
def ir137:IFn:=
⟨(zr [zg 4 (.mov (zi 0)),
 zg 5 (.mov zF)] [0,1] []
 (.seq (zr [zm 6 0,
 zg 7 (.eqn .ptr false t6)] [0,1,7] []
 (.cond t7
 (zr [zg 4 (.mov (zi 0)),
 zg 5 (.mov zF)] [4,5] []
 .ret)
 .skip))
 (zr [zm 8 1,
 zg 9 (.mnmx true t8 (zi 0)),
 zm 10 0,
 zg 11 (.nck t10),
 zp 12 11 0,
 zk 13 12 1,
 zh 14 13,
 zg 15 (.mnmx false t9 t14),
 zm 4 15,
 zg 5 (.mov zT)] [4,5] []
 .ret))),
 [.tmp 4,.tmp 5],false⟩
def ir138:IFn:=
⟨(zr [zg 2 (.mov (zi 0))] [0] []
 (.seq (zr [zm 3 0,
 zg 4 (.eqn .ptr false t3)] [0,4] []
 (.cond t4
 (zr [zg 2 (.mov (zi 0))] [2] []
 .ret)
 .skip))
 (zr [zm 5 0,
 zg 6 (.nck t5),
 zp 7 6 0,
 zk 8 7 1,
 zh 9 8,
 zm 2 9] [2] []
 .ret))),
 [.tmp 2],false⟩
def q0Wp:IC:=
 (.loop [1,3,4] [1,3] (.seq (zr [zm 24 4,
 zg 25 (.bin .lss t24 (zi 3))] [1,3,4,25] [1,3]
 (.cond t25
 .skip
 (.exit 0)))
 (.seq (.block 1 (zr [zm 28 4,
 zg 29 (.ixa t3 t28 1 3),
 zk 30 29 1,
 zg 31 (.bin .lss t30 (zi 1)),
 zm 32 31,
 zf 33 32 (.mov t4),
 zf 34 32 (.ixa t3 t33 1 3),
 zf 35 32 (.ld t34 1 false),
 zf 36 32 (.bin .gtr t35 (zi 1073741823)),
 zg 37 (.pick t32 zT t36)] [1,3,4,37] [1,3]
 (.cond t37
 (zr [zg 2 (.mov (zi 7))] [2] []
 .ret)
 .skip)))
 (.reg false [zm 26 4,
 zg 27 (.bin .add t26 (zi 1)),
 zm 4 27] [1,3,4] [1,3]))))
def q0Wq:IC:=
 (.loop [1,5,6] [1,5] (.seq (zr [zm 53 6,
 zg 54 (.bin .lss t53 (zi 7))] [1,5,6,54] [1,5]
 (.cond t54
 .skip
 (.exit 2)))
 (.seq (.block 3 (zr [zm 57 6,
 zg 58 (.ixa t5 t57 1 7),
 zk 59 58 1,
 zg 60 (.bin .lss t59 (zi 0)),
 zm 61 60,
 zf 62 61 (.mov t6),
 zf 63 61 (.ixa t5 t62 1 7),
 zf 64 61 (.ld t63 1 false),
 zf 65 61 (.bin .gtr t64 (zi 1073741823)),
 zg 66 (.pick t61 zT t65)] [1,5,6,66] [1,5]
 (.cond t66
 (zr [zg 2 (.mov (zi 7))] [2] []
 .ret)
 .skip)))
 (.reg false [zm 55 6,
 zg 56 (.bin .add t55 (zi 1)),
 zm 6 56] [1,5,6] [1,5]))))
def q0Wr:IC:=
 (.loop [1,7,8] [1,7] (.seq (zr [zm 82 8,
 zg 83 (.bin .lss t82 (zi 7))] [1,7,8,83] [1,7]
 (.cond t83
 .skip
 (.exit 4)))
 (.seq (.block 5 (zr [zm 86 8,
 zg 87 (.ixa t7 t86 1 7),
 zk 88 87 1,
 zg 89 (.bin .lss t88 (zi 0)),
 zm 90 89,
 zf 91 90 (.mov t8),
 zf 92 90 (.ixa t7 t91 1 7),
 zf 93 90 (.ld t92 1 false),
 zf 94 90 (.bin .gtr t93 (zi 1048576)),
 zg 95 (.pick t90 zT t94),
 zm 96 95,
 zf 97 96 (.mov t8),
 zf 98 96 (.bin .lss t97 (zi 2)),
 zf 99 96 (.mov t98),
 zt 100 99 (.mov t8),
 zt 101 99 (.ixa t7 t100 1 7),
 zt 102 99 (.ld t101 1 false),
 zt 103 99 (.bin .gtr t102 (zi 4)),
 zf 104 96 (.pick t99 t103 zF),
 zg 105 (.pick t96 zT t104)] [1,7,8,105] [1,7]
 (.cond t105
 (zr [zg 2 (.mov (zi 7))] [2] []
 .ret)
 .skip)))
 (.reg false [zm 84 8,
 zg 85 (.bin .add t84 (zi 1)),
 zm 8 85] [1,7,8] [1,7]))))
def ir139:IFn:=
⟨(zr [zg 1 (.bx t0 19 true),
 zg 2 (.mov (zi 0))] [1] [1]
 (.seq (zr [zp 9 1 0,
 zk 10 9 1,
 zg 11 (.bin .lss t10 (zi 1)),
 zm 12 11,
 zf 13 12 (.off t1 0),
 zf 14 12 (.ld t13 1 false),
 zf 15 12 (.bin .gtr t14 (zi 8)),
 zg 16 (.pick t12 zT t15)] [1,16] [1]
 (.cond t16
 (zr [zg 2 (.mov (zi 6))] [2] []
 .ret)
 .skip))
 (zr [zp 17 1 1,
 zk 18 17 1,
 zp 19 1 3,
 zk 20 19 1,
 zp 21 1 4,
 zk 22 21 1,
 zg 23 (.bld [zo,zo,zo] [(0,1,t18),(1,1,t20),(2,1,t22)]),
 zg 3 (.al [zo,zo,zo] true),
 zn (.st t3 t23 3)] [1,3] [1,3]
 (.seq (zr [zg 4 (.mov (zi 0))] [1,3,4] [1,3]
 (.block 0 q0Wp))
 (zr [zp 38 1 2,
 zk 39 38 1,
 zp 40 1 6,
 zk 41 40 1,
 zp 42 1 7,
 zk 43 42 1,
 zp 44 1 8,
 zk 45 44 1,
 zp 46 1 9,
 zk 47 46 1,
 zp 48 1 10,
 zk 49 48 1,
 zp 50 1 5,
 zk 51 50 1,
 zg 52 (.bld [zo,zo,zo,zo,zo,zo,zo] [(0,1,t39),(1,1,t41),(2,1,t43),(3,1,t45),(4,1,t47),(5,1,t49),(6,1,t51)]),
 zg 5 (.al [zo,zo,zo,zo,zo,zo,zo] true),
 zn (.st t5 t52 7)] [1,5] [1,5]
 (.seq (zr [zg 6 (.mov (zi 0))] [1,5,6] [1,5]
 (.block 2 q0Wq))
 (zr [zp 67 1 11,
 zk 68 67 1,
 zp 69 1 12,
 zk 70 69 1,
 zp 71 1 13,
 zk 72 71 1,
 zp 73 1 14,
 zk 74 73 1,
 zp 75 1 15,
 zk 76 75 1,
 zp 77 1 16,
 zk 78 77 1,
 zp 79 1 17,
 zk 80 79 1,
 zg 81 (.bld [zo,zo,zo,zo,zo,zo,zo] [(0,1,t68),(1,1,t70),(2,1,t72),(3,1,t74),(4,1,t76),(5,1,t78),(6,1,t80)]),
 zg 7 (.al [zo,zo,zo,zo,zo,zo,zo] true),
 zn (.st t7 t81 7)] [1,7] [1,7]
 (.seq (zr [zg 8 (.mov (zi 0))] [1,7,8] [1,7]
 (.block 4 q0Wr))
 (.seq (zr [zp 106 1 4,
 zk 107 106 1,
 zp 108 1 3,
 zk 109 108 1,
 zg 110 (.bin .gtr t107 t109),
 zm 111 110,
 zf 112 111 (.off t1 5),
 zf 113 111 (.ld t112 1 false),
 zf 114 111 (.off t1 4),
 zf 115 111 (.ld t114 1 false),
 zf 116 111 (.bin .gtr t113 t115),
 zg 117 (.pick t111 zT t116),
 zm 118 117,
 zf 119 118 (.off t1 5),
 zf 120 118 (.ld t119 1 false),
 zf 121 118 (.bin .gtr t120 (zi 536870912)),
 zg 122 (.pick t118 zT t121),
 zm 123 122,
 zf 124 123 (.off t1 6),
 zf 125 123 (.ld t124 1 false),
 zf 126 123 (.bin .gtr t125 (zi 536870912)),
 zg 127 (.pick t123 zT t126),
 zm 128 127,
 zf 129 128 (.off t1 7),
 zf 130 128 (.ld t129 1 false),
 zf 131 128 (.bin .gtr t130 (zi 536870912)),
 zg 132 (.pick t128 zT t131)] [132] []
 (.cond t132
 (zr [zg 2 (.mov (zi 7))] [2] []
 .ret)
 .skip))
 (zr [zg 2 (.mov (zi 0))] [2] []
 .ret)))))))))),
 [.tmp 2],false⟩
def ir140:IFn:=
⟨(zr [zg 1 (.bx t0 7 true),
 zg 2 (.mov zF)] [1] [1]
 (zr [zp 4 1 0,
 zk 5 4 1,
 zg 6 (.bld [zo,zo,zo,zo,zo,zo,zo] [(0,1,t5)]),
 zg 3 (.al [zo,zo,zo,zo,zo,zo,zo] true),
 zn (.st t3 t6 7)] [1,3] [1,3]
 (.seq (zr [zp 7 1 0,
 zk 8 7 1] [1,3,8] [1,3]
 (.block 0 (zr [zg 10 (.bin .eql t8 (zi 1)),
 zm 9 10] [1,3,8,9] [1,3]
 (.cond t9
 (zr [zp 11 1 1,
 zk 12 11 1,
 zp 13 3 1,
 zn (.st t13 t12 1)] [1,3] [1,3]
 (.reg false [zp 14 1 2,
 zk 15 14 1,
 zp 16 3 2,
 zn (.st t16 t15 1)] [1,3] [1,3]))
 (zr [zg 18 (.bin .eql t8 (zi 2)),
 zm 17 18] [1,3,8,17] [1,3]
 (.cond t17
 (zr [zp 19 1 1,
 zk 20 19 1,
 zp 21 3 1,
 zn (.st t21 t20 1)] [1,3] [1,3]
 (zr [zp 22 1 3,
 zk 23 22 1,
 zp 24 3 3,
 zn (.st t24 t23 1)] [1,3] [1,3]
 (zr [zp 25 1 4,
 zk 26 25 1,
 zp 27 3 4,
 zn (.st t27 t26 1)] [1,3] [1,3]
 (.reg false [zp 28 1 5,
 zk 29 28 1,
 zp 30 3 5,
 zn (.st t30 t29 1)] [1,3] [1,3]))))
 (zr [zg 32 (.bin .eql t8 (zi 3)),
 zm 31 32] [1,3,8,31] [1,3]
 (.cond t31
 (zr [zp 33 1 6,
 zk 34 33 1,
 zp 35 3 6,
 zn (.st t35 t34 1)] [1,3] [1,3]
 (zr [zp 36 1 6,
 zk 37 36 1,
 zg 38 (.bin .neq t37 (zi (-10000))),
 zm 39 38,
 zt 40 39 (.off t1 6),
 zt 41 39 (.ld t40 1 false),
 zt 42 39 (.bin .lss t41 (zi 0)),
 zt 43 39 (.mov t42),
 zf 44 43 (.off t1 6),
 zf 45 43 (.ld t44 1 false),
 zf 46 43 (.bin .gtr t45 (zi 10000)),
 zt 47 39 (.pick t43 zT t46),
 zg 48 (.pick t39 t47 zF)] [1,3,48] [1,3]
 (.cond t48
 (zr [zg 2 (.mov zF)] [2] []
 .ret)
 .skip)))
 (zr [zg 50 (.bin .eql t8 (zi 4)),
 zm 49 50] [1,3,8,49] [1,3]
 (.cond t49
 (zr [zp 51 1 6,
 zk 52 51 1,
 zp 53 3 6,
 zn (.st t53 t52 1)] [1,3] [1,3]
 (zr [zp 54 1 6,
 zk 55 54 1,
 zg 56 (.bin .lss t55 (zi 0)),
 zm 57 56,
 zf 58 57 (.off t1 6),
 zf 59 57 (.ld t58 1 false),
 zf 60 57 (.bin .gtr t59 (zi 1048576)),
 zg 61 (.pick t57 zT t60)] [1,3,61] [1,3]
 (.cond t61
 (zr [zg 2 (.mov zF)] [2] []
 .ret)
 .skip)))
 (zr [zg 63 (.bin .eql t8 (zi 5)),
 zm 62 63] [1,3,8,62] [1,3]
 (.cond t62
 (zr [zp 64 1 6,
 zk 65 64 1,
 zp 66 3 6,
 zn (.st t66 t65 1)] [1,3] [1,3]
 (zr [zp 67 1 6,
 zk 68 67 1,
 zg 69 (.bin .lss t68 (zi 0)),
 zm 70 69,
 zf 71 70 (.off t1 6),
 zf 72 70 (.ld t71 1 false),
 zf 73 70 (.bin .gtr t72 (zi 511)),
 zg 74 (.pick t70 zT t73)] [1,3,74] [1,3]
 (.cond t74
 (zr [zg 2 (.mov zF)] [2] []
 .ret)
 .skip)))
 (zr [zg 76 (.bin .eql t8 (zi 6)),
 zm 75 76] [1,3,8,75] [1,3]
 (.cond t75
 (zr [zp 77 1 6,
 zk 78 77 1,
 zp 79 3 6,
 zn (.st t79 t78 1)] [1,3] [1,3]
 (zr [zp 80 1 6,
 zk 81 80 1,
 zg 82 (.bin .lss t81 (zi 0)),
 zm 83 82,
 zf 84 83 (.off t1 6),
 zf 85 83 (.ld t84 1 false),
 zf 86 83 (.bin .gtr t85 (zi 255)),
 zg 87 (.pick t83 zT t86)] [1,3,87] [1,3]
 (.cond t87
 (zr [zg 2 (.mov zF)] [2] []
 .ret)
 .skip)))
 (zr [zg 89 (.bin .eql t8 (zi 7)),
 zm 88 89] [1,3,88] [1,3]
 (.cond t88
 .skip
 (zr [zg 2 (.mov zF)] [2] []
 .ret)))))))))))))))))
 (zr [zl 90 1 7,
 zl 91 3 7,
 zg 92 (.eqa false [true,true,true,true,true,true,true] t90 t91),
 zm 93 92,
 zt 94 93 (.off t1 1),
 zt 95 93 (.ld t94 1 false),
 zt 96 93 (.call 242 [t95] false),
 zg 97 (.pick t93 t96 zF),
 zm 98 97,
 zt 99 98 (.off t1 3),
 zt 100 98 (.ld t99 1 false),
 zt 101 98 (.call 242 [t100] false),
 zg 102 (.pick t98 t101 zF),
 zm 103 102,
 zt 104 103 (.off t1 5),
 zt 105 103 (.ld t104 1 false),
 zt 106 103 (.call 242 [t105] false),
 zg 107 (.pick t103 t106 zF),
 zm 108 107,
 zt 109 108 (.off t1 2),
 zt 110 108 (.ld t109 1 false),
 zt 111 108 (.bin .geq t110 (zi 0)),
 zg 112 (.pick t108 t111 zF),
 zm 113 112,
 zt 114 113 (.off t1 2),
 zt 115 113 (.ld t114 1 false),
 zt 116 113 (.bin .leq t115 (zi 3)),
 zg 117 (.pick t113 t116 zF),
 zm 118 117,
 zt 119 118 (.off t1 4),
 zt 120 118 (.ld t119 1 false),
 zt 121 118 (.bin .geq t120 (zi 0)),
 zg 122 (.pick t118 t121 zF),
 zm 123 122,
 zt 124 123 (.off t1 4),
 zt 125 123 (.ld t124 1 false),
 zt 126 123 (.bin .leq t125 (zi 3)),
 zg 127 (.pick t123 t126 zF),
 zm 128 127,
 zt 129 128 (.off t1 0),
 zt 130 128 (.ld t129 1 false),
 zt 131 128 (.bin .neq t130 (zi 2)),
 zt 132 128 (.mov t131),
 zf 133 132 (.off t1 5),
 zf 134 132 (.ld t133 1 false),
 zf 135 132 (.off t1 1),
 zf 136 132 (.ld t135 1 false),
 zf 137 132 (.bin .leq t134 t136),
 zt 138 128 (.pick t132 zT t137),
 zg 139 (.pick t128 t138 zF),
 zm 2 139] [2] []
 .ret)))),
 [.tmp 2],false⟩
def q053:IC:=
 (.loop [1,3] [1] (.seq (zr [zm 25 3,
 zp 26 1 0,
 zk 27 26 1,
 zh 28 27,
 zg 29 (.bin .lss t25 t28)] [1,3,29] [1]
 (.cond t29
 .skip
 (.exit 0)))
 (.seq (.block 1 (zr [zp 32 1 0,
 zk 33 32 1,
 zm 34 3,
 zg 35 (.ixs t33 t34 1),
 zk 36 35 1,
 zg 37 (.bin .lss t36 (zi 1)),
 zm 38 37,
 zf 39 38 (.off t1 0),
 zf 40 38 (.ld t39 1 false),
 zf 41 38 (.mov t3),
 zf 42 38 (.ixs t40 t41 1),
 zf 43 38 (.ld t42 1 false),
 zf 44 38 (.bin .gtr t43 (zi 1073741823)),
 zg 45 (.pick t38 zT t44)] [1,3,45] [1]
 (.cond t45
 (zr [zg 2 (.mov zF)] [2] []
 .ret)
 .skip)))
 (.reg false [zm 30 3,
 zg 31 (.bin .add t30 (zi 1)),
 zm 3 31] [1,3] [1]))))
def q0Wf:IC:=
 (.loop [1,4] [1] (.seq (zr [zm 46 4,
 zp 47 1 1,
 zk 48 47 1,
 zh 49 48,
 zg 50 (.bin .lss t46 t49)] [1,4,50] [1]
 (.cond t50
 .skip
 (.exit 2)))
 (.seq (.block 3 (zr [zp 53 1 1,
 zk 54 53 1,
 zm 55 4,
 zg 56 (.ixs t54 t55 1),
 zk 57 56 1,
 zg 58 (.bin .lss t57 (zi 0)),
 zm 59 58,
 zf 60 59 (.off t1 1),
 zf 61 59 (.ld t60 1 false),
 zf 62 59 (.mov t4),
 zf 63 59 (.ixs t61 t62 1),
 zf 64 59 (.ld t63 1 false),
 zf 65 59 (.bin .gtr t64 (zi 10000)),
 zg 66 (.pick t59 zT t65)] [1,4,66] [1]
 (.cond t66
 (zr [zg 2 (.mov zF)] [2] []
 .ret)
 .skip)))
 (.reg false [zm 51 4,
 zg 52 (.bin .add t51 (zi 1)),
 zm 4 52] [1,4] [1]))))
def ir141:IFn:=
⟨(zr [zg 1 (.bx t0 2 true),
 zg 2 (.mov zF)] [1] [1]
 (.seq (zr [zp 5 1 0,
 zk 6 5 1,
 zh 7 6,
 zg 8 (.bin .lss t7 (zi 1)),
 zm 9 8,
 zf 10 9 (.off t1 0),
 zf 11 9 (.ld t10 1 false),
 zf 12 9 (.len t11),
 zf 13 9 (.bin .gtr t12 (zi 64)),
 zg 14 (.pick t9 zT t13),
 zm 15 14,
 zf 16 15 (.off t1 1),
 zf 17 15 (.ld t16 1 false),
 zf 18 15 (.len t17),
 zf 19 15 (.off t1 0),
 zf 20 15 (.ld t19 1 false),
 zf 21 15 (.len t20),
 zf 22 15 (.bin .sub t21 (zi 1)),
 zf 23 15 (.bin .neq t18 t22),
 zg 24 (.pick t15 zT t23)] [1,24] [1]
 (.cond t24
 (zr [zg 2 (.mov zF)] [2] []
 .ret)
 .skip))
 (.seq (zr [zg 3 (.mov (zi 0))] [1,3] [1]
 (.block 0 q053))
 (.seq (zr [zg 4 (.mov (zi 0))] [1,4] [1]
 (.block 2 q0Wf))
 (zr [zg 2 (.mov zT)] [2] []
 .ret))))),
 [.tmp 2],false⟩
def ir142:IFn:=
⟨(zr [zg 1 (.bx t0 3 true),
 zg 2 (.mov zF)] [1] [1]
 (zr [zp 3 1 0,
 zk 4 3 1,
 zg 5 (.bin .geq t4 (zi 0)),
 zm 6 5,
 zt 7 6 (.off t1 0),
 zt 8 6 (.ld t7 1 false),
 zt 9 6 (.bin .leq t8 (zi 2)),
 zg 10 (.pick t6 t9 zF),
 zm 11 10,
 zt 12 11 (.off t1 1),
 zt 13 11 (.ld t12 1 false),
 zt 14 11 (.bin .geq t13 (zi 1)),
 zg 15 (.pick t11 t14 zF),
 zm 16 15,
 zt 17 16 (.off t1 1),
 zt 18 16 (.ld t17 1 false),
 zt 19 16 (.bin .leq t18 (zi 1073741823)),
 zg 20 (.pick t16 t19 zF),
 zm 21 20,
 zt 22 21 (.off t1 2),
 zt 23 21 (.ld t22 1 false),
 zt 24 21 (.bin .geq t23 (zi 0)),
 zg 25 (.pick t21 t24 zF),
 zm 26 25,
 zt 27 26 (.off t1 2),
 zt 28 26 (.ld t27 1 false),
 zt 29 26 (.bin .leq t28 (zi 3)),
 zg 30 (.pick t26 t29 zF),
 zm 2 30] [2] []
 .ret)),
 [.tmp 2],false⟩
def q0Ws:IC:=
 (.loop [0,1,2,7,8] [] (.seq (zr [zm 9 8,
 zm 10 0,
 zh 11 10,
 zg 12 (.bin .lss t9 t11)] [0,1,2,7,8,12] []
 (.cond t12
 .skip
 (.exit 0)))
 (.seq (.block 1 (zr [zm 15 0,
 zm 16 8,
 zg 17 (.ixs t15 t16 7),
 zp 18 17 0,
 zk 19 18 1,
 zm 20 1,
 zg 21 (.bin .eql t19 t20)] [0,1,2,7,8,21] []
 (.cond t21
 (.seq (zr [zm 22 0,
 zm 23 8,
 zg 24 (.ixs t22 t23 7),
 zp 25 24 6,
 zk 26 25 1,
 zm 27 7,
 zg 28 (.bin .neq t26 t27),
 zm 29 28,
 zf 30 29 (.mov t7),
 zf 31 29 (.mov t2),
 zf 32 29 (.bin .geq t30 t31),
 zg 33 (.pick t29 zT t32)] [0,1,2,7,8,33] []
 (.cond t33
 (zr [zm 34 8,
 zm 6 34] [6] []
 .ret)
 .skip))
 (.reg false [zm 35 7,
 zg 36 (.bin .add t35 (zi 1)),
 zm 7 36] [0,1,2,7,8] []))
 .skip)))
 (.reg false [zm 13 8,
 zg 14 (.bin .add t13 (zi 1)),
 zm 8 14] [0,1,2,7,8] []))))
def ir143:IFn:=
⟨(zr [zg 6 (.mov (zi 0))] [0,1,2] []
 (zr [zg 7 (.mov (zi 0))] [0,1,2,7] []
 (.seq (zr [zg 8 (.mov (zi 0))] [0,1,2,7,8] []
 (.block 0 q0Ws))
 (.seq (zr [zm 37 7,
 zm 38 2,
 zg 39 (.bin .lss t37 t38)] [0,39] []
 (.cond t39
 (zr [zm 40 0,
 zh 41 40,
 zm 6 41] [6] []
 .ret)
 .skip))
 (zr [zg 6 (.mov (zi (-1)))] [6] []
 .ret))))),
 [.tmp 6],false⟩
def ir144:IFn:=
⟨(zr [zg 4 (.mov (zi 0))] [0,1] []
 (zr [zm 5 0,
 zm 6 1,
 zc 7 244 [t5,t6],
 zm 8 0,
 zc 9 243 [t7,t8],
 zm 4 9] [4] []
 .ret)),
 [.tmp 4],false⟩
def ir145:IFn:=
⟨(zr [zg 4 (.mov (zi 0))] [0,1] []
 (zr [zm 5 0,
 zm 6 1,
 zc 7 245 [t5,t6],
 zm 8 0,
 zc 9 243 [t7,t8],
 zm 4 9] [4] []
 .ret)),
 [.tmp 4],false⟩
def ir146:IFn:=
⟨(zr [zg 2 (.bx t0 7 true),
 zg 4 (.al [zo,zo,zo,zo,zo,zo,zo] true)] [1,2,4] [2,4]
 (.seq (zr [zp 5 2 0,
 zk 6 5 1,
 zg 7 (.bin .eql t6 (zi 1))] [1,2,4,7] [2,4]
 (.cond t7
 (.reg false [zp 8 2 1,
 zk 9 8 1,
 zm 10 1,
 zc 11 145 [t9,t10],
 zp 12 2 1,
 zn (.st t12 t11 1)] [1,2,4] [2,4])
 .skip))
 (.seq (zr [zp 13 2 0,
 zk 14 13 1,
 zg 15 (.bin .eql t14 (zi 2))] [1,2,4,15] [2,4]
 (.cond t15
 (zr [zp 16 2 1,
 zk 17 16 1,
 zm 18 1,
 zc 19 246 [t17,t18],
 zp 20 2 1,
 zn (.st t20 t19 1)] [2,4] [2,4]
 (zr [zp 21 2 3,
 zn (.st t21 (zi 0) 1)] [2,4] [2,4]
 (zr [zp 22 2 4,
 zn (.st t22 (zi 0) 1)] [2,4] [2,4]
 (.reg false [zp 23 2 5,
 zn (.st t23 (zi 0) 1)] [2,4] [2,4]))))
 .skip))
 (zr [zl 24 2 7,
 zn (.st t4 t24 7)] [4] [4]
 .ret)))),
 [.cell 4 7 true],false⟩
def ir147:IFn:=
⟨(zr [zg 2 (.bx t0 22 true),
 zg 4 (.mov (zi 0))] [1,2] [2]
 (zr [zp 5 2 0,
 zp 6 5 19,
 zk 7 6 1,
 zm 8 1,
 zc 9 247 [t7,(zi 5),(zi 0),t8],
 zh 10 9,
 zm 4 10] [4] []
 .ret)),
 [.tmp 4],false⟩
def ir148:IFn:=
⟨(zr [zg 2 (.bx t0 2 true),
 zg 4 (.mov zF)] [1,2] [2]
 (zr [zm 5 1,
 zp 6 2 0,
 zk 7 6 1,
 zh 8 7,
 zg 9 (.bin .eql t5 t8),
 zm 10 9,
 zf 11 10 (.ld t2 2 true),
 zf 12 10 (.mov t1),
 zf 13 10 (.call 158 [t11,t12] false),
 zg 14 (.pick t10 zT t13),
 zm 4 14] [4] []
 .ret)),
 [.tmp 4],false⟩
def q0Wt:IC:=
 (.loop [0,1,2,6,7,8] [6,7] (.seq (zr [zm 10 8,
 zm 11 0,
 zh 12 11,
 zg 13 (.bin .lss t10 t12)] [0,1,2,6,7,8,13] [6,7]
 (.cond t13
 .skip
 (.exit 0)))
 (.seq (.block 1 (zr [zm 16 8,
 zm 17 2,
 zg 18 (.bin .lss t16 t17),
 zm 19 18,
 zt 20 19 (.mov t0),
 zt 21 19 (.mov t8),
 zt 22 19 (.ixs t20 t21 7),
 zt 23 19 (.off t22 0),
 zt 24 19 (.ld t23 1 false),
 zt 25 19 (.bin .eql t24 (zi 6)),
 zg 26 (.pick t19 t25 zF),
 zm 27 26,
 zt 28 27 (.mov t0),
 zt 29 27 (.mov t8),
 zt 30 27 (.ixs t28 t29 7),
 zt 31 27 (.off t30 6),
 zt 32 27 (.ld t31 1 false),
 zt 33 27 (.bin .geq t32 (zi 0)),
 zg 34 (.pick t27 t33 zF),
 zm 35 34,
 zt 36 35 (.mov t0),
 zt 37 35 (.mov t8),
 zt 38 35 (.ixs t36 t37 7),
 zt 39 35 (.off t38 6),
 zt 40 35 (.ld t39 1 false),
 zt 41 35 (.mov t1),
 zt 42 35 (.len t41),
 zt 43 35 (.bin .lss t40 t42),
 zg 44 (.pick t35 t43 zF)] [0,1,2,6,7,8,44] [6,7]
 (.cond t44
 (zr [zm 45 1,
 zm 46 0,
 zm 47 8,
 zg 48 (.ixs t46 t47 7),
 zp 49 48 6,
 zk 50 49 1,
 zg 51 (.ixs t45 t50 3),
 zp 52 51 0,
 zk 53 52 1,
 zm 9 53] [0,1,2,6,7,8,9] [6,7]
 (zr [zm 54 9,
 zg 55 (.bin .geq t54 (zi 0)),
 zm 56 55,
 zt 57 56 (.mov t9),
 zt 58 56 (.bin .lss t57 (zi 3)),
 zg 59 (.pick t56 t58 zF)] [0,1,2,6,7,8,9,59] [6,7]
 (.cond t59
 (.reg false [zm 60 9,
 zm 61 9,
 zg 62 (.ixa t7 t61 1 3),
 zk 63 62 1,
 zg 64 (.bin .add t63 (zi 1)),
 zg 65 (.ixa t7 t60 1 3),
 zn (.st t65 t64 1)] [0,1,2,6,7,8] [6,7])
 .skip)))
 .skip)))
 (.reg false [zm 14 8,
 zg 15 (.bin .add t14 (zi 1)),
 zm 8 15] [0,1,2,6,7,8] [6,7]))))
def ir149:IFn:=
⟨(zr [zg 6 (.al [zo,zo,zo] true)] [0,1,2,6] [6]
 (zr [zg 7 (.al [zo,zo,zo] true)] [0,1,2,6,7] [6,7]
 (.seq (zr [zg 8 (.mov (zi 0))] [0,1,2,6,7,8] [6,7]
 (.block 0 q0Wt))
 (zr [zl 66 7 3,
 zn (.st t6 t66 3)] [6] [6]
 .ret)))),
 [.cell 6 3 true],false⟩
def ir150:IFn:=
⟨(zr [zg 2 (.bx t0 3 true),
 zg 3 (.bx t1 3 true),
 zg 4 (.mov zF)] [2,3] [2,3]
 (zr [zg 5 (.ixa t2 (zi 0) 1 3),
 zk 6 5 1,
 zg 7 (.ixa t3 (zi 0) 1 3),
 zk 8 7 1,
 zg 9 (.bin .leq t6 t8),
 zm 10 9,
 zt 11 10 (.ixa t2 (zi 1) 1 3),
 zt 12 10 (.ld t11 1 false),
 zt 13 10 (.ixa t3 (zi 1) 1 3),
 zt 14 10 (.ld t13 1 false),
 zt 15 10 (.bin .leq t12 t14),
 zg 16 (.pick t10 t15 zF),
 zm 17 16,
 zt 18 17 (.ixa t2 (zi 2) 1 3),
 zt 19 17 (.ld t18 1 false),
 zt 20 17 (.ixa t3 (zi 2) 1 3),
 zt 21 17 (.ld t20 1 false),
 zt 22 17 (.bin .leq t19 t21),
 zg 23 (.pick t17 t22 zF),
 zm 4 23] [4] []
 .ret)),
 [.tmp 4],false⟩
def q0Wu:IC:=
 (.loop [0,1,7,8] [] (.seq (zr [zm 15 8,
 zm 16 1,
 zh 17 16,
 zg 18 (.bin .lss t15 t17)] [0,1,7,8,18] []
 (.cond t18
 .skip
 (.exit 0)))
 (.seq (.block 1 (zr [zm 21 1,
 zm 22 8,
 zg 23 (.ixs t21 t22 3),
 zp 24 23 0,
 zk 25 24 1,
 zg 26 (.bin .geq t25 (zi 0)),
 zm 27 26,
 zt 28 27 (.mov t1),
 zt 29 27 (.mov t8),
 zt 30 27 (.ixs t28 t29 3),
 zt 31 27 (.off t30 0),
 zt 32 27 (.ld t31 1 false),
 zt 33 27 (.mov t0),
 zt 34 27 (.len t33),
 zt 35 27 (.bin .lss t32 t34),
 zg 36 (.pick t27 t35 zF)] [0,1,7,8,36] []
 (.cond t36
 (.reg true [zm 37 7,
 zm 38 0,
 zm 39 1,
 zm 40 8,
 zg 41 (.ixs t39 t40 3),
 zp 42 41 0,
 zk 43 42 1,
 zg 44 (.ixs t38 t43 2),
 zl 45 44 2,
 zm 46 1,
 zm 47 8,
 zg 48 (.ixs t46 t47 3),
 zp 49 48 1,
 zk 50 49 1,
 zm 51 1,
 zm 52 8,
 zg 53 (.ixs t51 t52 3),
 zp 54 53 2,
 zk 55 54 1,
 zc 56 248 [t45,t50,t55],
 zg 57 (.bin .add t37 t56),
 zg 58 (.mnmx false t57 (zi 1125899906842624)),
 zm 7 58] [0,1,7,8] [])
 .skip)))
 (.reg false [zm 19 8,
 zg 20 (.bin .add t19 (zi 1)),
 zm 8 20] [0,1,7,8] []))))
def ir151:IFn:=
⟨(zr [zg 6 (.mov (zi 0))] [0,1,2] []
 (.seq (zr [zm 9 1,
 zh 10 9,
 zg 11 (.bin .eql t10 (zi 0))] [0,1,2,11] []
 (.cond t11
 (zr [zg 6 (.mov (zi 0))] [6] []
 .ret)
 .skip))
 (zr [zm 12 2,
 zg 13 (.mnmx false t12 (zi 1125899906842624)),
 zg 14 (.mnmx true (zi 0) t13),
 zm 7 14] [0,1,7] []
 (.seq (zr [zg 8 (.mov (zi 0))] [0,1,7,8] []
 (.block 0 q0Wu))
 (zr [zm 59 7,
 zm 6 59] [6] []
 .ret))))),
 [.tmp 6],false⟩
def ir152:IFn:=
⟨(zr [zg 3 (.bx t0 19 true),
 zg 5 (.bx t2 2 true),
 zg 6 (.mov (zi 0))] [1,3,5] [3,5]
 (.seq (.reg true [zm 7 1,
 zp 8 5 0,
 zg 9 (.ldl 5 t8 1 false),
 zp 10 3 7,
 zg 11 (.ldl 3 t10 1 false),
 zc 12 249 [t7,t9,t11],
 zm 13 1,
 zp 14 5 1,
 zg 15 (.ldl 5 t14 1 false),
 zp 16 3 7,
 zg 17 (.ldl 3 t16 1 false),
 zc 18 249 [t13,t15,t17],
 zg 19 (.bin .add t12 t18),
 zm 6 19] [6] [])
 .ret)),
 [.tmp 6],false⟩
def ir153:IFn:=
⟨(zr [zg 3 (.bx t0 19 true),
 zg 6 (.mov (zi 0))] [1,2,3] [3]
 (zr [zm 8 1,
 zm 9 2,
 zp 10 3 7,
 zk 11 10 1,
 zc 12 249 [t8,t9,t11],
 zm 7 12] [3,7] [3]
 (.seq (zr [zm 13 7,
 zg 14 (.bin .eql t13 (zi 0))] [3,7,14] [3]
 (.cond t14
 (zr [zg 6 (.mov (zi 0))] [6] []
 .ret)
 .skip))
 (zr [zm 15 7,
 zp 16 3 7,
 zk 17 16 1,
 zg 18 (.mnmx false t17 (zi 1125899906842624)),
 zg 19 (.mnmx true (zi 0) t18),
 zg 20 (.bin .sub t15 t19),
 zm 6 20] [6] []
 .ret)))),
 [.tmp 6],false⟩
def ir154:IFn:=
⟨(zr [zg 2 (.bx t0 22 true),
 zg 3 (.bx t1 7 true),
 zg 4 (.mov (zi 0))] [2,3] [2,3]
 (.seq (zr [zl 5 2 22,
 zl 6 3 7,
 zc 7 68 [t5,t6],
 zj 8 7] [2,3,8] [2,3]
 (.cond t8
 (zr [zg 4 (.mov (zi 0))] [4] []
 .ret)
 .skip))
 (.seq (zr [zp 9 3 1,
 zk 10 9 1,
 zp 11 2 0,
 zp 12 11 0,
 zp 13 12 0,
 zk 14 13 1,
 zg 15 (.bin .lss t10 t14)] [2,15] [2]
 (.cond t15
 (zr [zp 16 2 0,
 zp 17 16 0,
 zp 18 17 4,
 zk 19 18 1,
 zm 4 19] [4] []
 .ret)
 .skip))
 (zr [zp 20 2 0,
 zp 21 20 0,
 zp 22 21 3,
 zk 23 22 1,
 zm 4 23] [4] []
 .ret)))),
 [.tmp 4],false⟩
def ir155:IFn:=
⟨(zr [zg 3 (.bx t0 6 true),
 zg 6 (.al [zo,zo,zo,zo,zo] true)] [1,2,3,6] [3,6]
 (.seq (zr [zl 9 3 6,
 zm 10 1,
 zc 11 250 [t9,t10],
 zj 12 11] [1,2,3,6,12] [3,6]
 (.cond t12
 (zr [zg 13 (.bld [zo,zo,zo,zo,zo] []),
 zn (.st t6 t13 5)] [6] [6]
 .ret)
 .skip))
 (zr [zm 14 1,
 zp 15 3 0,
 zk 16 15 1,
 zg 17 (.bin .sub t14 t16),
 zm 7 17] [2,3,6,7] [3,6]
 (zr [zl 18 3 6,
 zc 19 251 [t18],
 zm 8 19] [2,3,6,7,8] [3,6]
 (.seq (zr [zm 20 7,
 zg 21 (.bin .eql t20 (zi 0))] [2,3,6,7,8,21] [3,6]
 (.cond t21
 (zr [zg 22 (.bld [zo,zo,zo,zo,zo] []),
 zn (.st t6 t22 5)] [6] [6]
 .ret)
 .skip))
 (.seq (zr [zm 23 7,
 zg 24 (.bin .gtr t23 (zi 0)),
 zm 25 24,
 zt 26 25 (.mov t8),
 zt 27 25 (.bin .gtr t26 (zi 0)),
 zt 28 25 (.mov t27),
 zf 29 28 (.off t3 1),
 zf 30 28 (.ixa t29 (zi 0) 1 4),
 zf 31 28 (.ld t30 1 false),
 zf 32 28 (.bin .gtr t31 (zi 0)),
 zf 33 28 (.mov t32),
 zt 34 33 (.mov t2),
 zt 35 33 (.un .not t34),
 zf 36 28 (.pick t33 t35 zF),
 zt 37 25 (.pick t28 zT t36),
 zg 38 (.pick t25 t37 zF)] [3,6,7,8,38] [3,6]
 (.cond t38
 (zr [zm 39 8,
 zm 40 7,
 zm 41 8,
 zp 42 3 1,
 zg 43 (.ixa t42 t41 1 4),
 zk 44 43 1,
 zg 45 (.bld [zo,zo,zo,zo,zo] [(0,1,(zi 1)),(1,1,t39),(2,1,t40),(3,1,t44)]),
 zn (.st t6 t45 5)] [6] [6]
 .ret)
 .skip))
 (.seq (zr [zm 46 7,
 zg 47 (.bin .gtr t46 (zi 0))] [3,6,7,47] [3,6]
 (.cond t47
 (zr [zm 48 7,
 zg 49 (.bld [zo,zo,zo,zo,zo] [(4,1,t48)]),
 zn (.st t6 t49 5)] [6] [6]
 .ret)
 .skip))
 (.seq (zr [zp 50 3 5,
 zk 51 50 1,
 zm 52 7,
 zg 53 (.un .neg t52),
 zg 54 (.bin .geq t51 t53)] [3,6,7,54] [3,6]
 (.cond t54
 (zr [zm 55 7,
 zg 56 (.un .neg t55),
 zp 57 3 5,
 zk 58 57 1,
 zg 59 (.bld [zo,zo,zo,zo,zo] [(0,1,(zi 2)),(2,1,t56),(3,1,t58)]),
 zn (.st t6 t59 5)] [6] [6]
 .ret)
 .skip))
 (zr [zp 60 3 5,
 zk 61 60 1,
 zp 62 3 5,
 zk 63 62 1,
 zm 64 7,
 zp 65 3 5,
 zk 66 65 1,
 zg 67 (.bin .add t64 t66),
 zg 68 (.bld [zo,zo,zo,zo,zo] [(0,1,(zi 3)),(2,1,t61),(3,1,t63),(4,1,t67)]),
 zn (.st t6 t68 5)] [6] [6]
 .ret))))))))),
 [.cell 6 5 true],false⟩
def q0Wv:IC:=
 (.loop [0,1,2,6,7,8] [6,7] (.seq (zr [zm 9 8,
 zm 10 0,
 zh 11 10,
 zg 12 (.bin .lss t9 t11)] [0,1,2,6,7,8,12] [6,7]
 (.cond t12
 .skip
 (.exit 0)))
 (.seq (.block 1 (zr [zm 15 8,
 zm 16 1,
 zg 17 (.bin .geq t15 t16),
 zm 18 17,
 zt 19 18 (.mov t8),
 zt 20 18 (.mov t2),
 zt 21 18 (.bin .lss t19 t20),
 zg 22 (.pick t18 t21 zF)] [0,1,2,6,7,8,22] [6,7]
 (.cond t22
 (.reg true [zg 23 (.ldl 7 t7 6 true),
 zm 24 0,
 zm 25 8,
 zg 26 (.ixs t24 t25 7),
 zl 27 26 7,
 zc 28 253 [t27],
 zc 29 252 [t23,t28],
 zg 30 (.fldv t29 0 6 true),
 zn (.stl 7 t7 t30 6)] [0,1,2,6,7,8] [6,7])
 .skip)))
 (.reg false [zm 13 8,
 zg 14 (.bin .add t13 (zi 1)),
 zm 8 14] [0,1,2,6,7,8] [6,7]))))
def ir156:IFn:=
⟨(zr [zg 6 (.al [zo,zo,zo,zo,zo,zo] true)] [0,1,2,6] [6]
 (zr [zg 7 (.al [zo,zo,zo,zo,zo,zo] true)] [0,1,2,6,7] [6,7]
 (.seq (zr [zg 8 (.mov (zi 0))] [0,1,2,6,7,8] [6,7]
 (.block 0 q0Wv))
 (zr [zl 31 7 6,
 zn (.st t6 t31 6)] [6] [6]
 .ret)))),
 [.cell 6 6 true],false⟩
def ir158:IFn:=
⟨(zr [zg 2 (.bx t0 2 true),
 zg 4 (.mov zF)] [1,2] [2]
 (zr [zm 5 1,
 zg 6 (.bin .geq t5 (zi 1)),
 zm 7 6,
 zt 8 7 (.mov t1),
 zt 9 7 (.off t2 0),
 zt 10 7 (.ld t9 1 false),
 zt 11 7 (.len t10),
 zt 12 7 (.bin .lss t8 t11),
 zg 13 (.pick t7 t12 zF),
 zm 14 13,
 zt 15 14 (.mov t1),
 zt 16 14 (.bin .sub t15 (zi 1)),
 zt 17 14 (.off t2 1),
 zt 18 14 (.ld t17 1 false),
 zt 19 14 (.len t18),
 zt 20 14 (.bin .lss t16 t19),
 zg 21 (.pick t14 t20 zF),
 zm 22 21,
 zt 23 22 (.off t2 1),
 zt 24 22 (.ld t23 1 false),
 zt 25 22 (.mov t1),
 zt 26 22 (.bin .sub t25 (zi 1)),
 zt 27 22 (.ixs t24 t26 1),
 zt 28 22 (.ld t27 1 false),
 zt 29 22 (.bin .lss t28 (zi 10000)),
 zg 30 (.pick t22 t29 zF),
 zm 4 30] [4] []
 .ret)),
 [.tmp 4],false⟩
def ir159:IFn:=
⟨(zr [zg 6 (.mov (zi 0))] [0,1,2] []
 (zr [zm 7 1,
 zm 8 0,
 zm 9 2,
 zg 10 (.mnmx false t8 t9),
 zg 11 (.mnmx true t7 t10),
 zm 6 11] [6] []
 .ret)),
 [.tmp 6],false⟩
def ir161:IFn:=
⟨(zr [zg 4 (.mov (zi 0))] [0,1] []
 (.seq (zr [zm 5 0,
 zg 6 (.eqn .ptr false t5)] [0,1,6] []
 (.cond t6
 (zr [zg 4 (.mov (zi 0))] [4] []
 .ret)
 .skip))
 (zr [zm 7 0,
 zm 8 1,
 zg 9 (.mnmx true t8 (zi 0)),
 zm 10 0,
 zc 11 138 [t10],
 zg 12 (.mnmx false t9 t11),
 zm 13 0,
 zg 14 (.mkf (.func 257) [t13] []),
 zc 15 256 [t7,t12,t14],
 zm 4 15] [4] []
 .ret))),
 [.tmp 4],false⟩
def ir162:IFn:=
⟨(zr [zg 3 (.bx t1 7 true),
 zg 4 (.al [zo,zo,zo,.nils,.nils,.nils] true),
 zg 5 (.mov zF)] [0,3,4] [3,4]
 (.seq (zr [zm 7 0,
 zl 8 3 7,
 zc 9 258 [t7,t8],
 zj 10 9,
 zm 11 10,
 zf 12 11 (.mov t0),
 zf 13 11 (.ld t3 7 true),
 zf 14 11 (.call 181 [t12,t13] false),
 zf 15 11 (.un .not t14),
 zg 16 (.pick t11 zT t15)] [0,3,4,16] [3,4]
 (.cond t16
 (zr [zg 17 (.bld [zo,zo,zo,.nils,.nils,.nils] []),
 zn (.st t4 t17 6),
 zg 5 (.mov zF)] [4,5] [4]
 .ret)
 .skip))
 (.seq (.reg true [zm 18 0,
 zc 19 115 [t18],
 zp 20 3 0,
 zg 21 (.ldl 3 t20 1 false),
 zc 22 259 [t19,t21],
 zm 6 22] [0,3,4,6] [3,4])
 (.seq (zr [zm 23 6,
 zg 24 (.bin .lss t23 (zi 0))] [0,3,4,6,24] [3,4]
 (.cond t24
 (zr [zg 25 (.bld [zo,zo,zo,.nils,.nils,.nils] []),
 zn (.st t4 t25 6),
 zg 5 (.mov zF)] [4,5] [4]
 .ret)
 .skip))
 (.seq (.reg true [zp 26 3 0,
 zg 27 (.ldl 3 t26 1 false),
 zm 28 6,
 zm 29 0,
 zc 30 84 [t29],
 zg 31 (.fldv t30 20 1 false),
 zm 32 0,
 zg 33 (.ldl 3 t3 7 true),
 zm 34 6,
 zc 35 167 [t32,t33,t34],
 zc 36 260 [t31,t35],
 zg 37 (.bld [zo,zo,zo,.nils,.nils,.nils] [(0,1,(zi 1)),(1,1,t27),(2,1,t28),(3,1,t36)]),
 zn (.stl 4 t4 t37 6),
 zg 5 (.mov zT)] [4,5] [4])
 .ret))))),
 [.cell 4 6 true,.tmp 5],false⟩
def ir163:IFn:=
⟨(zr [zg 3 (.bx t1 7 true),
 zg 4 (.al [zo,zo,zo,.nils,.nils,.nils] true),
 zg 5 (.mov zF)] [0,3,4] [3,4]
 (.seq (zr [zm 6 0,
 zl 7 3 7,
 zc 8 258 [t6,t7],
 zj 9 8] [0,3,4,9] [3,4]
 (.cond t9
 (zr [zg 10 (.bld [zo,zo,zo,.nils,.nils,.nils] []),
 zn (.st t4 t10 6),
 zg 5 (.mov zF)] [4,5] [4]
 .ret)
 .skip))
 (.seq (.reg true [zm 11 0,
 zg 12 (.ldl 3 t3 7 true),
 zm 13 0,
 zc 14 262 [t13],
 zp 15 3 0,
 zg 16 (.ldl 3 t15 1 false),
 zc 17 263 [t14,t16],
 zc 18 261 [t11,t12,t17],
 zx 19 18 0,
 zx 20 18 1,
 zn (.stl 4 t4 t19 6),
 zm 5 20] [4,5] [4])
 .ret))),
 [.cell 4 6 true,.tmp 5],false⟩
def ir164:IFn:=
⟨(zr [zg 3 (.bx t1 7 true),
 zg 4 (.al [zo,zo,zo,.nils,.nils,.nils] true),
 zg 5 (.mov zF)] [0,3,4] [3,4]
 (zr [zm 8 0,
 zc 9 84 [t8],
 zg 10 (.fldv t9 20 1 false),
 zm 6 10] [0,3,4,6] [3,4]
 (.seq (.seq (.reg true [zm 11 0,
 zg 12 (.ldl 3 t3 7 true),
 zc 13 258 [t11,t12],
 zj 14 13,
 zm 15 14,
 zf 16 15 (.off t3 0),
 zf 17 15 (.ldl 3 t16 1 false),
 zf 18 15 (.mov t0),
 zf 19 15 (.call 115 [t18] false),
 zf 20 15 (.call 138 [t19] false),
 zf 21 15 (.bin .lss t17 t20),
 zg 22 (.pick t15 zT t21),
 zm 23 22,
 zf 24 23 (.off t3 2),
 zf 25 23 (.ldl 3 t24 1 false),
 zf 26 23 (.mov t6),
 zf 27 23 (.len t26),
 zf 28 23 (.bin .eql t25 t27),
 zg 29 (.pick t23 zT t28)] [0,3,4,6,29] [3,4])
 (.cond t29
 (zr [zg 30 (.bld [zo,zo,zo,.nils,.nils,.nils] []),
 zn (.st t4 t30 6),
 zg 5 (.mov zF)] [4,5] [4]
 .ret)
 .skip))
 (zr [zm 31 0,
 zl 32 3 7,
 zp 33 3 0,
 zk 34 33 1,
 zc 35 167 [t31,t32,t34],
 zg 7 (.al [zo,zo,zo,.p (.bool false)] true),
 zn (.st t7 t35 4)] [3,4,6,7] [3,4,7]
 (zr [zp 36 7 3,
 zn (.st t36 zT 1)] [3,4,6,7] [3,4,7]
 (.seq (.reg true [zp 37 3 0,
 zg 38 (.ldl 3 t37 1 false),
 zp 39 3 0,
 zg 40 (.ldl 3 t39 1 false),
 zm 41 6,
 zg 42 (.ldl 7 t7 4 true),
 zc 43 260 [t41,t42],
 zg 44 (.bld [zo,zo,zo,.nils,.nils,.nils] [(0,1,(zi 3)),(1,1,t38),(2,1,t40),(3,1,t43)]),
 zn (.stl 4 t4 t44 6),
 zg 5 (.mov zT)] [4,5] [4])
 .ret)))))),
 [.cell 4 6 true,.tmp 5],false⟩
def ir165:IFn:=
⟨(zr [zg 3 (.bx t1 7 true),
 zg 4 (.al [zo,zo,zo,.nils,.nils,.nils] true),
 zg 5 (.mov zF)] [0,3,4] [3,4]
 (.seq (zr [zm 6 0,
 zl 7 3 7,
 zc 8 258 [t6,t7],
 zj 9 8] [0,3,4,9] [3,4]
 (.cond t9
 (zr [zg 10 (.bld [zo,zo,zo,.nils,.nils,.nils] []),
 zn (.st t4 t10 6),
 zg 5 (.mov zF)] [4,5] [4]
 .ret)
 .skip))
 (.seq (.reg true [zm 11 0,
 zg 12 (.ldl 3 t3 7 true),
 zm 13 0,
 zc 14 262 [t13],
 zp 15 3 0,
 zg 16 (.ldl 3 t15 1 false),
 zc 17 58 [t14,t16],
 zc 18 261 [t11,t12,t17],
 zx 19 18 0,
 zx 20 18 1,
 zn (.stl 4 t4 t19 6),
 zm 5 20] [4,5] [4])
 .ret))),
 [.cell 4 6 true,.tmp 5],false⟩
def ir167:IFn:=
⟨(zr [zg 4 (.bx t1 7 true),
 zg 6 (.al [zo,zo,zo,.p (.bool false)] true)] [0,2,4,6] [4,6]
 (.seq (zr [zm 8 0,
 zl 9 4 7,
 zc 10 89 [t8,t9],
 zj 11 10] [0,2,4,6,11] [4,6]
 (.cond t11
 (zr [zg 12 (.bld [zo,zo,zo,.p (.bool false)] []),
 zn (.st t6 t12 4)] [6] [6]
 .ret)
 .skip))
 (zr [zm 13 0,
 zg 14 (.nck t13),
 zp 15 14 0,
 zk 16 15 1,
 zg 17 (.nck t16),
 zp 18 17 2,
 zk 19 18 1,
 zm 20 2,
 zc 21 264 [t19,t20],
 zm 7 21] [0,4,6,7] [4,6]
 (.seq (.reg true [zp 22 4 2,
 zg 23 (.ldl 4 t22 1 false),
 zp 24 4 3,
 zg 25 (.ldl 4 t24 1 false),
 zm 26 7,
 zm 27 7,
 zm 28 0,
 zg 29 (.nck t28),
 zp 30 29 0,
 zk 31 30 1,
 zg 32 (.nck t31),
 zp 33 32 2,
 zk 34 33 1,
 zp 35 4 0,
 zg 36 (.ldl 4 t35 1 false),
 zc 37 264 [t34,t36],
 zg 38 (.bin .gtr t27 t37),
 zg 39 (.bld [zo,zo,zo,.p (.bool false)] [(0,1,t23),(1,1,t25),(2,1,t26),(3,1,t38)]),
 zn (.stl 6 t6 t39 4)] [6] [6])
 .ret)))),
 [.cell 6 4 true],false⟩
def ir168:IFn:=
⟨(zr [zg 2 (.bx t0 3 true),
 zg 3 (.bx t1 3 true),
 zg 4 (.al [zo,zo,zo] true)] [2,3,4] [2,3,4]
 (zr [zl 5 2 3,
 zl 6 3 3,
 zc 7 265 [t5,t6,(zi (-1073741824)),(.c (.p (.fn 266)))],
 zn (.st t4 t7 3)] [4] [4]
 .ret)),
 [.cell 4 3 true],false⟩
def q0Ww:IC:=
 (.loop [0,4,5,10,11,12] [4,5] (zr [zg 13 (.bin .lss t12 t11)] [0,4,5,10,11,12,13] [4,5]
 (.seq (.cond t13
 .skip
 (.exit 0))
 (.seq (.block 1 (zr [zg 14 (.ixs t10 t12 1),
 zk 15 14 1,
 zm 7 15] [0,4,5,7,10,11,12] [4,5]
 (zr [zm 17 0,
 zm 18 7,
 zc 19 136 [t17,t18],
 zm 16 19,
 zx 20 16 0,
 zx 21 16 1,
 zg 8 (.al [zo,zo,zo] true),
 zn (.st t8 t20 3),
 zm 9 21] [0,4,5,8,9,10,11,12] [4,5,8]
 (zr [zm 22 9,
 zm 23 22,
 zt 24 23 (.off t8 0),
 zt 25 23 (.ld t24 1 false),
 zt 26 23 (.bin .geq t25 (zi 0)),
 zg 27 (.pick t23 t26 zF),
 zm 28 27,
 zt 29 28 (.off t8 0),
 zt 30 28 (.ld t29 1 false),
 zt 31 28 (.bin .lss t30 (zi 3)),
 zg 32 (.pick t28 t31 zF)] [0,4,5,8,10,11,12,32] [4,5,8]
 (.cond t32
 (.reg false [zp 33 8 0,
 zk 34 33 1,
 zg 35 (.ixa t5 t34 1 3),
 zk 36 35 1,
 zg 37 (.bin .add t36 (zi 1)),
 zg 38 (.ixa t5 t34 1 3),
 zn (.st t38 t37 1)] [0,4,5,10,11,12] [4,5])
 .skip)))))
 (.reg false [zg 39 (.bin .add t12 (zi 1)),
 zm 12 39] [0,4,5,10,11,12] [4,5])))))
def ir169:IFn:=
⟨(zr [zg 4 (.al [zo,zo,zo] true)] [0,1,4] [4]
 (zr [zg 5 (.al [zo,zo,zo] true)] [0,1,4,5] [4,5]
 (.seq (zr [zm 10 1,
 zh 11 10,
 zg 12 (.mov (zi 0))] [0,4,5,10,11,12] [4,5]
 (.block 0 q0Ww))
 (zr [zl 40 5 3,
 zn (.st t4 t40 3)] [4] [4]
 .ret)))),
 [.cell 4 3 true],false⟩
def q0Wx:IC:=
 (.loop [0,1,5] [] (.seq (zr [zm 11 5,
 zm 12 0,
 zh 13 12,
 zg 14 (.bin .lss t11 t13)] [0,1,5,14] []
 (.cond t14
 .skip
 (.exit 0)))
 (.seq (.block 1 (.seq (.reg true [zm 17 0,
 zm 18 5,
 zg 19 (.ixs t17 t18 3),
 zl 20 19 3,
 zm 21 1,
 zm 22 5,
 zg 23 (.ixs t21 t22 3),
 zl 24 23 3,
 zg 25 (.eqa true [true,true,true] t20 t24)] [0,1,5,25] [])
 (.cond t25
 (zr [zg 4 (.mov zF)] [4] []
 .ret)
 .skip)))
 (.reg false [zm 15 5,
 zg 16 (.bin .add t15 (zi 1)),
 zm 5 16] [0,1,5] []))))
def ir170:IFn:=
⟨(zr [zg 4 (.mov zF)] [0,1] []
 (.seq (zr [zm 6 0,
 zh 7 6,
 zm 8 1,
 zh 9 8,
 zg 10 (.bin .neq t7 t9)] [0,1,10] []
 (.cond t10
 (zr [zg 4 (.mov zF)] [4] []
 .ret)
 .skip))
 (.seq (zr [zg 5 (.mov (zi 0))] [0,1,5] []
 (.block 0 q0Wx))
 (zr [zg 4 (.mov zT)] [4] []
 .ret)))),
 [.tmp 4],false⟩
def q0Vs:IC:=
 (.loop [0,1,5] [] (.seq (zr [zm 11 5,
 zm 12 0,
 zh 13 12,
 zg 14 (.bin .lss t11 t13)] [0,1,5,14] []
 (.cond t14
 .skip
 (.exit 0)))
 (.seq (.block 1 (.seq (.reg true [zm 17 0,
 zm 18 5,
 zg 19 (.ixs t17 t18 1),
 zk 20 19 1,
 zm 21 1,
 zm 22 5,
 zg 23 (.ixs t21 t22 1),
 zk 24 23 1,
 zg 25 (.bin .neq t20 t24)] [0,1,5,25] [])
 (.cond t25
 (zr [zg 4 (.mov zF)] [4] []
 .ret)
 .skip)))
 (.reg false [zm 15 5,
 zg 16 (.bin .add t15 (zi 1)),
 zm 5 16] [0,1,5] []))))
def ir171:IFn:=
⟨(zr [zg 4 (.mov zF)] [0,1] []
 (.seq (zr [zm 6 0,
 zh 7 6,
 zm 8 1,
 zh 9 8,
 zg 10 (.bin .neq t7 t9)] [0,1,10] []
 (.cond t10
 (zr [zg 4 (.mov zF)] [4] []
 .ret)
 .skip))
 (.seq (zr [zg 5 (.mov (zi 0))] [0,1,5] []
 (.block 0 q0Vs))
 (zr [zg 4 (.mov zT)] [4] []
 .ret)))),
 [.tmp 4],false⟩
def ir172:IFn:=
⟨(zr [zg 2 (.bx t0 22 true),
 zg 3 (.bx t1 7 true),
 zg 4 (.al [zo,zo,zo,.nils,.nils,.nils,.p (.bool false)] true)] [2,3,4] [2,3,4]
 (.seq (zr [zl 7 2 22,
 zl 8 3 7,
 zc 9 68 [t7,t8],
 zj 10 9,
 zm 11 10,
 zf 12 11 (.ld t2 22 true),
 zf 13 11 (.ld t3 7 true),
 zf 14 11 (.call 86 [t12,t13] false),
 zg 15 (.pick t11 zT t14),
 zm 16 15,
 zf 17 16 (.off t3 0),
 zf 18 16 (.ld t17 1 false),
 zf 19 16 (.off t2 0),
 zf 20 16 (.off t19 19),
 zf 21 16 (.ld t20 1 false),
 zf 22 16 (.len t21),
 zf 23 16 (.bin .eql t18 t22),
 zg 24 (.pick t16 zT t23),
 zm 25 24,
 zf 26 25 (.ld t2 22 true),
 zf 27 25 (.ld t3 7 true),
 zf 28 25 (.call 173 [t26,t27] false),
 zf 29 25 (.un .not t28),
 zg 30 (.pick t25 zT t29)] [2,3,4,30] [2,3,4]
 (.cond t30
 (zr [zg 31 (.bld [zo,zo,zo,.nils,.nils,.nils,.p (.bool false)] []),
 zn (.st t4 t31 7)] [4] [4]
 .ret)
 .skip))
 (.seq (.prep [5] (.reg true [zp 32 3 0,
 zg 33 (.ldl 3 t32 1 false),
 zp 34 2 0,
 zp 35 34 19,
 zg 36 (.ldl 2 t35 1 false),
 zp 37 3 0,
 zg 38 (.ldl 3 t37 1 false),
 zc 39 267 [t36,t38],
 zg 40 (.bld [zo,zo,zo,.nils,.nils,.nils] [(0,1,(zi 1)),(1,1,t33),(2,1,t39)]),
 zg 5 (.alp [zo,zo,zo,.nils,.nils,.nils]),
 zn (.stl 5 t5 t40 6)] [2,3,4,5] [2,3,4,5]))
 (.seq (.reg true [zp 41 2 0,
 zp 42 41 20,
 zg 43 (.ldl 2 t42 1 false),
 zg 44 (.ldl 2 t2 22 true),
 zg 45 (.ldl 3 t3 7 true),
 zp 46 5 2,
 zg 47 (.ldl 5 t46 1 false),
 zc 48 77 [t44,t45,t47],
 zc 49 268 [t43,t48],
 zm 6 49] [4,5,6] [4,5])
 (.seq (zr [zm 50 6,
 zh 51 50,
 zg 52 (.bin .gtr t51 (zi 0))] [4,5,6,52] [4,5]
 (.cond t52
 (.reg false [zm 53 6,
 zg 54 (.ixs t53 (zi 0) 1),
 zk 55 54 1,
 zp 56 5 3,
 zn (.st t56 t55 1)] [4,5] [4,5])
 .skip))
 (zr [zl 57 5 6,
 zg 58 (.bld [zo,zo,zo,.nils,.nils,.nils,.p (.bool false)] [(0,6,t57),(6,1,zT)]),
 zn (.st t4 t58 7)] [4] [4]
 .ret)))))),
 [.cell 4 7 true],false⟩
def ir173:IFn:=
⟨(zr [zg 2 (.bx t0 22 true),
 zg 3 (.bx t1 7 true),
 zg 4 (.mov zF)] [2,3] [2,3]
 (.seq (.reg true [zg 5 (.ldl 2 t2 22 true),
 zg 6 (.ldl 3 t3 7 true),
 zc 7 68 [t5,t6],
 zm 8 7,
 zt 9 8 (.off t2 0),
 zt 10 8 (.off t9 19),
 zt 11 8 (.ldl 2 t10 1 false),
 zt 12 8 (.off t2 0),
 zt 13 8 (.off t12 21),
 zt 14 8 (.ldl 2 t13 1 false),
 zt 15 8 (.off t3 0),
 zt 16 8 (.ldl 3 t15 1 false),
 zt 17 8 (.call 175 [t11,t14,t16] false),
 zt 18 8 (.off t3 4),
 zt 19 8 (.ldl 3 t18 3 true),
 zt 20 8 (.call 150 [t17,t19] false),
 zg 21 (.pick t8 t20 zF),
 zm 4 21] [4] [])
 .ret)),
 [.tmp 4],false⟩
def q0W2:IC:=
 (.loop [3,4,5,6,7] [3,4,5,6] (.seq (zr [zm 9 7,
 zg 10 (.bin .lss t9 (zi 3))] [3,4,5,6,7,10] [3,4,5,6]
 (.cond t10
 .skip
 (.exit 0)))
 (.seq (.block 1 (.seq (.reg true [zm 13 7,
 zg 14 (.ixa t5 t13 1 3),
 zg 15 (.ldl 5 t14 1 false),
 zm 16 7,
 zp 17 4 4,
 zg 18 (.ixa t17 t16 1 3),
 zg 19 (.ldl 4 t18 1 false),
 zg 20 (.bin .gtr t15 t19)] [3,4,5,6,7,20] [3,4,5,6])
 (.cond t20
 (zr [zg 8 (.al [zo,zo,zo] true)] [3,4,6,7,8] [3,4,6,8]
 (zr [zm 21 7,
 zg 22 (.ixa t8 t21 1 3),
 zn (.st t22 (zi 1) 1)] [3,4,6,8] [3,4,6,8]
 (.seq (.reg true [zp 23 4 0,
 zg 24 (.ldl 4 t23 1 false),
 zp 25 4 0,
 zg 26 (.ldl 4 t25 1 false),
 zp 27 3 0,
 zp 28 27 21,
 zg 29 (.ldl 3 t28 1 false),
 zp 30 4 4,
 zg 31 (.ldl 4 t30 3 true),
 zg 32 (.ldl 8 t8 3 true),
 zc 33 269 [t29,t31,t32],
 zg 34 (.fldv t33 0 1 false),
 zg 35 (.bld [zo,zo,zo,.nils,.nils,.nils] [(0,1,(zi 2)),(1,1,t24),(2,1,t26),(4,1,t34)]),
 zg 36 (.bld [zo,zo,zo,.nils,.nils,.nils,.p (.bool false)] [(0,6,t35),(6,1,zT)]),
 zn (.stl 6 t6 t36 7)] [6] [6])
 .ret)))
 .skip)))
 (.reg false [zm 11 7,
 zg 12 (.bin .add t11 (zi 1)),
 zm 7 12] [3,4,5,6,7] [3,4,5,6]))))
def ir174:IFn:=
⟨(zr [zg 3 (.bx t0 22 true),
 zg 4 (.bx t1 7 true),
 zg 5 (.bx t2 3 true),
 zg 6 (.al [zo,zo,zo,.nils,.nils,.nils,.p (.bool false)] true)] [3,4,5,6] [3,4,5,6]
 (.seq (zr [zg 7 (.mov (zi 0))] [3,4,5,6,7] [3,4,5,6]
 (.block 0 q0W2))
 (zr [zg 37 (.bld [zo,zo,zo,.nils,.nils,.nils,.p (.bool false)] []),
 zn (.st t6 t37 7)] [6] [6]
 .ret))),
 [.cell 6 7 true],false⟩
def q0Wy:IC:=
 (.loop [0,1,2,6,7,8] [6,7] (.seq (zr [zm 9 8,
 zm 10 0,
 zh 11 10,
 zg 12 (.bin .lss t9 t11)] [0,1,2,6,7,8,12] [6,7]
 (.cond t12
 .skip
 (.exit 0)))
 (.seq (.block 1 (zr [zm 15 8,
 zm 16 2,
 zg 17 (.bin .lss t15 t16),
 zm 18 17,
 zt 19 18 (.mov t0),
 zt 20 18 (.mov t8),
 zt 21 18 (.ixs t19 t20 7),
 zt 22 18 (.off t21 0),
 zt 23 18 (.ld t22 1 false),
 zt 24 18 (.bin .eql t23 (zi 7)),
 zg 25 (.pick t18 t24 zF)] [0,1,2,6,7,8,25] [6,7]
 (.cond t25
 (.reg false [zm 26 0,
 zm 27 1,
 zm 28 8,
 zc 29 149 [t26,t27,t28],
 zn (.st t7 t29 3)] [0,1,2,6,7,8] [6,7])
 .skip)))
 (.reg false [zm 13 8,
 zg 14 (.bin .add t13 (zi 1)),
 zm 8 14] [0,1,2,6,7,8] [6,7]))))
def ir175:IFn:=
⟨(zr [zg 6 (.al [zo,zo,zo] true)] [0,1,2,6] [6]
 (zr [zg 7 (.al [zo,zo,zo] true)] [0,1,2,6,7] [6,7]
 (.seq (zr [zg 8 (.mov (zi 0))] [0,1,2,6,7,8] [6,7]
 (.block 0 q0Wy))
 (zr [zl 30 7 3,
 zn (.st t6 t30 3)] [6] [6]
 .ret)))),
 [.cell 6 3 true],false⟩
def ir176:IFn:=
⟨(zr [zg 2 (.bx t0 22 true),
 zg 3 (.bx t1 7 true),
 zg 4 (.al [zo,zo,zo,.nils,.nils,.nils,.p (.bool false)] true)] [2,3,4] [2,3,4]
 (.seq (zr [zl 7 2 22,
 zl 8 3 7,
 zc 9 68 [t7,t8],
 zj 10 9,
 zm 11 10,
 zf 12 11 (.off t3 0),
 zf 13 11 (.ld t12 1 false),
 zf 14 11 (.off t2 0),
 zf 15 11 (.off t14 19),
 zf 16 11 (.ld t15 1 false),
 zf 17 11 (.len t16),
 zf 18 11 (.bin .lss t13 t17),
 zg 19 (.pick t11 zT t18),
 zm 20 19,
 zf 21 20 (.off t3 2),
 zf 22 20 (.ld t21 1 false),
 zf 23 20 (.off t2 0),
 zf 24 20 (.off t23 20),
 zf 25 20 (.ld t24 1 false),
 zf 26 20 (.len t25),
 zf 27 20 (.bin .eql t22 t26),
 zg 28 (.pick t20 zT t27)] [2,3,4,28] [2,3,4]
 (.cond t28
 (zr [zg 29 (.bld [zo,zo,zo,.nils,.nils,.nils,.p (.bool false)] []),
 zn (.st t4 t29 7)] [4] [4]
 .ret)
 .skip))
 (zr [zl 30 2 22,
 zl 31 3 7,
 zp 32 3 0,
 zk 33 32 1,
 zc 34 77 [t30,t31,t33],
 zg 5 (.al [zo,zo,zo,.p (.bool false)] true),
 zn (.st t5 t34 4)] [2,3,4,5] [2,3,4,5]
 (zr [zp 35 5 3,
 zn (.st t35 zT 1)] [2,3,4,5] [2,3,4,5]
 (zr [zp 36 2 0,
 zp 37 36 20,
 zk 38 37 1,
 zl 39 5 4,
 zc 40 268 [t38,t39],
 zm 6 40] [3,4,6] [3,4]
 (.seq (.reg true [zp 41 3 0,
 zg 42 (.ldl 3 t41 1 false),
 zp 43 3 0,
 zg 44 (.ldl 3 t43 1 false),
 zm 45 6,
 zg 46 (.ixs t45 (zi 0) 1),
 zk 47 46 1,
 zg 48 (.bld [zo,zo,zo,.nils,.nils,.nils] [(0,1,(zi 3)),(1,1,t42),(2,1,t44),(3,1,t47)]),
 zg 49 (.bld [zo,zo,zo,.nils,.nils,.nils,.p (.bool false)] [(0,6,t48),(6,1,zT)]),
 zn (.stl 4 t4 t49 7)] [4] [4])
 .ret)))))),
 [.cell 4 7 true],false⟩
def ir177:IFn:=
⟨(zr [zg 2 (.bx t0 22 true),
 zg 3 (.bx t1 7 true),
 zg 4 (.al [zo,zo,zo,.nils,.nils,.nils,.p (.bool false)] true)] [2,3,4] [2,3,4]
 (.seq (zr [zl 5 2 22,
 zl 6 3 7,
 zc 7 68 [t5,t6],
 zj 8 7,
 zm 9 8,
 zf 10 9 (.ld t2 22 true),
 zf 11 9 (.ld t3 7 true),
 zf 12 9 (.call 86 [t10,t11] false),
 zg 13 (.pick t9 zT t12)] [2,3,4,13] [2,3,4]
 (.cond t13
 (zr [zg 14 (.bld [zo,zo,zo,.nils,.nils,.nils,.p (.bool false)] []),
 zn (.st t4 t14 7)] [4] [4]
 .ret)
 .skip))
 (.seq (.reg true [zg 15 (.ldl 2 t2 22 true),
 zg 16 (.ldl 3 t3 7 true),
 zp 17 2 0,
 zp 18 17 19,
 zg 19 (.ldl 2 t18 1 false),
 zp 20 2 0,
 zp 21 20 21,
 zg 22 (.ldl 2 t21 1 false),
 zp 23 3 0,
 zg 24 (.ldl 3 t23 1 false),
 zc 25 149 [t19,t22,t24],
 zc 26 174 [t15,t16,t25],
 zn (.stl 4 t4 t26 7)] [4] [4])
 .ret))),
 [.cell 4 7 true],false⟩
def ir178:IFn:=
⟨(zr [zg 1 (.bx t0 36 true),
 zg 2 (.mov zF)] [1] [1]
 (zr [zp 3 1 8,
 zp 4 3 3,
 zk 5 4 1,
 zh 6 5,
 zg 7 (.bin .gtr t6 (zi 0)),
 zm 2 7] [2] []
 .ret)),
 [.tmp 2],false⟩
def ir179:IFn:=
⟨(zr [zg 1 (.bx t0 36 true),
 zg 2 (.mov zF)] [1] [1]
 (.seq (.reg true [zp 3 1 1,
 zp 4 3 0,
 zg 5 (.ldl 1 t4 1 false),
 zp 6 1 0,
 zg 7 (.ldl 1 t6 1 false),
 zc 8 115 [t7],
 zc 9 138 [t8],
 zg 10 (.bin .eql t5 t9),
 zm 2 10] [2] [])
 .ret)),
 [.tmp 2],false⟩
def ir180:IFn:=
⟨(zr [zg 1 (.bx t0 36 true),
 zg 2 (.mov zF)] [1] [1]
 (zr [zp 3 1 0,
 zk 4 3 1,
 zp 5 1 1,
 zl 6 5 7,
 zc 7 181 [t4,t6],
 zj 8 7,
 zm 2 8] [2] []
 .ret)),
 [.tmp 2],false⟩
def ir181:IFn:=
⟨(zr [zg 3 (.bx t1 7 true),
 zg 4 (.mov zF)] [0,3] [3]
 (.seq (.reg true [zm 5 0,
 zg 6 (.ldl 3 t3 7 true),
 zc 7 89 [t5,t6],
 zm 8 7,
 zt 9 8 (.mov t0),
 zt 10 8 (.nck t9),
 zt 11 8 (.off t10 0),
 zt 12 8 (.ld t11 1 false),
 zt 13 8 (.nck t12),
 zt 14 8 (.off t13 2),
 zt 15 8 (.ld t14 1 false),
 zt 16 8 (.off t3 0),
 zt 17 8 (.ldl 3 t16 1 false),
 zt 18 8 (.call 263 [t15,t17] false),
 zt 19 8 (.off t3 4),
 zt 20 8 (.ldl 3 t19 3 true),
 zt 21 8 (.call 197 [t18,t20] false),
 zg 22 (.pick t8 t21 zF),
 zm 4 22] [4] [])
 .ret)),
 [.tmp 4],false⟩
def ir182:IFn:=
⟨(zr [zg 1 (.bx t0 36 true),
 zg 2 (.mov zF)] [1] [1]
 (.seq (.reg true [zp 3 1 0,
 zg 4 (.ldl 1 t3 1 false),
 zc 5 115 [t4],
 zp 6 1 1,
 zp 7 6 0,
 zg 8 (.ldl 1 t7 1 false),
 zc 9 184 [t5,t8],
 zp 10 1 8,
 zp 11 10 2,
 zg 12 (.ldl 1 t11 1 false),
 zc 13 183 [t9,t12],
 zj 14 13,
 zm 2 14] [2] [])
 .ret)),
 [.tmp 2],false⟩
def ir183:IFn:=
⟨(zr [zg 4 (.mov zF)] [0,1] []
 (zr [zm 5 0,
 zm 6 1,
 zc 7 270 [t5,t6],
 zg 8 (.bin .geq t7 (zi 0)),
 zm 4 8] [4] []
 .ret)),
 [.tmp 4],false⟩
def q0W3:IC:=
 (.loop [0,5,6,7] [] (.seq (zr [zm 14 7,
 zg 15 (.bin .gtr t14 (zi 0)),
 zm 16 15,
 zt 17 16 (.mov t7),
 zt 18 16 (.mov t6),
 zt 19 16 (.bin .leq t17 t18),
 zg 20 (.pick t16 t19 zF)] [0,5,6,7,20] []
 (.cond t20
 .skip
 (.exit 0)))
 (.seq (.block 1 (.reg false [zm 24 5,
 zm 25 7,
 zg 26 (.bsl 1 1 [zo] [(0,t25)]),
 zg 27 (.app t24 t26 1),
 zm 5 27] [0,5,6,7] []))
 (.reg false [zm 21 0,
 zm 22 7,
 zc 23 259 [t21,t22],
 zm 7 23] [0,5,6,7] []))))
def ir184:IFn:=
⟨(zr [zg 4 (.mov (.c (.nils)))] [0,1] []
 (zr [zg 5 (.nrow 1)] [0,1,5] []
 (zr [zm 8 0,
 zm 9 1,
 zc 10 271 [t8,t9],
 zm 6 10] [0,1,5,6] []
 (.seq (zr [zm 11 0,
 zm 12 1,
 zc 13 259 [t11,t12],
 zm 7 13] [0,5,6,7] []
 (.block 0 q0W3))
 (zr [zm 28 5,
 zm 4 28] [4] []
 .ret))))),
 [.tmp 4],false⟩
def ir185:IFn:=
⟨(zr [zg 1 (.bx t0 36 true),
 zg 2 (.mov zF)] [1] [1]
 (.seq (.reg true [zp 3 1 14,
 zp 4 3 20,
 zg 5 (.ldl 1 t4 1 false),
 zp 6 1 0,
 zg 7 (.ldl 1 t6 1 false),
 zp 8 1 1,
 zg 9 (.ldl 1 t8 7 true),
 zp 10 1 8,
 zp 11 10 2,
 zg 12 (.ldl 1 t11 1 false),
 zc 13 167 [t7,t9,t12],
 zp 14 1 8,
 zp 15 14 3,
 zg 16 (.ldl 1 t15 1 false),
 zc 17 186 [t5,t13,t16],
 zj 18 17,
 zm 2 18] [2] [])
 .ret)),
 [.tmp 2],false⟩
def q0Vq:IC:=
 (.reg false [zm 7 11] [5,6,7] [])
def q0Vr:IC:=
 (.block 1 (zr [zm 12 7,
 zk 13 5 1,
 zc 14 198 [t12,t13]] [6,14] []
 (.cond t14
 (zr [zn (.st t6 zT 1)] [6] []
 .ret)
 .skip)))
def ir186:IFn:=
⟨(zr [zg 4 (.bx t1 4 true),
 zg 5 (.bx t2 1 false),
 zg 6 (.al [.p (.bool false)] false)] [0,4,5,6] [4]
 (.seq (zr [zm 8 0,
 zl 9 4 4,
 zc 10 272 [t8,t9]] [5,6,10] []
 (.block 0 (.rangeFunc t10 [11] q0Vq q0Vr)))
 (zr [zn (.st t6 zF 1)] [6] []
 .ret))),
 [.cell 6 1 false],false⟩
def ir187:IFn:=
⟨(zr [zg 1 (.bx t0 36 true),
 zg 2 (.mov zF)] [1] [1]
 (zr [zl 3 1 36,
 zp 4 1 8,
 zp 5 4 2,
 zk 6 5 1,
 zc 7 188 [t3,t6],
 zj 8 7,
 zm 9 8,
 zf 10 9 (.off t1 14),
 zf 11 9 (.off t10 0),
 zf 12 9 (.ld t11 19 true),
 zf 13 9 (.off t1 14),
 zf 14 9 (.off t13 21),
 zf 15 9 (.ld t14 1 false),
 zf 16 9 (.off t1 8),
 zf 17 9 (.off t16 4),
 zf 18 9 (.ld t17 1 false),
 zf 19 9 (.off t1 8),
 zf 20 9 (.off t19 5),
 zf 21 9 (.ld t20 1 false),
 zf 22 9 (.bld [.nils,.nils] [(0,1,t18),(1,1,t21)]),
 zf 23 9 (.call 189 [t12,t15,t22] false),
 zf 24 9 (.un .not t23),
 zg 25 (.pick t9 zT t24),
 zm 2 25] [2] []
 .ret)),
 [.tmp 2],false⟩
def ir188:IFn:=
⟨(zr [zg 2 (.bx t0 36 true),
 zg 4 (.mov zF)] [1,2] [2]
 (zr [zp 8 2 14,
 zp 9 8 21,
 zk 10 9 1,
 zm 5 10] [1,2,5] [2]
 (.seq (.prep [6] (.reg true [zp 11 2 1,
 zp 12 11 4,
 zg 13 (.ldl 2 t12 3 true),
 zm 14 5,
 zp 15 2 8,
 zp 16 15 4,
 zg 17 (.ldl 2 t16 1 false),
 zc 18 169 [t14,t17],
 zc 19 168 [t13,t18],
 zg 6 (.alp [zo,zo,zo]),
 zn (.stl 6 t6 t19 3)] [1,2,5,6] [2,6]))
 (.seq (.prep [7] (.reg true [zg 20 (.ldl 6 t6 3 true),
 zm 21 5,
 zp 22 2 8,
 zp 23 22 5,
 zg 24 (.ldl 2 t23 1 false),
 zc 25 169 [t21,t24],
 zc 26 168 [t20,t25],
 zg 7 (.alp [zo,zo,zo]),
 zn (.stl 7 t7 t26 3)] [1,2,5,6,7] [2,6,7]))
 (.seq (.reg true [zm 27 5,
 zp 28 2 1,
 zp 29 28 4,
 zg 30 (.ldl 2 t29 3 true),
 zp 31 2 8,
 zp 32 31 4,
 zg 33 (.ldl 2 t32 1 false),
 zc 34 273 [t27,t30,t33],
 zm 35 34,
 zt 36 35 (.mov t5),
 zt 37 35 (.ldl 6 t6 3 true),
 zt 38 35 (.off t2 8),
 zt 39 35 (.off t38 5),
 zt 40 35 (.ldl 2 t39 1 false),
 zt 41 35 (.call 273 [t36,t37,t40] false),
 zg 42 (.pick t35 t41 zF),
 zm 43 42,
 zt 44 43 (.ldl 7 t7 3 true),
 zt 45 43 (.off t2 0),
 zt 46 43 (.ldl 2 t45 1 false),
 zt 47 43 (.call 262 [t46] false),
 zt 48 43 (.mov t1),
 zt 49 43 (.call 58 [t47,t48] false),
 zt 50 43 (.call 197 [t44,t49] false),
 zg 51 (.pick t43 t50 zF),
 zm 4 51] [4] [])
 .ret))))),
 [.tmp 4],false⟩
def ir189:IFn:=
⟨(zr [zg 3 (.bx t0 19 true),
 zg 5 (.bx t2 2 true),
 zg 6 (.mov zF)] [1,3,5] [3,5]
 (.seq (.reg true [zg 7 (.ldl 3 t3 19 true),
 zc 8 274 [t7],
 zg 9 (.ldl 3 t3 19 true),
 zm 10 1,
 zp 11 5 0,
 zg 12 (.ldl 5 t11 1 false),
 zc 13 275 [t8,t9,t10,t12],
 zm 14 13,
 zt 15 14 (.ldl 3 t3 19 true),
 zt 16 14 (.call 276 [t15] false),
 zt 17 14 (.ldl 3 t3 19 true),
 zt 18 14 (.mov t1),
 zt 19 14 (.off t5 1),
 zt 20 14 (.ldl 5 t19 1 false),
 zt 21 14 (.call 275 [t16,t17,t18,t20] false),
 zg 22 (.pick t14 t21 zF),
 zm 6 22] [6] [])
 .ret)),
 [.tmp 6],false⟩
def ir190:IFn:=
⟨(zr [zg 1 (.bx t0 36 true),
 zg 2 (.mov zF)] [1] [1]
 (zr [zp 3 1 8,
 zp 4 3 2,
 zk 5 4 1,
 zp 6 1 1,
 zp 7 6 0,
 zk 8 7 1,
 zg 9 (.bin .neq t5 t8),
 zm 2 9] [2] []
 .ret)),
 [.tmp 2],false⟩
def ir191:IFn:=
⟨(zr [zg 1 (.bx t0 36 true),
 zg 2 (.mov zF)] [1] [1]
 (zr [zp 3 1 8,
 zp 4 3 4,
 zk 5 4 1,
 zh 6 5,
 zg 7 (.bin .eql t6 (zi 0)),
 zm 8 7,
 zf 9 8 (.off t1 8),
 zf 10 8 (.off t9 4),
 zf 11 8 (.ld t10 1 false),
 zf 12 8 (.len t11),
 zf 13 8 (.bin .gtr t12 (zi 8)),
 zg 14 (.pick t8 zT t13),
 zm 15 14,
 zf 16 15 (.off t1 8),
 zf 17 15 (.off t16 5),
 zf 18 15 (.ld t17 1 false),
 zf 19 15 (.len t18),
 zf 20 15 (.bin .gtr t19 (zi 0)),
 zg 21 (.pick t15 zT t20),
 zm 22 21,
 zf 23 22 (.ld t1 36 true),
 zf 24 22 (.off t1 1),
 zf 25 22 (.off t24 0),
 zf 26 22 (.ld t25 1 false),
 zf 27 22 (.call 188 [t23,t26] false),
 zf 28 22 (.un .not t27),
 zg 29 (.pick t22 zT t28),
 zm 30 29,
 zf 31 30 (.ld t1 36 true),
 zf 32 30 (.call 90 [t31] false),
 zg 33 (.pick t30 zT t32),
 zm 2 33] [2] []
 .ret)),
 [.tmp 2],false⟩
def ir192:IFn:=
⟨(zr [zg 1 (.bx t0 36 true),
 zg 2 (.mov zF)] [1] [1]
 (zr [zl 3 1 36,
 zc 4 190 [t3],
 zm 5 4,
 zf 6 5 (.ld t1 36 true),
 zf 7 5 (.call 179 [t6] false),
 zf 8 5 (.un .not t7),
 zg 9 (.pick t5 zT t8),
 zm 2 9] [2] []
 .ret)),
 [.tmp 2],false⟩
def ir193:IFn:=
⟨(zr [zg 1 (.bx t0 36 true),
 zg 2 (.mov zF)] [1] [1]
 (zr [zp 3 1 8,
 zp 4 3 3,
 zk 5 4 1,
 zh 6 5,
 zg 7 (.bin .eql t6 (zi 0)),
 zm 8 7,
 zf 9 8 (.ld t1 36 true),
 zf 10 8 (.call 194 [t9] false),
 zf 11 8 (.un .not t10),
 zg 12 (.pick t8 zT t11),
 zm 2 12] [2] []
 .ret)),
 [.tmp 2],false⟩
def ir194:IFn:=
⟨(zr [zg 1 (.bx t0 36 true),
 zg 2 (.mov zF)] [1] [1]
 (zr [zp 4 1 0,
 zk 5 4 1,
 zp 6 1 1,
 zl 7 6 7,
 zp 8 1 1,
 zp 9 8 0,
 zk 10 9 1,
 zc 11 167 [t5,t7,t10],
 zg 3 (.al [zo,zo,zo,.p (.bool false)] true),
 zn (.st t3 t11 4)] [1,3] [1,3]
 (zr [zp 12 3 3,
 zn (.st t12 zT 1)] [1,3] [1,3]
 (zr [zp 13 1 14,
 zp 14 13 20,
 zk 15 14 1,
 zl 16 3 4,
 zp 17 1 8,
 zp 18 17 3,
 zk 19 18 1,
 zc 20 186 [t15,t16,t19],
 zm 2 20] [2] []
 .ret)))),
 [.tmp 2],false⟩
def ir195:IFn:=
⟨(zr [zg 1 (.bx t0 36 true),
 zg 2 (.mov zF)] [1] [1]
 (zr [zp 3 1 8,
 zp 4 3 4,
 zk 5 4 1,
 zh 6 5,
 zp 7 1 8,
 zp 8 7 5,
 zk 9 8 1,
 zh 10 9,
 zg 11 (.bin .add t6 t10),
 zg 12 (.bin .gtr t11 (zi 0)),
 zm 2 12] [2] []
 .ret)),
 [.tmp 2],false⟩
def ir196:IFn:=
⟨(zr [zg 3 (.bx t1 7 true),
 zg 4 (.mov zF)] [0,3] [3]
 (.seq (.reg true [zm 7 0,
 zg 8 (.nck t7),
 zp 9 8 0,
 zk 10 9 1,
 zg 11 (.nck t10),
 zp 12 11 2,
 zk 13 12 1,
 zp 14 3 0,
 zg 15 (.ldl 3 t14 1 false),
 zc 16 264 [t13,t15],
 zm 5 16] [0,3,5] [3])
 (.seq (zr [zp 17 3 3,
 zk 18 17 1,
 zg 19 (.bin .eql t18 (zi 0))] [0,3,5,19] [3]
 (.cond t19
 (zr [zp 20 3 2,
 zk 21 20 1,
 zm 22 5,
 zg 23 (.bin .eql t21 t22),
 zm 4 23] [4] []
 .ret)
 .skip))
 (.seq (zr [zp 24 3 2,
 zk 25 24 1,
 zm 26 5,
 zg 27 (.bin .sub t26 (zi 1)),
 zg 28 (.bin .neq t25 t27),
 zm 29 28,
 zf 30 29 (.off t3 2),
 zf 31 29 (.ld t30 1 false),
 zf 32 29 (.bin .lss t31 (zi 0)),
 zg 33 (.pick t29 zT t32),
 zm 34 33,
 zf 35 34 (.off t3 3),
 zf 36 34 (.ld t35 1 false),
 zf 37 34 (.bin .lss t36 (zi 1)),
 zg 38 (.pick t34 zT t37)] [0,3,38] [3]
 (.cond t38
 (zr [zg 4 (.mov zF)] [4] []
 .ret)
 .skip))
 (.seq (.prep [6] (.reg true [zm 39 0,
 zg 40 (.nck t39),
 zp 41 40 1,
 zp 42 41 20,
 zk 43 42 1,
 zp 44 3 2,
 zg 45 (.ldl 3 t44 1 false),
 zg 46 (.ixs t43 t45 2),
 zl 47 46 2,
 zg 6 (.alp [.nils,.nils]),
 zn (.stl 6 t6 t47 2)] [3,6] [3,6]))
 (zr [zp 48 3 3,
 zk 49 48 1,
 zp 50 6 0,
 zk 51 50 1,
 zh 52 51,
 zg 53 (.bin .lss t49 t52),
 zm 54 53,
 zt 55 54 (.ld t6 2 true),
 zt 56 54 (.off t3 3),
 zt 57 54 (.ld t56 1 false),
 zt 58 54 (.call 277 [t55,t57] false),
 zg 59 (.pick t54 t58 zF),
 zm 4 59] [4] []
 .ret)))))),
 [.tmp 4],false⟩
def q0W4:IC:=
 (.loop [3,7,8] [3] (zr [zg 9 (.bin .lss t8 (zi 3))] [3,7,8,9] [3]
 (.seq (.cond t9
 .skip
 (.exit 0))
 (.seq (.block 1 (zr [zm 10 8,
 zg 11 (.ixv t7 t8 1 3 false),
 zm 5 10,
 zm 6 11] [3,5,6,7,8] [3]
 (zr [zm 12 6,
 zm 13 5,
 zg 14 (.ixa t3 t13 1 3),
 zk 15 14 1,
 zg 16 (.bin .gtr t12 t15)] [3,7,8,16] [3]
 (.cond t16
 (zr [zg 4 (.mov zF)] [4] []
 .ret)
 .skip))))
 (.reg false [zg 17 (.bin .add t8 (zi 1)),
 zm 8 17] [3,7,8] [3])))))
def ir197:IFn:=
⟨(zr [zg 2 (.bx t0 3 true),
 zg 3 (.bx t1 3 true),
 zg 4 (.mov zF)] [2,3] [2,3]
 (.seq (zr [zl 7 2 3,
 zg 8 (.mov (zi 0))] [3,7,8] [3]
 (.block 0 q0W4))
 (zr [zg 4 (.mov zT)] [4] []
 .ret))),
 [.tmp 4],false⟩
def ir198:IFn:=
⟨(zr [zg 4 (.mov zF)] [0,1] []
 (zr [zm 5 0,
 zm 6 1,
 zc 7 278 [t5,t6],
 zm 4 7] [4] []
 .ret)),
 [.tmp 4],false⟩
def q0ow:IC:=
 (.loop [0,1,12,13] [] (zr [zg 14 (.bin .lss t13 t12)] [0,1,12,13,14] []
 (.seq (.cond t14
 .skip
 (.exit 0))
 (.seq (.block 1 (zr [zm 15 13,
 zm 5 15] [0,1,5,12,13] []
 (.seq (.reg true [zm 16 0,
 zm 17 5,
 zg 18 (.ixs t16 t17 1),
 zk 19 18 1,
 zm 20 1,
 zm 21 5,
 zg 22 (.ixs t20 t21 1),
 zk 23 22 1,
 zg 24 (.bin .neq t19 t23)] [0,1,12,13,24] [])
 (.cond t24
 (zr [zg 4 (.mov zF)] [4] []
 .ret)
 .skip))))
 (.reg false [zg 25 (.bin .add t13 (zi 1)),
 zm 13 25] [0,1,12,13] [])))))
def ir199:IFn:=
⟨(zr [zg 4 (.mov zF)] [0,1] []
 (.seq (zr [zm 6 0,
 zh 7 6,
 zm 8 1,
 zh 9 8,
 zg 10 (.bin .neq t7 t9)] [0,1,10] []
 (.cond t10
 (zr [zg 4 (.mov zF)] [4] []
 .ret)
 .skip))
 (.seq (zr [zm 11 0,
 zh 12 11,
 zg 13 (.mov (zi 0))] [0,1,12,13] []
 (.block 0 q0ow))
 (zr [zg 4 (.mov zT)] [4] []
 .ret)))),
 [.tmp 4],false⟩
def q0Wz:IC:=
 (.loop [0,1,5] [] (.seq (zr [zm 6 5,
 zm 7 0,
 zh 8 7,
 zg 9 (.bin .lss t6 t8)] [0,1,5,9] []
 (.cond t9
 .skip
 (.exit 0)))
 (.seq (.block 1 (zr [zm 12 0,
 zm 13 5,
 zg 14 (.ixs t12 t13 1),
 zk 15 14 1,
 zm 16 1,
 zg 17 (.bin .eql t15 t16)] [0,1,5,17] []
 (.cond t17
 (zr [zg 4 (.mov zT)] [4] []
 .ret)
 .skip)))
 (.reg false [zm 10 5,
 zg 11 (.bin .add t10 (zi 1)),
 zm 5 11] [0,1,5] []))))
def ir200:IFn:=
⟨(zr [zg 4 (.mov zF)] [0,1] []
 (.seq (zr [zg 5 (.mov (zi 0))] [0,1,5] []
 (.block 0 q0Wz))
 (zr [zg 4 (.mov zF)] [4] []
 .ret))),
 [.tmp 4],false⟩
def q0W5:IC:=
 (.loop [0,1,5,6] [] (.seq (zr [zm 7 6,
 zm 8 0,
 zm 9 1,
 zc 10 279 [t8,t9],
 zg 11 (.bin .leq t7 t10)] [0,1,5,6,11] []
 (.cond t11
 .skip
 (.exit 0)))
 (.seq (.block 1 (zr [zm 14 6,
 zm 15 1,
 zg 16 (.mnmx true t15 (zi 0)),
 zg 17 (.bin .gtr t14 t16),
 zm 18 17,
 zt 19 18 (.mov t0),
 zt 20 18 (.mov t6),
 zt 21 18 (.call 106 [t19,t20] false),
 zg 22 (.pick t18 t21 zF)] [0,1,5,6,22] []
 (.cond t22
 (.reg false [zm 23 5,
 zm 24 6,
 zg 25 (.bsl 1 1 [zo] [(0,t24)]),
 zg 26 (.app t23 t25 1),
 zm 5 26] [0,1,5,6] [])
 .skip)))
 (.reg false [zm 12 6,
 zg 13 (.bin .add t12 (zi 1)),
 zm 6 13] [0,1,5,6] []))))
def ir201:IFn:=
⟨(zr [zg 4 (.mov (.c (.nils)))] [0,1] []
 (zr [zg 5 (.nrow 1)] [0,1,5] []
 (.seq (zr [zg 6 (.mov (zi 1))] [0,1,5,6] []
 (.block 0 q0W5))
 (zr [zm 27 5,
 zm 4 27] [4] []
 .ret)))),
 [.tmp 4],false⟩
def q0X0:IC:=
 (.loop [2,7,8] [] (.seq (zr [zm 12 8,
 zm 13 7,
 zh 14 13,
 zg 15 (.bin .lss t12 t14)] [2,7,8,15] []
 (.cond t15
 .skip
 (.exit 0)))
 (.seq (.block 1 (zr [zm 18 7,
 zm 19 8,
 zg 20 (.ixs t18 t19 1),
 zk 21 20 1,
 zm 22 2,
 zc 23 170 [t21,t22]] [2,7,8,23] []
 (.cond t23
 (zr [zg 6 (.mov zT)] [6] []
 .ret)
 .skip)))
 (.reg false [zm 16 8,
 zg 17 (.bin .add t16 (zi 1)),
 zm 8 17] [2,7,8] []))))
def ir202:IFn:=
⟨(zr [zg 4 (.bx t1 4 true),
 zg 6 (.mov zF)] [0,2,4] [4]
 (zr [zm 9 0,
 zl 10 4 4,
 zc 11 268 [t9,t10],
 zm 7 11] [2,7] []
 (.seq (zr [zg 8 (.mov (zi 0))] [2,7,8] []
 (.block 0 q0X0))
 (zr [zg 6 (.mov zF)] [6] []
 .ret)))),
 [.tmp 6],false⟩
def ir203:IFn:=
⟨(zr [zg 4 (.bx t0 22 true),
 zg 5 (.bx t1 7 true),
 zg 6 (.bx t2 6 true),
 zg 8 (.mov zF)] [3,4,5,6] [4,5,6]
 (zr [zp 12 4 0,
 zp 13 12 21,
 zk 14 13 1,
 zm 9 14] [3,4,5,6,9] [4,5,6]
 (.seq (.prep [10] (.reg true [zp 15 5 4,
 zg 16 (.ldl 5 t15 3 true),
 zm 17 9,
 zp 18 6 4,
 zg 19 (.ldl 6 t18 1 false),
 zc 20 80 [t17,t19],
 zc 21 79 [t16,t20],
 zg 10 (.alp [zo,zo,zo]),
 zn (.stl 10 t10 t21 3)] [3,4,5,6,9,10] [4,5,6,10]))
 (.seq (.prep [11] (.reg true [zg 22 (.ldl 10 t10 3 true),
 zm 23 9,
 zp 24 6 5,
 zg 25 (.ldl 6 t24 1 false),
 zc 26 80 [t23,t25],
 zc 27 79 [t22,t26],
 zg 11 (.alp [zo,zo,zo]),
 zn (.stl 11 t11 t27 3)] [3,4,5,6,9,10,11] [4,5,6,10,11]))
 (.seq (.reg true [zm 28 9,
 zp 29 5 4,
 zg 30 (.ldl 5 t29 3 true),
 zp 31 6 4,
 zg 32 (.ldl 6 t31 1 false),
 zc 33 280 [t28,t30,t32],
 zm 34 33,
 zt 35 34 (.mov t9),
 zt 36 34 (.ldl 10 t10 3 true),
 zt 37 34 (.off t6 5),
 zt 38 34 (.ldl 6 t37 1 false),
 zt 39 34 (.call 280 [t35,t36,t38] false),
 zg 40 (.pick t34 t39 zF),
 zm 41 40,
 zt 42 41 (.ldl 11 t11 3 true),
 zt 43 41 (.off t4 0),
 zt 44 41 (.off t43 19),
 zt 45 41 (.ldl 4 t44 1 false),
 zt 46 41 (.mov t9),
 zt 47 41 (.mov t3),
 zt 48 41 (.call 149 [t45,t46,t47] false),
 zt 49 41 (.call 150 [t42,t48] false),
 zg 50 (.pick t41 t49 zF),
 zm 8 50] [8] [])
 .ret))))),
 [.tmp 8],false⟩
def ir204:IFn:=
⟨(zr [zg 3 (.bx t0 19 true),
 zg 5 (.bx t2 2 true),
 zg 6 (.mov zF)] [1,3,5] [3,5]
 (zr [zl 7 3 19,
 zm 8 1,
 zp 9 5 0,
 zk 10 9 1,
 zp 11 3 11,
 zk 12 11 1,
 zp 13 3 9,
 zk 14 13 1,
 zc 15 281 [t7,t8,t10,(zi 1),t12,t14],
 zm 16 15,
 zt 17 16 (.ld t3 19 true),
 zt 18 16 (.mov t1),
 zt 19 16 (.off t5 1),
 zt 20 16 (.ld t19 1 false),
 zt 21 16 (.off t3 12),
 zt 22 16 (.ld t21 1 false),
 zt 23 16 (.off t3 10),
 zt 24 16 (.ld t23 1 false),
 zt 25 16 (.call 281 [t17,t18,t20,(zi 2),t22,t24] false),
 zg 26 (.pick t16 t25 zF),
 zm 6 26] [6] []
 .ret)),
 [.tmp 6],false⟩
def q0X1:IC:=
 (.loop [0,7,16,17,18] [] (zr [zg 19 (.bin .lss t18 t17)] [0,7,16,17,18,19] []
 (.seq (.cond t19
 .skip
 (.exit 0))
 (.seq (.block 1 (zr [zg 20 (.ixs t16 t18 3),
 zl 21 20 3,
 zg 9 (.al [zo,zo,zo] true),
 zn (.st t9 t21 3)] [0,7,9,16,17,18] [9]
 (zr [zp 22 9 0,
 zk 23 22 1,
 zg 24 (.bin .geq t23 (zi 0)),
 zm 25 24,
 zt 26 25 (.off t9 0),
 zt 27 25 (.ld t26 1 false),
 zt 28 25 (.mov t0),
 zt 29 25 (.len t28),
 zt 30 25 (.bin .lss t27 t29),
 zg 31 (.pick t25 t30 zF)] [0,7,9,16,17,18,31] [9]
 (.cond t31
 (.reg true [zm 32 7,
 zm 33 0,
 zp 34 9 0,
 zg 35 (.ldl 9 t34 1 false),
 zg 36 (.ixs t33 t35 2),
 zl 37 36 2,
 zp 38 9 1,
 zg 39 (.ldl 9 t38 1 false),
 zp 40 9 2,
 zg 41 (.ldl 9 t40 1 false),
 zc 42 283 [t37,t39,t41],
 zg 43 (.bin .add t32 t42),
 zg 44 (.mnmx false t43 (zi 1125899906842624)),
 zm 7 44] [0,7,16,17,18] [])
 .skip))))
 (.reg false [zg 45 (.bin .add t18 (zi 1)),
 zm 18 45] [0,7,16,17,18] [])))))
def ir209:IFn:=
⟨(zr [zg 6 (.mov (zi 0))] [0,1,2] []
 (.seq (zr [zm 10 1,
 zh 11 10,
 zg 12 (.bin .eql t11 (zi 0))] [0,1,2,12] []
 (.cond t12
 (zr [zg 6 (.mov (zi 0))] [6] []
 .ret)
 .skip))
 (zr [zm 13 2,
 zg 14 (.mnmx true t13 (zi 0)),
 zg 15 (.mnmx false t14 (zi 1125899906842624)),
 zm 7 15] [0,1,7] []
 (.seq (zr [zm 16 1,
 zh 17 16,
 zg 18 (.mov (zi 0))] [0,7,16,17,18] []
 (.block 0 q0X1))
 (zr [zm 46 7,
 zm 6 46] [6] []
 .ret))))),
 [.tmp 6],false⟩
def ir210:IFn:=
⟨(zr [zg 3 (.bx t0 19 true),
 zg 5 (.bx t2 2 true),
 zg 6 (.mov (zi 0))] [1,3,5] [3,5]
 (.seq (.reg true [zm 7 1,
 zp 8 5 0,
 zg 9 (.ldl 5 t8 1 false),
 zp 10 3 7,
 zg 11 (.ldl 3 t10 1 false),
 zc 12 284 [t7,t9,t11],
 zm 13 1,
 zp 14 5 1,
 zg 15 (.ldl 5 t14 1 false),
 zp 16 3 7,
 zg 17 (.ldl 3 t16 1 false),
 zc 18 284 [t13,t15,t17],
 zg 19 (.bin .add t12 t18),
 zm 6 19] [6] [])
 .ret)),
 [.tmp 6],false⟩
def ir211:IFn:=
⟨(zr [zg 3 (.bx t0 19 true),
 zg 6 (.mov (zi 0))] [1,2,3] [3]
 (zr [zm 8 1,
 zm 9 2,
 zp 10 3 7,
 zk 11 10 1,
 zc 12 284 [t8,t9,t11],
 zm 7 12] [3,7] [3]
 (.seq (zr [zm 13 7,
 zg 14 (.bin .eql t13 (zi 0))] [3,7,14] [3]
 (.cond t14
 (zr [zg 6 (.mov (zi 0))] [6] []
 .ret)
 .skip))
 (zr [zm 15 7,
 zp 16 3 7,
 zk 17 16 1,
 zg 18 (.mnmx true t17 (zi 0)),
 zg 19 (.mnmx false t18 (zi 1125899906842624)),
 zg 20 (.bin .sub t15 t19),
 zm 6 20] [6] []
 .ret)))),
 [.tmp 6],false⟩
end Go.EnvOf
