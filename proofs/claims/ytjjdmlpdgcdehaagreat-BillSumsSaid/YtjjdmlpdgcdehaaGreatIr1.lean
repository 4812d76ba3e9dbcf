/- The engine's instructions for the functions, part 1. -/
import Derived.Test.YtjjdmlpdgcdehaaGreatIrT
import Derived.Test.YtjjdmlpdgcdehaaGreatEngAll2
namespace Go.EnvOf
open Go Go.Eng
set_option maxRecDepth 100000
def ir133:IFn:=
⟨(zr [zg 1 (.bx t0 7 true),
 zg 2 (.al [zo,zo,zo,zo,zo,zo] true)] [1,2] [1,2]
 (.seq (zr [zp 3 1 0,
 zk 4 3 1] [1,2,4] [1,2]
 (.block 0 (zr [zg 6 (.bin .eql t4 (zi 1)),
 zm 5 6] [1,2,4,5] [1,2]
 (.cond t5
 (zr [zp 7 1 1,
 zk 8 7 1,
 zc 9 237 [t8],
 zn (.st t2 t9 6)] [2] [2]
 .ret)
 (zr [zg 11 (.bin .eql t4 (zi 2)),
 zm 10 11] [1,2,10] [1,2]
 (.cond t10
 (zr [zp 12 1 1,
 zk 13 12 1,
 zp 14 1 3,
 zk 15 14 1,
 zp 16 1 4,
 zk 17 16 1,
 zp 18 1 5,
 zk 19 18 1,
 zc 20 238 [t13,t15,t17,t19],
 zn (.st t2 t20 6)] [2] [2]
 .ret)
 .skip))))))
 (zr [zg 21 (.bld [zo,zo,zo,zo,zo,zo] []),
 zn (.st t2 t21 6)] [2] [2]
 .ret))),
 [.cell 2 6 true],false⟩
def q0g2:IC:=
 (.loop [1,3,5] [1] (zr [zg 6 (.bin .lss t5 (zi 4))] [1,3,5,6] [1]
 (.seq (.cond t6
 .skip
 (.exit 0))
 (.seq (.block 1 (zr [zm 7 5,
 zm 4 7] [1,3,4,5] [1]
 (zr [zm 8 3,
 zm 9 4,
 zp 10 1 1,
 zg 11 (.ixa t10 t9 1 4),
 zk 12 11 1,
 zg 13 (.callv t8 [t12] false),
 zj 14 13] [1,3,5,14] [1]
 (.cond t14
 (zr [zg 2 (.mov zF)] [2] []
 .ret)
 .skip))))
 (.reg false [zg 15 (.bin .add t5 (zi 1)),
 zm 5 15] [1,3,5] [1])))))
def ir134:IFn:=
⟨(zr [zg 1 (.bx t0 6 true),
 zg 2 (.mov zF)] [1] [1]
 (zr [zg 3 (.mov (.c (.p (.fn 239))))] [1,3] [1]
 (.seq (zr [zg 5 (.mov (zi 0))] [1,3,5] [1]
 (.block 0 q0g2))
 (zr [zm 16 3,
 zp 17 1 0,
 zk 18 17 1,
 zg 19 (.callv t16 [t18] false),
 zm 20 19,
 zt 21 20 (.mov t3),
 zt 22 20 (.off t1 5),
 zt 23 20 (.ld t22 1 false),
 zt 24 20 (.callv t21 [t23] false),
 zg 25 (.pick t20 t24 zF),
 zm 2 25] [2] []
 .ret)))),
 [.tmp 2],false⟩
def ir135:IFn:=
⟨(zr [zg 2 (.bx t0 6 true),
 zg 3 (.bx t1 6 true),
 zg 4 (.al [zo,zo,zo,zo,zo,zo] true),
 zg 5 (.mov zF)] [2,3,4] [2,3,4]
 (zr [zl 6 2 6,
 zl 7 3 6,
 zc 8 240 [t6,t7,(.c (.p (.fn 241)))],
 zx 9 8 0,
 zx 10 8 1,
 zn (.st t4 t9 6),
 zm 5 10] [4,5] [4]
 .ret)),
 [.cell 4 6 true,.tmp 5],false⟩
def ir136:IFn:=
⟨(zr [zg 4 (.al [zo,zo,zo] true),
 zg 5 (.mov zF)] [0,1,4] [4]
 (.seq (zr [zm 6 1,
 zg 7 (.bin .lss t6 (zi 0)),
 zm 8 7,
 zf 9 8 (.mov t1),
 zf 10 8 (.mov t0),
 zf 11 8 (.len t10),
 zf 12 8 (.bin .geq t9 t11),
 zg 13 (.pick t8 zT t12)] [0,1,4,13] [4]
 (.cond t13
 (zr [zg 14 (.bld [zo,zo,zo] []),
 zn (.st t4 t14 3),
 zg 5 (.mov zF)] [4,5] [4]
 .ret)
 .skip))
 (zr [zm 15 0,
 zm 16 1,
 zg 17 (.ixs t15 t16 3),
 zl 18 17 3,
 zn (.st t4 t18 3),
 zg 5 (.mov zT)] [4,5] [4]
 .ret))),
 [.cell 4 3 true,.tmp 5],false⟩
def ir137:IFn:=
⟨(zr [zg 4 (.mov (zi 0)),
 zg 5 (.mov zF)] [0,1] []
 (.seq (zr [zm 6 0,
 zg 7 (.eqn .ptr false t6)] [0,1,7] []
 (.cond t7
 (zr [zg 4 (.mov (zi 0)),
 zg 5 (.mov zF)] [4,5] []
 .ret)
 .skip))
 (zr [zm 8 1,
 zg 9 (.mnmx true t8 (zi 0)),
 zm 10 0,
 zg 11 (.nck t10),
 zp 12 11 0,
 zk 13 12 1,
 zh 14 13,
 zg 15 (.mnmx false t9 t14),
 zm 4 15,
 zg 5 (.mov zT)] [4,5] []
 .ret))),
 [.tmp 4,.tmp 5],false⟩
def ir138:IFn:=
⟨(zr [zg 2 (.mov (zi 0))] [0] []
 (.seq (zr [zm 3 0,
 zg 4 (.eqn .ptr false t3)] [0,4] []
 (.cond t4
 (zr [zg 2 (.mov (zi 0))] [2] []
 .ret)
 .skip))
 (zr [zm 5 0,
 zg 6 (.nck t5),
 zp 7 6 0,
 zk 8 7 1,
 zh 9 8,
 zm 2 9] [2] []
 .ret))),
 [.tmp 2],false⟩
def ir161:IFn:=
⟨(zr [zg 4 (.mov (zi 0))] [0,1] []
 (.seq (zr [zm 5 0,
 zg 6 (.eqn .ptr false t5)] [0,1,6] []
 (.cond t6
 (zr [zg 4 (.mov (zi 0))] [4] []
 .ret)
 .skip))
 (zr [zm 7 0,
 zm 8 1,
 zg 9 (.mnmx true t8 (zi 0)),
 zm 10 0,
 zc 11 138 [t10],
 zg 12 (.mnmx false t9 t11),
 zm 13 0,
 zg 14 (.mkf (.func 257) [t13] []),
 zc 15 256 [t7,t12,t14],
 zm 4 15] [4] []
 .ret))),
 [.tmp 4],false⟩
def ir162:IFn:=
⟨(zr [zg 3 (.bx t1 7 true),
 zg 4 (.al [zo,zo,zo,.nils,.nils,.nils] true),
 zg 5 (.mov zF)] [0,3,4] [3,4]
 (.seq (zr [zm 7 0,
 zl 8 3 7,
 zc 9 258 [t7,t8],
 zj 10 9,
 zm 11 10,
 zf 12 11 (.mov t0),
 zf 13 11 (.ld t3 7 true),
 zf 14 11 (.call 181 [t12,t13] false),
 zf 15 11 (.un .not t14),
 zg 16 (.pick t11 zT t15)] [0,3,4,16] [3,4]
 (.cond t16
 (zr [zg 17 (.bld [zo,zo,zo,.nils,.nils,.nils] []),
 zn (.st t4 t17 6),
 zg 5 (.mov zF)] [4,5] [4]
 .ret)
 .skip))
 (.seq (.reg true [zm 18 0,
 zc 19 115 [t18],
 zp 20 3 0,
 zg 21 (.ldl 3 t20 1 false),
 zc 22 259 [t19,t21],
 zm 6 22] [0,3,4,6] [3,4])
 (.seq (zr [zm 23 6,
 zg 24 (.bin .lss t23 (zi 0))] [0,3,4,6,24] [3,4]
 (.cond t24
 (zr [zg 25 (.bld [zo,zo,zo,.nils,.nils,.nils] []),
 zn (.st t4 t25 6),
 zg 5 (.mov zF)] [4,5] [4]
 .ret)
 .skip))
 (.seq (.reg true [zp 26 3 0,
 zg 27 (.ldl 3 t26 1 false),
 zm 28 6,
 zm 29 0,
 zc 30 84 [t29],
 zg 31 (.fldv t30 20 1 false),
 zm 32 0,
 zg 33 (.ldl 3 t3 7 true),
 zm 34 6,
 zc 35 167 [t32,t33,t34],
 zc 36 260 [t31,t35],
 zg 37 (.bld [zo,zo,zo,.nils,.nils,.nils] [(0,1,(zi 1)),(1,1,t27),(2,1,t28),(3,1,t36)]),
 zn (.stl 4 t4 t37 6),
 zg 5 (.mov zT)] [4,5] [4])
 .ret))))),
 [.cell 4 6 true,.tmp 5],false⟩
def ir163:IFn:=
⟨(zr [zg 3 (.bx t1 7 true),
 zg 4 (.al [zo,zo,zo,.nils,.nils,.nils] true),
 zg 5 (.mov zF)] [0,3,4] [3,4]
 (.seq (zr [zm 6 0,
 zl 7 3 7,
 zc 8 258 [t6,t7],
 zj 9 8] [0,3,4,9] [3,4]
 (.cond t9
 (zr [zg 10 (.bld [zo,zo,zo,.nils,.nils,.nils] []),
 zn (.st t4 t10 6),
 zg 5 (.mov zF)] [4,5] [4]
 .ret)
 .skip))
 (.seq (.reg true [zm 11 0,
 zg 12 (.ldl 3 t3 7 true),
 zm 13 0,
 zc 14 262 [t13],
 zp 15 3 0,
 zg 16 (.ldl 3 t15 1 false),
 zc 17 263 [t14,t16],
 zc 18 261 [t11,t12,t17],
 zx 19 18 0,
 zx 20 18 1,
 zn (.stl 4 t4 t19 6),
 zm 5 20] [4,5] [4])
 .ret))),
 [.cell 4 6 true,.tmp 5],false⟩
def ir164:IFn:=
⟨(zr [zg 3 (.bx t1 7 true),
 zg 4 (.al [zo,zo,zo,.nils,.nils,.nils] true),
 zg 5 (.mov zF)] [0,3,4] [3,4]
 (zr [zm 8 0,
 zc 9 84 [t8],
 zg 10 (.fldv t9 20 1 false),
 zm 6 10] [0,3,4,6] [3,4]
 (.seq (.seq (.reg true [zm 11 0,
 zg 12 (.ldl 3 t3 7 true),
 zc 13 258 [t11,t12],
 zj 14 13,
 zm 15 14,
 zf 16 15 (.off t3 0),
 zf 17 15 (.ldl 3 t16 1 false),
 zf 18 15 (.mov t0),
 zf 19 15 (.call 115 [t18] false),
 zf 20 15 (.call 138 [t19] false),
 zf 21 15 (.bin .lss t17 t20),
 zg 22 (.pick t15 zT t21),
 zm 23 22,
 zf 24 23 (.off t3 2),
 zf 25 23 (.ldl 3 t24 1 false),
 zf 26 23 (.mov t6),
 zf 27 23 (.len t26),
 zf 28 23 (.bin .eql t25 t27),
 zg 29 (.pick t23 zT t28)] [0,3,4,6,29] [3,4])
 (.cond t29
 (zr [zg 30 (.bld [zo,zo,zo,.nils,.nils,.nils] []),
 zn (.st t4 t30 6),
 zg 5 (.mov zF)] [4,5] [4]
 .ret)
 .skip))
 (zr [zm 31 0,
 zl 32 3 7,
 zp 33 3 0,
 zk 34 33 1,
 zc 35 167 [t31,t32,t34],
 zg 7 (.al [zo,zo,zo,.p (.bool false)] true),
 zn (.st t7 t35 4)] [3,4,6,7] [3,4,7]
 (zr [zp 36 7 3,
 zn (.st t36 zT 1)] [3,4,6,7] [3,4,7]
 (.seq (.reg true [zp 37 3 0,
 zg 38 (.ldl 3 t37 1 false),
 zp 39 3 0,
 zg 40 (.ldl 3 t39 1 false),
 zm 41 6,
 zg 42 (.ldl 7 t7 4 true),
 zc 43 260 [t41,t42],
 zg 44 (.bld [zo,zo,zo,.nils,.nils,.nils] [(0,1,(zi 3)),(1,1,t38),(2,1,t40),(3,1,t43)]),
 zn (.stl 4 t4 t44 6),
 zg 5 (.mov zT)] [4,5] [4])
 .ret)))))),
 [.cell 4 6 true,.tmp 5],false⟩
def ir165:IFn:=
⟨(zr [zg 3 (.bx t1 7 true),
 zg 4 (.al [zo,zo,zo,.nils,.nils,.nils] true),
 zg 5 (.mov zF)] [0,3,4] [3,4]
 (.seq (zr [zm 6 0,
 zl 7 3 7,
 zc 8 258 [t6,t7],
 zj 9 8] [0,3,4,9] [3,4]
 (.cond t9
 (zr [zg 10 (.bld [zo,zo,zo,.nils,.nils,.nils] []),
 zn (.st t4 t10 6),
 zg 5 (.mov zF)] [4,5] [4]
 .ret)
 .skip))
 (.seq (.reg true [zm 11 0,
 zg 12 (.ldl 3 t3 7 true),
 zm 13 0,
 zc 14 262 [t13],
 zp 15 3 0,
 zg 16 (.ldl 3 t15 1 false),
 zc 17 58 [t14,t16],
 zc 18 261 [t11,t12,t17],
 zx 19 18 0,
 zx 20 18 1,
 zn (.stl 4 t4 t19 6),
 zm 5 20] [4,5] [4])
 .ret))),
 [.cell 4 6 true,.tmp 5],false⟩
def ir166:IFn:=
⟨(zr [zg 4 (.bx t1 4 true),
 zg 6 (.mov (zi 0)),
 zg 7 (.mov (zi 0))] [0,2,4] [4]
 (.seq (zr [zm 9 2,
 zh 10 9,
 zg 11 (.bin .eql t10 (zi 0))] [0,2,4,11] [4]
 (.cond t11
 (.seq (.reg true [zp 12 4 0,
 zg 13 (.ldl 4 t12 1 false),
 zp 14 4 1,
 zg 15 (.ldl 4 t14 1 false),
 zm 6 13,
 zm 7 15] [6,7] [])
 .ret)
 .skip))
 (zr [zm 16 2,
 zm 17 2,
 zh 18 17,
 zg 19 (.bin .sub t18 (zi 1)),
 zg 20 (.ixs t16 t19 3),
 zl 21 20 3,
 zg 8 (.al [zo,zo,zo] true),
 zn (.st t8 t21 3)] [0,8] [8]
 (.seq (.seq (.reg true [zp 22 8 0,
 zg 23 (.ldl 8 t22 1 false),
 zg 24 (.bin .geq t23 (zi 0)),
 zm 25 24,
 zt 26 25 (.off t8 0),
 zt 27 25 (.ldl 8 t26 1 false),
 zt 28 25 (.mov t0),
 zt 29 25 (.len t28),
 zt 30 25 (.bin .lss t27 t29),
 zg 31 (.pick t25 t30 zF),
 zm 32 31,
 zt 33 32 (.off t8 2),
 zt 34 32 (.ldl 8 t33 1 false),
 zt 35 32 (.mov t0),
 zt 36 32 (.off t8 0),
 zt 37 32 (.ldl 8 t36 1 false),
 zt 38 32 (.ixs t35 t37 2),
 zt 39 32 (.off t38 0),
 zt 40 32 (.ld t39 1 false),
 zt 41 32 (.len t40),
 zt 42 32 (.bin .eql t34 t41),
 zg 43 (.pick t32 t42 zF)] [8,43] [8])
 (.cond t43
 (zr [zp 44 8 0,
 zk 45 44 1,
 zg 46 (.bin .add t45 (zi 1)),
 zm 6 46,
 zg 7 (.mov (zi 0))] [6,7] []
 .ret)
 .skip))
 (.seq (.reg true [zp 47 8 0,
 zg 48 (.ldl 8 t47 1 false),
 zp 49 8 2,
 zg 50 (.ldl 8 t49 1 false),
 zm 6 48,
 zm 7 50] [6,7] [])
 .ret))))),
 [.tmp 6,.tmp 7],false⟩
def ir167:IFn:=
⟨(zr [zg 4 (.bx t1 7 true),
 zg 6 (.al [zo,zo,zo,.p (.bool false)] true)] [0,2,4,6] [4,6]
 (.seq (zr [zm 8 0,
 zl 9 4 7,
 zc 10 89 [t8,t9],
 zj 11 10] [0,2,4,6,11] [4,6]
 (.cond t11
 (zr [zg 12 (.bld [zo,zo,zo,.p (.bool false)] []),
 zn (.st t6 t12 4)] [6] [6]
 .ret)
 .skip))
 (zr [zm 13 0,
 zg 14 (.nck t13),
 zp 15 14 0,
 zk 16 15 1,
 zg 17 (.nck t16),
 zp 18 17 2,
 zk 19 18 1,
 zm 20 2,
 zc 21 264 [t19,t20],
 zm 7 21] [0,4,6,7] [4,6]
 (.seq (.reg true [zp 22 4 2,
 zg 23 (.ldl 4 t22 1 false),
 zp 24 4 3,
 zg 25 (.ldl 4 t24 1 false),
 zm 26 7,
 zm 27 7,
 zm 28 0,
 zg 29 (.nck t28),
 zp 30 29 0,
 zk 31 30 1,
 zg 32 (.nck t31),
 zp 33 32 2,
 zk 34 33 1,
 zp 35 4 0,
 zg 36 (.ldl 4 t35 1 false),
 zc 37 264 [t34,t36],
 zg 38 (.bin .gtr t27 t37),
 zg 39 (.bld [zo,zo,zo,.p (.bool false)] [(0,1,t23),(1,1,t25),(2,1,t26),(3,1,t38)]),
 zn (.stl 6 t6 t39 4)] [6] [6])
 .ret)))),
 [.cell 6 4 true],false⟩
def ir168:IFn:=
⟨(zr [zg 2 (.bx t0 3 true),
 zg 3 (.bx t1 3 true),
 zg 4 (.al [zo,zo,zo] true)] [2,3,4] [2,3,4]
 (zr [zl 5 2 3,
 zl 6 3 3,
 zc 7 265 [t5,t6,(zi (-1073741824)),(.c (.p (.fn 266)))],
 zn (.st t4 t7 3)] [4] [4]
 .ret)),
 [.cell 4 3 true],false⟩
def q0Ww:IC:=
 (.loop [0,4,5,10,11,12] [4,5] (zr [zg 13 (.bin .lss t12 t11)] [0,4,5,10,11,12,13] [4,5]
 (.seq (.cond t13
 .skip
 (.exit 0))
 (.seq (.block 1 (zr [zg 14 (.ixs t10 t12 1),
 zk 15 14 1,
 zm 7 15] [0,4,5,7,10,11,12] [4,5]
 (zr [zm 17 0,
 zm 18 7,
 zc 19 136 [t17,t18],
 zm 16 19,
 zx 20 16 0,
 zx 21 16 1,
 zg 8 (.al [zo,zo,zo] true),
 zn (.st t8 t20 3),
 zm 9 21] [0,4,5,8,9,10,11,12] [4,5,8]
 (zr [zm 22 9,
 zm 23 22,
 zt 24 23 (.off t8 0),
 zt 25 23 (.ld t24 1 false),
 zt 26 23 (.bin .geq t25 (zi 0)),
 zg 27 (.pick t23 t26 zF),
 zm 28 27,
 zt 29 28 (.off t8 0),
 zt 30 28 (.ld t29 1 false),
 zt 31 28 (.bin .lss t30 (zi 3)),
 zg 32 (.pick t28 t31 zF)] [0,4,5,8,10,11,12,32] [4,5,8]
 (.cond t32
 (.reg false [zp 33 8 0,
 zk 34 33 1,
 zg 35 (.ixa t5 t34 1 3),
 zk 36 35 1,
 zg 37 (.bin .add t36 (zi 1)),
 zg 38 (.ixa t5 t34 1 3),
 zn (.st t38 t37 1)] [0,4,5,10,11,12] [4,5])
 .skip)))))
 (.reg false [zg 39 (.bin .add t12 (zi 1)),
 zm 12 39] [0,4,5,10,11,12] [4,5])))))
def ir169:IFn:=
⟨(zr [zg 4 (.al [zo,zo,zo] true)] [0,1,4] [4]
 (zr [zg 5 (.al [zo,zo,zo] true)] [0,1,4,5] [4,5]
 (.seq (zr [zm 10 1,
 zh 11 10,
 zg 12 (.mov (zi 0))] [0,4,5,10,11,12] [4,5]
 (.block 0 q0Ww))
 (zr [zl 40 5 3,
 zn (.st t4 t40 3)] [4] [4]
 .ret)))),
 [.cell 4 3 true],false⟩
def ir178:IFn:=
⟨(zr [zg 1 (.bx t0 36 true),
 zg 2 (.mov zF)] [1] [1]
 (zr [zp 3 1 8,
 zp 4 3 3,
 zk 5 4 1,
 zh 6 5,
 zg 7 (.bin .gtr t6 (zi 0)),
 zm 2 7] [2] []
 .ret)),
 [.tmp 2],false⟩
def ir179:IFn:=
⟨(zr [zg 1 (.bx t0 36 true),
 zg 2 (.mov zF)] [1] [1]
 (.seq (.reg true [zp 3 1 1,
 zp 4 3 0,
 zg 5 (.ldl 1 t4 1 false),
 zp 6 1 0,
 zg 7 (.ldl 1 t6 1 false),
 zc 8 115 [t7],
 zc 9 138 [t8],
 zg 10 (.bin .eql t5 t9),
 zm 2 10] [2] [])
 .ret)),
 [.tmp 2],false⟩
def ir180:IFn:=
⟨(zr [zg 1 (.bx t0 36 true),
 zg 2 (.mov zF)] [1] [1]
 (zr [zp 3 1 0,
 zk 4 3 1,
 zp 5 1 1,
 zl 6 5 7,
 zc 7 181 [t4,t6],
 zj 8 7,
 zm 2 8] [2] []
 .ret)),
 [.tmp 2],false⟩
def ir181:IFn:=
⟨(zr [zg 3 (.bx t1 7 true),
 zg 4 (.mov zF)] [0,3] [3]
 (.seq (.reg true [zm 5 0,
 zg 6 (.ldl 3 t3 7 true),
 zc 7 89 [t5,t6],
 zm 8 7,
 zt 9 8 (.mov t0),
 zt 10 8 (.nck t9),
 zt 11 8 (.off t10 0),
 zt 12 8 (.ld t11 1 false),
 zt 13 8 (.nck t12),
 zt 14 8 (.off t13 2),
 zt 15 8 (.ld t14 1 false),
 zt 16 8 (.off t3 0),
 zt 17 8 (.ldl 3 t16 1 false),
 zt 18 8 (.call 263 [t15,t17] false),
 zt 19 8 (.off t3 4),
 zt 20 8 (.ldl 3 t19 3 true),
 zt 21 8 (.call 197 [t18,t20] false),
 zg 22 (.pick t8 t21 zF),
 zm 4 22] [4] [])
 .ret)),
 [.tmp 4],false⟩
def ir182:IFn:=
⟨(zr [zg 1 (.bx t0 36 true),
 zg 2 (.mov zF)] [1] [1]
 (.seq (.reg true [zp 3 1 0,
 zg 4 (.ldl 1 t3 1 false),
 zc 5 115 [t4],
 zp 6 1 1,
 zp 7 6 0,
 zg 8 (.ldl 1 t7 1 false),
 zc 9 184 [t5,t8],
 zp 10 1 8,
 zp 11 10 2,
 zg 12 (.ldl 1 t11 1 false),
 zc 13 183 [t9,t12],
 zj 14 13,
 zm 2 14] [2] [])
 .ret)),
 [.tmp 2],false⟩
def ir183:IFn:=
⟨(zr [zg 4 (.mov zF)] [0,1] []
 (zr [zm 5 0,
 zm 6 1,
 zc 7 270 [t5,t6],
 zg 8 (.bin .geq t7 (zi 0)),
 zm 4 8] [4] []
 .ret)),
 [.tmp 4],false⟩
def q0W3:IC:=
 (.loop [0,5,6,7] [] (.seq (zr [zm 14 7,
 zg 15 (.bin .gtr t14 (zi 0)),
 zm 16 15,
 zt 17 16 (.mov t7),
 zt 18 16 (.mov t6),
 zt 19 16 (.bin .leq t17 t18),
 zg 20 (.pick t16 t19 zF)] [0,5,6,7,20] []
 (.cond t20
 .skip
 (.exit 0)))
 (.seq (.block 1 (.reg false [zm 24 5,
 zm 25 7,
 zg 26 (.bsl 1 1 [zo] [(0,t25)]),
 zg 27 (.app t24 t26 1),
 zm 5 27] [0,5,6,7] []))
 (.reg false [zm 21 0,
 zm 22 7,
 zc 23 259 [t21,t22],
 zm 7 23] [0,5,6,7] []))))
def ir184:IFn:=
⟨(zr [zg 4 (.mov (.c (.nils)))] [0,1] []
 (zr [zg 5 (.nrow 1)] [0,1,5] []
 (zr [zm 8 0,
 zm 9 1,
 zc 10 271 [t8,t9],
 zm 6 10] [0,1,5,6] []
 (.seq (zr [zm 11 0,
 zm 12 1,
 zc 13 259 [t11,t12],
 zm 7 13] [0,5,6,7] []
 (.block 0 q0W3))
 (zr [zm 28 5,
 zm 4 28] [4] []
 .ret))))),
 [.tmp 4],false⟩
def ir185:IFn:=
⟨(zr [zg 1 (.bx t0 36 true),
 zg 2 (.mov zF)] [1] [1]
 (.seq (.reg true [zp 3 1 14,
 zp 4 3 20,
 zg 5 (.ldl 1 t4 1 false),
 zp 6 1 0,
 zg 7 (.ldl 1 t6 1 false),
 zp 8 1 1,
 zg 9 (.ldl 1 t8 7 true),
 zp 10 1 8,
 zp 11 10 2,
 zg 12 (.ldl 1 t11 1 false),
 zc 13 167 [t7,t9,t12],
 zp 14 1 8,
 zp 15 14 3,
 zg 16 (.ldl 1 t15 1 false),
 zc 17 186 [t5,t13,t16],
 zj 18 17,
 zm 2 18] [2] [])
 .ret)),
 [.tmp 2],false⟩
def q0Vq:IC:=
 (.reg false [zm 7 11] [5,6,7] [])
def q0Vr:IC:=
 (.block 1 (zr [zm 12 7,
 zk 13 5 1,
 zc 14 198 [t12,t13]] [6,14] []
 (.cond t14
 (zr [zn (.st t6 zT 1)] [6] []
 .ret)
 .skip)))
def ir186:IFn:=
⟨(zr [zg 4 (.bx t1 4 true),
 zg 5 (.bx t2 1 false),
 zg 6 (.al [.p (.bool false)] false)] [0,4,5,6] [4]
 (.seq (zr [zm 8 0,
 zl 9 4 4,
 zc 10 272 [t8,t9]] [5,6,10] []
 (.block 0 (.rangeFunc t10 [11] q0Vq q0Vr)))
 (zr [zn (.st t6 zF 1)] [6] []
 .ret))),
 [.cell 6 1 false],false⟩
def ir187:IFn:=
⟨(zr [zg 1 (.bx t0 36 true),
 zg 2 (.mov zF)] [1] [1]
 (zr [zl 3 1 36,
 zp 4 1 8,
 zp 5 4 2,
 zk 6 5 1,
 zc 7 188 [t3,t6],
 zj 8 7,
 zm 9 8,
 zf 10 9 (.off t1 14),
 zf 11 9 (.off t10 0),
 zf 12 9 (.ld t11 19 true),
 zf 13 9 (.off t1 14),
 zf 14 9 (.off t13 21),
 zf 15 9 (.ld t14 1 false),
 zf 16 9 (.off t1 8),
 zf 17 9 (.off t16 4),
 zf 18 9 (.ld t17 1 false),
 zf 19 9 (.off t1 8),
 zf 20 9 (.off t19 5),
 zf 21 9 (.ld t20 1 false),
 zf 22 9 (.bld [.nils,.nils] [(0,1,t18),(1,1,t21)]),
 zf 23 9 (.call 189 [t12,t15,t22] false),
 zf 24 9 (.un .not t23),
 zg 25 (.pick t9 zT t24),
 zm 2 25] [2] []
 .ret)),
 [.tmp 2],false⟩
def ir188:IFn:=
⟨(zr [zg 2 (.bx t0 36 true),
 zg 4 (.mov zF)] [1,2] [2]
 (zr [zp 8 2 14,
 zp 9 8 21,
 zk 10 9 1,
 zm 5 10] [1,2,5] [2]
 (.seq (.prep [6] (.reg true [zp 11 2 1,
 zp 12 11 4,
 zg 13 (.ldl 2 t12 3 true),
 zm 14 5,
 zp 15 2 8,
 zp 16 15 4,
 zg 17 (.ldl 2 t16 1 false),
 zc 18 169 [t14,t17],
 zc 19 168 [t13,t18],
 zg 6 (.alp [zo,zo,zo]),
 zn (.stl 6 t6 t19 3)] [1,2,5,6] [2,6]))
 (.seq (.prep [7] (.reg true [zg 20 (.ldl 6 t6 3 true),
 zm 21 5,
 zp 22 2 8,
 zp 23 22 5,
 zg 24 (.ldl 2 t23 1 false),
 zc 25 169 [t21,t24],
 zc 26 168 [t20,t25],
 zg 7 (.alp [zo,zo,zo]),
 zn (.stl 7 t7 t26 3)] [1,2,5,6,7] [2,6,7]))
 (.seq (.reg true [zm 27 5,
 zp 28 2 1,
 zp 29 28 4,
 zg 30 (.ldl 2 t29 3 true),
 zp 31 2 8,
 zp 32 31 4,
 zg 33 (.ldl 2 t32 1 false),
 zc 34 273 [t27,t30,t33],
 zm 35 34,
 zt 36 35 (.mov t5),
 zt 37 35 (.ldl 6 t6 3 true),
 zt 38 35 (.off t2 8),
 zt 39 35 (.off t38 5),
 zt 40 35 (.ldl 2 t39 1 false),
 zt 41 35 (.call 273 [t36,t37,t40] false),
 zg 42 (.pick t35 t41 zF),
 zm 43 42,
 zt 44 43 (.ldl 7 t7 3 true),
 zt 45 43 (.off t2 0),
 zt 46 43 (.ldl 2 t45 1 false),
 zt 47 43 (.call 262 [t46] false),
 zt 48 43 (.mov t1),
 zt 49 43 (.call 58 [t47,t48] false),
 zt 50 43 (.call 197 [t44,t49] false),
 zg 51 (.pick t43 t50 zF),
 zm 4 51] [4] [])
 .ret))))),
 [.tmp 4],false⟩
def ir189:IFn:=
⟨(zr [zg 3 (.bx t0 19 true),
 zg 5 (.bx t2 2 true),
 zg 6 (.mov zF)] [1,3,5] [3,5]
 (.seq (.reg true [zg 7 (.ldl 3 t3 19 true),
 zc 8 274 [t7],
 zg 9 (.ldl 3 t3 19 true),
 zm 10 1,
 zp 11 5 0,
 zg 12 (.ldl 5 t11 1 false),
 zc 13 275 [t8,t9,t10,t12],
 zm 14 13,
 zt 15 14 (.ldl 3 t3 19 true),
 zt 16 14 (.call 276 [t15] false),
 zt 17 14 (.ldl 3 t3 19 true),
 zt 18 14 (.mov t1),
 zt 19 14 (.off t5 1),
 zt 20 14 (.ldl 5 t19 1 false),
 zt 21 14 (.call 275 [t16,t17,t18,t20] false),
 zg 22 (.pick t14 t21 zF),
 zm 6 22] [6] [])
 .ret)),
 [.tmp 6],false⟩
def ir190:IFn:=
⟨(zr [zg 1 (.bx t0 36 true),
 zg 2 (.mov zF)] [1] [1]
 (zr [zp 3 1 8,
 zp 4 3 2,
 zk 5 4 1,
 zp 6 1 1,
 zp 7 6 0,
 zk 8 7 1,
 zg 9 (.bin .neq t5 t8),
 zm 2 9] [2] []
 .ret)),
 [.tmp 2],false⟩
def ir191:IFn:=
⟨(zr [zg 1 (.bx t0 36 true),
 zg 2 (.mov zF)] [1] [1]
 (zr [zp 3 1 8,
 zp 4 3 4,
 zk 5 4 1,
 zh 6 5,
 zg 7 (.bin .eql t6 (zi 0)),
 zm 8 7,
 zf 9 8 (.off t1 8),
 zf 10 8 (.off t9 4),
 zf 11 8 (.ld t10 1 false),
 zf 12 8 (.len t11),
 zf 13 8 (.bin .gtr t12 (zi 8)),
 zg 14 (.pick t8 zT t13),
 zm 15 14,
 zf 16 15 (.off t1 8),
 zf 17 15 (.off t16 5),
 zf 18 15 (.ld t17 1 false),
 zf 19 15 (.len t18),
 zf 20 15 (.bin .gtr t19 (zi 0)),
 zg 21 (.pick t15 zT t20),
 zm 22 21,
 zf 23 22 (.ld t1 36 true),
 zf 24 22 (.off t1 1),
 zf 25 22 (.off t24 0),
 zf 26 22 (.ld t25 1 false),
 zf 27 22 (.call 188 [t23,t26] false),
 zf 28 22 (.un .not t27),
 zg 29 (.pick t22 zT t28),
 zm 30 29,
 zf 31 30 (.ld t1 36 true),
 zf 32 30 (.call 90 [t31] false),
 zg 33 (.pick t30 zT t32),
 zm 2 33] [2] []
 .ret)),
 [.tmp 2],false⟩
def ir192:IFn:=
⟨(zr [zg 1 (.bx t0 36 true),
 zg 2 (.mov zF)] [1] [1]
 (zr [zl 3 1 36,
 zc 4 190 [t3],
 zm 5 4,
 zf 6 5 (.ld t1 36 true),
 zf 7 5 (.call 179 [t6] false),
 zf 8 5 (.un .not t7),
 zg 9 (.pick t5 zT t8),
 zm 2 9] [2] []
 .ret)),
 [.tmp 2],false⟩
def ir193:IFn:=
⟨(zr [zg 1 (.bx t0 36 true),
 zg 2 (.mov zF)] [1] [1]
 (zr [zp 3 1 8,
 zp 4 3 3,
 zk 5 4 1,
 zh 6 5,
 zg 7 (.bin .eql t6 (zi 0)),
 zm 8 7,
 zf 9 8 (.ld t1 36 true),
 zf 10 8 (.call 194 [t9] false),
 zf 11 8 (.un .not t10),
 zg 12 (.pick t8 zT t11),
 zm 2 12] [2] []
 .ret)),
 [.tmp 2],false⟩
def ir194:IFn:=
⟨(zr [zg 1 (.bx t0 36 true),
 zg 2 (.mov zF)] [1] [1]
 (zr [zp 4 1 0,
 zk 5 4 1,
 zp 6 1 1,
 zl 7 6 7,
 zp 8 1 1,
 zp 9 8 0,
 zk 10 9 1,
 zc 11 167 [t5,t7,t10],
 zg 3 (.al [zo,zo,zo,.p (.bool false)] true),
 zn (.st t3 t11 4)] [1,3] [1,3]
 (zr [zp 12 3 3,
 zn (.st t12 zT 1)] [1,3] [1,3]
 (zr [zp 13 1 14,
 zp 14 13 20,
 zk 15 14 1,
 zl 16 3 4,
 zp 17 1 8,
 zp 18 17 3,
 zk 19 18 1,
 zc 20 186 [t15,t16,t19],
 zm 2 20] [2] []
 .ret)))),
 [.tmp 2],false⟩
def ir195:IFn:=
⟨(zr [zg 1 (.bx t0 36 true),
 zg 2 (.mov zF)] [1] [1]
 (zr [zp 3 1 8,
 zp 4 3 4,
 zk 5 4 1,
 zh 6 5,
 zp 7 1 8,
 zp 8 7 5,
 zk 9 8 1,
 zh 10 9,
 zg 11 (.bin .add t6 t10),
 zg 12 (.bin .gtr t11 (zi 0)),
 zm 2 12] [2] []
 .ret)),
 [.tmp 2],false⟩
def ir196:IFn:=
⟨(zr [zg 3 (.bx t1 7 true),
 zg 4 (.mov zF)] [0,3] [3]
 (.seq (.reg true [zm 7 0,
 zg 8 (.nck t7),
 zp 9 8 0,
 zk 10 9 1,
 zg 11 (.nck t10),
 zp 12 11 2,
 zk 13 12 1,
 zp 14 3 0,
 zg 15 (.ldl 3 t14 1 false),
 zc 16 264 [t13,t15],
 zm 5 16] [0,3,5] [3])
 (.seq (zr [zp 17 3 3,
 zk 18 17 1,
 zg 19 (.bin .eql t18 (zi 0))] [0,3,5,19] [3]
 (.cond t19
 (zr [zp 20 3 2,
 zk 21 20 1,
 zm 22 5,
 zg 23 (.bin .eql t21 t22),
 zm 4 23] [4] []
 .ret)
 .skip))
 (.seq (zr [zp 24 3 2,
 zk 25 24 1,
 zm 26 5,
 zg 27 (.bin .sub t26 (zi 1)),
 zg 28 (.bin .neq t25 t27),
 zm 29 28,
 zf 30 29 (.off t3 2),
 zf 31 29 (.ld t30 1 false),
 zf 32 29 (.bin .lss t31 (zi 0)),
 zg 33 (.pick t29 zT t32),
 zm 34 33,
 zf 35 34 (.off t3 3),
 zf 36 34 (.ld t35 1 false),
 zf 37 34 (.bin .lss t36 (zi 1)),
 zg 38 (.pick t34 zT t37)] [0,3,38] [3]
 (.cond t38
 (zr [zg 4 (.mov zF)] [4] []
 .ret)
 .skip))
 (.seq (.prep [6] (.reg true [zm 39 0,
 zg 40 (.nck t39),
 zp 41 40 1,
 zp 42 41 20,
 zk 43 42 1,
 zp 44 3 2,
 zg 45 (.ldl 3 t44 1 false),
 zg 46 (.ixs t43 t45 2),
 zl 47 46 2,
 zg 6 (.alp [.nils,.nils]),
 zn (.stl 6 t6 t47 2)] [3,6] [3,6]))
 (zr [zp 48 3 3,
 zk 49 48 1,
 zp 50 6 0,
 zk 51 50 1,
 zh 52 51,
 zg 53 (.bin .lss t49 t52),
 zm 54 53,
 zt 55 54 (.ld t6 2 true),
 zt 56 54 (.off t3 3),
 zt 57 54 (.ld t56 1 false),
 zt 58 54 (.call 277 [t55,t57] false),
 zg 59 (.pick t54 t58 zF),
 zm 4 59] [4] []
 .ret)))))),
 [.tmp 4],false⟩
def q0W4:IC:=
 (.loop [3,7,8] [3] (zr [zg 9 (.bin .lss t8 (zi 3))] [3,7,8,9] [3]
 (.seq (.cond t9
 .skip
 (.exit 0))
 (.seq (.block 1 (zr [zm 10 8,
 zg 11 (.ixv t7 t8 1 3 false),
 zm 5 10,
 zm 6 11] [3,5,6,7,8] [3]
 (zr [zm 12 6,
 zm 13 5,
 zg 14 (.ixa t3 t13 1 3),
 zk 15 14 1,
 zg 16 (.bin .gtr t12 t15)] [3,7,8,16] [3]
 (.cond t16
 (zr [zg 4 (.mov zF)] [4] []
 .ret)
 .skip))))
 (.reg false [zg 17 (.bin .add t8 (zi 1)),
 zm 8 17] [3,7,8] [3])))))
def ir197:IFn:=
⟨(zr [zg 2 (.bx t0 3 true),
 zg 3 (.bx t1 3 true),
 zg 4 (.mov zF)] [2,3] [2,3]
 (.seq (zr [zl 7 2 3,
 zg 8 (.mov (zi 0))] [3,7,8] [3]
 (.block 0 q0W4))
 (zr [zg 4 (.mov zT)] [4] []
 .ret))),
 [.tmp 4],false⟩
def ir198:IFn:=
⟨(zr [zg 4 (.mov zF)] [0,1] []
 (zr [zm 5 0,
 zm 6 1,
 zc 7 278 [t5,t6],
 zm 4 7] [4] []
 .ret)),
 [.tmp 4],false⟩
def q0ow:IC:=
 (.loop [0,1,12,13] [] (zr [zg 14 (.bin .lss t13 t12)] [0,1,12,13,14] []
 (.seq (.cond t14
 .skip
 (.exit 0))
 (.seq (.block 1 (zr [zm 15 13,
 zm 5 15] [0,1,5,12,13] []
 (.seq (.reg true [zm 16 0,
 zm 17 5,
 zg 18 (.ixs t16 t17 1),
 zk 19 18 1,
 zm 20 1,
 zm 21 5,
 zg 22 (.ixs t20 t21 1),
 zk 23 22 1,
 zg 24 (.bin .neq t19 t23)] [0,1,12,13,24] [])
 (.cond t24
 (zr [zg 4 (.mov zF)] [4] []
 .ret)
 .skip))))
 (.reg false [zg 25 (.bin .add t13 (zi 1)),
 zm 13 25] [0,1,12,13] [])))))
def ir199:IFn:=
⟨(zr [zg 4 (.mov zF)] [0,1] []
 (.seq (zr [zm 6 0,
 zh 7 6,
 zm 8 1,
 zh 9 8,
 zg 10 (.bin .neq t7 t9)] [0,1,10] []
 (.cond t10
 (zr [zg 4 (.mov zF)] [4] []
 .ret)
 .skip))
 (.seq (zr [zm 11 0,
 zh 12 11,
 zg 13 (.mov (zi 0))] [0,1,12,13] []
 (.block 0 q0ow))
 (zr [zg 4 (.mov zT)] [4] []
 .ret)))),
 [.tmp 4],false⟩
def q0X1:IC:=
 (.loop [0,7,16,17,18] [] (zr [zg 19 (.bin .lss t18 t17)] [0,7,16,17,18,19] []
 (.seq (.cond t19
 .skip
 (.exit 0))
 (.seq (.block 1 (zr [zg 20 (.ixs t16 t18 3),
 zl 21 20 3,
 zg 9 (.al [zo,zo,zo] true),
 zn (.st t9 t21 3)] [0,7,9,16,17,18] [9]
 (zr [zp 22 9 0,
 zk 23 22 1,
 zg 24 (.bin .geq t23 (zi 0)),
 zm 25 24,
 zt 26 25 (.off t9 0),
 zt 27 25 (.ld t26 1 false),
 zt 28 25 (.mov t0),
 zt 29 25 (.len t28),
 zt 30 25 (.bin .lss t27 t29),
 zg 31 (.pick t25 t30 zF)] [0,7,9,16,17,18,31] [9]
 (.cond t31
 (.reg true [zm 32 7,
 zm 33 0,
 zp 34 9 0,
 zg 35 (.ldl 9 t34 1 false),
 zg 36 (.ixs t33 t35 2),
 zl 37 36 2,
 zp 38 9 1,
 zg 39 (.ldl 9 t38 1 false),
 zp 40 9 2,
 zg 41 (.ldl 9 t40 1 false),
 zc 42 283 [t37,t39,t41],
 zg 43 (.bin .add t32 t42),
 zg 44 (.mnmx false t43 (zi 1125899906842624)),
 zm 7 44] [0,7,16,17,18] [])
 .skip))))
 (.reg false [zg 45 (.bin .add t18 (zi 1)),
 zm 18 45] [0,7,16,17,18] [])))))
def ir209:IFn:=
⟨(zr [zg 6 (.mov (zi 0))] [0,1,2] []
 (.seq (zr [zm 10 1,
 zh 11 10,
 zg 12 (.bin .eql t11 (zi 0))] [0,1,2,12] []
 (.cond t12
 (zr [zg 6 (.mov (zi 0))] [6] []
 .ret)
 .skip))
 (zr [zm 13 2,
 zg 14 (.mnmx true t13 (zi 0)),
 zg 15 (.mnmx false t14 (zi 1125899906842624)),
 zm 7 15] [0,1,7] []
 (.seq (zr [zm 16 1,
 zh 17 16,
 zg 18 (.mov (zi 0))] [0,7,16,17,18] []
 (.block 0 q0X1))
 (zr [zm 46 7,
 zm 6 46] [6] []
 .ret))))),
 [.tmp 6],false⟩
def ir210:IFn:=
⟨(zr [zg 3 (.bx t0 19 true),
 zg 5 (.bx t2 2 true),
 zg 6 (.mov (zi 0))] [1,3,5] [3,5]
 (.seq (.reg true [zm 7 1,
 zp 8 5 0,
 zg 9 (.ldl 5 t8 1 false),
 zp 10 3 7,
 zg 11 (.ldl 3 t10 1 false),
 zc 12 284 [t7,t9,t11],
 zm 13 1,
 zp 14 5 1,
 zg 15 (.ldl 5 t14 1 false),
 zp 16 3 7,
 zg 17 (.ldl 3 t16 1 false),
 zc 18 284 [t13,t15,t17],
 zg 19 (.bin .add t12 t18),
 zm 6 19] [6] [])
 .ret)),
 [.tmp 6],false⟩
def ir211:IFn:=
⟨(zr [zg 3 (.bx t0 19 true),
 zg 6 (.mov (zi 0))] [1,2,3] [3]
 (zr [zm 8 1,
 zm 9 2,
 zp 10 3 7,
 zk 11 10 1,
 zc 12 284 [t8,t9,t11],
 zm 7 12] [3,7] [3]
 (.seq (zr [zm 13 7,
 zg 14 (.bin .eql t13 (zi 0))] [3,7,14] [3]
 (.cond t14
 (zr [zg 6 (.mov (zi 0))] [6] []
 .ret)
 .skip))
 (zr [zm 15 7,
 zp 16 3 7,
 zk 17 16 1,
 zg 18 (.mnmx true t17 (zi 0)),
 zg 19 (.mnmx false t18 (zi 1125899906842624)),
 zg 20 (.bin .sub t15 t19),
 zm 6 20] [6] []
 .ret)))),
 [.tmp 6],false⟩
def ir212:IFn:=
⟨(zr [zg 3 (.bx t1 7 true),
 zg 4 (.mov (zi 0))] [0,3] [3]
 (.seq (.block 0 (zr [zm 6 0,
 zl 7 3 7,
 zc 8 89 [t6,t7],
 zj 9 8,
 zm 5 9] [0,3,5] [3]
 (.cond t5
 (zr [zg 4 (.mov (zi 0))] [4] []
 .ret)
 (.seq (.reg true [zp 11 3 1,
 zg 12 (.ldl 3 t11 1 false),
 zm 13 0,
 zg 14 (.nck t13),
 zp 15 14 1,
 zp 16 15 0,
 zp 17 16 0,
 zk 18 17 1,
 zg 19 (.bin .lss t12 t18),
 zm 10 19] [0,10] [])
 (.cond t10
 (zr [zm 20 0,
 zg 21 (.nck t20),
 zp 22 21 1,
 zp 23 22 0,
 zp 24 23 4,
 zk 25 24 1,
 zm 4 25] [4] []
 .ret)
 .skip)))))
 (zr [zm 26 0,
 zg 27 (.nck t26),
 zp 28 27 1,
 zp 29 28 0,
 zp 30 29 3,
 zk 31 30 1,
 zm 4 31] [4] []
 .ret))),
 [.tmp 4],false⟩
def ir213:IFn:=
⟨(zr [zg 3 (.bx t1 6 true),
 zg 4 (.mov zF)] [0,3] [3]
 (.seq (zr [zp 7 3 0,
 zk 8 7 1,
 zg 9 (.bin .neq t8 (zi 1))] [0,3,9] [3]
 (.cond t9
 (zr [zg 4 (.mov zF)] [4] []
 .ret)
 .skip))
 (.seq (.prep [5] (.reg true [zm 11 0,
 zc 12 115 [t11],
 zp 13 3 2,
 zg 14 (.ldl 3 t13 1 false),
 zc 15 218 [t12,t14],
 zm 10 15,
 zx 16 10 0,
 zx 17 10 1,
 zg 5 (.alp [zo,zo,zo,zo,zo,zo,zo]),
 zn (.stl 5 t5 t16 7),
 zm 6 17] [0,3,5,6] [3,5]))
 (.seq (.reg true [zp 18 3 2,
 zg 19 (.ldl 3 t18 1 false),
 zm 20 0,
 zc 21 115 [t20],
 zc 22 138 [t21],
 zg 23 (.bin .eql t19 t22),
 zm 24 23,
 zf 25 24 (.mov t6),
 zf 26 24 (.mov t25),
 zt 27 26 (.off t3 2),
 zt 28 26 (.ldl 3 t27 1 false),
 zt 29 26 (.bin .gtr t28 (zi 0)),
 zf 30 24 (.pick t26 t29 zF),
 zf 31 24 (.mov t30),
 zt 32 31 (.ldl 5 t5 7 true),
 zt 33 31 (.call 220 [t32] false),
 zf 34 24 (.pick t31 t33 zF),
 zg 35 (.pick t24 zT t34),
 zm 4 35] [4] [])
 .ret)))),
 [.tmp 4],false⟩
def ir214:IFn:=
⟨(zr [zg 3 (.bx t0 6 true),
 zg 6 (.al [zo,zo,zo,zo,zo] true)] [1,2,3,6] [3,6]
 (.seq (zr [zl 9 3 6,
 zm 10 1,
 zc 11 285 [t9,t10],
 zj 12 11] [1,2,3,6,12] [3,6]
 (.cond t12
 (zr [zg 13 (.bld [zo,zo,zo,zo,zo] []),
 zn (.st t6 t13 5)] [6] [6]
 .ret)
 .skip))
 (.seq (.reg true [zm 14 1,
 zp 15 3 0,
 zg 16 (.ldl 3 t15 1 false),
 zg 17 (.bin .sub t14 t16),
 zg 18 (.ldl 3 t3 6 true),
 zc 19 286 [t18],
 zm 7 17,
 zm 8 19] [2,3,6,7,8] [3,6])
 (.seq (.block 0 (zr [zm 21 7,
 zg 22 (.bin .eql t21 (zi 0)),
 zm 20 22] [2,3,6,7,8,20] [3,6]
 (.cond t20
 (zr [zg 23 (.bld [zo,zo,zo,zo,zo] []),
 zn (.st t6 t23 5)] [6] [6]
 .ret)
 (zr [zm 25 7,
 zg 26 (.bin .gtr t25 (zi 0)),
 zm 27 26,
 zt 28 27 (.mov t8),
 zt 29 27 (.off t3 1),
 zt 30 27 (.ixa t29 t28 1 4),
 zt 31 27 (.ld t30 1 false),
 zt 32 27 (.bin .gtr t31 (zi 0)),
 zg 33 (.pick t27 t32 zF),
 zm 34 33,
 zt 35 34 (.mov t2),
 zt 36 34 (.mov t35),
 zt 37 36 (.mov t8),
 zt 38 36 (.bin .eql t37 (zi 0)),
 zt 39 34 (.pick t36 t38 zF),
 zt 40 34 (.un .not t39),
 zg 41 (.pick t34 t40 zF),
 zm 24 41] [3,6,7,8,24] [3,6]
 (.cond t24
 (zr [zm 42 8,
 zm 43 7,
 zm 44 8,
 zp 45 3 1,
 zg 46 (.ixa t45 t44 1 4),
 zk 47 46 1,
 zg 48 (.bld [zo,zo,zo,zo,zo] [(0,1,(zi 1)),(1,1,t42),(2,1,t43),(3,1,t47)]),
 zn (.st t6 t48 5)] [6] [6]
 .ret)
 (zr [zm 50 7,
 zg 51 (.bin .gtr t50 (zi 0)),
 zm 49 51] [3,6,7,49] [3,6]
 (.cond t49
 (zr [zm 52 7,
 zg 53 (.bld [zo,zo,zo,zo,zo] [(4,1,t52)]),
 zn (.st t6 t53 5)] [6] [6]
 .ret)
 (zr [zp 55 3 5,
 zk 56 55 1,
 zm 57 7,
 zg 58 (.bin .add t56 t57),
 zg 59 (.bin .geq t58 (zi 0)),
 zm 54 59] [3,6,7,54] [3,6]
 (.cond t54
 (zr [zm 60 7,
 zg 61 (.un .neg t60),
 zp 62 3 5,
 zk 63 62 1,
 zg 64 (.bld [zo,zo,zo,zo,zo] [(0,1,(zi 2)),(2,1,t61),(3,1,t63)]),
 zn (.st t6 t64 5)] [6] [6]
 .ret)
 .skip)))))))))
 (zr [zp 65 3 5,
 zk 66 65 1,
 zp 67 3 5,
 zk 68 67 1,
 zp 69 3 5,
 zk 70 69 1,
 zm 71 7,
 zg 72 (.bin .add t70 t71),
 zg 73 (.bld [zo,zo,zo,zo,zo] [(0,1,(zi 3)),(2,1,t66),(3,1,t68),(4,1,t72)]),
 zn (.st t6 t73 5)] [6] [6]
 .ret))))),
 [.cell 6 5 true],false⟩
def ir215:IFn:=
⟨(zr [zg 2 (.mov (.c (.p .nilp)))] [0] []
 (zr [zm 3 0,
 zc 4 229 [t3],
 zc 5 287 [t4],
 zm 2 5] [2] []
 .ret)),
 [.tmp 2],false⟩
def ir216:IFn:=
⟨(zr [zg 6 (.al [zo,zo,zo,zo,zo,zo] true)] [0,1,2,6] [6]
 (zr [zm 11 0,
 zm 12 1,
 zm 13 2,
 zc 14 288 [t11,t12,t13],
 zm 10 14,
 zx 15 10 0,
 zx 16 10 1,
 zx 17 10 2,
 zm 1 15,
 zm 2 16,
 zm 7 17] [0,1,2,6,7] [6]
 (.seq (zr [zm 18 7,
 zj 19 18] [0,1,2,6,19] [6]
 (.cond t19
 (zr [zg 20 (.bld [zo,zo,zo,zo,zo,zo] []),
 zn (.st t6 t20 6)] [6] [6]
 .ret)
 .skip))
 (.seq (.prep [8] (.reg true [zm 22 0,
 zg 23 (.nck t22),
 zp 24 23 1,
 zk 25 24 1,
 zm 26 2,
 zg 27 (.ixs t25 t26 6),
 zl 28 27 6,
 zm 29 0,
 zg 30 (.nck t29),
 zp 31 30 1,
 zk 32 31 1,
 zm 33 1,
 zg 34 (.ixs t32 t33 6),
 zl 35 34 6,
 zc 36 289 [t28,t35],
 zm 21 36,
 zx 37 21 0,
 zx 38 21 1,
 zg 8 (.alp [zo,zo,zo,zo,zo,zo]),
 zn (.stl 8 t8 t37 6),
 zm 9 38] [6,8] [6,8]))
 (zr [zl 39 8 6,
 zn (.st t6 t39 6)] [6] [6]
 .ret))))),
 [.cell 6 6 true],false⟩
def ir217:IFn:=
⟨(zr [zg 4 (.mov (zi 0))] [0,1] []
 (zr [zm 5 0,
 zm 6 1,
 zc 7 291 [t5,t6],
 zc 8 290 [t7],
 zm 4 8] [4] []
 .ret)),
 [.tmp 4],false⟩
def ir218:IFn:=
⟨(zr [zg 4 (.al [zo,zo,zo,zo,zo,zo,zo] true),
 zg 5 (.mov zF)] [0,1,4] [4]
 (.seq (zr [zm 6 1,
 zg 7 (.bin .lss t6 (zi 0)),
 zm 8 7,
 zf 9 8 (.mov t1),
 zf 10 8 (.mov t0),
 zf 11 8 (.call 138 [t10] false),
 zf 12 8 (.bin .geq t9 t11),
 zg 13 (.pick t8 zT t12)] [0,1,4,13] [4]
 (.cond t13
 (zr [zg 14 (.bld [zo,zo,zo,zo,zo,zo,zo] []),
 zn (.st t4 t14 7),
 zg 5 (.mov zF)] [4,5] [4]
 .ret)
 .skip))
 (zr [zm 15 0,
 zg 16 (.nck t15),
 zp 17 16 0,
 zk 18 17 1,
 zm 19 1,
 zg 20 (.ixs t18 t19 7),
 zl 21 20 7,
 zn (.st t4 t21 7),
 zg 5 (.mov zT)] [4,5] [4]
 .ret))),
 [.cell 4 7 true,.tmp 5],false⟩
def ir219:IFn:=
⟨(zr [zg 4 (.mov zF)] [0,1] []
 (zr [zm 8 0,
 zm 9 1,
 zc 10 218 [t8,t9],
 zm 7 10,
 zx 11 7 0,
 zx 12 7 1,
 zg 5 (.al [zo,zo,zo,zo,zo,zo,zo] true),
 zn (.st t5 t11 7),
 zm 6 12] [0,1,5,6] [5]
 (.seq (.block 0 (zr [zm 14 1,
 zg 15 (.bin .lss t14 (zi 1)),
 zm 16 15,
 zf 17 16 (.mov t1),
 zf 18 16 (.mov t0),
 zf 19 16 (.call 138 [t18] false),
 zf 20 16 (.bin .gtr t17 t19),
 zg 21 (.pick t16 zT t20),
 zm 13 21] [0,1,5,6,13] [5]
 (.cond t13
 (zr [zg 4 (.mov zF)] [4] []
 .ret)
 (zr [zm 23 6,
 zj 24 23,
 zm 22 24] [0,1,5,22] [5]
 (.cond t22
 (zr [zg 4 (.mov zT)] [4] []
 .ret)
 (zr [zp 26 5 0,
 zk 27 26 1,
 zg 28 (.bin .eql t27 (zi 2)),
 zm 25 28] [0,1,5,25] [5]
 (.cond t25
 (zr [zm 29 0,
 zg 30 (.nck t29),
 zp 31 30 0,
 zk 32 31 1,
 zm 33 1,
 zg 34 (.bin .sub t33 (zi 1)),
 zg 35 (.ixs t32 t34 7),
 zl 36 35 7,
 zc 37 292 [t36],
 zj 38 37,
 zm 4 38] [4] []
 .ret)
 .skip)))))))
 (zr [zp 39 5 0,
 zk 40 39 1,
 zg 41 (.bin .eql t40 (zi 3)),
 zm 42 41,
 zt 43 42 (.ld t5 7 true),
 zt 44 42 (.call 293 [t43] false),
 zt 45 42 (.un .not t44),
 zg 46 (.pick t42 t45 zF),
 zm 4 46] [4] []
 .ret)))),
 [.tmp 4],false⟩
def ir220:IFn:=
⟨(zr [zg 1 (.bx t0 7 true),
 zg 2 (.mov zF)] [1] [1]
 (zr [zp 3 1 0,
 zk 4 3 1,
 zg 5 (.bin .eql t4 (zi 3)),
 zm 6 5,
 zt 7 6 (.off t1 6),
 zt 8 6 (.ld t7 1 false),
 zt 9 6 (.bin .leq t8 (zi (-10000))),
 zg 10 (.pick t6 t9 zF),
 zm 2 10] [2] []
 .ret)),
 [.tmp 2],false⟩
def ir221:IFn:=
⟨(zr [zg 4 (.mov zF)] [0,1] []
 (zr [zm 5 0,
 zc 6 294 [t5,(zi 1)],
 zm 7 0,
 zm 8 1,
 zc 9 295 [t7,t8],
 zg 10 (.callv t6 [t9] false),
 zm 4 10] [4] []
 .ret)),
 [.tmp 4],false⟩
def ir222:IFn:=
⟨(zr [zg 4 (.mov zF)] [0,1] []
 (zr [zm 5 0,
 zc 6 294 [t5,(zi 2)],
 zm 7 0,
 zm 8 1,
 zc 9 296 [t7,t8],
 zg 10 (.callv t6 [t9] false),
 zm 4 10] [4] []
 .ret)),
 [.tmp 4],false⟩
def ir223:IFn:=
⟨(zr [zg 2 (.bx t0 2 true),
 zg 4 (.mov (zi 0))] [1,2] [2]
 (.seq (zr [zl 5 2 2,
 zm 6 1,
 zc 7 297 [t5,t6]] [1,2,7] [2]
 (.cond t7
 (zr [zp 8 2 1,
 zk 9 8 1,
 zm 10 1,
 zg 11 (.bin .sub t10 (zi 1)),
 zg 12 (.ixs t9 t11 1),
 zk 13 12 1,
 zm 4 13] [4] []
 .ret)
 .skip))
 (zr [zg 4 (.mov (zi 0))] [4] []
 .ret))),
 [.tmp 4],false⟩
def ir224:IFn:=
⟨(zr [zg 2 (.bx t0 3 true),
 zg 3 (.bx t1 3 true),
 zg 4 (.al [zo,zo,zo] true)] [2,3,4] [2,3,4]
 (zr [zl 5 2 3,
 zl 6 3 3,
 zc 7 265 [t5,t6,(zi 0),(.c (.p (.fn 298)))],
 zn (.st t4 t7 3)] [4] [4]
 .ret)),
 [.cell 4 3 true],false⟩
def ir225:IFn:=
⟨(zr [zg 6 (.mov (zi 0))] [0,1,2] []
 (zr [zm 7 0,
 zm 8 1,
 zg 9 (.mnmx true t7 t8),
 zm 10 2,
 zg 11 (.mnmx false t9 t10),
 zm 6 11] [6] []
 .ret)),
 [.tmp 6],false⟩
def ir228:IFn:=
⟨(zr [zg 2 (.bx t0 2 true),
 zg 3 (.bx t1 2 true),
 zg 4 (.al [zo,zo] true)] [2,3,4] [2,3,4]
 (.seq (.reg true [zp 5 2 0,
 zg 6 (.ldl 2 t5 1 false),
 zp 7 3 0,
 zg 8 (.ldl 3 t7 1 false),
 zc 9 299 [t6,t8],
 zp 10 2 1,
 zg 11 (.ldl 2 t10 1 false),
 zp 12 3 1,
 zg 13 (.ldl 3 t12 1 false),
 zc 14 300 [t11,t13],
 zg 15 (.bld [zo,zo] [(0,1,t9),(1,1,t14)]),
 zn (.stl 4 t4 t15 2)] [4] [4])
 .ret)),
 [.cell 4 2 true],false⟩
def ir229:IFn:=
⟨(zr [zg 2 (.mov (.c (.p .nilp)))] [0] []
 (.seq (zr [zm 3 0,
 zg 4 (.eqn .ptr false t3)] [0,4] []
 (.cond t4
 (zr [zg 2 (.mov (.c (.p .nilp)))] [2] []
 .ret)
 .skip))
 (zr [zm 5 0,
 zg 6 (.nck t5),
 zp 7 6 0,
 zk 8 7 1,
 zm 2 8] [2] []
 .ret))),
 [.tmp 2],false⟩
def ir230:IFn:=
⟨(zr [zg 2 (.mov (.c (.p .nilp)))] [0] []
 (.seq (zr [zm 3 0,
 zg 4 (.eqn .ptr false t3)] [0,4] []
 (.cond t4
 (zr [zg 2 (.mov (.c (.p .nilp)))] [2] []
 .ret)
 .skip))
 (zr [zm 5 0,
 zg 6 (.nck t5),
 zp 7 6 0,
 zk 8 7 1,
 zm 2 8] [2] []
 .ret))),
 [.tmp 2],false⟩
def ir231:IFn:=
⟨(zr [zg 2 (.bx t0 2 true),
 zg 3 (.bx t1 2 true),
 zg 4 (.mov (zi 0))] [2,3] [2,3]
 (zr [zl 5 2 2,
 zl 6 3 2,
 zc 7 301 [t5,t6],
 zm 4 7] [4] []
 .ret)),
 [.tmp 4],false⟩
def ir232:IFn:=
⟨(zr [zg 0 (.mov (.c (.nils)))] [] []
 (zr [zc 1 302 [(.c (.p (.fn 303)))],
 zg 2 (.bld [zo,.p .nilf] [(0,1,(zi 3)),(1,1,t1)]),
 zc 3 302 [(.c (.p (.fn 304)))],
 zg 4 (.bld [zo,.p .nilf] [(0,1,(zi 4)),(1,1,t3)]),
 zc 5 302 [(.c (.p (.fn 305)))],
 zg 6 (.bld [zo,.p .nilf] [(0,1,(zi 5)),(1,1,t5)]),
 zc 7 302 [(.c (.p (.fn 306)))],
 zg 8 (.bld [zo,.p .nilf] [(0,1,(zi 6)),(1,1,t7)]),
 zc 9 302 [(.c (.p (.fn 308)))],
 zg 10 (.bld [zo,.p .nilf] [(0,1,(zi 7)),(1,1,t9)]),
 zg 11 (.bld [zo,.p .nilf] [(0,1,(zi 8)),(1,1,(.c (.p (.fn 309))))]),
 zg 12 (.bld [zo,.p .nilf] [(0,1,(zi 9)),(1,1,(.c (.p (.fn 312))))]),
 zg 13 (.bld [zo,.p .nilf] [(0,1,(zi 10)),(1,1,(.c (.p (.fn 315))))]),
 zg 14 (.bld [zo,.p .nilf] [(0,1,(zi 11)),(1,1,(.c (.p (.fn 318))))]),
 zg 15 (.bld [zo,.p .nilf] [(0,1,(zi 12)),(1,1,(.c (.p (.fn 319))))]),
 zg 16 (.bsl 2 10 [zo,.p .nilf] [(0,t2),(1,t4),(2,t6),(3,t8),(4,t10),(5,t11),(6,t12),(7,t13),(8,t14),(9,t15)]),
 zm 0 16] [0] []
 .ret)),
 [.tmp 0],false⟩
def ir233:IFn:=
⟨(zr [zg 4 (.mov (zi 0))] [0,1] []
 (.seq (zr [zm 6 1,
 zg 7 (.bin .lss t6 (zi 1))] [0,1,7] []
 (.cond t7
 (zr [zm 8 0,
 zm 4 8] [4] []
 .ret)
 .skip))
 (zr [zm 9 0,
 zm 10 1,
 zg 11 (.bin .rem t9 t10),
 zm 5 11] [0,1,5] []
 (.seq (zr [zm 12 5,
 zg 13 (.bin .lss t12 (zi 0))] [0,1,5,13] []
 (.cond t13
 (.reg false [zm 14 5,
 zm 15 1,
 zg 16 (.bin .add t14 t15),
 zm 5 16] [0,1,5] [])
 .skip))
 (.seq (zr [zm 17 5,
 zm 18 1,
 zm 19 5,
 zg 20 (.bin .sub t18 t19),
 zg 21 (.bin .lss t17 t20)] [0,1,21] []
 (.cond t21
 (zr [zm 22 0,
 zm 23 1,
 zc 24 131 [t22,t23],
 zm 4 24] [4] []
 .ret)
 .skip))
 (zr [zm 25 0,
 zm 26 1,
 zc 27 132 [t25,t26],
 zm 4 27] [4] []
 .ret)))))),
 [.tmp 4],false⟩
def ir234:IFn:=
⟨(zr [zg 6 (.mov (zi 0))] [0,1,2] []
 (.seq (zr [zm 10 2,
 zm 11 0,
 zm 12 1,
 zg 13 (.callv t10 [t11,t12] false),
 zm 9 13,
 zx 14 9 0,
 zx 15 9 1,
 zm 7 14,
 zm 8 15] [0,7,8] []
 (zr [zm 16 8] [0,7,16] []
 (.cond t16
 (zr [zm 17 7,
 zm 6 17] [6] []
 .ret)
 .skip)))
 (zr [zm 18 0,
 zm 6 18] [6] []
 .ret))),
 [.tmp 6],false⟩
def ir235:IFn:=
⟨(zr [zg 4 (.mov (zi 0)),
 zg 5 (.mov zF)] [0,1] []
 (.seq (zr [zm 6 1,
 zg 7 (.bin .lss t6 (zi 1))] [0,1,7] []
 (.cond t7
 (zr [zg 4 (.mov (zi 0)),
 zg 5 (.mov zF)] [4,5] []
 .ret)
 .skip))
 (zr [zm 8 0,
 zm 9 0,
 zm 10 1,
 zc 11 321 [t9,t10],
 zc 12 320 [t8,t11],
 zx 13 12 0,
 zx 14 12 1,
 zm 4 13,
 zm 5 14] [4,5] []
 .ret))),
 [.tmp 4,.tmp 5],false⟩
def ir236:IFn:=
⟨(zr [zg 4 (.mov (zi 0)),
 zg 5 (.mov zF)] [0,1] []
 (.seq (zr [zm 7 1,
 zg 8 (.bin .lss t7 (zi 1))] [0,1,8] []
 (.cond t8
 (zr [zg 4 (.mov (zi 0)),
 zg 5 (.mov zF)] [4,5] []
 .ret)
 .skip))
 (.seq (zr [zm 9 0,
 zm 10 1,
 zc 11 321 [t9,t10],
 zm 6 11] [0,1,6] []
 (zr [zm 12 6,
 zg 13 (.bin .gtr t12 (zi 0))] [0,1,6,13] []
 (.cond t13
 (zr [zm 14 0,
 zm 15 1,
 zm 16 6,
 zg 17 (.bin .sub t15 t16),
 zc 18 241 [t14,t17],
 zx 19 18 0,
 zx 20 18 1,
 zm 4 19,
 zm 5 20] [4,5] []
 .ret)
 .skip)))
 (zr [zm 21 0,
 zm 4 21,
 zg 5 (.mov zT)] [4,5] []
 .ret)))),
 [.tmp 4,.tmp 5],false⟩
def ir237:IFn:=
⟨(zr [zg 2 (.al [zo,zo,zo,zo,zo,zo] true)] [0,2] [2]
 (zr [zm 3 0,
 zg 4 (.bld [zo,zo,zo,zo,zo,zo] [(0,1,t3)]),
 zn (.st t2 t4 6)] [2] [2]
 .ret)),
 [.cell 2 6 true],false⟩
def ir238:IFn:=
⟨(zr [zg 8 (.al [zo,zo,zo,zo,zo,zo] true)] [0,1,2,3,8] [8]
 (zr [zm 10 0,
 zm 11 3,
 zg 12 (.bld [zo,zo,zo,zo,zo,zo] [(0,1,t10),(5,1,t11)]),
 zg 9 (.al [zo,zo,zo,zo,zo,zo] true),
 zn (.st t9 t12 6)] [1,2,8,9] [8,9]
 (.seq (zr [zm 13 2,
 zg 14 (.bin .geq t13 (zi 0)),
 zm 15 14,
 zt 16 15 (.mov t2),
 zt 17 15 (.bin .lss t16 (zi 4)),
 zg 18 (.pick t15 t17 zF)] [1,2,8,9,18] [8,9]
 (.cond t18
 (.reg false [zm 19 2,
 zm 20 1,
 zp 21 9 1,
 zg 22 (.ixa t21 t19 1 4),
 zn (.st t22 t20 1)] [8,9] [8,9])
 .skip))
 (zr [zl 23 9 6,
 zn (.st t8 t23 6)] [8] [8]
 .ret)))),
 [.cell 8 6 true],false⟩
def ir239:IFn:=
⟨(zr [zg 2 (.mov zF)] [0] []
 (zr [zm 3 0,
 zg 4 (.bin .geq t3 (zi 0)),
 zm 5 4,
 zt 6 5 (.mov t0),
 zt 7 5 (.bin .leq t6 (zi 4294967296)),
 zg 8 (.pick t5 t7 zF),
 zm 2 8] [2] []
 .ret)),
 [.tmp 2],false⟩
def q0gd:IC:=
 (.loop [3,4,6,8,9,10,26] [3,4,6,10] (zr [zg 27 (.bin .lss t26 (zi 4))] [3,4,6,8,9,10,26,27] [3,4,6,10]
 (.seq (.cond t27
 .skip
 (.exit 0))
 (.seq (.block 1 (zr [zm 28 26,
 zm 11 28] [3,4,6,8,9,10,11,26] [3,4,6,10]
 (.reg true [zm 29 11,
 zm 30 9,
 zm 31 11,
 zp 32 3 1,
 zg 33 (.ixa t32 t31 1 4),
 zg 34 (.ldl 3 t33 1 false),
 zm 35 11,
 zp 36 4 1,
 zg 37 (.ixa t36 t35 1 4),
 zg 38 (.ldl 4 t37 1 false),
 zg 39 (.callv t30 [t34,t38] false),
 zp 40 10 1,
 zg 41 (.ixa t40 t29 1 4),
 zn (.stl 10 t41 t39 1)] [3,4,6,8,9,10,26] [3,4,6,10])))
 (.reg false [zg 42 (.bin .add t26 (zi 1)),
 zm 26 42] [3,4,6,8,9,10,26] [3,4,6,10])))))
def ir240:IFn:=
⟨(zr [zg 3 (.bx t0 6 true),
 zg 4 (.bx t1 6 true),
 zg 5 (.bx t2 1 false),
 zg 6 (.al [zo,zo,zo,zo,zo,zo] true),
 zg 7 (.mov zF)] [3,4,5,6] [3,4,6]
 (zr [zg 8 (.al [.p (.bool false)] false),
 zn (.st t8 zT 1)] [3,4,5,6,8] [3,4,6]
 (zr [zg 12 (.mkf (.func 322) [] [t5,t8]),
 zm 9 12] [3,4,6,8,9] [3,4,6]
 (.seq (.prep [10] (.reg true [zm 13 9,
 zp 14 3 0,
 zg 15 (.ldl 3 t14 1 false),
 zp 16 4 0,
 zg 17 (.ldl 4 t16 1 false),
 zg 18 (.callv t13 [t15,t17] false),
 zm 19 9,
 zp 20 3 5,
 zg 21 (.ldl 3 t20 1 false),
 zp 22 4 5,
 zg 23 (.ldl 4 t22 1 false),
 zg 24 (.callv t19 [t21,t23] false),
 zg 25 (.bld [zo,zo,zo,zo,zo,zo] [(0,1,t18),(5,1,t24)]),
 zg 10 (.alp [zo,zo,zo,zo,zo,zo]),
 zn (.stl 10 t10 t25 6)] [3,4,6,8,9,10] [3,4,6,10]))
 (.seq (zr [zg 26 (.mov (zi 0))] [3,4,6,8,9,10,26] [3,4,6,10]
 (.block 0 q0gd))
 (.seq (zr [zk 43 8 1,
 zj 44 43] [6,10,44] [6,10]
 (.cond t44
 (zr [zg 45 (.bld [zo,zo,zo,zo,zo,zo] []),
 zn (.st t6 t45 6),
 zg 7 (.mov zF)] [6,7] [6]
 .ret)
 .skip))
 (zr [zl 46 10 6,
 zn (.st t6 t46 6),
 zg 7 (.mov zT)] [6,7] [6]
 .ret))))))),
 [.cell 6 6 true,.tmp 7],false⟩
def ir241:IFn:=
⟨(zr [zg 4 (.mov (zi 0)),
 zg 5 (.mov zF)] [0,1] []
 (zr [zm 7 0,
 zm 8 1,
 zg 9 (.bin .add t7 t8),
 zm 6 9] [0,1,6] []
 (.seq (zr [zm 10 6,
 zm 11 0,
 zg 12 (.bin .gtr t10 t11),
 zm 13 1,
 zg 14 (.bin .gtr t13 (zi 0)),
 zg 15 (.eqb true t12 t14),
 zm 16 15,
 zt 17 16 (.mov t1),
 zt 18 16 (.bin .neq t17 (zi 0)),
 zg 19 (.pick t16 t18 zF)] [6,19] []
 (.cond t19
 (zr [zg 4 (.mov (zi 0)),
 zg 5 (.mov zF)] [4,5] []
 .ret)
 .skip))
 (zr [zm 20 6,
 zm 4 20,
 zg 5 (.mov zT)] [4,5] []
 .ret)))),
 [.tmp 4,.tmp 5],false⟩
def q0W6:IC:=
 (.loop [0,2,7] [] (.seq (zr [zm 9 7,
 zm 10 0,
 zc 11 138 [t10],
 zg 12 (.bin .leq t9 t11)] [0,2,7,12] []
 (.cond t12
 .skip
 (.exit 0)))
 (.seq (.block 1 (zr [zm 15 2,
 zm 16 7,
 zg 17 (.callv t15 [t16] false)] [0,2,7,17] []
 (.cond t17
 (zr [zm 18 7,
 zm 6 18] [6] []
 .ret)
 .skip)))
 (.reg false [zm 13 7,
 zg 14 (.bin .add t13 (zi 1)),
 zm 7 14] [0,2,7] []))))
def ir256:IFn:=
⟨(zr [zg 6 (.mov (zi 0))] [0,1,2] []
 (.seq (zr [zm 8 1,
 zm 7 8] [0,2,7] []
 (.block 0 q0W6))
 (zr [zg 6 (.mov (zi (-1)))] [6] []
 .ret))),
 [.tmp 6],false⟩
def ir257:IFn:=
⟨(zr [zg 4 (.mov zF)] [0,1] []
 (zr [zm 8 0,
 zm 9 1,
 zc 10 218 [t8,t9],
 zm 7 10,
 zx 11 7 0,
 zx 12 7 1,
 zg 5 (.al [zo,zo,zo,zo,zo,zo,zo] true),
 zn (.st t5 t11 7),
 zm 6 12] [5,6] [5]
 (zr [zm 13 6,
 zj 14 13,
 zm 15 14,
 zf 16 15 (.ld t5 7 true),
 zf 17 15 (.call 292 [t16] false),
 zf 18 15 (.un .not t17),
 zg 19 (.pick t15 zT t18),
 zm 4 19] [4] []
 .ret))),
 [.tmp 4],false⟩
def ir258:IFn:=
⟨(zr [zg 3 (.bx t1 7 true),
 zg 4 (.mov zF)] [0,3] [3]
 (zr [zm 5 0,
 zl 6 3 7,
 zc 7 89 [t5,t6],
 zm 8 7,
 zt 9 8 (.mov t0),
 zt 10 8 (.ld t3 7 true),
 zt 11 8 (.call 64 [t9,t10] false),
 zt 12 8 (.un .not t11),
 zg 13 (.pick t8 t12 zF),
 zm 4 13] [4] []
 .ret)),
 [.tmp 4],false⟩
def ir259:IFn:=
⟨(zr [zg 4 (.mov (zi 0))] [0,1] []
 (.seq (zr [zm 5 1,
 zm 6 0,
 zc 7 138 [t6],
 zg 8 (.bin .geq t5 t7)] [0,1,8] []
 (.cond t8
 (zr [zg 4 (.mov (zi (-1)))] [4] []
 .ret)
 .skip))
 (zr [zm 9 0,
 zm 10 1,
 zg 11 (.mnmx true t10 (zi 0)),
 zg 12 (.bin .add t11 (zi 1)),
 zm 13 0,
 zg 14 (.mkf (.func 219) [t13] []),
 zc 15 256 [t9,t12,t14],
 zm 4 15] [4] []
 .ret))),
 [.tmp 4],false⟩
def q0Vt:IC:=
 (.reg false [zm 5 9] [4,5] [])
def q0Vu:IC:=
 (.block 1 (zr [zm 10 5,
 zn (.st t4 t10 1)] [4] []
 .ret))
def ir260:IFn:=
⟨(zr [zg 3 (.bx t1 4 true),
 zg 4 (.al [.nils] false)] [0,3,4] [3]
 (.seq (zr [zm 6 0,
 zl 7 3 4,
 zc 8 272 [t6,t7]] [4,8] []
 (.block 0 (.rangeFunc t8 [9] q0Vt q0Vu)))
 (zr [zn (.st t4 (.c (.nils)) 1)] [4] []
 .ret))),
 [.cell 4 1 false],false⟩
def q0W7:IC:=
 (.loop [0,4,5,6,14,15] [4,5,6] (zr [zg 16 (.bin .lss t15 (zi 3))] [0,4,5,6,14,15,16] [4,5,6]
 (.seq (.cond t16
 .skip
 (.exit 0))
 (.seq (.block 1 (zr [zm 17 15,
 zg 18 (.ixv t14 t15 1 3 false),
 zm 8 17,
 zm 9 18] [0,4,5,6,8,9,14,15] [4,5,6]
 (zr [zm 19 8,
 zg 20 (.ixa t5 t19 1 3),
 zk 21 20 1,
 zm 22 9,
 zg 23 (.bin .gtr t21 t22)] [0,4,5,6,8,14,15,23] [4,5,6]
 (.cond t23
 (zr [zg 10 (.al [zo,zo,zo] true)] [0,4,6,8,10] [4,6,10]
 (zr [zm 24 8,
 zg 25 (.ixa t10 t24 1 3),
 zn (.st t25 (zi 1) 1)] [0,4,6,10] [4,6,10]
 (.seq (.reg true [zm 27 0,
 zc 28 84 [t27],
 zg 29 (.fldv t28 21 1 false),
 zp 30 4 4,
 zg 31 (.ldl 4 t30 3 true),
 zg 32 (.ldl 10 t10 3 true),
 zc 33 331 [t29,t31,t32],
 zm 26 33,
 zx 34 26 0,
 zx 35 26 1,
 zm 11 34,
 zm 12 35] [4,6,11,12] [4,6])
 (zr [zp 36 4 0,
 zk 37 36 1,
 zp 38 4 0,
 zk 39 38 1,
 zm 40 11,
 zg 41 (.bld [zo,zo,zo,.nils,.nils,.nils] [(0,1,(zi 2)),(1,1,t37),(2,1,t39),(4,1,t40)]),
 zm 42 12,
 zn (.st t6 t41 6),
 zm 7 42] [6,7] [6]
 .ret))))
 .skip))))
 (.reg false [zg 43 (.bin .add t15 (zi 1)),
 zm 15 43] [0,4,5,6,14,15] [4,5,6])))))
def ir261:IFn:=
⟨(zr [zg 4 (.bx t1 7 true),
 zg 5 (.bx t2 3 true),
 zg 6 (.al [zo,zo,zo,.nils,.nils,.nils] true),
 zg 7 (.mov zF)] [0,4,5,6] [4,5,6]
 (.seq (zr [zp 13 4 4,
 zl 14 13 3,
 zg 15 (.mov (zi 0))] [0,4,5,6,14,15] [4,5,6]
 (.block 0 q0W7))
 (zr [zg 44 (.bld [zo,zo,zo,.nils,.nils,.nils] []),
 zn (.st t6 t44 6),
 zg 7 (.mov zF)] [6,7] [6]
 .ret))),
 [.cell 6 6 true,.tmp 7],false⟩
def ir262:IFn:=
⟨(zr [zg 2 (.mov (.c (.p .nilp)))] [0] []
 (zr [zm 3 0,
 zc 4 229 [t3],
 zc 5 332 [t4],
 zm 2 5] [2] []
 .ret)),
 [.tmp 2],false⟩
def ir263:IFn:=
⟨(zr [zg 4 (.al [zo,zo,zo] true)] [0,1,4] [4]
 (zr [zm 7 0,
 zm 8 1,
 zc 9 137 [t7,t8],
 zm 6 9,
 zx 10 6 0,
 zx 11 6 1,
 zm 1 10,
 zm 5 11] [0,1,4,5] [4]
 (.seq (zr [zm 12 5,
 zj 13 12] [0,1,4,13] [4]
 (.cond t13
 (zr [zg 14 (.bld [zo,zo,zo] []),
 zn (.st t4 t14 3)] [4] [4]
 .ret)
 .skip))
 (zr [zm 15 0,
 zg 16 (.nck t15),
 zp 17 16 3,
 zk 18 17 1,
 zm 19 1,
 zg 20 (.ixs t18 t19 3),
 zl 21 20 3,
 zn (.st t4 t21 3)] [4] [4]
 .ret)))),
 [.cell 4 3 true],false⟩
def ir264:IFn:=
⟨(zr [zg 4 (.mov (zi 0))] [0,1] []
 (zr [zm 7 0,
 zm 8 1,
 zc 9 137 [t7,t8],
 zm 6 9,
 zx 10 6 0,
 zx 11 6 1,
 zm 1 10,
 zm 5 11] [0,1,5] []
 (.seq (zr [zm 12 5,
 zj 13 12] [0,1,13] []
 (.cond t13
 (zr [zg 4 (.mov (zi 0))] [4] []
 .ret)
 .skip))
 (zr [zm 14 0,
 zg 15 (.nck t14),
 zp 16 15 1,
 zk 17 16 1,
 zm 18 1,
 zg 19 (.ixs t17 t18 1),
 zk 20 19 1,
 zm 4 20] [4] []
 .ret)))),
 [.tmp 4],false⟩
def q0Xl:IC:=
 (.loop [2,3,4,5,8,9,11] [4,5,8,9] (zr [zg 12 (.bin .lss t11 (zi 3))] [2,3,4,5,8,9,11,12] [4,5,8,9]
 (.seq (.cond t12
 .skip
 (.exit 0))
 (.seq (.block 1 (zr [zm 13 11,
 zm 10 13] [2,3,4,5,8,9,10,11] [4,5,8,9]
 (.reg true [zm 14 10,
 zm 15 3,
 zm 16 10,
 zg 17 (.ixa t4 t16 1 3),
 zg 18 (.ldl 4 t17 1 false),
 zm 19 2,
 zc 20 225 [t18,t19,(zi 1073741824)],
 zm 21 10,
 zg 22 (.ixa t5 t21 1 3),
 zg 23 (.ldl 5 t22 1 false),
 zm 24 2,
 zc 25 225 [t23,t24,(zi 1073741824)],
 zg 26 (.callv t15 [t20,t25] false),
 zm 27 2,
 zc 28 225 [t26,t27,(zi 1073741824)],
 zg 29 (.ixa t9 t14 1 3),
 zn (.stl 9 t29 t28 1)] [2,3,4,5,8,9,11] [4,5,8,9])))
 (.reg false [zg 30 (.bin .add t11 (zi 1)),
 zm 11 30] [2,3,4,5,8,9,11] [4,5,8,9])))))
def ir265:IFn:=
⟨(zr [zg 4 (.bx t0 3 true),
 zg 5 (.bx t1 3 true),
 zg 8 (.al [zo,zo,zo] true)] [2,3,4,5,8] [4,5,8]
 (zr [zg 9 (.al [zo,zo,zo] true)] [2,3,4,5,8,9] [4,5,8,9]
 (.seq (zr [zg 11 (.mov (zi 0))] [2,3,4,5,8,9,11] [4,5,8,9]
 (.block 0 q0Xl))
 (zr [zl 31 9 3,
 zn (.st t8 t31 3)] [8] [8]
 .ret)))),
 [.cell 8 3 true],false⟩
def ir266:IFn:=
⟨(zr [zg 4 (.mov (zi 0))] [0,1] []
 (zr [zm 5 0,
 zm 6 1,
 zg 7 (.bin .add t5 t6),
 zm 4 7] [4] []
 .ret)),
 [.tmp 4],false⟩
def q0X7:IC:=
 (.loop [0,1,7,8] [] (zr [zg 9 (.bin .lss t8 t7)] [0,1,7,8,9] []
 (.seq (.cond t9
 .skip
 (.exit 0))
 (.seq (.block 1 (zr [zm 10 8,
 zm 5 10] [0,1,5,7,8] []
 (zr [zm 11 1,
 zm 12 0,
 zm 13 5,
 zg 14 (.ixs t12 t13 1),
 zk 15 14 1,
 zg 16 (.bin .eql t11 t15)] [0,1,5,7,8,16] []
 (.cond t16
 (zr [zm 17 5,
 zm 4 17] [4] []
 .ret)
 .skip))))
 (.reg false [zg 18 (.bin .add t8 (zi 1)),
 zm 8 18] [0,1,7,8] [])))))
def ir270:IFn:=
⟨(zr [zg 4 (.mov (zi 0))] [0,1] []
 (.seq (zr [zm 6 0,
 zh 7 6,
 zg 8 (.mov (zi 0))] [0,1,7,8] []
 (.block 0 q0X7))
 (zr [zg 4 (.mov (zi (-1)))] [4] []
 .ret))),
 [.tmp 4],false⟩
def ir271:IFn:=
⟨(zr [zg 4 (.mov (zi 0))] [0,1] []
 (.seq (zr [zm 5 1,
 zm 6 0,
 zc 7 138 [t6],
 zg 8 (.bin .geq t5 t7)] [0,1,8] []
 (.cond t8
 (zr [zg 4 (.mov (zi (-1)))] [4] []
 .ret)
 .skip))
 (zr [zm 9 0,
 zm 10 1,
 zg 11 (.mnmx true t10 (zi 0)),
 zg 12 (.bin .add t11 (zi 1)),
 zm 13 0,
 zg 14 (.mkf (.func 336) [t13] []),
 zc 15 256 [t9,t12,t14],
 zm 4 15] [4] []
 .ret))),
 [.tmp 4],false⟩
def ir272:IFn:=
⟨(zr [zg 2 (.bx t0 1 false),
 zg 3 (.bx t1 4 false),
 zg 4 (.mov (.c (.p .nilf)))] [2,3] []
 (zr [zg 5 (.mkf (.func 337) [] [t3,t2]),
 zm 4 5] [4] []
 .ret)),
 [.tmp 4],false⟩
def ir273:IFn:=
⟨(zr [zg 4 (.bx t1 3 true),
 zg 6 (.mov zF)] [0,2,4] [4]
 (.seq (.reg true [zm 10 0,
 zg 11 (.ldl 4 t4 3 true),
 zm 12 0,
 zm 13 2,
 zc 14 169 [t12,t13],
 zc 15 331 [t10,t11,t14],
 zm 9 15,
 zx 16 9 0,
 zx 17 9 1,
 zm 7 16,
 zm 8 17] [2,7,8] [])
 (zr [zm 18 8,
 zm 19 18,
 zt 20 19 (.mov t7),
 zt 21 19 (.mov t2),
 zt 22 19 (.call 199 [t20,t21] false),
 zg 23 (.pick t19 t22 zF),
 zm 6 23] [6] []
 .ret))),
 [.tmp 6],false⟩
def ir274:IFn:=
⟨(zr [zg 1 (.bx t0 19 true),
 zg 2 (.al [zo,zo,.p .nilf] true)] [1,2] [1,2]
 (zr [zp 3 1 11,
 zk 4 3 1,
 zp 5 1 9,
 zk 6 5 1,
 zg 7 (.bld [zo,zo,.p .nilf] [(0,1,t4),(1,1,t6),(2,1,(.c (.p (.fn 341))))]),
 zn (.st t2 t7 3)] [2] [2]
 .ret)),
 [.cell 2 3 true],false⟩
def q0gh:IC:=
 (.loop [2,3,4,5,18,19,20] [4,5] (zr [zg 21 (.bin .lss t20 t19)] [2,3,4,5,18,19,20,21] [4,5]
 (.seq (.cond t21
 .skip
 (.exit 0))
 (.seq (.block 1 (zr [zg 22 (.ixs t18 t20 1),
 zk 23 22 1,
 zm 10 23] [2,3,4,5,10,18,19,20] [4,5]
 (zr [zm 25 2,
 zm 26 10,
 zc 27 136 [t25,t26],
 zm 24 27,
 zx 28 24 0,
 zx 29 24 1,
 zg 11 (.al [zo,zo,zo] true),
 zn (.st t11 t28 3),
 zm 12 29] [2,3,4,5,11,12,18,19,20] [4,5,11]
 (zr [zm 30 12,
 zj 31 30,
 zm 32 31,
 zf 33 32 (.off t4 2),
 zf 34 32 (.ld t33 1 false),
 zf 35 32 (.ld t11 3 true),
 zf 36 32 (.callv t34 [t35] false),
 zf 37 32 (.un .not t36),
 zg 38 (.pick t32 zT t37)] [2,3,4,5,18,19,20,38] [4,5]
 (.cond t38
 (zr [zg 8 (.mov zF)] [8] []
 .ret)
 .skip)))))
 (.reg false [zg 39 (.bin .add t20 (zi 1)),
 zm 20 39] [2,3,4,5,18,19,20] [4,5])))))
def ir275:IFn:=
⟨(zr [zg 4 (.bx t0 3 true),
 zg 5 (.bx t1 19 true),
 zg 8 (.mov zF)] [2,3,4,5] [4,5]
 (.seq (zr [zm 13 3,
 zh 14 13,
 zp 15 4 0,
 zk 16 15 1,
 zg 17 (.bin .gtr t14 t16)] [2,3,4,5,17] [4,5]
 (.cond t17
 (zr [zg 8 (.mov zF)] [8] []
 .ret)
 .skip))
 (.seq (zr [zm 18 3,
 zh 19 18,
 zg 20 (.mov (zi 0))] [2,3,4,5,18,19,20] [4,5]
 (.block 0 q0gh))
 (.seq (.reg true [zm 40 2,
 zm 41 3,
 zp 42 5 7,
 zg 43 (.ldl 5 t42 1 false),
 zc 44 284 [t40,t41,t43],
 zp 45 4 1,
 zg 46 (.ldl 4 t45 1 false),
 zg 47 (.bin .leq t44 t46),
 zm 8 47] [8] [])
 .ret)))),
 [.tmp 8],false⟩
def ir276:IFn:=
⟨(zr [zg 1 (.bx t0 19 true),
 zg 2 (.al [zo,zo,.p .nilf] true)] [1,2] [1,2]
 (zr [zp 3 1 12,
 zk 4 3 1,
 zp 5 1 10,
 zk 6 5 1,
 zg 7 (.bld [zo,zo,.p .nilf] [(0,1,t4),(1,1,t6),(2,1,(.c (.p (.fn 342))))]),
 zn (.st t2 t7 3)] [2] [2]
 .ret)),
 [.cell 2 3 true],false⟩
def ir277:IFn:=
⟨(zr [zg 2 (.bx t0 2 true),
 zg 4 (.mov zF)] [1,2] [2]
 (zr [zl 5 2 2,
 zm 6 1,
 zc 7 343 [t5,t6],
 zm 4 7] [4] []
 .ret)),
 [.tmp 4],false⟩
def q0Xs:IC:=
 (.loop [0,1,12,13] [] (zr [zg 14 (.bin .lss t13 t12)] [0,1,12,13,14] []
 (.seq (.cond t14
 .skip
 (.exit 0))
 (.seq (.block 1 (zr [zm 15 13,
 zm 5 15] [0,1,5,12,13] []
 (.seq (.reg true [zm 16 0,
 zm 17 5,
 zg 18 (.ixs t16 t17 3),
 zl 19 18 3,
 zm 20 1,
 zm 21 5,
 zg 22 (.ixs t20 t21 3),
 zl 23 22 3,
 zg 24 (.eqa true [true,true,true] t19 t23)] [0,1,12,13,24] [])
 (.cond t24
 (zr [zg 4 (.mov zF)] [4] []
 .ret)
 .skip))))
 (.reg false [zg 25 (.bin .add t13 (zi 1)),
 zm 13 25] [0,1,12,13] [])))))
def ir278:IFn:=
⟨(zr [zg 4 (.mov zF)] [0,1] []
 (.seq (zr [zm 6 0,
 zh 7 6,
 zm 8 1,
 zh 9 8,
 zg 10 (.bin .neq t7 t9)] [0,1,10] []
 (.cond t10
 (zr [zg 4 (.mov zF)] [4] []
 .ret)
 .skip))
 (.seq (zr [zm 11 0,
 zh 12 11,
 zg 13 (.mov (zi 0))] [0,1,12,13] []
 (.block 0 q0Xs))
 (zr [zg 4 (.mov zT)] [4] []
 .ret)))),
 [.tmp 4],false⟩
def q0Wh:IC:=
 (.loop [2,3,7,8] [3] (.seq (zr [zm 17 8,
 zm 18 2,
 zg 19 (.bin .lss t17 t18)] [2,3,7,8,19] [3]
 (.cond t19
 .skip
 (.exit 0)))
 (.seq (.block 1 (.reg false [zm 22 7,
 zp 23 3 0,
 zk 24 23 1,
 zm 25 8,
 zg 26 (.ixs t24 t25 1),
 zk 27 26 1,
 zg 28 (.mnmx true t27 (zi 0)),
 zg 29 (.mnmx false t28 (zi 1125899906842624)),
 zg 30 (.bin .add t22 t29),
 zg 31 (.mnmx false t30 (zi 1125899906842624)),
 zm 7 31] [2,3,7,8] [3]))
 (.reg false [zm 20 8,
 zg 21 (.bin .add t20 (zi 1)),
 zm 8 21] [2,3,7,8] [3]))))
def ir283:IFn:=
⟨(zr [zg 3 (.bx t0 2 true),
 zg 6 (.mov (zi 0))] [1,2,3] [3]
 (.seq (.reg true [zm 9 1,
 zg 10 (.mnmx true t9 (zi 0)),
 zm 11 2,
 zp 12 3 0,
 zg 13 (.ldl 3 t12 1 false),
 zh 14 13,
 zg 15 (.mnmx false t11 t14),
 zm 1 10,
 zm 2 15] [1,2,3] [3])
 (zr [zg 7 (.mov (zi 0))] [1,2,3,7] [3]
 (.seq (zr [zm 16 1,
 zm 8 16] [2,3,7,8] [3]
 (.block 0 q0Wh))
 (zr [zm 32 7,
 zm 6 32] [6] []
 .ret))))),
 [.tmp 6],false⟩
def q0X8:IC:=
 (.loop [0,2,7,8,13,14,15] [] (zr [zg 16 (.bin .lss t15 t14)] [0,2,7,8,13,14,15,16] []
 (.seq (.cond t16
 .skip
 (.exit 0))
 (.seq (.block 1 (zr [zg 17 (.ixs t13 t15 1),
 zk 18 17 1,
 zm 10 18] [0,2,7,8,10,13,14,15] []
 (zr [zm 20 0,
 zm 21 10,
 zc 22 136 [t20,t21],
 zm 19 22,
 zx 23 19 0,
 zx 24 19 1,
 zg 11 (.al [zo,zo,zo] true),
 zn (.st t11 t23 3),
 zm 12 24] [0,2,7,8,11,12,13,14,15] [11]
 (zr [zm 25 12] [0,2,7,8,11,13,14,15,25] [11]
 (.cond t25
 (.reg false [zm 26 7,
 zm 27 8,
 zm 28 7,
 zp 29 11 1,
 zk 30 29 1,
 zg 31 (.callv t28 [t30] false),
 zg 32 (.bin .add t27 t31),
 zm 33 7,
 zm 34 2,
 zg 35 (.callv t33 [t34] false),
 zg 36 (.bin .add t32 t35),
 zg 37 (.callv t26 [t36] false),
 zm 8 37] [0,2,7,8,13,14,15] [])
 .skip)))))
 (.reg false [zg 38 (.bin .add t15 (zi 1)),
 zm 15 38] [0,2,7,8,13,14,15] [])))))
def ir284:IFn:=
⟨(zr [zg 6 (.mov (zi 0))] [0,1,2] []
 (zr [zg 7 (.mov (.c (.p (.fn 346))))] [0,1,2,7] []
 (zr [zg 8 (.mov (zi 0))] [0,1,2,7,8] []
 (.seq (zr [zm 13 1,
 zh 14 13,
 zg 15 (.mov (zi 0))] [0,2,7,8,13,14,15] []
 (.block 0 q0X8))
 (zr [zm 39 8,
 zm 6 39] [6] []
 .ret))))),
 [.tmp 6],false⟩
def ir285:IFn:=
⟨(zr [zg 2 (.bx t0 6 true),
 zg 4 (.mov zF)] [1,2] [2]
 (zr [zl 5 2 6,
 zc 6 347 [t5],
 zm 7 6,
 zt 8 7 (.mov t1),
 zt 9 7 (.bin .geq t8 (zi (-1125899906842624))),
 zg 10 (.pick t7 t9 zF),
 zm 11 10,
 zt 12 11 (.mov t1),
 zt 13 11 (.bin .leq t12 (zi 1125899906842624)),
 zg 14 (.pick t11 t13 zF),
 zm 4 14] [4] []
 .ret)),
 [.tmp 4],false⟩
def q0Wa:IC:=
 (.loop [1,3] [1] (.seq (zr [zm 4 3,
 zg 5 (.bin .gtr t4 (zi 0))] [1,3,5] [1]
 (.cond t5
 .skip
 (.exit 0)))
 (.seq (.block 1 (zr [zm 8 3,
 zp 9 1 1,
 zg 10 (.ixa t9 t8 1 4),
 zk 11 10 1,
 zg 12 (.bin .neq t11 (zi 0))] [1,3,12] [1]
 (.cond t12
 (zr [zm 13 3,
 zm 2 13] [2] []
 .ret)
 .skip)))
 (.reg false [zm 6 3,
 zg 7 (.bin .sub t6 (zi 1)),
 zm 3 7] [1,3] [1]))))
def ir286:IFn:=
⟨(zr [zg 1 (.bx t0 6 true),
 zg 2 (.mov (zi 0))] [1] [1]
 (.seq (zr [zg 3 (.mov (zi 3))] [1,3] [1]
 (.block 0 q0Wa))
 (zr [zg 2 (.mov (zi 0))] [2] []
 .ret))),
 [.tmp 2],false⟩
def ir287:IFn:=
⟨(zr [zg 2 (.mov (.c (.p .nilp)))] [0] []
 (.seq (zr [zm 3 0,
 zg 4 (.eqn .ptr false t3)] [0,4] []
 (.cond t4
 (zr [zg 2 (.mov (.c (.p .nilp)))] [2] []
 .ret)
 .skip))
 (zr [zm 5 0,
 zg 6 (.nck t5),
 zp 7 6 1,
 zk 8 7 1,
 zm 2 8] [2] []
 .ret))),
 [.tmp 2],false⟩
def ir288:IFn:=
⟨(zr [zg 6 (.mov (zi 0)),
 zg 7 (.mov (zi 0)),
 zg 8 (.mov zF)] [0,1,2] []
 (zr [zm 9 1,
 zg 10 (.mnmx true t9 (zi 0)),
 zm 11 2,
 zm 12 0,
 zc 13 348 [t12],
 zg 14 (.mnmx false t11 t13),
 zm 1 10,
 zm 2 14] [1,2] []
 (zr [zm 15 1,
 zm 16 2,
 zm 17 1,
 zm 18 2,
 zg 19 (.bin .lss t17 t18),
 zm 6 15,
 zm 7 16,
 zm 8 19] [6,7,8] []
 .ret))),
 [.tmp 6,.tmp 7,.tmp 8],false⟩
def ir289:IFn:=
⟨(zr [zg 2 (.bx t0 6 true),
 zg 3 (.bx t1 6 true),
 zg 4 (.al [zo,zo,zo,zo,zo,zo] true),
 zg 5 (.mov zF)] [2,3,4] [2,3,4]
 (zr [zl 6 2 6,
 zl 7 3 6,
 zc 8 240 [t6,t7,(.c (.p (.fn 320)))],
 zx 9 8 0,
 zx 10 8 1,
 zn (.st t4 t9 6),
 zm 5 10] [4,5] [4]
 .ret)),
 [.cell 4 6 true,.tmp 5],false⟩
def ir290:IFn:=
⟨(zr [zg 2 (.mov (zi 0))] [0] []
 (.seq (.block 0 (zr [zm 4 0,
 zg 5 (.bin .gtr t4 (zi 1290)),
 zm 3 5] [0,3] []
 (.cond t3
 (zr [zg 2 (.mov (zi 10000))] [2] []
 .ret)
 (zr [zm 7 0,
 zg 8 (.bin .lss t7 (zi 1)),
 zm 6 8] [0,6] []
 (.cond t6
 (zr [zg 2 (.mov (zi 0))] [2] []
 .ret)
 .skip)))))
 (zr [zm 9 0,
 zm 10 0,
 zg 11 (.bin .mul t9 t10),
 zm 12 0,
 zg 13 (.bin .mul t11 t12),
 zg 14 (.bin .add t13 (zi 131072)),
 zg 15 (.bin .shr t14 (.c (.p (.int .u64 18)))),
 zm 2 15] [2] []
 .ret))),
 [.tmp 2],false⟩
def q111:IC:=
 (.loop [0,1,5,9,10,11] [] (zr [zg 12 (.bin .lss t11 t10)] [0,1,5,9,10,11,12] []
 (.seq (.cond t12
 .skip
 (.exit 0))
 (.seq (.block 1 (zr [zg 13 (.ixs t9 t11 2),
 zl 14 13 2,
 zg 7 (.al [.p .nilf,.p .nilf] true),
 zn (.st t7 t14 2)] [0,1,5,7,9,10,11] [7]
 (zr [zp 15 7 0,
 zk 16 15 1,
 zm 17 0,
 zm 18 1,
 zg 19 (.callv t16 [t17,t18] false)] [0,1,5,7,9,10,11,19] [7]
 (.cond t19
 (zr [zp 20 7 1,
 zk 21 20 1,
 zm 22 0,
 zm 23 1,
 zg 24 (.callv t21 [t22,t23] false),
 zm 5 24] [5] []
 (.exit 0))
 .skip))))
 (.reg false [zg 25 (.bin .add t11 (zi 1)),
 zm 11 25] [0,1,5,9,10,11] [])))))
def ir291:IFn:=
⟨(zr [zg 4 (.mov (zi 0))] [0,1] []
 (zr [zm 8 0,
 zm 5 8] [0,1,5] []
 (.seq (zr [zc 9 349 [],
 zh 10 9,
 zg 11 (.mov (zi 0))] [0,1,5,9,10,11] []
 (.block 0 q111))
 (zr [zm 26 5,
 zg 27 (.mnmx false t26 (zi 1291)),
 zm 4 27] [4] []
 .ret)))),
 [.tmp 4],false⟩
def ir292:IFn:=
⟨(zr [zg 1 (.bx t0 7 true),
 zg 2 (.mov zF)] [1] [1]
 (zr [zp 3 1 0,
 zk 4 3 1,
 zg 5 (.bin .eql t4 (zi 2)),
 zm 6 5,
 zf 7 6 (.off t1 0),
 zf 8 6 (.ld t7 1 false),
 zf 9 6 (.bin .eql t8 (zi 3)),
 zg 10 (.pick t6 zT t9),
 zm 2 10] [2] []
 .ret)),
 [.tmp 2],false⟩
def ir293:IFn:=
⟨(zr [zg 1 (.bx t0 7 true),
 zg 2 (.mov zF)] [1] [1]
 (zr [zp 3 1 0,
 zk 4 3 1,
 zg 5 (.bin .eql t4 (zi 3)),
 zm 6 5,
 zt 7 6 (.off t1 6),
 zt 8 6 (.ld t7 1 false),
 zt 9 6 (.bin .geq t8 (zi 10000)),
 zg 10 (.pick t6 t9 zF),
 zm 2 10] [2] []
 .ret)),
 [.tmp 2],false⟩
def ir294:IFn:=
⟨(zr [zg 2 (.bx t0 1 false),
 zg 3 (.bx t1 1 false),
 zg 4 (.mov (.c (.p .nilf)))] [2,3] []
 (zr [zg 5 (.mkf (.func 350) [] [t2,t3]),
 zm 4 5] [4] []
 .ret)),
 [.tmp 4],false⟩
def ir295:IFn:=
⟨(zr [zg 4 (.mov (zi 0))] [0,1] []
 (.seq (zr [zm 5 1,
 zg 6 (.bin .lss t5 (zi 1))] [0,1,6] []
 (.cond t6
 (zr [zg 4 (.mov (zi (-1)))] [4] []
 .ret)
 .skip))
 (zr [zm 7 0,
 zm 8 1,
 zm 9 0,
 zc 10 138 [t9],
 zg 11 (.mnmx false t8 t10),
 zg 12 (.bin .sub t11 (zi 1)),
 zc 13 351 [t7,t12,(zi (-1))],
 zm 4 13] [4] []
 .ret))),
 [.tmp 4],false⟩
def ir296:IFn:=
⟨(zr [zg 4 (.mov (zi 0))] [0,1] []
 (zr [zm 5 0,
 zm 6 1,
 zg 7 (.mnmx true t6 (zi 0)),
 zc 8 351 [t5,t7,(zi 1)],
 zm 4 8] [4] []
 .ret)),
 [.tmp 4],false⟩
def ir297:IFn:=
⟨(zr [zg 2 (.bx t0 2 true),
 zg 4 (.mov zF)] [1,2] [2]
 (zr [zm 5 1,
 zg 6 (.bin .gtr t5 (zi 0)),
 zm 7 6,
 zt 8 7 (.mov t1),
 zt 9 7 (.off t2 0),
 zt 10 7 (.ld t9 1 false),
 zt 11 7 (.len t10),
 zt 12 7 (.bin .lss t8 t11),
 zg 13 (.pick t7 t12 zF),
 zm 14 13,
 zt 15 14 (.mov t1),
 zt 16 14 (.off t2 1),
 zt 17 14 (.ld t16 1 false),
 zt 18 14 (.len t17),
 zt 19 14 (.bin .leq t15 t18),
 zg 20 (.pick t14 t19 zF),
 zm 21 20,
 zt 22 21 (.off t2 1),
 zt 23 21 (.ld t22 1 false),
 zt 24 21 (.mov t1),
 zt 25 21 (.bin .sub t24 (zi 1)),
 zt 26 21 (.ixs t23 t25 1),
 zt 27 21 (.ld t26 1 false),
 zt 28 21 (.bin .lss t27 (zi 10000)),
 zg 29 (.pick t21 t28 zF),
 zm 4 29] [4] []
 .ret)),
 [.tmp 4],false⟩
def ir298:IFn:=
⟨(zr [zg 4 (.mov (zi 0))] [0,1] []
 (zr [zm 5 1,
 zm 6 0,
 zg 7 (.bin .sub t5 t6),
 zm 4 7] [4] []
 .ret)),
 [.tmp 4],false⟩
def ir299:IFn:=
⟨(zr [zg 4 (.mov (zi 0))] [0,1] []
 (zr [zg 5 (.mov (.c (.p (.fn 352))))] [0,1,5] []
 (zr [zm 6 5,
 zm 7 5,
 zm 8 0,
 zg 9 (.callv t7 [t8] false),
 zm 10 5,
 zm 11 1,
 zg 12 (.callv t10 [t11] false),
 zg 13 (.bin .add t9 t12),
 zg 14 (.callv t6 [t13] false),
 zm 4 14] [4] []
 .ret))),
 [.tmp 4],false⟩
def ir300:IFn:=
⟨(zr [zg 4 (.mov (zi 0))] [0,1] []
 (zr [zg 5 (.mov (.c (.p (.fn 353))))] [0,1,5] []
 (zr [zm 6 5,
 zm 7 5,
 zm 8 0,
 zg 9 (.callv t7 [t8] false),
 zm 10 5,
 zm 11 1,
 zg 12 (.callv t10 [t11] false),
 zg 13 (.bin .add t9 t12),
 zg 14 (.callv t6 [t13] false),
 zm 4 14] [4] []
 .ret))),
 [.tmp 4],false⟩
def ir301:IFn:=
⟨(zr [zg 2 (.bx t0 2 true),
 zg 3 (.bx t1 2 true),
 zg 4 (.mov (zi 0))] [2,3] [2,3]
 (.seq (.reg true [zp 5 2 0,
 zg 6 (.ldl 2 t5 1 false),
 zp 7 3 0,
 zg 8 (.ldl 3 t7 1 false),
 zc 9 355 [t6,t8],
 zp 10 2 1,
 zg 11 (.ldl 2 t10 1 false),
 zp 12 3 1,
 zg 13 (.ldl 3 t12 1 false),
 zc 14 356 [t11,t13],
 zg 15 (.bsl 1 2 [zo] [(0,t9),(1,t14)]),
 zc 16 354 [t15],
 zm 4 16] [4] [])
 .ret)),
 [.tmp 4],false⟩
def ir302:IFn:=
⟨(zr [zg 1 (.bx t0 1 false),
 zg 2 (.mov (.c (.p .nilf)))] [1] []
 (zr [zg 3 (.mkf (.func 357) [] [t1]),
 zm 2 3] [2] []
 .ret)),
 [.tmp 2],false⟩
def ir303:IFn:=
⟨(zr [zg 1 (.bx t0 22 true),
 zg 2 (.mov zF)] [1] [1]
 (zr [zp 3 1 19,
 zk 4 3 1,
 zh 5 4,
 zg 6 (.bin .gtr t5 (zi 4096)),
 zm 2 6] [2] []
 .ret)),
 [.tmp 2],false⟩
def ir304:IFn:=
⟨(zr [zg 1 (.bx t0 22 true),
 zg 2 (.mov zF)] [1] [1]
 (zr [zp 3 1 21,
 zk 4 3 1,
 zh 5 4,
 zg 6 (.bin .gtr t5 (zi 256)),
 zm 2 6] [2] []
 .ret)),
 [.tmp 2],false⟩
def ir305:IFn:=
⟨(zr [zg 1 (.bx t0 22 true),
 zg 2 (.mov zF)] [1] [1]
 (zr [zp 3 1 20,
 zk 4 3 1,
 zh 5 4,
 zg 6 (.bin .gtr t5 (zi 512)),
 zm 2 6] [2] []
 .ret)),
 [.tmp 2],false⟩
def ir306:IFn:=
⟨(zr [zg 1 (.bx t0 22 true),
 zg 2 (.mov zF)] [1] [1]
 (zr [zp 3 1 0,
 zl 4 3 19,
 zc 5 307 [t4],
 zg 6 (.bin .eql t5 (zi 6)),
 zm 2 6] [2] []
 .ret)),
 [.tmp 2],false⟩
def ir307:IFn:=
⟨(zr [zg 1 (.bx t0 19 true),
 zg 2 (.mov (zi 0))] [1] [1]
 (.seq (.seq (.reg true [zc 8 358 [(zi 1),(zi 8)],
 zp 9 1 0,
 zg 10 (.ldl 1 t9 1 false),
 zg 11 (.bsl 1 1 [zo] [(0,t10)]),
 zg 12 (.callv t8 [t11] false),
 zj 13 12] [1,13] [1])
 (.cond t13
 (zr [zg 2 (.mov (zi 6))] [2] []
 .ret)
 .skip))
 (zr [zc 14 359 [(zi 1),(zi 1073741823)],
 zc 15 359 [(zi 0),(zi 1073741823)],
 zc 16 359 [(zi 0),(zi 536870912)],
 zm 3 14,
 zm 4 15,
 zm 5 16] [1,3,4,5] [1]
 (zr [zp 17 1 2,
 zk 18 17 1,
 zp 19 1 8,
 zk 20 19 1,
 zp 21 1 9,
 zk 22 21 1,
 zp 23 1 10,
 zk 24 23 1,
 zg 25 (.bld [zo,zo,zo,zo] [(0,1,t18),(1,1,t20),(2,1,t22),(3,1,t24)]),
 zg 6 (.al [zo,zo,zo,zo] false),
 zn (.st t6 t25 4)] [1,3,4,5,6] [1]
 (zr [zp 26 1 13,
 zk 27 26 1,
 zp 28 1 14,
 zk 29 28 1,
 zp 30 1 15,
 zk 31 30 1,
 zp 32 1 16,
 zk 33 32 1,
 zp 34 1 17,
 zk 35 34 1,
 zg 36 (.bld [zo,zo,zo,zo,zo] [(0,1,t27),(1,1,t29),(2,1,t31),(3,1,t33),(4,1,t35)]),
 zg 7 (.al [zo,zo,zo,zo,zo] false),
 zn (.st t7 t36 5)] [1,3,4,5,6,7] [1]
 (.seq (.block 0 (.seq (zr [zm 38 3,
 zp 39 1 1,
 zk 40 39 1,
 zp 41 1 3,
 zk 42 41 1,
 zg 43 (.bsl 1 2 [zo] [(0,t40),(1,t42)]),
 zg 44 (.callv t38 [t43] false),
 zj 45 44,
 zm 37 45] [1,4,5,6,7,37] [1]
 (.cond t37
 .skip
 (zr [zm 46 4,
 zg 47 (.slca t6 none 1 4),
 zg 48 (.callv t46 [t47] false),
 zj 49 48,
 zm 37 49] [1,5,7,37] [1]
 (.cond t37
 .skip
 (.reg false [zm 50 5,
 zp 51 1 6,
 zk 52 51 1,
 zp 53 1 7,
 zk 54 53 1,
 zp 55 1 5,
 zk 56 55 1,
 zg 57 (.bsl 1 3 [zo] [(0,t52),(1,t54),(2,t56)]),
 zg 58 (.callv t50 [t57] false),
 zj 59 58,
 zm 37 59] [1,7,37] [1])))))
 (.cond t37
 (zr [zg 2 (.mov (zi 7))] [2] []
 .ret)
 (.seq (.seq (.reg true [zp 61 1 3,
 zg 62 (.ldl 1 t61 1 false),
 zc 63 359 [(zi 1),t62],
 zp 64 1 4,
 zg 65 (.ldl 1 t64 1 false),
 zg 66 (.bsl 1 1 [zo] [(0,t65)]),
 zg 67 (.callv t63 [t66] false),
 zj 68 67,
 zm 60 68] [1,7,60] [1])
 (.cond t60
 .skip
 (.reg true [zp 69 1 4,
 zg 70 (.ldl 1 t69 1 false),
 zc 71 359 [(zi 0),t70],
 zp 72 1 5,
 zg 73 (.ldl 1 t72 1 false),
 zg 74 (.bsl 1 1 [zo] [(0,t73)]),
 zg 75 (.callv t71 [t74] false),
 zj 76 75,
 zm 60 76] [1,7,60] [1])))
 (.cond t60
 (zr [zg 2 (.mov (zi 7))] [2] []
 .ret)
 (.seq (.seq (.reg true [zc 78 358 [(zi 0),(zi 4)],
 zp 79 1 11,
 zg 80 (.ldl 1 t79 1 false),
 zp 81 1 12,
 zg 82 (.ldl 1 t81 1 false),
 zg 83 (.bsl 1 2 [zo] [(0,t80),(1,t82)]),
 zg 84 (.callv t78 [t83] false),
 zj 85 84,
 zm 77 85] [7,77] [])
 (.cond t77
 .skip
 (.reg true [zc 86 358 [(zi 0),(zi 1048576)],
 zg 87 (.slca t7 none 1 5),
 zg 88 (.callv t86 [t87] false),
 zj 89 88,
 zm 77 89] [77] [])))
 (.cond t77
 (zr [zg 2 (.mov (zi 7))] [2] []
 .ret)
 .skip)))))))
 (zr [zg 2 (.mov (zi 0))] [2] []
 .ret))))))),
 [.tmp 2],false⟩
def ir308:IFn:=
⟨(zr [zg 1 (.bx t0 22 true),
 zg 2 (.mov zF)] [1] [1]
 (zr [zp 3 1 0,
 zl 4 3 19,
 zc 5 307 [t4],
 zg 6 (.bin .eql t5 (zi 7)),
 zm 2 6] [2] []
 .ret)),
 [.tmp 2],false⟩
def ir309:IFn:=
⟨(zr [zg 1 (.bx t0 22 true),
 zg 2 (.mov (zi 0))] [1] [1]
 (.seq (.reg true [zc 3 310 [(.c (.p (.fn 311)))],
 zp 4 1 19,
 zg 5 (.ldl 1 t4 1 false),
 zg 6 (.callv t3 [t5] false),
 zm 2 6] [2] [])
 .ret)),
 [.tmp 2],false⟩
def ir310:IFn:=
⟨(zr [zg 1 (.bx t0 1 false),
 zg 2 (.mov (.c (.p .nilf)))] [1] []
 (zr [zg 3 (.mkf (.func 360) [] [t1]),
 zm 2 3] [2] []
 .ret)),
 [.tmp 2],false⟩
def ir311:IFn:=
⟨(zr [zg 1 (.bx t0 7 true),
 zg 2 (.mov (zi 0))] [1] [1]
 (.seq (zr [zp 5 1 0,
 zk 6 5 1,
 zg 7 (.bin .lss t6 (zi 1)),
 zm 8 7,
 zf 9 8 (.off t1 0),
 zf 10 8 (.ld t9 1 false),
 zf 11 8 (.bin .gtr t10 (zi 7)),
 zg 12 (.pick t8 zT t11)] [1,12] [1]
 (.cond t12
 (zr [zg 2 (.mov (zi 8))] [2] []
 .ret)
 .skip))
 (.seq (.prep [3] (.reg true [zc 13 363 [],
 zp 14 1 0,
 zg 15 (.ldl 1 t14 1 false),
 zg 16 (.bin .sub t15 (zi 1)),
 zg 17 (.ixs t13 t16 2),
 zl 18 17 2,
 zg 3 (.alp [.p .nilf,.p .nilf]),
 zn (.stl 3 t3 t18 2)] [1,3] [1,3]))
 (zr [zc 19 364 [(zi 3)],
 zm 4 19] [1,3,4] [1,3]
 (.seq (.seq (.reg true [zp 20 3 0,
 zg 21 (.ldl 3 t20 1 false),
 zg 22 (.ldl 1 t1 7 true),
 zg 23 (.callv t21 [t22] false),
 zg 24 (.ldl 1 t1 7 true),
 zg 25 (.eqa true [true,true,true,true,true,true,true] t23 t24),
 zm 26 25,
 zf 27 26 (.off t3 1),
 zf 28 26 (.ldl 3 t27 1 false),
 zf 29 26 (.off t1 6),
 zf 30 26 (.ldl 1 t29 1 false),
 zf 31 26 (.callv t28 [t30] false),
 zf 32 26 (.un .not t31),
 zg 33 (.pick t26 zT t32),
 zm 34 33,
 zf 35 34 (.off t1 1),
 zf 36 34 (.ldl 1 t35 1 false),
 zf 37 34 (.off t1 3),
 zf 38 34 (.ldl 1 t37 1 false),
 zf 39 34 (.off t1 5),
 zf 40 34 (.ldl 1 t39 1 false),
 zf 41 34 (.bsl 1 3 [zo] [(0,t36),(1,t38),(2,t40)]),
 zf 42 34 (.call 365 [t41] false),
 zf 43 34 (.un .not t42),
 zg 44 (.pick t34 zT t43),
 zm 45 44,
 zf 46 45 (.mov t4),
 zf 47 45 (.off t1 2),
 zf 48 45 (.ldl 1 t47 1 false),
 zf 49 45 (.callv t46 [t48] false),
 zf 50 45 (.un .not t49),
 zg 51 (.pick t45 zT t50),
 zm 52 51,
 zf 53 52 (.mov t4),
 zf 54 52 (.off t1 4),
 zf 55 52 (.ldl 1 t54 1 false),
 zf 56 52 (.callv t53 [t55] false),
 zf 57 52 (.un .not t56),
 zg 58 (.pick t52 zT t57),
 zm 59 58,
 zf 60 59 (.off t1 0),
 zf 61 59 (.ldl 1 t60 1 false),
 zf 62 59 (.bin .eql t61 (zi 2)),
 zf 63 59 (.mov t62),
 zt 64 63 (.off t1 5),
 zt 65 63 (.ldl 1 t64 1 false),
 zt 66 63 (.off t1 1),
 zt 67 63 (.ldl 1 t66 1 false),
 zt 68 63 (.bin .gtr t65 t67),
 zf 69 59 (.pick t63 t68 zF),
 zg 70 (.pick t59 zT t69)] [70] [])
 (.cond t70
 (zr [zg 2 (.mov (zi 8))] [2] []
 .ret)
 .skip))
 (zr [zg 2 (.mov (zi 0))] [2] []
 .ret)))))),
 [.tmp 2],false⟩
def ir312:IFn:=
⟨(zr [zg 1 (.bx t0 22 true),
 zg 2 (.mov (zi 0))] [1] [1]
 (.seq (.reg true [zc 3 313 [(.c (.p (.fn 314)))],
 zp 4 1 20,
 zg 5 (.ldl 1 t4 1 false),
 zg 6 (.callv t3 [t5] false),
 zm 2 6] [2] [])
 .ret)),
 [.tmp 2],false⟩
def ir313:IFn:=
⟨(zr [zg 1 (.bx t0 1 false),
 zg 2 (.mov (.c (.p .nilf)))] [1] []
 (zr [zg 3 (.mkf (.func 366) [] [t1]),
 zm 2 3] [2] []
 .ret)),
 [.tmp 2],false⟩
end Go.EnvOf
