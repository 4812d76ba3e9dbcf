/- The engine's instructions for the functions, part 0. -/
import Derived.Test.YtjjdmlpdgcdehaaGreatIrT
import Derived.Test.YtjjdmlpdgcdehaaGreatEngAll2
namespace Go.EnvOf
open Go Go.Eng
set_option maxRecDepth 100000
def ir7:IFn:=
⟨(zr [zg 3 (.bx t0 22 true),
 zg 4 (.bx t1 7 true),
 zg 5 (.bx t2 6 true),
 zg 6 (.mov zF)] [3,4,5] [3,4,5]
 (.seq (zr [zl 11 3 22,
 zc 12 31 [t11],
 zm 13 12,
 zf 14 13 (.off t5 3),
 zf 15 13 (.ld t14 1 false),
 zf 16 13 (.len t15),
 zf 17 13 (.bin .gtr t16 (zi 50)),
 zg 18 (.pick t13 zT t17),
 zm 19 18,
 zf 20 19 (.off t5 4),
 zf 21 19 (.ld t20 1 false),
 zf 22 19 (.len t21),
 zf 23 19 (.bin .gtr t22 (zi 50)),
 zg 24 (.pick t19 zT t23),
 zm 25 24,
 zf 26 25 (.off t5 5),
 zf 27 25 (.ld t26 1 false),
 zf 28 25 (.len t27),
 zf 29 25 (.bin .gtr t28 (zi 50)),
 zg 30 (.pick t25 zT t29)] [3,4,5,30] [3,4,5]
 (.cond t30
 (zr [zc 31 32 [],
 zm 6 31] [6] []
 .ret)
 .skip))
 (zr [zl 33 3 22,
 zg 34 (.callz 14 [t33]),
 zm 32 34,
 zx 35 32 0,
 zx 36 32 1,
 zm 7 35,
 zm 8 36] [3,4,5,7,8] [3,4,5]
 (zr [zl 37 3 22,
 zc 38 19 [t37],
 zg 9 (.al [zo,zo,zo,zo,zo,zo,zo,zo,zo,zo,zo,zo,zo,zo,zo,zo,zo,zo,.p (.bool false),.nils,.nils,.nils,.p (.bool false)] true),
 zn (.st t9 t38 23)] [4,5,7,8,9] [4,5,9]
 (.seq (zr [zm 39 8,
 zj 40 39] [4,5,7,9,40] [4,5,9]
 (.cond t40
 (zr [zp 41 9 22,
 zk 42 41 1,
 zj 43 42,
 zm 44 43,
 zt 45 44 (.ld t4 7 true),
 zt 46 44 (.ld t5 6 true),
 zt 47 44 (.call 33 [(.c (.p .nilp)),t45,t46] false),
 zt 48 44 (.bin .eql t47 (zi 19)),
 zg 49 (.pick t44 t48 zF),
 zm 50 49,
 zt 51 50 (.call 32 [] false),
 zg 52 (.pick t50 t51 zF),
 zm 6 52] [6] []
 .ret)
 .skip))
 (zr [zm 53 7,
 zl 54 4 7,
 zl 55 5 6,
 zc 56 33 [t53,t54,t55],
 zm 10 56] [4,5,7,9,10] [4,5,9]
 (zr [zm 57 10,
 zp 58 9 0,
 zl 59 58 22,
 zl 60 4 7,
 zl 61 5 6,
 zc 62 34 [t59,t60,t61],
 zg 63 (.bin .eql t57 t62),
 zm 64 63,
 zt 65 64 (.mov t7),
 zt 66 64 (.ld t4 7 true),
 zt 67 64 (.ld t5 6 true),
 zt 68 64 (.call 35 [t65,t66,t67] false),
 zt 69 64 (.mov t10),
 zt 70 64 (.bin .eql t69 (zi 0)),
 zt 71 64 (.eqb false t68 t70),
 zg 72 (.pick t64 t71 zF),
 zm 73 72,
 zt 74 73 (.call 32 [] false),
 zg 75 (.pick t73 t74 zF),
 zm 6 75] [6] []
 .ret))))))),
 [.tmp 6],false⟩
def q0U8:IC:=
 (.loop [1,6,53,54] [1,35] (zr [zg 55 (.bin .lss t54 t53)] [1,6,53,54,55] [1,35]
 (.seq (.cond t55
 .skip
 (.exit 0))
 (.seq (.block 1 (zr [zm 56 54,
 zm 7 56] [1,6,7,53,54] [1,35]
 (.reg true [zm 57 6,
 zm 58 6,
 zg 59 (.nck t58),
 zp 60 59 23,
 zg 61 (.ldl 35 t60 1 false),
 zp 62 1 20,
 zg 63 (.ldl 1 t62 1 false),
 zm 64 7,
 zg 65 (.slc t63 none (some t64) 2),
 zc 66 59 [t65],
 zg 67 (.bsl 1 1 [zo] [(0,t66)]),
 zg 68 (.app t61 t67 1),
 zg 69 (.nck t57),
 zp 70 69 23,
 zn (.stl 35 t70 t68 1)] [1,6,53,54] [1,35])))
 (.reg false [zg 71 (.bin .add t54 (zi 1)),
 zm 54 71] [1,6,53,54] [1,35])))))
def ir14:IFn:=
⟨(zr [zg 1 (.bx t0 22 true),
 zg 2 (.mov (.c (.p .nilp))),
 zg 3 (.mov zF)] [1] [1]
 (.seq (zr [zl 8 1 22,
 zc 9 52 [t8],
 zj 10 9] [1,10] [1]
 (.cond t10
 (zr [zg 2 (.mov (.c (.p .nilp))),
 zg 3 (.mov zF)] [2,3] [35]
 .ret)
 .skip))
 (zr [zl 11 1 22,
 zc 12 54 [t11],
 zc 13 53 [t12],
 zn (.st t1 t13 22)] [1] [1]
 (zr [zp 15 1 19,
 zk 16 15 1,
 zg 17 (.callz 55 [t16]),
 zm 14 17,
 zx 18 14 0,
 zx 19 14 1,
 zm 4 18,
 zm 5 19] [1,4,5] [1]
 (.seq (zr [zm 20 5,
 zj 21 20] [1,4,21] [1]
 (.cond t21
 (zr [zg 2 (.mov (.c (.p .nilp))),
 zg 3 (.mov zF)] [2,3] [35]
 .ret)
 .skip))
 (.seq (.prep [35] (.reg true [zp 22 1 19,
 zg 23 (.ldl 1 t22 1 false),
 zg 24 (.callz 56 [t23]),
 zm 25 4,
 zp 26 1 19,
 zg 27 (.ldl 1 t26 1 false),
 zp 28 1 21,
 zg 29 (.ldl 1 t28 1 false),
 zg 30 (.callz 57 [t27,t29]),
 zg 31 (.bld [.p .nilp,.p .nilp,.p .nilp] [(0,1,t24),(1,1,t25),(2,1,t30)]),
 zg 32 (.bx t31 3 false),
 zg 33 (.ldl 1 t1 22 true),
 zg 34 (.bld [.p .nilp,zo,zo,zo,zo,zo,zo,zo,zo,zo,zo,zo,zo,zo,zo,zo,zo,zo,zo,.p (.bool false),.nils,.nils,.nils,.nils,zo,zo,zo] [(0,1,t32),(1,22,t33)]),
 zg 35 (.bxp t34 27),
 zm 6 35] [1,6] [1,35]))
 (.seq (.reg true [zm 36 6,
 zm 37 6,
 zg 38 (.nck t37),
 zp 39 38 0,
 zg 40 (.ldl 35 t39 1 false),
 zg 41 (.nck t40),
 zp 42 41 2,
 zk 43 42 1,
 zp 44 1 19,
 zg 45 (.ldl 1 t44 1 false),
 zh 46 45,
 zc 47 58 [t43,t46],
 zg 48 (.nck t36),
 zp 49 48 24,
 zn (.stl 35 t49 t47 3)] [1,6] [1,35])
 (.seq (zr [zp 50 1 20,
 zk 51 50 1,
 zh 52 51,
 zg 53 (.bin .add t52 (zi 1)),
 zg 54 (.mov (zi 0))] [1,6,53,54] [1,35]
 (.block 0 q0U8))
 (.seq (.esc [35] (.reg false [zm 72 6,
 zm 2 72,
 zg 3 (.mov zT)] [2,3] [35]))
 .ret))))))))),
 [.tmp 2,.tmp 3],false⟩
def ir17:IFn:=
⟨(zr [zg 1 (.bx t0 7 true),
 zg 2 (.mov zF)] [1] [1]
 (zr [zp 3 1 0,
 zk 4 3 1,
 zg 5 (.bin .eql t4 (zi 2)),
 zm 6 5,
 zf 7 6 (.off t1 0),
 zf 8 6 (.ld t7 1 false),
 zf 9 6 (.bin .eql t8 (zi 3)),
 zg 10 (.pick t6 zT t9),
 zm 2 10] [2] []
 .ret)),
 [.tmp 2],false⟩
def ir19:IFn:=
⟨(zr [zg 1 (.bx t0 22 true),
 zg 2 (.al [zo,zo,zo,zo,zo,zo,zo,zo,zo,zo,zo,zo,zo,zo,zo,zo,zo,zo,.p (.bool false),.nils,.nils,.nils,.p (.bool false)] true)] [1,2] [1,2]
 (.seq (zr [zl 3 1 22,
 zc 4 65 [t3],
 zg 5 (.fldv t4 0 1 false),
 zg 6 (.bin .neq t5 (zi 0))] [1,2,6] [1,2]
 (.cond t6
 (zr [zg 7 (.bld [zo,zo,zo,zo,zo,zo,zo,zo,zo,zo,zo,zo,zo,zo,zo,zo,zo,zo,.p (.bool false),.nils,.nils,.nils,.p (.bool false)] []),
 zn (.st t2 t7 23)] [2] [2]
 .ret)
 .skip))
 (zr [zl 8 1 22,
 zc 9 66 [t8],
 zg 10 (.bld [zo,zo,zo,zo,zo,zo,zo,zo,zo,zo,zo,zo,zo,zo,zo,zo,zo,zo,.p (.bool false),.nils,.nils,.nils] [(0,22,t9)]),
 zg 11 (.bld [zo,zo,zo,zo,zo,zo,zo,zo,zo,zo,zo,zo,zo,zo,zo,zo,zo,zo,.p (.bool false),.nils,.nils,.nils,.p (.bool false)] [(0,22,t10),(22,1,zT)]),
 zn (.st t2 t11 23)] [2] [2]
 .ret))),
 [.cell 2 23 true],false⟩
def q0Xd:IC:=
 (.loop [1,3] [1] (.seq (zr [zm 4 3,
 zp 5 1 20,
 zk 6 5 1,
 zh 7 6,
 zg 8 (.bin .lss t4 t7),
 zm 9 8,
 zt 10 9 (.mov t3),
 zt 11 9 (.bin .lss t10 (zi 100)),
 zg 12 (.pick t9 t11 zF)] [1,3,12] [1]
 (.cond t12
 .skip
 (.exit 0)))
 (.seq (.block 1 (zr [zp 15 1 20,
 zk 16 15 1,
 zm 17 3,
 zg 18 (.ixs t16 t17 2),
 zp 19 18 0,
 zk 20 19 1,
 zh 21 20,
 zg 22 (.bin .gtr t21 (zi 100)),
 zm 23 22,
 zf 24 23 (.off t1 20),
 zf 25 23 (.ld t24 1 false),
 zf 26 23 (.mov t3),
 zf 27 23 (.ixs t25 t26 2),
 zf 28 23 (.off t27 1),
 zf 29 23 (.ld t28 1 false),
 zf 30 23 (.len t29),
 zf 31 23 (.bin .gtr t30 (zi 100)),
 zg 32 (.pick t23 zT t31)] [1,3,32] [1]
 (.cond t32
 (zr [zg 2 (.mov zT)] [2] []
 .ret)
 .skip)))
 (.reg false [zm 13 3,
 zg 14 (.bin .add t13 (zi 1)),
 zm 3 14] [1,3] [1]))))
def ir31:IFn:=
⟨(zr [zg 1 (.bx t0 22 true),
 zg 2 (.mov zF)] [1] [1]
 (.seq (zr [zg 3 (.mov (zi 0))] [1,3] [1]
 (.block 0 q0Xd))
 (zr [zp 33 1 19,
 zk 34 33 1,
 zh 35 34,
 zg 36 (.bin .gtr t35 (zi 100)),
 zm 37 36,
 zf 38 37 (.off t1 20),
 zf 39 37 (.ld t38 1 false),
 zf 40 37 (.len t39),
 zf 41 37 (.bin .gtr t40 (zi 100)),
 zg 42 (.pick t37 zT t41),
 zm 43 42,
 zf 44 43 (.off t1 21),
 zf 45 43 (.ld t44 1 false),
 zf 46 43 (.len t45),
 zf 47 43 (.bin .gtr t46 (zi 100)),
 zg 48 (.pick t43 zT t47),
 zm 2 48] [2] []
 .ret))),
 [.tmp 2],false⟩
def ir32:IFn:=
⟨(zr [zg 0 (.mov zF)] [] []
 (zr [zg 5 (.bld [zo,zo,zo,zo,zo,zo,zo,zo,zo,zo,zo,zo,zo,zo,zo,zo,zo,zo,.p (.bool false)] [(0,1,(zi 1)),(1,1,(zi 1)),(3,1,(zi 9)),(4,1,(zi 9))]),
 zg 6 (.bld [zo,zo,zo,zo,zo,zo,zo] [(0,1,(zi 1)),(1,1,(zi 3))]),
 zg 7 (.bld [zo,zo,zo,zo,zo,zo,zo] [(0,1,(zi 1)),(1,1,(zi 3))]),
 zg 8 (.bld [zo,zo,zo,zo,zo,zo,zo] [(0,1,(zi 2))]),
 zg 9 (.bld [zo,zo,zo,zo,zo,zo,zo] [(0,1,(zi 1)),(1,1,(zi 30))]),
 zg 10 (.bsl 7 4 [zo,zo,zo,zo,zo,zo,zo] [(0,t6),(1,t7),(2,t8),(3,t9)]),
 zg 11 (.bld [zo,zo,zo,zo,zo,zo,zo,zo,zo,zo,zo,zo,zo,zo,zo,zo,zo,zo,.p (.bool false),.nils,.nils,.nils] [(0,19,t5),(19,1,t10)]),
 zg 12 (.callz 14 [t11]),
 zm 4 12,
 zx 13 4 0,
 zx 14 4 1,
 zm 1 13,
 zm 2 14] [1,2] []
 (zr [zm 15 1,
 zc 16 81 [t15],
 zg 3 (.al [zo,zo,zo,zo,zo,zo,zo] true),
 zn (.st t3 t16 7)] [1,2,3] [3]
 (zr [zm 17 2,
 zm 18 17,
 zt 19 18 (.mov t1),
 zt 20 18 (.ld t3 7 true),
 zt 21 18 (.bld [zo,zo,zo,.nils,.nils,.nils] [(0,1,(zi 1)),(2,1,(zi 2))]),
 zt 22 18 (.call 35 [t19,t20,t21] false),
 zg 23 (.pick t18 t22 zF),
 zm 24 23,
 zt 25 24 (.mov t1),
 zt 26 24 (.ld t3 7 true),
 zt 27 24 (.bld [zo,zo,zo,.nils,.nils,.nils] [(0,1,(zi 1)),(2,1,(zi 1))]),
 zt 28 24 (.call 33 [t25,t26,t27] false),
 zt 29 24 (.bin .eql t28 (zi 14)),
 zg 30 (.pick t24 t29 zF),
 zm 31 30,
 zt 32 31 (.mov t1),
 zt 33 31 (.ld t3 7 true),
 zt 34 31 (.bld [zo,zo,zo,.nils,.nils,.nils] [(0,1,(zi 1)),(2,1,(zi 4))]),
 zt 35 31 (.call 33 [t32,t33,t34] false),
 zt 36 31 (.bin .eql t35 (zi 17)),
 zg 37 (.pick t31 t36 zF),
 zm 38 37,
 zt 39 38 (.mov t1),
 zt 40 38 (.bld [zo,zo,zo,zo,zo,zo,zo] [(0,1,(zi 3)),(1,1,(zi 1))]),
 zt 41 38 (.bld [zo,zo,zo,.nils,.nils,.nils] [(0,1,(zi 1)),(1,1,(zi 3)),(2,1,(zi 4))]),
 zt 42 38 (.call 35 [t39,t40,t41] false),
 zg 43 (.pick t38 t42 zF),
 zm 0 43] [0] []
 .ret)))),
 [.tmp 0],false⟩
def q0Vi:IC:=
 (.loop [0,4,5,9,47,48,49] [4,5,9] (zr [zg 50 (.bin .lss t49 t48)] [0,4,5,9,47,48,49,50] [4,5,9]
 (.seq (.cond t50
 .skip
 (.exit 0))
 (.seq (.block 1 (zr [zg 51 (.ixs t47 t49 2),
 zl 52 51 2,
 zg 11 (.al [zo,.p .nilf] true),
 zn (.st t11 t52 2)] [0,4,5,9,11,47,48,49] [4,5,9,11]
 (zr [zp 53 11 1,
 zk 54 53 1,
 zl 55 9 36,
 zg 56 (.callv t54 [t55] false)] [0,4,5,9,11,47,48,49,56] [4,5,9,11]
 (.cond t56
 (zr [zp 57 11 0,
 zk 58 57 1,
 zm 6 58] [6] []
 .ret)
 .skip))))
 (.reg false [zg 59 (.bin .add t49 (zi 1)),
 zm 49 59] [0,4,5,9,47,48,49] [4,5,9])))))
def ir33:IFn:=
⟨(zr [zg 4 (.bx t1 7 true),
 zg 5 (.bx t2 6 true),
 zg 6 (.mov (zi 0))] [0,4,5] [4,5]
 (.seq (.reg true [zc 15 88 [],
 zp 16 5 0,
 zg 17 (.ldl 5 t16 1 false),
 zg 18 (.mp (.lk none (.nils) true) [t15,t17]),
 zm 14 18,
 zx 19 14 0,
 zx 20 14 1,
 zm 7 19,
 zm 8 20] [0,4,5,7,8] [4,5])
 (.seq (zr [zm 21 8,
 zj 22 21,
 zm 23 22,
 zf 24 23 (.mov t0),
 zf 25 23 (.ld t4 7 true),
 zf 26 23 (.call 89 [t24,t25] false),
 zf 27 23 (.un .not t26),
 zg 28 (.pick t23 zT t27),
 zm 29 28,
 zf 30 29 (.mov t0),
 zf 31 29 (.ld t4 7 true),
 zf 32 29 (.call 64 [t30,t31] false),
 zg 33 (.pick t29 zT t32),
 zm 34 33,
 zf 35 34 (.off t5 1),
 zf 36 34 (.ld t35 1 false),
 zf 37 34 (.off t4 0),
 zf 38 34 (.ld t37 1 false),
 zf 39 34 (.bin .neq t36 t38),
 zg 40 (.pick t34 zT t39)] [0,4,5,7,40] [4,5]
 (.cond t40
 (zr [zg 6 (.mov (zi 19))] [6] []
 .ret)
 .skip))
 (.seq (.prep [9] (.reg true [zm 41 0,
 zg 42 (.ldl 4 t4 7 true),
 zg 43 (.ldl 5 t5 6 true),
 zm 44 0,
 zc 45 84 [t44],
 zg 46 (.bld [.p .nilp,zo,zo,zo,zo,zo,zo,zo,zo,zo,zo,.nils,.nils,.nils,zo,zo,zo,zo,zo,zo,zo,zo,zo,zo,zo,zo,zo,zo,zo,zo,zo,zo,.p (.bool false),.nils,.nils,.nils] [(0,1,t41),(1,7,t42),(8,6,t43),(14,22,t45)]),
 zg 9 (.alp [.p .nilp,zo,zo,zo,zo,zo,zo,zo,zo,zo,zo,.nils,.nils,.nils,zo,zo,zo,zo,zo,zo,zo,zo,zo,zo,zo,zo,zo,zo,zo,zo,zo,zo,.p (.bool false),.nils,.nils,.nils]),
 zn (.stl 9 t9 t46 36)] [0,4,5,7,9] [4,5,9]))
 (.seq (zr [zm 47 7,
 zh 48 47,
 zg 49 (.mov (zi 0))] [0,4,5,9,47,48,49] [4,5,9]
 (.block 0 q0Vi))
 (.seq (zr [zl 60 9 36,
 zc 61 90 [t60]] [0,4,5,61] [4,5]
 (.cond t61
 (zr [zm 63 0,
 zl 64 4 7,
 zc 65 82 [t63,t64],
 zm 62 65,
 zx 66 62 0,
 zx 67 62 1,
 zg 12 (.al [zo,zo,zo,.nils,.nils,.nils] true),
 zn (.st t12 t66 6),
 zm 13 67] [5,12] [5,12]
 (zr [zl 68 5 6,
 zl 69 12 6,
 zc 70 91 [t68,t69],
 zj 71 70] [71] []
 (.cond t71
 (zr [zg 6 (.mov (zi 17))] [6] []
 .ret)
 .skip)))
 .skip))
 (zr [zg 6 (.mov (zi 0))] [6] []
 .ret))))))),
 [.tmp 6],false⟩
def ir34:IFn:=
⟨(zr [zg 3 (.bx t0 22 true),
 zg 4 (.bx t1 7 true),
 zg 5 (.bx t2 6 true),
 zg 6 (.mov (zi 0))] [3,4,5] [3,4,5]
 (zr [zp 9 3 0,
 zp 10 9 19,
 zk 11 10 1,
 zh 12 11,
 zm 7 12] [3,4,5,7] [3,4,5]
 (.seq (zr [zl 13 3 22,
 zl 14 4 7,
 zc 15 68 [t13,t14],
 zj 16 15,
 zm 17 16,
 zf 18 17 (.ld t3 22 true),
 zf 19 17 (.ld t4 7 true),
 zf 20 17 (.call 86 [t18,t19] false),
 zg 21 (.pick t17 zT t20),
 zm 22 21,
 zf 23 22 (.off t5 0),
 zf 24 22 (.ld t23 1 false),
 zf 25 22 (.bin .lss t24 (zi 1)),
 zg 26 (.pick t22 zT t25),
 zm 27 26,
 zf 28 27 (.off t5 0),
 zf 29 27 (.ld t28 1 false),
 zf 30 27 (.bin .gtr t29 (zi 3)),
 zg 31 (.pick t27 zT t30),
 zm 32 31,
 zf 33 32 (.off t5 1),
 zf 34 32 (.ld t33 1 false),
 zf 35 32 (.off t4 0),
 zf 36 32 (.ld t35 1 false),
 zf 37 32 (.bin .neq t34 t36),
 zg 38 (.pick t32 zT t37),
 zm 39 38,
 zf 40 39 (.off t5 0),
 zf 41 39 (.ld t40 1 false),
 zf 42 39 (.bin .eql t41 (zi 1)),
 zf 43 39 (.mov t42),
 zt 44 43 (.off t4 0),
 zt 45 43 (.ld t44 1 false),
 zt 46 43 (.mov t7),
 zt 47 43 (.bin .eql t45 t46),
 zf 48 39 (.pick t43 t47 zF),
 zg 49 (.pick t39 zT t48),
 zm 50 49,
 zf 51 50 (.off t5 0),
 zf 52 50 (.ld t51 1 false),
 zf 53 50 (.bin .neq t52 (zi 1)),
 zf 54 50 (.mov t53),
 zt 55 54 (.off t5 2),
 zt 56 54 (.ld t55 1 false),
 zt 57 54 (.off t4 0),
 zt 58 54 (.ld t57 1 false),
 zt 59 54 (.bin .neq t56 t58),
 zf 60 50 (.pick t54 t59 zF),
 zg 61 (.pick t50 zT t60),
 zm 62 61,
 zf 63 62 (.off t5 0),
 zf 64 62 (.ld t63 1 false),
 zf 65 62 (.bin .eql t64 (zi 3)),
 zf 66 62 (.mov t65),
 zt 67 66 (.off t4 0),
 zt 68 66 (.ld t67 1 false),
 zt 69 66 (.mov t7),
 zt 70 66 (.bin .lss t68 t69),
 zf 71 62 (.pick t66 t70 zF),
 zg 72 (.pick t62 zT t71)] [3,4,5,72] [3,4,5]
 (.cond t72
 (zr [zg 6 (.mov (zi 19))] [6] []
 .ret)
 .skip))
 (zr [zg 8 (.mov (zi 0))] [3,4,5,8] [3,4,5]
 (.seq (zr [zp 73 5 0,
 zk 74 73 1,
 zg 75 (.bin .eql t74 (zi 1))] [3,4,5,8,75] [3,4,5]
 (.cond t75
 (.reg false [zl 76 3 22,
 zl 77 4 7,
 zl 78 5 6,
 zc 79 92 [t76,t77,t78],
 zm 8 79] [3,4,5,8] [3,4,5])
 .skip))
 (.seq (zr [zp 80 5 0,
 zk 81 80 1,
 zg 82 (.bin .eql t81 (zi 2))] [3,4,5,8,82] [3,4,5]
 (.cond t82
 (.reg false [zl 83 3 22,
 zl 84 4 7,
 zl 85 5 6,
 zc 86 93 [t83,t84,t85],
 zm 8 86] [3,4,5,8] [3,4,5])
 .skip))
 (.seq (zr [zp 87 5 0,
 zk 88 87 1,
 zg 89 (.bin .eql t88 (zi 3))] [3,4,5,8,89] [3,4,5]
 (.cond t89
 (.reg false [zl 90 3 22,
 zl 91 4 7,
 zl 92 5 6,
 zc 93 94 [t90,t91,t92],
 zm 8 93] [3,4,5,8] [3,4,5])
 .skip))
 (.seq (zr [zm 94 8,
 zg 95 (.bin .neq t94 (zi 0))] [3,4,5,8,95] [3,4,5]
 (.cond t95
 (zr [zm 96 8,
 zm 6 96] [6] []
 .ret)
 .skip))
 (.seq (.seq (.reg true [zg 97 (.ldl 3 t3 22 true),
 zg 98 (.ldl 4 t4 7 true),
 zg 99 (.ldl 5 t5 6 true),
 zc 100 69 [t97,t98,t99],
 zg 101 (.fldv t100 4 1 false),
 zm 102 101,
 zt 103 102 (.ldl 5 t5 6 true),
 zt 104 102 (.ldl 3 t3 22 true),
 zt 105 102 (.ldl 4 t4 7 true),
 zt 106 102 (.call 87 [t104,t105] false),
 zt 107 102 (.fldv t106 0 6 true),
 zt 108 102 (.call 85 [t103,t107] false),
 zt 109 102 (.un .not t108),
 zg 110 (.pick t102 t109 zF)] [110] [])
 (.cond t110
 (zr [zg 6 (.mov (zi 17))] [6] []
 .ret)
 .skip))
 (zr [zg 6 (.mov (zi 0))] [6] []
 .ret)))))))))),
 [.tmp 6],false⟩
def ir35:IFn:=
⟨(zr [zg 4 (.bx t1 7 true),
 zg 5 (.bx t2 6 true),
 zg 6 (.mov zF)] [0,4,5] [4,5]
 (zr [zm 7 0,
 zl 8 4 7,
 zl 9 5 6,
 zc 10 33 [t7,t8,t9],
 zg 11 (.bin .eql t10 (zi 0)),
 zm 6 11] [6] []
 .ret)),
 [.tmp 6],false⟩
def ir52:IFn:=
⟨(zr [zg 1 (.bx t0 22 true),
 zg 2 (.mov zF)] [1] [1]
 (zr [zl 6 1 22,
 zc 7 123 [t6],
 zm 5 7,
 zx 8 5 0,
 zx 9 5 1,
 zm 3 8,
 zm 4 9] [3] []
 (zr [zm 10 3,
 zg 11 (.bin .eql t10 (zi 0)),
 zm 2 11] [2] []
 .ret))),
 [.tmp 2],false⟩
def q0Xe:IC:=
 (.loop [2,3,16,17,18] [2,3] (zr [zg 19 (.bin .lss t18 t17)] [2,3,16,17,18,19] [2,3]
 (.seq (.cond t19
 .skip
 (.exit 0))
 (.seq (.block 1 (zr [zg 20 (.ixs t16 t18 2),
 zl 21 20 2,
 zg 5 (.al [.nils,.nils] true),
 zn (.st t5 t21 2)] [2,3,5,16,17,18] [2,3,5]
 (.reg true [zp 22 3 20,
 zg 23 (.ldl 3 t22 1 false),
 zp 24 5 0,
 zg 25 (.ldl 5 t24 1 false),
 zg 26 (.callz 126 [t25]),
 zp 27 5 1,
 zg 28 (.ldl 5 t27 1 false),
 zg 29 (.callz 127 [t28]),
 zg 30 (.bld [.nils,.nils] [(0,1,t26),(1,1,t29)]),
 zg 31 (.bsl 2 1 [.nils,.nils] [(0,t30)]),
 zg 32 (.app t23 t31 2),
 zp 33 3 20,
 zn (.stl 3 t33 t32 1)] [2,3,16,17,18] [2,3])))
 (.reg false [zg 34 (.bin .add t18 (zi 1)),
 zm 18 34] [2,3,16,17,18] [2,3])))))
def ir53:IFn:=
⟨(zr [zg 1 (.bx t0 22 true),
 zg 2 (.al [zo,zo,zo,zo,zo,zo,zo,zo,zo,zo,zo,zo,zo,zo,zo,zo,zo,zo,.p (.bool false),.nils,.nils,.nils] true)] [1,2] [1,2]
 (.seq (.prep [3] (.reg true [zp 6 1 0,
 zg 7 (.ldl 1 t6 19 true),
 zp 8 1 19,
 zg 9 (.ldl 1 t8 1 false),
 zg 10 (.callz 124 [t9]),
 zp 11 1 21,
 zg 12 (.ldl 1 t11 1 false),
 zg 13 (.callz 125 [t12]),
 zg 14 (.bld [zo,zo,zo,zo,zo,zo,zo,zo,zo,zo,zo,zo,zo,zo,zo,zo,zo,zo,.p (.bool false),.nils,.nils,.nils] [(0,19,t7),(19,1,t10),(21,1,t13)]),
 zg 3 (.alp [zo,zo,zo,zo,zo,zo,zo,zo,zo,zo,zo,zo,zo,zo,zo,zo,zo,zo,.p (.bool false),.nils,.nils,.nils]),
 zn (.stl 3 t3 t14 22)] [1,2,3] [1,2,3]))
 (.seq (zr [zp 15 1 20,
 zk 16 15 1,
 zh 17 16,
 zg 18 (.mov (zi 0))] [2,3,16,17,18] [2,3]
 (.block 0 q0Xe))
 (zr [zl 35 3 22,
 zn (.st t2 t35 22)] [2] [2]
 .ret)))),
 [.cell 2 22 true],false⟩
def q0Wc:IC:=
 (.loop [2,3,4,44,45] [2,3] (zr [zg 46 (.bin .lss t45 t44)] [2,3,4,44,45,46] [2,3]
 (.seq (.cond t46
 .skip
 (.exit 0))
 (.seq (.block 1 (zr [zm 47 45,
 zm 5 47] [2,3,4,5,44,45] [2,3]
 (.reg true [zg 48 (.ldl 3 t3 1 true),
 zp 49 4 21,
 zk 50 49 1,
 zm 51 5,
 zg 52 (.ixs t50 t51 3),
 zp 53 52 1,
 zg 54 (.bsl 1 1 [.p .nilp] [(0,t53)]),
 zc 55 130 [t48,(.c (.p (.fn 132))),t54]] [2,3,4,44,45] [2,3])))
 (.reg false [zg 56 (.bin .add t45 (zi 1)),
 zm 45 56] [2,3,4,44,45] [2,3])))))
def ir54:IFn:=
⟨(zr [zg 1 (.bx t0 22 true),
 zg 2 (.al [zo,zo,zo,zo,zo,zo,zo,zo,zo,zo,zo,zo,zo,zo,zo,zo,zo,zo,.p (.bool false),.nils,.nils,.nils] true)] [1,2] [1,2]
 (zr [zp 6 1 0,
 zp 7 6 5,
 zk 8 7 1,
 zg 9 (.bld [zo] [(0,1,t8)]),
 zg 3 (.al [zo] true),
 zn (.st t3 t9 1)] [1,2,3] [1,2,3]
 (.seq (zr [zp 10 3 0,
 zk 11 10 1,
 zg 12 (.bin .lss t11 (zi 1))] [1,2,3,12] [1,2,3]
 (.cond t12
 (zr [zl 13 1 22,
 zn (.st t2 t13 22)] [2] [2]
 .ret)
 .skip))
 (.seq (.prep [4] (.reg true [zp 14 1 0,
 zg 15 (.ldl 1 t14 19 true),
 zg 16 (.ldl 3 t3 1 true),
 zp 17 1 19,
 zg 18 (.ldl 1 t17 1 false),
 zc 19 128 [t16,t18],
 zg 20 (.ldl 3 t3 1 true),
 zp 21 1 20,
 zg 22 (.ldl 1 t21 1 false),
 zc 23 129 [t20,t22],
 zp 24 1 21,
 zg 25 (.ldl 1 t24 1 false),
 zc 26 125 [t25],
 zg 27 (.bld [zo,zo,zo,zo,zo,zo,zo,zo,zo,zo,zo,zo,zo,zo,zo,zo,zo,zo,.p (.bool false),.nils,.nils,.nils] [(0,19,t15),(19,1,t19),(20,1,t23),(21,1,t26)]),
 zg 4 (.alp [zo,zo,zo,zo,zo,zo,zo,zo,zo,zo,zo,zo,zo,zo,zo,zo,zo,zo,.p (.bool false),.nils,.nils,.nils]),
 zn (.stl 4 t4 t27 22)] [2,3,4] [2,3,4]))
 (.esc [4] (zr [zl 28 3 1,
 zp 29 4 0,
 zp 30 29 3,
 zp 31 4 0,
 zp 32 31 4,
 zg 33 (.bsl 1 2 [.p .nilp] [(0,t30),(1,t32)]),
 zc 34 130 [t28,(.c (.p (.fn 131))),t33]] [2,3,4] [2,3]
 (zr [zl 35 3 1,
 zp 36 4 0,
 zp 37 36 6,
 zp 38 4 0,
 zp 39 38 7,
 zg 40 (.bsl 1 2 [.p .nilp] [(0,t37),(1,t39)]),
 zc 41 130 [t35,(.c (.p (.fn 132))),t40]] [2,3,4] [2,3]
 (.seq (zr [zp 42 4 21,
 zk 43 42 1,
 zh 44 43,
 zg 45 (.mov (zi 0))] [2,3,4,44,45] [2,3]
 (.block 0 q0Wc))
 (zr [zl 57 4 22,
 zn (.st t2 t57 22)] [2] [2]
 .ret))))))))),
 [.cell 2 22 true],false⟩
def q0Wd:IC:=
 (.loop [0,4,23,24] [21] (zr [zg 25 (.bin .lss t24 t23)] [0,4,23,24,25] [21]
 (.seq (.cond t25
 .skip
 (.exit 0))
 (.seq (.block 1 (zr [zm 26 24,
 zm 5 26] [0,4,5,23,24] [21]
 (zr [zm 27 0,
 zm 28 5,
 zg 29 (.ixs t27 t28 7),
 zl 30 29 7,
 zc 31 133 [t30],
 zg 6 (.al [zo,zo,zo,zo,zo,zo] true),
 zn (.st t6 t31 6)] [0,4,5,6,23,24] [6,21]
 (.seq (zr [zl 32 6 6,
 zc 33 134 [t32],
 zj 34 33] [0,4,5,6,23,24,34] [6,21]
 (.cond t34
 (zr [zg 2 (.mov (.c (.p .nilp))),
 zg 3 (.mov zF)] [2,3] [21]
 .ret)
 .skip))
 (.seq (.reg true [zm 36 4,
 zg 37 (.nck t36),
 zp 38 37 1,
 zg 39 (.ldl 21 t38 1 false),
 zm 40 5,
 zg 41 (.bin .add t40 (zi 1)),
 zm 42 4,
 zg 43 (.nck t42),
 zp 44 43 1,
 zg 45 (.ldl 21 t44 1 false),
 zm 46 5,
 zg 47 (.ixs t45 t46 6),
 zl 48 47 6,
 zg 49 (.ldl 6 t6 6 true),
 zc 50 135 [t48,t49],
 zm 35 50,
 zx 51 35 0,
 zx 52 35 1,
 zg 53 (.ixs t39 t41 6),
 zn (.st t53 t51 6)] [0,4,5,23,24] [21])
 (.seq (.reg true [zm 54 4,
 zg 55 (.nck t54),
 zp 56 55 2,
 zg 57 (.ldl 21 t56 1 false),
 zm 58 5,
 zg 59 (.bin .add t58 (zi 1)),
 zm 60 4,
 zg 61 (.nck t60),
 zp 62 61 2,
 zg 63 (.ldl 21 t62 1 false),
 zm 64 5,
 zg 65 (.ixs t63 t64 1),
 zk 66 65 1,
 zg 67 (.ixs t57 t59 1),
 zn (.st t67 t66 1)] [0,4,5,23,24] [21])
 (zr [zm 68 0,
 zm 69 5,
 zg 70 (.ixs t68 t69 7),
 zp 71 70 0,
 zk 72 71 1,
 zg 73 (.bin .eql t72 (zi 1))] [0,4,5,23,24,73] [21]
 (.cond t73
 (.reg true [zm 74 4,
 zg 75 (.nck t74),
 zp 76 75 2,
 zg 77 (.ldl 21 t76 1 false),
 zm 78 5,
 zg 79 (.bin .add t78 (zi 1)),
 zg 80 (.ixs t77 t79 1),
 zk 81 80 1,
 zm 82 0,
 zm 83 5,
 zg 84 (.ixs t82 t83 7),
 zp 85 84 1,
 zk 86 85 1,
 zg 87 (.bin .add t81 t86),
 zg 88 (.ixs t77 t79 1),
 zn (.st t88 t87 1)] [0,4,23,24] [21])
 .skip))))))))
 (.reg false [zg 89 (.bin .add t24 (zi 1)),
 zm 24 89] [0,4,23,24] [21])))))
def ir55:IFn:=
⟨(zr [zg 2 (.mov (.c (.p .nilp))),
 zg 3 (.mov zF)] [0] []
 (.seq (zr [zm 7 0,
 zh 8 7,
 zg 9 (.bin .gtr t8 (zi 4096))] [0,9] []
 (.cond t9
 (zr [zg 2 (.mov (.c (.p .nilp))),
 zg 3 (.mov zF)] [2,3] [21]
 .ret)
 .skip))
 (.seq (.rsv [6,1] (.prep [21] (.reg true [zm 10 0,
 zg 11 (.callz 124 [t10]),
 zm 12 0,
 zh 13 12,
 zg 14 (.bin .add t13 (zi 1)),
 zg 15 (.mkh 2 6 [zo,zo,zo,zo,zo,zo] t14),
 zm 16 0,
 zh 17 16,
 zg 18 (.bin .add t17 (zi 1)),
 zg 19 (.mkh 1 1 [zo] t18),
 zg 20 (.bld [.nils,.nils,.nils] [(0,1,t11),(1,1,t15),(2,1,t19)]),
 zg 21 (.bxp t20 3),
 zm 4 21] [0,4] [21])))
 (.seq (zr [zm 22 0,
 zh 23 22,
 zg 24 (.mov (zi 0))] [0,4,23,24] [21]
 (.block 0 q0Wd))
 (.seq (.esc [21] (.reg false [zm 90 4,
 zm 2 90,
 zg 3 (.mov zT)] [2,3] [21]))
 .ret))))),
 [.tmp 2,.tmp 3],false⟩
def ir56:IFn:=
⟨(zr [zg 2 (.mov (.c (.p .nilp)))] [0] []
 (zr [zm 3 0,
 zg 4 (.callz 124 [t3]),
 zg 5 (.bld [.nils] [(0,1,t4)]),
 zg 6 (.bx t5 1 false),
 zm 2 6] [2] []
 .ret)),
 [.tmp 2],false⟩
def q0We:IC:=
 (.loop [1,5,22,23,24] [21] (zr [zg 25 (.bin .lss t24 t23)] [1,5,22,23,24,25] [21]
 (.seq (.cond t25
 .skip
 (.exit 0))
 (.seq (.block 1 (zr [zm 26 24,
 zg 27 (.ixs t22 t24 7),
 zl 28 27 7,
 zg 7 (.al [zo,zo,zo,zo,zo,zo,zo] true),
 zm 6 26,
 zn (.st t7 t28 7)] [1,5,6,7,22,23,24] [7,21]
 (.seq (.prep [9,10] (.reg true [zm 29 5,
 zg 30 (.nck t29),
 zp 31 30 1,
 zg 32 (.ldl 21 t31 1 false),
 zm 33 6,
 zg 34 (.ixs t32 t33 1),
 zg 35 (.ldh t34 1 false),
 zm 36 5,
 zg 37 (.nck t36),
 zp 38 37 2,
 zg 39 (.ldl 21 t38 1 false),
 zm 40 6,
 zg 41 (.ixs t39 t40 3),
 zg 42 (.ldh t41 3 true),
 zm 43 5,
 zg 44 (.nck t43),
 zp 45 44 3,
 zg 46 (.ldl 21 t45 1 false),
 zm 47 6,
 zg 48 (.ixs t46 t47 3),
 zg 49 (.ldh t48 3 true),
 zg 9 (.alp [zo,zo,zo]),
 zg 10 (.alp [zo,zo,zo]),
 zm 8 35,
 zn (.stl 9 t9 t42 3),
 zn (.stl 10 t10 t49 3)] [1,5,7,8,9,10,22,23,24] [7,9,10,21]))
 (.seq (zr [zp 50 7 0,
 zk 51 50 1] [1,5,7,8,9,10,22,23,24,51] [7,9,10,21]
 (.block 2 (zr [zg 53 (.bin .eql t51 (zi 5)),
 zm 52 53] [1,5,7,8,9,10,22,23,24,51,52] [7,9,10,21]
 (.cond t52
 (.reg false [zm 54 8,
 zg 55 (.bin .add t54 (zi 1)),
 zm 8 55] [1,5,8,9,10,22,23,24] [9,10,21])
 (zr [zg 57 (.bin .eql t51 (zi 6)),
 zm 56 57] [1,5,7,8,9,10,22,23,24,51,56] [7,9,10,21]
 (.cond t56
 (zr [zm 59 1,
 zp 60 7 6,
 zk 61 60 1,
 zc 62 136 [t59,t61],
 zm 58 62,
 zx 63 58 0,
 zx 64 58 1,
 zg 11 (.al [zo,zo,zo] true),
 zn (.st t11 t63 3),
 zm 12 64] [1,5,8,9,10,11,12,22,23,24] [9,10,11,21]
 (zr [zm 65 12,
 zm 66 65,
 zt 67 66 (.off t11 0),
 zt 68 66 (.ld t67 1 false),
 zt 69 66 (.bin .geq t68 (zi 0)),
 zg 70 (.pick t66 t69 zF),
 zm 71 70,
 zt 72 71 (.off t11 0),
 zt 73 71 (.ld t72 1 false),
 zt 74 71 (.bin .lss t73 (zi 3)),
 zg 75 (.pick t71 t74 zF)] [1,5,8,9,10,11,22,23,24,75] [9,10,11,21]
 (.cond t75
 (.reg false [zp 76 11 0,
 zk 77 76 1,
 zg 78 (.ixa t9 t77 1 3),
 zk 79 78 1,
 zg 80 (.bin .add t79 (zi 1)),
 zg 81 (.ixa t9 t77 1 3),
 zn (.st t81 t80 1)] [1,5,8,9,10,22,23,24] [9,10,21])
 .skip)))
 (zr [zg 83 (.bin .eql t51 (zi 7)),
 zm 82 83] [1,5,8,9,10,22,23,24,82] [9,10,21]
 (.cond t82
 (zr [zl 84 10 3,
 zl 85 9 3,
 zg 86 (.eqa true [true,true,true] t84 t85)] [1,5,8,9,10,22,23,24,86] [9,10,21]
 (.cond t86
 (.reg false [zl 87 9 3,
 zn (.st t10 t87 3)] [1,5,8,9,10,22,23,24] [9,10,21])
 .skip))
 .skip))))))))
 (.reg true [zm 88 5,
 zm 89 5,
 zm 90 5,
 zm 91 5,
 zg 92 (.nck t91),
 zp 93 92 1,
 zg 94 (.ldl 21 t93 1 false),
 zm 95 8,
 zg 96 (.bsl 1 1 [zo] [(0,t95)]),
 zg 97 (.apo t94 t96 1 t24 1),
 zm 98 5,
 zg 99 (.nck t98),
 zp 100 99 2,
 zg 101 (.ldl 21 t100 1 false),
 zg 102 (.ldl 9 t9 3 true),
 zg 103 (.bsl 3 1 [zo,zo,zo] [(0,t102)]),
 zg 104 (.apo t101 t103 3 t24 1),
 zm 105 5,
 zg 106 (.nck t105),
 zp 107 106 3,
 zg 108 (.ldl 21 t107 1 false),
 zg 109 (.ldl 10 t10 3 true),
 zg 110 (.bsl 3 1 [zo,zo,zo] [(0,t109)]),
 zg 111 (.apo t108 t110 3 t24 1),
 zg 112 (.nck t88),
 zp 113 112 1,
 zn (.stl 21 t113 t97 1),
 zg 114 (.nck t89),
 zp 115 114 2,
 zn (.stl 21 t115 t104 1),
 zg 116 (.nck t90),
 zp 117 116 3,
 zn (.stl 21 t117 t111 1)] [1,5,22,23,24] [21])))))
 (.reg false [zg 118 (.bin .add t24 (zi 1)),
 zm 24 118] [1,5,22,23,24] [21])))))
def ir57:IFn:=
⟨(zr [zg 4 (.mov (.c (.p .nilp)))] [0,1] []
 (zr [zm 13 0,
 zg 14 (.callz 124 [t13]),
 zg 15 (.bsr 1 1 [zo] [(0,(zi 0))]),
 zg 16 (.bld [zo,zo,zo] []),
 zg 17 (.bsr 3 1 [zo,zo,zo] [(0,t16)]),
 zg 18 (.bld [zo,zo,zo] []),
 zg 19 (.bsr 3 1 [zo,zo,zo] [(0,t18)]),
 zg 20 (.bld [.nils,.nils,.nils,.nils] [(0,1,t14),(1,1,t15),(2,1,t17),(3,1,t19)]),
 zg 21 (.bx t20 4 true),
 zm 5 21] [0,1,5] [21]
 (.seq (zr [zm 22 0,
 zh 23 22,
 zg 24 (.mov (zi 0))] [1,5,22,23,24] [21]
 (.block 0 q0We))
 (.seq (.esc [21] (.reg false [zm 119 5,
 zm 4 119] [4] [21]))
 .ret)))),
 [.tmp 4],false⟩
def ir58:IFn:=
⟨(zr [zg 4 (.al [zo,zo,zo] true)] [0,1,4] [4]
 (zr [zm 7 0,
 zm 8 1,
 zc 9 137 [t7,t8],
 zm 6 9,
 zx 10 6 0,
 zx 11 6 1,
 zm 1 10,
 zm 5 11] [0,1,4,5] [4]
 (.seq (zr [zm 12 5,
 zj 13 12] [0,1,4,13] [4]
 (.cond t13
 (zr [zg 14 (.bld [zo,zo,zo] []),
 zn (.st t4 t14 3)] [4] [4]
 .ret)
 .skip))
 (zr [zm 15 0,
 zg 16 (.nck t15),
 zp 17 16 2,
 zk 18 17 1,
 zm 19 1,
 zg 20 (.ixs t18 t19 3),
 zl 21 20 3,
 zn (.st t4 t21 3)] [4] [4]
 .ret)))),
 [.cell 4 3 true],false⟩
def q0Wn:IC:=
 (.loop [3,6,7,8] [] (zr [zg 9 (.bin .lss t8 t7)] [3,6,7,8,9] []
 (.seq (.cond t9
 .skip
 (.exit 0))
 (.seq (.block 1 (zr [zg 10 (.ixs t6 t8 2),
 zl 11 10 2,
 zg 5 (.al [.nils,.nils] true),
 zn (.st t5 t11 2)] [3,5,6,7,8] [5]
 (.reg false [zm 12 3,
 zp 13 5 0,
 zk 14 13 1,
 zh 15 14,
 zg 16 (.bin .add t12 t15),
 zm 3 16] [3,6,7,8] [])))
 (.reg false [zg 17 (.bin .add t8 (zi 1)),
 zm 8 17] [3,6,7,8] [])))))
def ir59:IFn:=
⟨(zr [zg 2 (.mov (zi 0))] [0] []
 (zr [zg 3 (.mov (zi 0))] [0,3] []
 (.seq (zr [zm 6 0,
 zh 7 6,
 zg 8 (.mov (zi 0))] [3,6,7,8] []
 (.block 0 q0Wn))
 (zr [zm 18 3,
 zm 2 18] [2] []
 .ret)))),
 [.tmp 2],false⟩
def ir64:IFn:=
⟨(zr [zg 3 (.bx t1 7 true),
 zg 4 (.mov zF)] [0,3] [3]
 (.seq (.reg true [zm 5 0,
 zg 6 (.ldl 3 t3 7 true),
 zc 7 89 [t5,t6],
 zm 8 7,
 zt 9 8 (.off t3 0),
 zt 10 8 (.ldl 3 t9 1 false),
 zt 11 8 (.mov t0),
 zt 12 8 (.nck t11),
 zt 13 8 (.off t12 0),
 zt 14 8 (.ld t13 1 false),
 zt 15 8 (.nck t14),
 zt 16 8 (.off t15 0),
 zt 17 8 (.ld t16 1 false),
 zt 18 8 (.call 138 [t17] false),
 zt 19 8 (.bin .eql t10 t18),
 zg 20 (.pick t8 t19 zF),
 zm 21 20,
 zt 22 21 (.off t3 3),
 zt 23 21 (.ldl 3 t22 1 false),
 zt 24 21 (.bin .eql t23 (zi 0)),
 zg 25 (.pick t21 t24 zF),
 zm 26 25,
 zt 27 26 (.off t3 2),
 zt 28 26 (.ldl 3 t27 1 false),
 zt 29 26 (.mov t0),
 zt 30 26 (.nck t29),
 zt 31 26 (.off t30 1),
 zt 32 26 (.off t31 20),
 zt 33 26 (.ld t32 1 false),
 zt 34 26 (.len t33),
 zt 35 26 (.bin .eql t28 t34),
 zg 36 (.pick t26 t35 zF),
 zm 37 36,
 zt 38 37 (.off t3 4),
 zt 39 37 (.ldl 3 t38 3 true),
 zt 40 37 (.mov t0),
 zt 41 37 (.nck t40),
 zt 42 37 (.off t41 24),
 zt 43 37 (.ld t42 3 true),
 zt 44 37 (.eqa false [true,true,true] t39 t43),
 zg 45 (.pick t37 t44 zF),
 zm 4 45] [4] [])
 .ret)),
 [.tmp 4],false⟩
def q0Vk:IC:=
 (.loop [1,2,4] [1,2] (.seq (zr [zm 33 4,
 zp 34 1 19,
 zk 35 34 1,
 zh 36 35,
 zg 37 (.bin .lss t33 t36)] [1,2,4,37] [1,2]
 (.cond t37
 .skip
 (.exit 0)))
 (.seq (.block 1 (zr [zp 40 1 19,
 zk 41 40 1,
 zm 42 4,
 zg 43 (.ixs t41 t42 7),
 zl 44 43 7,
 zc 45 140 [t44],
 zj 46 45] [1,2,4,46] [1,2]
 (.cond t46
 (zr [zm 47 4,
 zg 48 (.bld [zo,zo] [(0,1,(zi 8)),(1,1,t47)]),
 zn (.st t2 t48 2)] [2] [2]
 .ret)
 .skip)))
 (.reg false [zm 38 4,
 zg 39 (.bin .add t38 (zi 1)),
 zm 4 39] [1,2,4] [1,2]))))
def q0Xf:IC:=
 (.loop [1,2,5] [1,2] (.seq (zr [zm 49 5,
 zp 50 1 20,
 zk 51 50 1,
 zh 52 51,
 zg 53 (.bin .lss t49 t52)] [1,2,5,53] [1,2]
 (.cond t53
 .skip
 (.exit 2)))
 (.seq (.block 3 (zr [zp 56 1 20,
 zk 57 56 1,
 zm 58 5,
 zg 59 (.ixs t57 t58 2),
 zl 60 59 2,
 zc 61 141 [t60],
 zj 62 61] [1,2,5,62] [1,2]
 (.cond t62
 (zr [zm 63 5,
 zg 64 (.bld [zo,zo] [(0,1,(zi 9)),(1,1,t63)]),
 zn (.st t2 t64 2)] [2] [2]
 .ret)
 .skip)))
 (.reg false [zm 54 5,
 zg 55 (.bin .add t54 (zi 1)),
 zm 5 55] [1,2,5] [1,2]))))
def q0Xg:IC:=
 (.loop [1,2,6] [1,2] (.seq (zr [zm 65 6,
 zp 66 1 21,
 zk 67 66 1,
 zh 68 67,
 zg 69 (.bin .lss t65 t68)] [1,2,6,69] [1,2]
 (.cond t69
 .skip
 (.exit 4)))
 (.seq (.block 5 (zr [zp 72 1 21,
 zk 73 72 1,
 zm 74 6,
 zg 75 (.ixs t73 t74 3),
 zl 76 75 3,
 zc 77 142 [t76],
 zj 78 77] [1,2,6,78] [1,2]
 (.cond t78
 (zr [zm 79 6,
 zg 80 (.bld [zo,zo] [(0,1,(zi 10)),(1,1,t79)]),
 zn (.st t2 t80 2)] [2] [2]
 .ret)
 .skip)))
 (.reg false [zm 70 6,
 zg 71 (.bin .add t70 (zi 1)),
 zm 6 71] [1,2,6] [1,2]))))
def q0Xh:IC:=
 (.loop [2,9,10] [2,9] (.seq (zr [zm 112 10,
 zp 113 9 21,
 zk 114 113 1,
 zh 115 114,
 zg 116 (.bin .lss t112 t115)] [2,9,10,116] [2,9]
 (.cond t116
 .skip
 (.exit 6)))
 (.seq (.block 7 (.seq (.reg true [zp 119 9 21,
 zg 120 (.ldl 9 t119 1 false),
 zm 121 10,
 zg 122 (.ixs t120 t121 3),
 zp 123 122 1,
 zk 124 123 1,
 zp 125 9 0,
 zp 126 125 4,
 zg 127 (.ldl 9 t126 1 false),
 zg 128 (.bin .gtr t124 t127)] [2,9,10,128] [2,9])
 (.cond t128
 (zr [zm 129 10,
 zg 130 (.bld [zo,zo] [(0,1,(zi 12)),(1,1,t129)]),
 zn (.st t2 t130 2)] [2] [2]
 .ret)
 .skip)))
 (.reg false [zm 117 10,
 zg 118 (.bin .add t117 (zi 1)),
 zm 10 118] [2,9,10] [2,9]))))
def ir65:IFn:=
⟨(zr [zg 1 (.bx t0 22 true),
 zg 2 (.al [zo,zo] true)] [1,2] [1,2]
 (.seq (zr [zp 11 1 19,
 zk 12 11 1,
 zh 13 12,
 zg 14 (.bin .gtr t13 (zi 4096))] [1,2,14] [1,2]
 (.cond t14
 (zr [zg 15 (.bld [zo,zo] [(0,1,(zi 3))]),
 zn (.st t2 t15 2)] [2] [2]
 .ret)
 .skip))
 (.seq (zr [zp 16 1 21,
 zk 17 16 1,
 zh 18 17,
 zg 19 (.bin .gtr t18 (zi 256))] [1,2,19] [1,2]
 (.cond t19
 (zr [zg 20 (.bld [zo,zo] [(0,1,(zi 4))]),
 zn (.st t2 t20 2)] [2] [2]
 .ret)
 .skip))
 (.seq (zr [zp 21 1 20,
 zk 22 21 1,
 zh 23 22,
 zg 24 (.bin .gtr t23 (zi 512))] [1,2,24] [1,2]
 (.cond t24
 (zr [zg 25 (.bld [zo,zo] [(0,1,(zi 5))]),
 zn (.st t2 t25 2)] [2] [2]
 .ret)
 .skip))
 (.seq (zr [zp 26 1 0,
 zl 27 26 19,
 zc 28 139 [t27],
 zm 3 28] [1,2,3] [1,2]
 (zr [zm 29 3,
 zg 30 (.bin .neq t29 (zi 0))] [1,2,3,30] [1,2]
 (.cond t30
 (zr [zm 31 3,
 zg 32 (.bld [zo,zo] [(0,1,t31)]),
 zn (.st t2 t32 2)] [2] [2]
 .ret)
 .skip)))
 (.seq (zr [zg 4 (.mov (zi 0))] [1,2,4] [1,2]
 (.block 0 q0Vk))
 (.seq (zr [zg 5 (.mov (zi 0))] [1,2,5] [1,2]
 (.block 2 q0Xf))
 (.seq (zr [zg 6 (.mov (zi 0))] [1,2,6] [1,2]
 (.block 4 q0Xg))
 (.seq (.reg true [zp 81 1 19,
 zg 82 (.ldl 1 t81 1 false),
 zp 83 1 20,
 zg 84 (.ldl 1 t83 1 false),
 zh 85 84,
 zc 86 143 [t82,(zi 5),t85],
 zp 87 1 19,
 zg 88 (.ldl 1 t87 1 false),
 zp 89 1 21,
 zg 90 (.ldl 1 t89 1 false),
 zh 91 90,
 zc 92 143 [t88,(zi 6),t91],
 zm 7 86,
 zm 8 92] [1,2,7,8] [1,2])
 (.seq (zr [zm 93 7,
 zg 94 (.bin .geq t93 (zi 0)),
 zm 95 94,
 zt 96 95 (.mov t8),
 zt 97 95 (.bin .lss t96 (zi 0)),
 zt 98 95 (.mov t97),
 zf 99 98 (.mov t7),
 zf 100 98 (.mov t8),
 zf 101 98 (.bin .leq t99 t100),
 zt 102 95 (.pick t98 zT t101),
 zg 103 (.pick t95 t102 zF)] [1,2,7,8,103] [1,2]
 (.cond t103
 (zr [zm 104 7,
 zg 105 (.bld [zo,zo] [(0,1,(zi 11)),(1,1,t104)]),
 zn (.st t2 t105 2)] [2] [2]
 .ret)
 .skip))
 (.seq (zr [zm 106 8,
 zg 107 (.bin .geq t106 (zi 0))] [1,2,8,107] [1,2]
 (.cond t107
 (zr [zm 108 8,
 zg 109 (.bld [zo,zo] [(0,1,(zi 11)),(1,1,t108)]),
 zn (.st t2 t109 2)] [2] [2]
 .ret)
 .skip))
 (zr [zl 110 1 22,
 zc 111 66 [t110],
 zg 9 (.al [zo,zo,zo,zo,zo,zo,zo,zo,zo,zo,zo,zo,zo,zo,zo,zo,zo,zo,.p (.bool false),.nils,.nils,.nils] true),
 zn (.st t9 t111 22)] [2,9] [2,9]
 (.seq (zr [zg 10 (.mov (zi 0))] [2,9,10] [2,9]
 (.block 6 q0Xh))
 (zr [zg 131 (.bld [zo,zo] []),
 zn (.st t2 t131 2)] [2] [2]
 .ret)))))))))))))),
 [.cell 2 2 true],false⟩
def q0Ua:IC:=
 (.loop [1,2,3,4,5] [1,2,4] (.seq (zr [zm 48 5,
 zp 49 1 19,
 zk 50 49 1,
 zh 51 50,
 zg 52 (.bin .lss t48 t51)] [1,2,3,4,5,52] [1,2,4]
 (.cond t52
 .skip
 (.exit 0)))
 (.seq (.block 1 (.reg true [zp 55 4 19,
 zg 56 (.ldl 4 t55 1 false),
 zp 57 1 19,
 zg 58 (.ldl 1 t57 1 false),
 zm 59 5,
 zg 60 (.ixs t58 t59 7),
 zl 61 60 7,
 zm 62 3,
 zc 63 146 [t61,t62],
 zg 64 (.bsl 7 1 [zo,zo,zo,zo,zo,zo,zo] [(0,t63)]),
 zg 65 (.app t56 t64 7),
 zp 66 4 19,
 zn (.stl 4 t66 t65 1)] [1,2,3,4,5] [1,2,4]))
 (.reg false [zm 53 5,
 zg 54 (.bin .add t53 (zi 1)),
 zm 5 54] [1,2,3,4,5] [1,2,4]))))
def q0Xi:IC:=
 (.loop [1,2,3,4,6,7,8] [1,2,4,7] (.seq (zr [zm 81 8,
 zp 82 1 20,
 zk 83 82 1,
 zm 84 6,
 zg 85 (.ixs t83 t84 2),
 zp 86 85 0,
 zk 87 86 1,
 zh 88 87,
 zg 89 (.bin .lss t81 t88)] [1,2,3,4,6,7,8,89] [1,2,4,7]
 (.cond t89
 .skip
 (.exit 4)))
 (.seq (.block 5 (.reg true [zp 92 7 0,
 zg 93 (.ldl 7 t92 1 false),
 zp 94 1 20,
 zg 95 (.ldl 1 t94 1 false),
 zm 96 6,
 zg 97 (.ixs t95 t96 2),
 zp 98 97 0,
 zk 99 98 1,
 zm 100 8,
 zg 101 (.ixs t99 t100 1),
 zk 102 101 1,
 zm 103 3,
 zc 104 145 [t102,t103],
 zg 105 (.bsl 1 1 [zo] [(0,t104)]),
 zg 106 (.app t93 t105 1),
 zp 107 7 0,
 zn (.stl 7 t107 t106 1)] [1,2,3,4,6,7,8] [1,2,4,7]))
 (.reg false [zm 90 8,
 zg 91 (.bin .add t90 (zi 1)),
 zm 8 91] [1,2,3,4,6,7,8] [1,2,4,7]))))
def q0Vx:IC:=
 (.loop [1,2,3,4,6] [1,2,4] (.seq (zr [zm 67 6,
 zp 68 1 20,
 zk 69 68 1,
 zh 70 69,
 zg 71 (.bin .lss t67 t70)] [1,2,3,4,6,71] [1,2,4]
 (.cond t71
 .skip
 (.exit 2)))
 (.seq (.block 3 (zr [zp 74 1 20,
 zk 75 74 1,
 zm 76 6,
 zg 77 (.ixs t75 t76 2),
 zp 78 77 1,
 zk 79 78 1,
 zg 80 (.bld [.nils,.nils] [(1,1,t79)]),
 zg 7 (.al [.nils,.nils] true),
 zn (.st t7 t80 2)] [1,2,3,4,6,7] [1,2,4,7]
 (.seq (zr [zg 8 (.mov (zi 0))] [1,2,3,4,6,7,8] [1,2,4,7]
 (.block 4 q0Xi))
 (.reg false [zp 108 4 20,
 zk 109 108 1,
 zl 110 7 2,
 zg 111 (.bsl 2 1 [.nils,.nils] [(0,t110)]),
 zg 112 (.app t109 t111 2),
 zp 113 4 20,
 zn (.st t113 t112 1)] [1,2,3,4,6] [1,2,4]))))
 (.reg false [zm 72 6,
 zg 73 (.bin .add t72 (zi 1)),
 zm 6 73] [1,2,3,4,6] [1,2,4]))))
def q0Xj:IC:=
 (.loop [1,2,3,4,9] [1,2,4] (.seq (zr [zm 114 9,
 zp 115 1 21,
 zk 116 115 1,
 zh 117 116,
 zg 118 (.bin .lss t114 t117)] [1,2,3,4,9,118] [1,2,4]
 (.cond t118
 .skip
 (.exit 6)))
 (.seq (.block 7 (zr [zp 121 1 21,
 zk 122 121 1,
 zm 123 9,
 zg 124 (.ixs t122 t123 3),
 zl 125 124 3,
 zg 10 (.al [zo,zo,zo] true),
 zn (.st t10 t125 3)] [1,2,3,4,9,10] [1,2,4,10]
 (zr [zp 126 10 1,
 zk 127 126 1,
 zm 128 3,
 zc 129 145 [t127,t128],
 zp 130 10 1,
 zn (.st t130 t129 1)] [1,2,3,4,9,10] [1,2,4,10]
 (.reg false [zp 131 4 21,
 zk 132 131 1,
 zl 133 10 3,
 zg 134 (.bsl 3 1 [zo,zo,zo] [(0,t133)]),
 zg 135 (.app t132 t134 3),
 zp 136 4 21,
 zn (.st t136 t135 1)] [1,2,3,4,9] [1,2,4]))))
 (.reg false [zm 119 9,
 zg 120 (.bin .add t119 (zi 1)),
 zm 9 120] [1,2,3,4,9] [1,2,4]))))
def ir66:IFn:=
⟨(zr [zg 1 (.bx t0 22 true),
 zg 2 (.al [zo,zo,zo,zo,zo,zo,zo,zo,zo,zo,zo,zo,zo,zo,zo,zo,zo,zo,.p (.bool false),.nils,.nils,.nils] true)] [1,2] [1,2]
 (zr [zp 11 1 0,
 zp 12 11 5,
 zk 13 12 1,
 zm 3 13] [1,2,3] [1,2]
 (.seq (zr [zm 14 3,
 zg 15 (.bin .lss t14 (zi 1))] [1,2,3,15] [1,2]
 (.cond t15
 (zr [zl 16 1 22,
 zn (.st t2 t16 22)] [2] [2]
 .ret)
 .skip))
 (zr [zp 17 1 0,
 zl 18 17 19,
 zg 19 (.bld [zo,zo,zo,zo,zo,zo,zo,zo,zo,zo,zo,zo,zo,zo,zo,zo,zo,zo,.p (.bool false),.nils,.nils,.nils] [(0,19,t18)]),
 zg 4 (.al [zo,zo,zo,zo,zo,zo,zo,zo,zo,zo,zo,zo,zo,zo,zo,zo,zo,zo,.p (.bool false),.nils,.nils,.nils] true),
 zn (.st t4 t19 22)] [1,2,3,4] [1,2,4]
 (zr [zp 20 1 0,
 zp 21 20 3,
 zk 22 21 1,
 zm 23 3,
 zc 24 144 [t22,t23],
 zp 25 4 0,
 zp 26 25 3,
 zn (.st t26 t24 1)] [1,2,3,4] [1,2,4]
 (zr [zp 27 1 0,
 zp 28 27 4,
 zk 29 28 1,
 zm 30 3,
 zc 31 144 [t29,t30],
 zp 32 4 0,
 zp 33 32 4,
 zn (.st t33 t31 1)] [1,2,3,4] [1,2,4]
 (zr [zp 34 1 0,
 zp 35 34 6,
 zk 36 35 1,
 zm 37 3,
 zc 38 145 [t36,t37],
 zp 39 4 0,
 zp 40 39 6,
 zn (.st t40 t38 1)] [1,2,3,4] [1,2,4]
 (zr [zp 41 1 0,
 zp 42 41 7,
 zk 43 42 1,
 zm 44 3,
 zc 45 145 [t43,t44],
 zp 46 4 0,
 zp 47 46 7,
 zn (.st t47 t45 1)] [1,2,3,4] [1,2,4]
 (.seq (zr [zg 5 (.mov (zi 0))] [1,2,3,4,5] [1,2,4]
 (.block 0 q0Ua))
 (.seq (zr [zg 6 (.mov (zi 0))] [1,2,3,4,6] [1,2,4]
 (.block 2 q0Vx))
 (.seq (zr [zg 9 (.mov (zi 0))] [1,2,3,4,9] [1,2,4]
 (.block 6 q0Xj))
 (zr [zl 137 4 22,
 zn (.st t2 t137 22)] [2] [2]
 .ret)))))))))))),
 [.cell 2 22 true],false⟩
def ir68:IFn:=
⟨(zr [zg 2 (.bx t0 22 true),
 zg 3 (.bx t1 7 true),
 zg 4 (.mov zF)] [2,3] [2,3]
 (zr [zp 11 2 0,
 zp 12 11 19,
 zk 13 12 1,
 zm 5 13] [2,3,5] [2,3]
 (.seq (.seq (.reg true [zp 14 3 0,
 zg 15 (.ldl 3 t14 1 false),
 zg 16 (.bin .lss t15 (zi 0)),
 zm 17 16,
 zf 18 17 (.off t3 0),
 zf 19 17 (.ldl 3 t18 1 false),
 zf 20 17 (.mov t5),
 zf 21 17 (.len t20),
 zf 22 17 (.bin .gtr t19 t21),
 zg 23 (.pick t17 zT t22),
 zm 24 23,
 zf 25 24 (.mov t5),
 zf 26 24 (.off t3 0),
 zf 27 24 (.ldl 3 t26 1 false),
 zf 28 24 (.call 78 [t25,t27] false),
 zf 29 24 (.off t3 0),
 zf 30 24 (.ldl 3 t29 1 false),
 zf 31 24 (.bin .neq t28 t30),
 zg 32 (.pick t24 zT t31),
 zm 33 32,
 zf 34 33 (.off t3 1),
 zf 35 33 (.ldl 3 t34 1 false),
 zf 36 33 (.bin .lss t35 (zi 0)),
 zg 37 (.pick t33 zT t36),
 zm 38 37,
 zf 39 38 (.off t3 1),
 zf 40 38 (.ldl 3 t39 1 false),
 zf 41 38 (.off t2 0),
 zf 42 38 (.off t41 0),
 zf 43 38 (.off t42 0),
 zf 44 38 (.ldl 2 t43 1 false),
 zf 45 38 (.bin .gtr t40 t44),
 zg 46 (.pick t38 zT t45)] [2,3,5,46] [2,3])
 (.cond t46
 (zr [zg 4 (.mov zF)] [4] []
 .ret)
 .skip))
 (zr [zl 47 2 22,
 zp 48 3 0,
 zk 49 48 1,
 zc 50 147 [t47,t49],
 zm 6 50] [2,3,5,6] [2,3]
 (zr [zp 51 3 2,
 zk 52 51 1,
 zm 53 6,
 zg 54 (.bin .eql t52 t53),
 zm 55 54,
 zt 56 55 (.off t3 3),
 zt 57 55 (.ld t56 1 false),
 zt 58 55 (.bin .eql t57 (zi 0)),
 zg 59 (.pick t55 t58 zF),
 zm 7 59] [2,3,5,6,7] [2,3]
 (zr [zp 60 3 2,
 zk 61 60 1,
 zm 62 6,
 zg 63 (.bin .sub t62 (zi 1)),
 zg 64 (.bin .eql t61 t63),
 zm 65 64,
 zt 66 65 (.off t3 2),
 zt 67 65 (.ld t66 1 false),
 zt 68 65 (.bin .geq t67 (zi 0)),
 zg 69 (.pick t65 t68 zF),
 zm 70 69,
 zt 71 70 (.off t3 3),
 zt 72 70 (.ld t71 1 false),
 zt 73 70 (.bin .geq t72 (zi 1)),
 zg 74 (.pick t70 t73 zF),
 zm 8 74] [2,3,5,7,8] [2,3]
 (.seq (zr [zm 75 8] [2,3,5,7,8,75] [2,3]
 (.cond t75
 (zr [zp 76 2 0,
 zp 77 76 20,
 zk 78 77 1,
 zp 79 3 2,
 zk 80 79 1,
 zg 81 (.ixs t78 t80 2),
 zl 82 81 2,
 zg 9 (.al [.nils,.nils] true),
 zn (.st t9 t82 2)] [2,3,5,7,9] [2,3,9]
 (.reg false [zp 83 3 3,
 zk 84 83 1,
 zp 85 9 0,
 zk 86 85 1,
 zh 87 86,
 zg 88 (.bin .lss t84 t87),
 zm 89 88,
 zt 90 89 (.ld t9 2 true),
 zt 91 89 (.off t3 3),
 zt 92 89 (.ld t91 1 false),
 zt 93 89 (.call 148 [t90,t92] false),
 zg 94 (.pick t89 t93 zF),
 zm 8 94] [2,3,5,7,8] [2,3]))
 .skip))
 (zr [zm 95 5,
 zp 96 2 0,
 zp 97 96 21,
 zk 98 97 1,
 zp 99 3 0,
 zk 100 99 1,
 zc 101 149 [t95,t98,t100],
 zg 10 (.al [zo,zo,zo] true),
 zn (.st t10 t101 3)] [3,7,8,10] [3,10]
 (zr [zm 102 7,
 zm 103 102,
 zf 104 103 (.mov t8),
 zg 105 (.pick t103 zT t104),
 zm 106 105,
 zt 107 106 (.bld [zo,zo,zo] []),
 zt 108 106 (.off t3 4),
 zt 109 106 (.ld t108 3 true),
 zt 110 106 (.call 150 [t107,t109] false),
 zg 111 (.pick t106 t110 zF),
 zm 112 111,
 zt 113 112 (.off t3 4),
 zt 114 112 (.ld t113 3 true),
 zt 115 112 (.ld t10 3 true),
 zt 116 112 (.call 150 [t114,t115] false),
 zg 117 (.pick t112 t116 zF),
 zm 4 117] [4] []
 .ret))))))))),
 [.tmp 4],false⟩
def ir69:IFn:=
⟨(zr [zg 3 (.bx t0 22 true),
 zg 4 (.bx t1 7 true),
 zg 5 (.bx t2 6 true),
 zg 6 (.al [zo,zo,zo,.p (.bool false),.p (.bool false),zo,zo,zo,zo,zo] true)] [3,4,5,6] [3,4,5,6]
 (zr [zg 7 (.al [zo,zo,zo,.p (.bool false),.p (.bool false),zo,zo,zo,zo,zo] true)] [3,4,5,6,7] [3,4,5,6,7]
 (.seq (zr [zl 9 3 22,
 zl 10 4 7,
 zc 11 68 [t9,t10],
 zj 12 11] [3,4,5,6,7,12] [3,4,5,6,7]
 (.cond t12
 (zr [zl 13 7 10,
 zn (.st t6 t13 10)] [6] [6]
 .ret)
 .skip))
 (zr [zp 14 3 0,
 zp 15 14 19,
 zk 16 15 1,
 zm 8 16] [3,4,5,6,7,8] [3,4,5,6,7]
 (zr [zp 17 3 0,
 zp 18 17 20,
 zk 19 18 1,
 zp 20 5 3,
 zk 21 20 1,
 zp 22 3 0,
 zp 23 22 0,
 zp 24 23 6,
 zk 25 24 1,
 zc 26 151 [t19,t21,t25],
 zp 27 7 0,
 zn (.st t27 t26 1)] [3,4,5,6,7,8] [3,4,5,6,7]
 (.seq (zr [zp 28 5 0,
 zk 29 28 1,
 zg 30 (.bin .eql t29 (zi 1))] [3,4,5,6,7,8,30] [3,4,5,6,7]
 (.cond t30
 (.reg false [zp 31 3 0,
 zp 32 31 0,
 zl 33 32 19,
 zp 34 3 0,
 zp 35 34 21,
 zk 36 35 1,
 zp 37 5 4,
 zk 38 37 1,
 zp 39 5 5,
 zk 40 39 1,
 zg 41 (.bld [.nils,.nils] [(0,1,t38),(1,1,t40)]),
 zc 42 152 [t33,t36,t41],
 zp 43 7 1,
 zn (.st t43 t42 1)] [3,4,5,6,7,8] [3,4,5,6,7])
 .skip))
 (.seq (zr [zp 44 5 0,
 zk 45 44 1,
 zg 46 (.bin .eql t45 (zi 2))] [3,4,5,6,7,8,46] [3,4,5,6,7]
 (.cond t46
 (.reg false [zp 47 3 0,
 zp 48 47 0,
 zl 49 48 19,
 zp 50 3 0,
 zp 51 50 21,
 zk 52 51 1,
 zp 53 5 4,
 zk 54 53 1,
 zc 55 153 [t49,t52,t54],
 zp 56 7 1,
 zn (.st t56 t55 1)] [3,4,5,6,7,8] [3,4,5,6,7])
 .skip))
 (.seq (.reg true [zg 57 (.ldl 3 t3 22 true),
 zg 58 (.ldl 4 t4 7 true),
 zc 59 154 [t57,t58],
 zp 60 7 0,
 zg 61 (.ldl 7 t60 1 false),
 zg 62 (.bin .sub t59 t61),
 zp 63 7 1,
 zg 64 (.ldl 7 t63 1 false),
 zg 65 (.bin .sub t62 t64),
 zp 66 7 2,
 zn (.stl 7 t66 t65 1)] [3,4,5,6,7,8] [3,4,5,6,7])
 (zr [zp 67 5 0,
 zk 68 67 1,
 zg 69 (.bin .eql t68 (zi 1)),
 zm 70 69,
 zt 71 70 (.off t5 2),
 zt 72 70 (.ld t71 1 false),
 zt 73 70 (.mov t8),
 zt 74 70 (.len t73),
 zt 75 70 (.bin .eql t72 t74),
 zt 76 70 (.mov t75),
 zf 77 76 (.mov t8),
 zf 78 76 (.off t5 2),
 zf 79 76 (.ld t78 1 false),
 zf 80 76 (.call 107 [t77,t79] false),
 zt 81 70 (.pick t76 zT t80),
 zg 82 (.pick t70 t81 zF),
 zp 83 7 3,
 zn (.st t83 t82 1)] [3,4,5,6,7,8] [3,4,5,6,7]
 (zr [zp 84 5 3,
 zk 85 84 1,
 zh 86 85,
 zg 87 (.bin .gtr t86 (zi 0)),
 zm 88 87,
 zt 89 88 (.off t7 0),
 zt 90 88 (.ld t89 1 false),
 zt 91 88 (.off t3 0),
 zt 92 88 (.off t91 0),
 zt 93 88 (.off t92 8),
 zt 94 88 (.ld t93 1 false),
 zt 95 88 (.bin .gtr t90 t94),
 zg 96 (.pick t88 t95 zF),
 zp 97 7 4,
 zn (.st t97 t96 1)] [4,5,6,7,8] [4,5,6,7]
 (.seq (zr [zp 98 5 0,
 zk 99 98 1,
 zg 100 (.bin .eql t99 (zi 1))] [4,5,6,7,8,100] [4,5,6,7]
 (.cond t100
 (.seq (.reg true [zm 101 8,
 zp 102 4 0,
 zg 103 (.ldl 4 t102 1 false),
 zp 104 5 2,
 zg 105 (.ldl 5 t104 1 false),
 zc 106 156 [t101,t103,t105],
 zp 107 7 2,
 zg 108 (.ldl 7 t107 1 false),
 zp 109 7 3,
 zg 110 (.ldl 7 t109 1 false),
 zc 111 155 [t106,t108,t110],
 zp 112 7 5,
 zn (.stl 7 t112 t111 5)] [6,7] [6,7])
 (.reg false [zp 113 7 4,
 zk 114 113 1,
 zm 115 114,
 zf 116 115 (.off t7 5),
 zf 117 115 (.off t116 0),
 zf 118 115 (.ld t117 1 false),
 zf 119 115 (.bin .eql t118 (zi 3)),
 zg 120 (.pick t115 zT t119),
 zp 121 7 4,
 zn (.st t121 t120 1)] [6,7] [6,7]))
 (.reg false [zp 122 7 4,
 zk 123 122 1,
 zm 124 123,
 zf 125 124 (.off t7 2),
 zf 126 124 (.ld t125 1 false),
 zf 127 124 (.bin .lss t126 (zi 0)),
 zg 128 (.pick t124 zT t127),
 zp 129 7 4,
 zn (.st t129 t128 1)] [6,7] [6,7])))
 (zr [zl 130 7 10,
 zn (.st t6 t130 10)] [6] [6]
 .ret)))))))))))),
 [.cell 6 10 true],false⟩
def ir77:IFn:=
⟨(zr [zg 3 (.bx t0 22 true),
 zg 4 (.bx t1 7 true),
 zg 6 (.al [zo,zo,zo,.p (.bool false)] true)] [2,3,4,6] [3,4,6]
 (.seq (zr [zl 7 3 22,
 zl 8 4 7,
 zc 9 68 [t7,t8],
 zj 10 9] [2,3,4,6,10] [3,4,6]
 (.cond t10
 (zr [zg 11 (.bld [zo,zo,zo,.p (.bool false)] []),
 zn (.st t6 t11 4)] [6] [6]
 .ret)
 .skip))
 (.seq (.reg true [zp 12 4 2,
 zg 13 (.ldl 4 t12 1 false),
 zp 14 4 3,
 zg 15 (.ldl 4 t14 1 false),
 zg 16 (.ldl 3 t3 22 true),
 zm 17 2,
 zc 18 147 [t16,t17],
 zg 19 (.ldl 3 t3 22 true),
 zm 20 2,
 zc 21 147 [t19,t20],
 zg 22 (.ldl 3 t3 22 true),
 zp 23 4 0,
 zg 24 (.ldl 4 t23 1 false),
 zc 25 147 [t22,t24],
 zg 26 (.bin .gtr t21 t25),
 zg 27 (.bld [zo,zo,zo,.p (.bool false)] [(0,1,t13),(1,1,t15),(2,1,t18),(3,1,t26)]),
 zn (.stl 6 t6 t27 4)] [6] [6])
 .ret))),
 [.cell 6 4 true],false⟩
def q0ey:IC:=
 (.loop [0,5] [] (.seq (zr [zm 11 5,
 zm 12 0,
 zh 13 12,
 zg 14 (.bin .lss t11 t13),
 zm 15 14,
 zt 16 15 (.mov t0),
 zt 17 15 (.mov t5),
 zt 18 15 (.ixs t16 t17 7),
 zt 19 15 (.ld t18 7 true),
 zt 20 15 (.call 17 [t19] false),
 zg 21 (.pick t15 t20 zF)] [0,5,21] []
 (.cond t21
 .skip
 (.exit 0)))
 (.block 1 (.reg false [zm 22 5,
 zg 23 (.bin .add t22 (zi 1)),
 zm 5 23] [0,5] []))))
def ir78:IFn:=
⟨(zr [zg 4 (.mov (zi 0))] [0,1] []
 (zr [zm 6 1,
 zm 7 0,
 zh 8 7,
 zg 9 (.mnmx false t6 t8),
 zg 10 (.mnmx true (zi 0) t9),
 zm 5 10] [0,5] []
 (.seq (.block 0 q0ey)
 (zr [zm 24 5,
 zm 4 24] [4] []
 .ret)))),
 [.tmp 4],false⟩
def q0l4:IC:=
 (.loop [2,3,4,5,6] [2,3,4,5] (.seq (zr [zm 7 6,
 zg 8 (.bin .lss t7 (zi 3))] [2,3,4,5,6,8] [2,3,4,5]
 (.cond t8
 .skip
 (.exit 0)))
 (.seq (.block 1 (.reg true [zm 11 6,
 zm 12 6,
 zg 13 (.ixa t2 t12 1 3),
 zg 14 (.ldl 2 t13 1 false),
 zc 15 159 [t14,(zi (-1073741824)),(zi 1073741824)],
 zm 16 6,
 zg 17 (.ixa t3 t16 1 3),
 zg 18 (.ldl 3 t17 1 false),
 zc 19 159 [t18,(zi (-1073741824)),(zi 1073741824)],
 zg 20 (.bin .add t15 t19),
 zc 21 159 [t20,(zi (-1073741824)),(zi 1073741824)],
 zg 22 (.ixa t5 t11 1 3),
 zn (.stl 5 t22 t21 1)] [2,3,4,5,6] [2,3,4,5]))
 (.reg false [zm 9 6,
 zg 10 (.bin .add t9 (zi 1)),
 zm 6 10] [2,3,4,5,6] [2,3,4,5]))))
def ir79:IFn:=
⟨(zr [zg 2 (.bx t0 3 true),
 zg 3 (.bx t1 3 true),
 zg 4 (.al [zo,zo,zo] true)] [2,3,4] [2,3,4]
 (zr [zg 5 (.al [zo,zo,zo] true)] [2,3,4,5] [2,3,4,5]
 (.seq (zr [zg 6 (.mov (zi 0))] [2,3,4,5,6] [2,3,4,5]
 (.block 0 q0l4))
 (zr [zl 23 5 3,
 zn (.st t4 t23 3)] [4] [4]
 .ret)))),
 [.cell 4 3 true],false⟩
def q0l8:IC:=
 (.loop [0,1,4,5,6] [4,5] (.seq (zr [zm 8 6,
 zm 9 1,
 zh 10 9,
 zg 11 (.bin .lss t8 t10)] [0,1,4,5,6,11] [4,5]
 (.cond t11
 .skip
 (.exit 0)))
 (.seq (.block 1 (zr [zm 14 1,
 zm 15 6,
 zg 16 (.ixs t14 t15 1),
 zk 17 16 1,
 zg 18 (.bin .geq t17 (zi 0)),
 zm 19 18,
 zt 20 19 (.mov t1),
 zt 21 19 (.mov t6),
 zt 22 19 (.ixs t20 t21 1),
 zt 23 19 (.ld t22 1 false),
 zt 24 19 (.mov t0),
 zt 25 19 (.len t24),
 zt 26 19 (.bin .lss t23 t25),
 zg 27 (.pick t19 t26 zF)] [0,1,4,5,6,27] [4,5]
 (.cond t27
 (zr [zm 28 0,
 zm 29 1,
 zm 30 6,
 zg 31 (.ixs t29 t30 1),
 zk 32 31 1,
 zg 33 (.ixs t28 t32 3),
 zp 34 33 0,
 zk 35 34 1,
 zm 7 35] [0,1,4,5,6,7] [4,5]
 (zr [zm 36 7,
 zg 37 (.bin .geq t36 (zi 0)),
 zm 38 37,
 zt 39 38 (.mov t7),
 zt 40 38 (.bin .lss t39 (zi 3)),
 zg 41 (.pick t38 t40 zF)] [0,1,4,5,6,7,41] [4,5]
 (.cond t41
 (.reg false [zm 42 7,
 zm 43 7,
 zg 44 (.ixa t5 t43 1 3),
 zk 45 44 1,
 zg 46 (.bin .add t45 (zi 1)),
 zg 47 (.ixa t5 t42 1 3),
 zn (.st t47 t46 1)] [0,1,4,5,6] [4,5])
 .skip)))
 .skip)))
 (.reg false [zm 12 6,
 zg 13 (.bin .add t12 (zi 1)),
 zm 6 13] [0,1,4,5,6] [4,5]))))
def ir80:IFn:=
⟨(zr [zg 4 (.al [zo,zo,zo] true)] [0,1,4] [4]
 (zr [zg 5 (.al [zo,zo,zo] true)] [0,1,4,5] [4,5]
 (.seq (zr [zg 6 (.mov (zi 0))] [0,1,4,5,6] [4,5]
 (.block 0 q0l8))
 (zr [zl 48 5 3,
 zn (.st t4 t48 3)] [4] [4]
 .ret)))),
 [.cell 4 3 true],false⟩
def ir81:IFn:=
⟨(zr [zg 2 (.al [zo,zo,zo,zo,zo,zo,zo] true)] [0,2] [2]
 (zr [zm 3 0,
 zc 4 115 [t3],
 zc 5 161 [t4,(zi 0)],
 zg 6 (.bld [zo,zo,zo,zo,zo,zo,zo] [(0,1,t5)]),
 zn (.st t2 t6 7)] [2] [2]
 .ret)),
 [.cell 2 7 true],false⟩
def q0Vy:IC:=
 (.loop [0,3,4,14,15,16] [3,4] (zr [zg 17 (.bin .lss t16 t15)] [0,3,4,14,15,16,17] [3,4]
 (.seq (.cond t17
 .skip
 (.exit 0))
 (.seq (.block 1 (zr [zg 18 (.ixs t14 t16 1),
 zl 19 18 1,
 zg 7 (.al [.p .nilf] true),
 zn (.st t7 t19 1)] [0,3,4,7,14,15,16] [3,4,7]
 (zr [zp 21 7 0,
 zk 22 21 1,
 zm 23 0,
 zl 24 3 7,
 zg 25 (.callv t22 [t23,t24] false),
 zm 20 25,
 zx 26 20 0,
 zx 27 20 1,
 zg 8 (.al [zo,zo,zo,.nils,.nils,.nils] true),
 zn (.st t8 t26 6),
 zm 9 27] [0,3,4,8,9,14,15,16] [3,4,8]
 (zr [zm 28 9] [0,3,4,8,14,15,16,28] [3,4,8]
 (.cond t28
 (zr [zl 29 8 6,
 zn (.st t4 t29 6),
 zg 5 (.mov zT)] [4,5] [4]
 .ret)
 .skip)))))
 (.reg false [zg 30 (.bin .add t16 (zi 1)),
 zm 16 30] [0,3,4,14,15,16] [3,4])))))
def ir82:IFn:=
⟨(zr [zg 3 (.bx t1 7 true),
 zg 4 (.al [zo,zo,zo,.nils,.nils,.nils] true),
 zg 5 (.mov zF)] [0,3,4] [3,4]
 (.seq (zr [zg 10 (.bld [.p .nilf] [(0,1,(.c (.p (.fn 162))))]),
 zg 11 (.bld [.p .nilf] [(0,1,(.c (.p (.fn 163))))]),
 zg 12 (.bld [.p .nilf] [(0,1,(.c (.p (.fn 164))))]),
 zg 13 (.bld [.p .nilf] [(0,1,(.c (.p (.fn 165))))]),
 zg 14 (.bsl 1 4 [.p .nilf] [(0,t10),(1,t11),(2,t12),(3,t13)]),
 zh 15 14,
 zg 16 (.mov (zi 0))] [0,3,4,14,15,16] [3,4]
 (.block 0 q0Vy))
 (zr [zg 31 (.bld [zo,zo,zo,.nils,.nils,.nils] []),
 zn (.st t4 t31 6),
 zg 5 (.mov zF)] [4,5] [4]
 .ret))),
 [.cell 4 6 true,.tmp 5],false⟩
def ir84:IFn:=
⟨(zr [zg 2 (.al [zo,zo,zo,zo,zo,zo,zo,zo,zo,zo,zo,zo,zo,zo,zo,zo,zo,zo,.p (.bool false),.nils,.nils,.nils] true)] [0,2] [2]
 (.seq (zr [zm 3 0,
 zg 4 (.eqn .ptr false t3)] [0,2,4] [2]
 (.cond t4
 (zr [zg 5 (.bld [zo,zo,zo,zo,zo,zo,zo,zo,zo,zo,zo,zo,zo,zo,zo,zo,zo,zo,.p (.bool false),.nils,.nils,.nils] []),
 zn (.st t2 t5 22)] [2] [2]
 .ret)
 .skip))
 (zr [zm 6 0,
 zg 7 (.nck t6),
 zp 8 7 1,
 zl 9 8 22,
 zn (.st t2 t9 22)] [2] [2]
 .ret))),
 [.cell 2 22 true],false⟩
def ir85:IFn:=
⟨(zr [zg 2 (.bx t0 6 true),
 zg 3 (.bx t1 6 true),
 zg 4 (.mov zF)] [2,3] [2,3]
 (zr [zp 5 2 0,
 zk 6 5 1,
 zp 7 3 0,
 zk 8 7 1,
 zg 9 (.bin .eql t6 t8),
 zm 10 9,
 zt 11 10 (.off t2 1),
 zt 12 10 (.ld t11 1 false),
 zt 13 10 (.off t3 1),
 zt 14 10 (.ld t13 1 false),
 zt 15 10 (.bin .eql t12 t14),
 zg 16 (.pick t10 t15 zF),
 zm 17 16,
 zt 18 17 (.off t2 2),
 zt 19 17 (.ld t18 1 false),
 zt 20 17 (.off t3 2),
 zt 21 17 (.ld t20 1 false),
 zt 22 17 (.bin .eql t19 t21),
 zg 23 (.pick t17 t22 zF),
 zm 24 23,
 zt 25 24 (.off t2 3),
 zt 26 24 (.ld t25 1 false),
 zt 27 24 (.off t3 3),
 zt 28 24 (.ld t27 1 false),
 zt 29 24 (.call 170 [t26,t28] false),
 zg 30 (.pick t24 t29 zF),
 zm 31 30,
 zt 32 31 (.off t2 4),
 zt 33 31 (.ld t32 1 false),
 zt 34 31 (.off t3 4),
 zt 35 31 (.ld t34 1 false),
 zt 36 31 (.call 171 [t33,t35] false),
 zg 37 (.pick t31 t36 zF),
 zm 38 37,
 zt 39 38 (.off t2 5),
 zt 40 38 (.ld t39 1 false),
 zt 41 38 (.off t3 5),
 zt 42 38 (.ld t41 1 false),
 zt 43 38 (.call 171 [t40,t42] false),
 zg 44 (.pick t38 t43 zF),
 zm 4 44] [4] []
 .ret)),
 [.tmp 4],false⟩
def ir86:IFn:=
⟨(zr [zg 2 (.bx t0 22 true),
 zg 3 (.bx t1 7 true),
 zg 4 (.mov zF)] [2,3] [2,3]
 (zr [zp 6 2 0,
 zp 7 6 21,
 zk 8 7 1,
 zh 9 8,
 zm 5 9] [2,3,5] [2,3]
 (zr [zl 10 2 22,
 zl 11 3 7,
 zc 12 68 [t10,t11],
 zm 13 12,
 zt 14 13 (.off t3 0),
 zt 15 13 (.ld t14 1 false),
 zt 16 13 (.off t2 0),
 zt 17 13 (.off t16 19),
 zt 18 13 (.ld t17 1 false),
 zt 19 13 (.len t18),
 zt 20 13 (.bin .eql t15 t19),
 zg 21 (.pick t13 t20 zF),
 zm 22 21,
 zt 23 22 (.off t3 2),
 zt 24 22 (.ld t23 1 false),
 zt 25 22 (.off t2 0),
 zt 26 22 (.off t25 20),
 zt 27 22 (.ld t26 1 false),
 zt 28 22 (.len t27),
 zt 29 22 (.bin .eql t24 t28),
 zg 30 (.pick t22 t29 zF),
 zm 31 30,
 zt 32 31 (.off t3 4),
 zt 33 31 (.ixa t32 (zi 0) 1 3),
 zt 34 31 (.ld t33 1 false),
 zt 35 31 (.off t3 4),
 zt 36 31 (.ixa t35 (zi 1) 1 3),
 zt 37 31 (.ld t36 1 false),
 zt 38 31 (.bin .add t34 t37),
 zt 39 31 (.off t3 4),
 zt 40 31 (.ixa t39 (zi 2) 1 3),
 zt 41 31 (.ld t40 1 false),
 zt 42 31 (.bin .add t38 t41),
 zt 43 31 (.mov t5),
 zt 44 31 (.bin .eql t42 t43),
 zg 45 (.pick t31 t44 zF),
 zm 4 45] [4] []
 .ret))),
 [.tmp 4],false⟩
def ir87:IFn:=
⟨(zr [zg 2 (.bx t0 22 true),
 zg 3 (.bx t1 7 true),
 zg 4 (.al [zo,zo,zo,.nils,.nils,.nils,.p (.bool false)] true)] [2,3,4] [2,3,4]
 (.seq (zr [zl 7 2 22,
 zl 8 3 7,
 zc 9 172 [t7,t8],
 zg 5 (.al [zo,zo,zo,.nils,.nils,.nils,.p (.bool false)] true),
 zn (.st t5 t9 7)] [2,3,4,5] [2,3,4,5]
 (zr [zp 10 5 6,
 zk 11 10 1] [2,3,4,5,11] [2,3,4,5]
 (.cond t11
 (zr [zl 12 5 7,
 zn (.st t4 t12 7)] [4] [4]
 .ret)
 .skip)))
 (.seq (zr [zl 13 2 22,
 zl 14 3 7,
 zc 15 68 [t13,t14],
 zm 16 15,
 zt 17 16 (.ld t2 22 true),
 zt 18 16 (.ld t3 7 true),
 zt 19 16 (.call 173 [t17,t18] false),
 zt 20 16 (.un .not t19),
 zg 21 (.pick t16 t20 zF)] [2,3,4,21] [2,3,4]
 (.cond t21
 (.seq (.reg true [zg 22 (.ldl 2 t2 22 true),
 zg 23 (.ldl 3 t3 7 true),
 zp 24 2 0,
 zp 25 24 19,
 zg 26 (.ldl 2 t25 1 false),
 zp 27 2 0,
 zp 28 27 21,
 zg 29 (.ldl 2 t28 1 false),
 zp 30 3 0,
 zg 31 (.ldl 3 t30 1 false),
 zc 32 175 [t26,t29,t31],
 zc 33 174 [t22,t23,t32],
 zn (.stl 4 t4 t33 7)] [4] [4])
 .ret)
 .skip))
 (.seq (zr [zl 34 2 22,
 zl 35 3 7,
 zc 36 176 [t34,t35],
 zg 6 (.al [zo,zo,zo,.nils,.nils,.nils,.p (.bool false)] true),
 zn (.st t6 t36 7)] [2,3,4,6] [2,3,4,6]
 (zr [zp 37 6 6,
 zk 38 37 1] [2,3,4,6,38] [2,3,4,6]
 (.cond t38
 (zr [zl 39 6 7,
 zn (.st t4 t39 7)] [4] [4]
 .ret)
 .skip)))
 (zr [zl 40 2 22,
 zl 41 3 7,
 zc 42 177 [t40,t41],
 zn (.st t4 t42 7)] [4] [4]
 .ret))))),
 [.cell 4 7 true],false⟩
def ir88:IFn:=
⟨(zr [zg 0 (.mov (.c (.p .nilm)))] [] []
 (zr [zg 1 (.mov (.c (.p (.fn 178))))] [1] []
 (zr [zg 2 (.mp .mkm []),
 zg 3 (.bld [zo,.p .nilf] [(0,1,(zi 19)),(1,1,(.c (.p (.fn 179))))]),
 zg 4 (.bld [zo,.p .nilf] [(0,1,(zi 18)),(1,1,(.c (.p (.fn 180))))]),
 zg 5 (.bld [zo,.p .nilf] [(0,1,(zi 14)),(1,1,(.c (.p (.fn 182))))]),
 zg 6 (.bld [zo,.p .nilf] [(0,1,(zi 15)),(1,1,(.c (.p (.fn 185))))]),
 zg 7 (.bld [zo,.p .nilf] [(0,1,(zi 16)),(1,1,(.c (.p (.fn 187))))]),
 zg 8 (.bsl 2 5 [zo,.p .nilf] [(0,t3),(1,t4),(2,t5),(3,t6),(4,t7)]),
 zn (.mp (.st none 1) [t2,(zi 1),t8]),
 zg 9 (.bld [zo,.p .nilf] [(0,1,(zi 19)),(1,1,(.c (.p (.fn 190))))]),
 zm 10 1,
 zg 11 (.bld [zo,.p .nilf] [(0,1,(zi 15)),(1,1,t10)]),
 zg 12 (.bld [zo,.p .nilf] [(0,1,(zi 16)),(1,1,(.c (.p (.fn 191))))]),
 zg 13 (.bsl 2 3 [zo,.p .nilf] [(0,t9),(1,t11),(2,t12)]),
 zn (.mp (.st none 1) [t2,(zi 2),t13]),
 zg 14 (.bld [zo,.p .nilf] [(0,1,(zi 19)),(1,1,(.c (.p (.fn 192))))]),
 zg 15 (.bld [zo,.p .nilf] [(0,1,(zi 15)),(1,1,(.c (.p (.fn 193))))]),
 zg 16 (.bld [zo,.p .nilf] [(0,1,(zi 16)),(1,1,(.c (.p (.fn 195))))]),
 zg 17 (.bsl 2 3 [zo,.p .nilf] [(0,t14),(1,t15),(2,t16)]),
 zn (.mp (.st none 1) [t2,(zi 3),t17]),
 zm 18 2,
 zm 0 18] [0] []
 .ret))),
 [.tmp 0],false⟩
def ir89:IFn:=
⟨(zr [zg 3 (.bx t1 7 true),
 zg 4 (.mov zF)] [0,3] [3]
 (.seq (.seq (.reg true [zm 6 0,
 zg 7 (.eqn .ptr false t6),
 zm 8 7,
 zf 9 8 (.off t3 0),
 zf 10 8 (.ldl 3 t9 1 false),
 zf 11 8 (.bin .lss t10 (zi 0)),
 zg 12 (.pick t8 zT t11),
 zm 13 12,
 zf 14 13 (.off t3 0),
 zf 15 13 (.ldl 3 t14 1 false),
 zf 16 13 (.mov t0),
 zf 17 13 (.nck t16),
 zf 18 13 (.off t17 0),
 zf 19 13 (.ld t18 1 false),
 zf 20 13 (.nck t19),
 zf 21 13 (.off t20 0),
 zf 22 13 (.ld t21 1 false),
 zf 23 13 (.call 138 [t22] false),
 zf 24 13 (.bin .gtr t15 t23),
 zg 25 (.pick t13 zT t24),
 zm 26 25,
 zf 27 26 (.mov t0),
 zf 28 26 (.nck t27),
 zf 29 26 (.off t28 0),
 zf 30 26 (.ld t29 1 false),
 zf 31 26 (.nck t30),
 zf 32 26 (.off t31 0),
 zf 33 26 (.ld t32 1 false),
 zf 34 26 (.off t3 0),
 zf 35 26 (.ldl 3 t34 1 false),
 zf 36 26 (.call 161 [t33,t35] false),
 zf 37 26 (.off t3 0),
 zf 38 26 (.ldl 3 t37 1 false),
 zf 39 26 (.bin .neq t36 t38),
 zg 40 (.pick t26 zT t39),
 zm 41 40,
 zf 42 41 (.off t3 1),
 zf 43 41 (.ldl 3 t42 1 false),
 zf 44 41 (.bin .lss t43 (zi 0)),
 zg 45 (.pick t41 zT t44),
 zm 46 45,
 zf 47 46 (.off t3 1),
 zf 48 46 (.ldl 3 t47 1 false),
 zf 49 46 (.mov t0),
 zf 50 46 (.nck t49),
 zf 51 46 (.off t50 1),
 zf 52 46 (.off t51 0),
 zf 53 46 (.off t52 0),
 zf 54 46 (.ld t53 1 false),
 zf 55 46 (.bin .gtr t48 t54),
 zg 56 (.pick t46 zT t55)] [0,3,56] [3])
 (.cond t56
 (zr [zg 4 (.mov zF)] [4] []
 .ret)
 .skip))
 (zr [zp 57 3 4,
 zl 58 57 3,
 zg 5 (.al [zo,zo,zo] true),
 zn (.st t5 t58 3)] [0,3,5] [3,5]
 (.seq (.reg true [zm 59 0,
 zg 60 (.ldl 3 t3 7 true),
 zc 61 196 [t59,t60],
 zm 62 61,
 zt 63 62 (.bld [zo,zo,zo] []),
 zt 64 62 (.ldl 5 t5 3 true),
 zt 65 62 (.call 197 [t63,t64] false),
 zg 66 (.pick t62 t65 zF),
 zm 67 66,
 zt 68 67 (.ldl 5 t5 3 true),
 zt 69 67 (.mov t0),
 zt 70 67 (.nck t69),
 zt 71 67 (.off t70 0),
 zt 72 67 (.ld t71 1 false),
 zt 73 67 (.nck t72),
 zt 74 67 (.off t73 2),
 zt 75 67 (.ld t74 1 false),
 zt 76 67 (.off t3 0),
 zt 77 67 (.ldl 3 t76 1 false),
 zt 78 67 (.call 58 [t75,t77] false),
 zt 79 67 (.call 197 [t68,t78] false),
 zg 80 (.pick t67 t79 zF),
 zm 4 80] [4] [])
 .ret)))),
 [.tmp 4],false⟩
def ir90:IFn:=
⟨(zr [zg 1 (.bx t0 36 true),
 zg 2 (.mov zF)] [1] [1]
 (zr [zp 3 1 0,
 zk 4 3 1,
 zp 5 1 1,
 zl 6 5 7,
 zp 7 1 8,
 zl 8 7 6,
 zc 9 100 [t4,t6,t8],
 zg 10 (.fldv t9 4 1 false),
 zm 2 10] [2] []
 .ret)),
 [.tmp 2],false⟩
def ir91:IFn:=
⟨(zr [zg 2 (.bx t0 6 true),
 zg 3 (.bx t1 6 true),
 zg 4 (.mov zF)] [2,3] [2,3]
 (zr [zp 5 2 0,
 zk 6 5 1,
 zp 7 3 0,
 zk 8 7 1,
 zg 9 (.bin .eql t6 t8),
 zm 10 9,
 zt 11 10 (.off t2 1),
 zt 12 10 (.ld t11 1 false),
 zt 13 10 (.off t3 1),
 zt 14 10 (.ld t13 1 false),
 zt 15 10 (.bin .eql t12 t14),
 zg 16 (.pick t10 t15 zF),
 zm 17 16,
 zt 18 17 (.off t2 2),
 zt 19 17 (.ld t18 1 false),
 zt 20 17 (.off t3 2),
 zt 21 17 (.ld t20 1 false),
 zt 22 17 (.bin .eql t19 t21),
 zg 23 (.pick t17 t22 zF),
 zm 24 23,
 zt 25 24 (.off t2 3),
 zt 26 24 (.ld t25 1 false),
 zt 27 24 (.off t3 3),
 zt 28 24 (.ld t27 1 false),
 zt 29 24 (.call 198 [t26,t28] false),
 zg 30 (.pick t24 t29 zF),
 zm 31 30,
 zt 32 31 (.off t2 4),
 zt 33 31 (.ld t32 1 false),
 zt 34 31 (.off t3 4),
 zt 35 31 (.ld t34 1 false),
 zt 36 31 (.call 199 [t33,t35] false),
 zg 37 (.pick t31 t36 zF),
 zm 38 37,
 zt 39 38 (.off t2 5),
 zt 40 38 (.ld t39 1 false),
 zt 41 38 (.off t3 5),
 zt 42 38 (.ld t41 1 false),
 zt 43 38 (.call 199 [t40,t42] false),
 zg 44 (.pick t38 t43 zF),
 zm 4 44] [4] []
 .ret)),
 [.tmp 4],false⟩
def ir92:IFn:=
⟨(zr [zg 3 (.bx t0 22 true),
 zg 4 (.bx t1 7 true),
 zg 5 (.bx t2 6 true),
 zg 6 (.mov (zi 0))] [3,4,5] [3,4,5]
 (.seq (zr [zl 7 3 22,
 zl 8 4 7,
 zc 9 173 [t7,t8],
 zj 10 9] [3,4,5,10] [3,4,5]
 (.cond t10
 (zr [zg 6 (.mov (zi 18))] [6] []
 .ret)
 .skip))
 (.seq (.seq (.reg true [zp 11 3 0,
 zp 12 11 19,
 zg 13 (.ldl 3 t12 1 false),
 zp 14 4 0,
 zg 15 (.ldl 4 t14 1 false),
 zc 16 201 [t13,t15],
 zp 17 5 2,
 zg 18 (.ldl 5 t17 1 false),
 zc 19 200 [t16,t18],
 zj 20 19] [3,4,5,20] [3,4,5])
 (.cond t20
 (zr [zg 6 (.mov (zi 14))] [6] []
 .ret)
 .skip))
 (.seq (.seq (.reg true [zp 21 3 0,
 zp 22 21 20,
 zg 23 (.ldl 3 t22 1 false),
 zg 24 (.ldl 3 t3 22 true),
 zg 25 (.ldl 4 t4 7 true),
 zp 26 5 2,
 zg 27 (.ldl 5 t26 1 false),
 zc 28 77 [t24,t25,t27],
 zp 29 5 3,
 zg 30 (.ldl 5 t29 1 false),
 zc 31 202 [t23,t28,t30],
 zj 32 31] [3,4,5,32] [3,4,5])
 (.cond t32
 (zr [zg 6 (.mov (zi 15))] [6] []
 .ret)
 .skip))
 (.seq (zr [zl 33 3 22,
 zl 34 4 7,
 zl 35 5 6,
 zp 36 5 2,
 zk 37 36 1,
 zc 38 203 [t33,t34,t35,t37],
 zj 39 38,
 zm 40 39,
 zf 41 40 (.off t3 0),
 zf 42 40 (.off t41 0),
 zf 43 40 (.ld t42 19 true),
 zf 44 40 (.off t3 0),
 zf 45 40 (.off t44 21),
 zf 46 40 (.ld t45 1 false),
 zf 47 40 (.off t5 4),
 zf 48 40 (.ld t47 1 false),
 zf 49 40 (.off t5 5),
 zf 50 40 (.ld t49 1 false),
 zf 51 40 (.bld [.nils,.nils] [(0,1,t48),(1,1,t50)]),
 zf 52 40 (.call 204 [t43,t46,t51] false),
 zf 53 40 (.un .not t52),
 zg 54 (.pick t40 zT t53)] [54] []
 (.cond t54
 (zr [zg 6 (.mov (zi 16))] [6] []
 .ret)
 .skip))
 (zr [zg 6 (.mov (zi 0))] [6] []
 .ret)))))),
 [.tmp 6],false⟩
def ir93:IFn:=
⟨(zr [zg 3 (.bx t0 22 true),
 zg 4 (.bx t1 7 true),
 zg 5 (.bx t2 6 true),
 zg 6 (.mov (zi 0))] [3,4,5] [3,4,5]
 (.seq (zr [zp 7 5 3,
 zk 8 7 1,
 zh 9 8,
 zg 10 (.bin .gtr t9 (zi 0))] [3,4,5,10] [3,4,5]
 (.cond t10
 (zr [zg 6 (.mov (zi 15))] [6] []
 .ret)
 .skip))
 (.seq (zr [zp 11 5 4,
 zk 12 11 1,
 zh 13 12,
 zg 14 (.bin .eql t13 (zi 0)),
 zm 15 14,
 zf 16 15 (.off t5 4),
 zf 17 15 (.ld t16 1 false),
 zf 18 15 (.len t17),
 zf 19 15 (.bin .gtr t18 (zi 8)),
 zg 20 (.pick t15 zT t19),
 zm 21 20,
 zf 22 21 (.off t5 5),
 zf 23 21 (.ld t22 1 false),
 zf 24 21 (.len t23),
 zf 25 21 (.bin .gtr t24 (zi 0)),
 zg 26 (.pick t21 zT t25),
 zm 27 26,
 zf 28 27 (.ld t3 22 true),
 zf 29 27 (.ld t4 7 true),
 zf 30 27 (.ld t5 6 true),
 zf 31 27 (.off t4 0),
 zf 32 27 (.ld t31 1 false),
 zf 33 27 (.call 203 [t28,t29,t30,t32] false),
 zf 34 27 (.un .not t33),
 zg 35 (.pick t27 zT t34),
 zm 36 35,
 zf 37 36 (.ld t3 22 true),
 zf 38 36 (.ld t4 7 true),
 zf 39 36 (.ld t5 6 true),
 zf 40 36 (.call 69 [t37,t38,t39] false),
 zf 41 36 (.fldv t40 4 1 false),
 zg 42 (.pick t36 zT t41)] [42] []
 (.cond t42
 (zr [zg 6 (.mov (zi 16))] [6] []
 .ret)
 .skip))
 (zr [zg 6 (.mov (zi 0))] [6] []
 .ret)))),
 [.tmp 6],false⟩
def ir94:IFn:=
⟨(zr [zg 3 (.bx t0 22 true),
 zg 4 (.bx t1 7 true),
 zg 5 (.bx t2 6 true),
 zg 6 (.mov (zi 0))] [3,4,5] [3,4,5]
 (zr [zl 8 3 22,
 zl 9 4 7,
 zp 10 4 0,
 zk 11 10 1,
 zc 12 77 [t8,t9,t11],
 zg 7 (.al [zo,zo,zo,.p (.bool false)] true),
 zn (.st t7 t12 4)] [3,5,7] [3,5,7]
 (zr [zp 13 7 3,
 zn (.st t13 zT 1)] [3,5,7] [3,5,7]
 (.seq (zr [zp 14 5 3,
 zk 15 14 1,
 zh 16 15,
 zg 17 (.bin .eql t16 (zi 0)),
 zm 18 17,
 zf 19 18 (.off t3 0),
 zf 20 18 (.off t19 20),
 zf 21 18 (.ld t20 1 false),
 zf 22 18 (.ld t7 4 true),
 zf 23 18 (.off t5 3),
 zf 24 18 (.ld t23 1 false),
 zf 25 18 (.call 202 [t21,t22,t24] false),
 zf 26 18 (.un .not t25),
 zg 27 (.pick t18 zT t26)] [5,27] [5]
 (.cond t27
 (zr [zg 6 (.mov (zi 15))] [6] []
 .ret)
 .skip))
 (.seq (zr [zp 28 5 4,
 zk 29 28 1,
 zh 30 29,
 zg 31 (.bin .gtr t30 (zi 0)),
 zm 32 31,
 zf 33 32 (.off t5 5),
 zf 34 32 (.ld t33 1 false),
 zf 35 32 (.len t34),
 zf 36 32 (.bin .gtr t35 (zi 0)),
 zg 37 (.pick t32 zT t36)] [37] []
 (.cond t37
 (zr [zg 6 (.mov (zi 16))] [6] []
 .ret)
 .skip))
 (zr [zg 6 (.mov (zi 0))] [6] []
 .ret)))))),
 [.tmp 6],false⟩
def ir100:IFn:=
⟨(zr [zg 4 (.bx t1 7 true),
 zg 5 (.bx t2 6 true),
 zg 6 (.al [zo,zo,zo,.p (.bool false),.p (.bool false),zo,zo,zo,zo,zo] true)] [0,4,5,6] [4,5,6]
 (zr [zg 7 (.al [zo,zo,zo,.p (.bool false),.p (.bool false),zo,zo,zo,zo,zo] true)] [0,4,5,6,7] [4,5,6,7]
 (.seq (zr [zm 10 0,
 zl 11 4 7,
 zc 12 89 [t10,t11],
 zj 13 12] [0,4,5,6,7,13] [4,5,6,7]
 (.cond t13
 (zr [zl 14 7 10,
 zn (.st t6 t14 10)] [6] [6]
 .ret)
 .skip))
 (zr [zm 15 0,
 zc 16 84 [t15],
 zg 8 (.al [zo,zo,zo,zo,zo,zo,zo,zo,zo,zo,zo,zo,zo,zo,zo,zo,zo,zo,.p (.bool false),.nils,.nils,.nils] true),
 zn (.st t8 t16 22)] [0,4,5,6,7,8] [4,5,6,7,8]
 (zr [zp 17 8 20,
 zk 18 17 1,
 zp 19 5 3,
 zk 20 19 1,
 zp 21 8 0,
 zp 22 21 6,
 zk 23 22 1,
 zc 24 209 [t18,t20,t23],
 zp 25 7 0,
 zn (.st t25 t24 1)] [0,4,5,6,7,8] [4,5,6,7,8]
 (.seq (zr [zp 26 5 0,
 zk 27 26 1] [0,4,5,6,7,8,27] [4,5,6,7,8]
 (.block 0 (zr [zg 29 (.bin .eql t27 (zi 1)),
 zm 28 29] [0,4,5,6,7,8,27,28] [4,5,6,7,8]
 (.cond t28
 (.reg false [zp 30 8 0,
 zl 31 30 19,
 zp 32 8 21,
 zk 33 32 1,
 zp 34 5 4,
 zk 35 34 1,
 zp 36 5 5,
 zk 37 36 1,
 zg 38 (.bld [.nils,.nils] [(0,1,t35),(1,1,t37)]),
 zc 39 210 [t31,t33,t38],
 zp 40 7 1,
 zn (.st t40 t39 1)] [0,4,5,6,7,8] [4,5,6,7,8])
 (zr [zg 42 (.bin .eql t27 (zi 2)),
 zm 41 42] [0,4,5,6,7,8,41] [4,5,6,7,8]
 (.cond t41
 (.reg false [zp 43 8 0,
 zl 44 43 19,
 zp 45 8 21,
 zk 46 45 1,
 zp 47 5 4,
 zk 48 47 1,
 zc 49 211 [t44,t46,t48],
 zp 50 7 1,
 zn (.st t50 t49 1)] [0,4,5,6,7,8] [4,5,6,7,8])
 .skip))))))
 (.seq (.reg true [zm 51 0,
 zg 52 (.ldl 4 t4 7 true),
 zc 53 212 [t51,t52],
 zp 54 7 0,
 zg 55 (.ldl 7 t54 1 false),
 zg 56 (.bin .sub t53 t55),
 zp 57 7 1,
 zg 58 (.ldl 7 t57 1 false),
 zg 59 (.bin .sub t56 t58),
 zp 60 7 2,
 zn (.stl 7 t60 t59 1)] [0,4,5,6,7,8] [4,5,6,7,8])
 (zr [zm 61 0,
 zl 62 5 6,
 zc 63 213 [t61,t62],
 zp 64 7 3,
 zn (.st t64 t63 1)] [0,4,5,6,7,8] [4,5,6,7,8]
 (zr [zp 65 5 3,
 zk 66 65 1,
 zh 67 66,
 zg 68 (.bin .gtr t67 (zi 0)),
 zm 69 68,
 zt 70 69 (.off t7 0),
 zt 71 69 (.ld t70 1 false),
 zt 72 69 (.off t8 0),
 zt 73 69 (.off t72 8),
 zt 74 69 (.ld t73 1 false),
 zt 75 69 (.bin .gtr t71 t74),
 zg 76 (.pick t69 t75 zF),
 zm 9 76] [0,4,5,6,7,9] [4,5,6,7]
 (.seq (zr [zp 77 5 0,
 zk 78 77 1,
 zg 79 (.bin .neq t78 (zi 1))] [0,4,5,6,7,9,79] [4,5,6,7]
 (.cond t79
 (zr [zm 80 9,
 zm 81 80,
 zf 82 81 (.off t7 2),
 zf 83 81 (.ld t82 1 false),
 zf 84 81 (.bin .lss t83 (zi 0)),
 zg 85 (.pick t81 zT t84),
 zp 86 7 4,
 zn (.st t86 t85 1)] [6,7] [6,7]
 (zr [zl 87 7 10,
 zn (.st t6 t87 10)] [6] [6]
 .ret))
 .skip))
 (.seq (.reg true [zm 88 0,
 zc 89 215 [t88],
 zp 90 4 0,
 zg 91 (.ldl 4 t90 1 false),
 zp 92 5 2,
 zg 93 (.ldl 5 t92 1 false),
 zc 94 216 [t89,t91,t93],
 zp 95 7 2,
 zg 96 (.ldl 7 t95 1 false),
 zp 97 7 3,
 zg 98 (.ldl 7 t97 1 false),
 zc 99 214 [t94,t96,t98],
 zp 100 7 5,
 zn (.stl 7 t100 t99 5)] [6,7,9] [6,7])
 (zr [zm 101 9,
 zm 102 101,
 zf 103 102 (.off t7 5),
 zf 104 102 (.off t103 0),
 zf 105 102 (.ld t104 1 false),
 zf 106 102 (.bin .eql t105 (zi 3)),
 zg 107 (.pick t102 zT t106),
 zp 108 7 4,
 zn (.st t108 t107 1)] [6,7] [6,7]
 (zr [zl 109 7 10,
 zn (.st t6 t109 10)] [6] [6]
 .ret))))))))))))),
 [.cell 6 10 true],false⟩
def ir106:IFn:=
⟨(zr [zg 4 (.mov zF)] [0,1] []
 (.seq (zr [zm 5 1,
 zg 6 (.bin .lss t5 (zi 1)),
 zm 7 6,
 zf 8 7 (.mov t1),
 zf 9 7 (.mov t0),
 zf 10 7 (.len t9),
 zf 11 7 (.bin .gtr t8 t10),
 zg 12 (.pick t7 zT t11)] [0,1,12] []
 (.cond t12
 (zr [zg 4 (.mov zF)] [4] []
 .ret)
 .skip))
 (.seq (zr [zm 13 1,
 zm 14 0,
 zh 15 14,
 zg 16 (.bin .eql t13 t15)] [0,1,16] []
 (.cond t16
 (zr [zg 4 (.mov zT)] [4] []
 .ret)
 .skip))
 (.seq (zr [zm 17 0,
 zm 18 1,
 zg 19 (.ixs t17 t18 7),
 zp 20 19 0,
 zk 21 20 1,
 zg 22 (.bin .eql t21 (zi 2))] [0,1,22] []
 (.cond t22
 (zr [zm 23 0,
 zm 24 1,
 zg 25 (.bin .sub t24 (zi 1)),
 zg 26 (.ixs t23 t25 7),
 zl 27 26 7,
 zc 28 17 [t27],
 zj 29 28,
 zm 4 29] [4] []
 .ret)
 .skip))
 (zr [zm 30 0,
 zm 31 1,
 zg 32 (.ixs t30 t31 7),
 zp 33 32 0,
 zk 34 33 1,
 zg 35 (.bin .eql t34 (zi 3)),
 zm 36 35,
 zt 37 36 (.mov t0),
 zt 38 36 (.mov t1),
 zt 39 36 (.ixs t37 t38 7),
 zt 40 36 (.off t39 6),
 zt 41 36 (.ld t40 1 false),
 zt 42 36 (.bin .lss t41 (zi 10000)),
 zg 43 (.pick t36 t42 zF),
 zm 4 43] [4] []
 .ret))))),
 [.tmp 4],false⟩
def ir107:IFn:=
⟨(zr [zg 4 (.mov zF)] [0,1] []
 (zr [zm 5 1,
 zg 6 (.bin .geq t5 (zi 1)),
 zm 7 6,
 zt 8 7 (.mov t1),
 zt 9 7 (.mov t0),
 zt 10 7 (.len t9),
 zt 11 7 (.bin .lss t8 t10),
 zg 12 (.pick t7 t11 zF),
 zm 13 12,
 zt 14 13 (.mov t0),
 zt 15 13 (.mov t1),
 zt 16 13 (.ixs t14 t15 7),
 zt 17 13 (.off t16 0),
 zt 18 13 (.ld t17 1 false),
 zt 19 13 (.bin .eql t18 (zi 3)),
 zg 20 (.pick t13 t19 zF),
 zm 21 20,
 zt 22 21 (.mov t0),
 zt 23 21 (.mov t1),
 zt 24 21 (.ixs t22 t23 7),
 zt 25 21 (.off t24 6),
 zt 26 21 (.ld t25 1 false),
 zt 27 21 (.bin .leq t26 (zi (-10000))),
 zg 28 (.pick t21 t27 zF),
 zm 4 28] [4] []
 .ret)),
 [.tmp 4],false⟩
end Go.EnvOf
